/- Pure functions, and that calls answer as they say. Written by gen.py. -/
import Derived.Test.YtiapdjdhaclmnaaG3
namespace Go.Proofs.Ytiapdjdhaclmnaa
open Go Aw
set_option linter.unusedVariables false
set_option linter.unusedSimpArgs false
set_option maxRecDepth 20000
set_option maxHeartbeats 2000000
variable {ι : Type} {ρ : ι → Type}
noncomputable def z74 (a0 : (List Str)) (a1 : Str) (g1 : Nat → Option Int) (s1 : Nat) : Option Int :=
 bif (decide (((s1 : Nat) : Int) < (((a0).length : Nat) : Int))) then (
  Option.bind ((a0)[s1]?) fun x4 =>
  bif (a1 == x4) then (
   some ((s1 : Nat) : Int)
  ) else (
   g1 (s1 + 1)
  )
 ) else (
  some (-1)
 )
theorem zne (g1 : OF ρ → Nat → Option Int) (h_g1 : ∀ y0, CM (fun G => g1 G y0)) (a0 : (List Str)) (a1 : Str) (s1 : Nat) : CM (fun G : OF ρ => z74 a0 a1 (g1 G) s1) := by
 simp only [z74]
 repeat (first | exact z0c | exact h_g1 _ | refine z14 ?_ ?_ | refine z15 ?_ (fun _ => ?_))
noncomputable def zhw (a0 : (List Str)) (a1 : Str) (s1 : Nat) : Option Int :=
 z38 (ι := Nat) (ρ := fun _ => Int) (fun g i => z74 a0 a1 (fun s1 => g s1) i) s1
theorem zhv (a0 : (List Str)) (a1 : Str) (s1 : Nat) : zhw a0 a1 s1 = z74 a0 a1 (zhw a0 a1) s1 :=
 z1d (ι := Nat) (ρ := fun _ => Int) (Φ := fun g i => z74 a0 a1 (fun s1 => g s1) i) (fun i => zne (ι := Nat) (ρ := fun _ => Int) (fun g => (fun s1 => g s1)) (fun _ => z1c) a0 a1 i) s1
noncomputable def zr2 (a0 : (List Str)) (a1 : Str) : Option Int :=
 zhw a0 a1 0
theorem Z0u (a0 : (List Str)) (a1 : Str) (r : Int) (h : zr2 a0 a1 = some r) : z0g Try.prog 97 [(PV.sl none 9 1 (List.map z0f a0)), (z0f a1)] (I64 r) := by
 unfold zr2 at h
 refine z0w Try.func97 rfl Try.ntmps97 Try.results97 rfl (z10 ?_)
 change BW _ _ _ ⟨[(0, (PV.sl none 9 1 (List.map z0f a0))), (1, (z0f a1))], [], _⟩ _
 refine bR ?_
 refine sAx (z00 ?_)
 refine cBx ?_
 refine z0o ?_
 refine bR ?_
 refine sMx ?_
 refine sS rfl rfl rfl (z17 Try.underlying31 rfl rfl) ?_
 refine sMx (z00 ?_)
 refine cBx ?_
 refine z0x ?_
 refine cBx ?_
 unfold zhw at h
 refine z26 (σ := Nat) (fun i => [(0, (PV.sl none 9 1 (List.map z0f a0))), (1, (z0f a1)), (7, (I64 ((((a0).length : Nat) : Int)))), (8, (I64 (((i : Nat) : Int))))]) (fun i => []) 0 h ?_ ?_ ?_
 ·intro i; exact ⟨lbE rfl, ⟨(z01 (z0q (fun _ => rfl) _)), ⟨(z01 rfl), ⟨(z01 rfl), ⟨(z01 rfl), trivial⟩⟩⟩⟩, trivial⟩
 ·exact ⟨.nil, (sC rfl (sC rfl (sC rfl (sC rfl z09))))⟩
 ·rintro g1_f s1 h; replace h : z74 a0 a1 (fun y0 => g1_f y0) s1 = some r := h; unfold z74 at h
  change BW _ _ _ ⟨[(0, (PV.sl none 9 1 (List.map z0f a0))), (1, (z0f a1)), (7, (I64 ((((a0).length : Nat) : Int)))), (8, (I64 (((s1 : Nat) : Int))))], [], _⟩ _
  refine bR ?_
  refine sS rfl rfl rfl ((z06 rfl rfl rfl rfl).cast (y := (BO ((decide (((s1 : Nat) : Int) < (((a0).length : Nat) : Int)))))) rfl rfl) (z00 ?_)
  refine cBx ?_
  refine z0o ?_
  refine z2z (t := 0) rfl fun hb3 => ?_
  try rw [List.length_map] at hb3
  refine z05 rfl ?_ ?_
  ·intro hc2; replace h := z02 hc2 h
   have hc2_ := of_decide_eq_true hc2
   refine z0l ?_
   refine cBx ?_
   refine z0o ?_
   refine z0x ?_
   refine cBx ?_
   refine bR ?_
   refine sMx ?_
   refine sAx (z00 ?_)
   refine cBx ?_
   refine bR ?_
   refine sMx ?_
   refine sMx ?_
   refine sMx ?_
   obtain ⟨x4, hx4, h⟩ := obind h
   refine sS rfl rfl rfl (z1i (i := s1) Try.underlying31 inf_9 rfl rfl rfl hx4 rfl) ?_
   refine sS rfl rfl rfl (z13 (y := (z0f x4)) Try.underlying9 rfl rfl rfl rfl) ?_
   refine sS rfl rfl rfl ((z40 (a := a1) (b := x4) rfl rfl rfl rfl).cast (y := (BO ((a1 == x4)))) rfl rfl) (z00 ?_)
   refine cBx ?_
   refine z05 rfl ?_ ?_
   ·intro hc5; replace h := z02 hc5 h
    refine bR ?_
    refine sMx ?_
    refine sAx (z00 ?_)
    refine cBx ?_
    refine z0a ?_
    change ∃ xs, _ = some xs ∧ EndOk _ _ _ _
    obtain rfl := Option.some.inj h
    exact ⟨_, rfl, z0d (y := (I64 (((s1 : Nat) : Int)))) (Wk.refl _) rfl ⟨rfl, rfl⟩⟩
   ·intro hc5; replace h := z03 hc5 h
    refine z0l ?_
    refine cBx ?_
    refine z0s ?_
    refine sS rfl rfl rfl (z1y (k := s1) (c := 1) rfl rfl rfl (by omega)) ?_
    refine sMx (z00 ?_)
    exact ⟨rfl, (s1 + 1), h, ⟨.nil, (sC rfl (sC rfl (sC rfl (sC rfl z09))))⟩⟩
  ·intro hc2; replace h := z03 hc2 h
   refine z22 ?_
   refine cBx ?_
   refine bR ?_
   refine sAx (z00 ?_)
   refine cBx ?_
   refine z0a ?_
   change ∃ xs, _ = some xs ∧ EndOk _ _ _ _
   obtain rfl := Option.some.inj h
   exact ⟨_, rfl, z0d (y := (I64 ((-1)))) (Wk.refl _) rfl ⟨rfl, rfl⟩⟩
noncomputable def zr4 (a0 : (List Str)) (a1 : Str) : Option Bool :=
 Option.bind (zr2 a0 a1) fun x1 =>
 some (decide (x1 ≥ 0))
theorem Z45 (a0 : (List Str)) (a1 : Str) (r : Bool) (h : zr4 a0 a1 = some r) : z0g Try.prog 96 [(PV.sl none 9 1 (List.map z0f a0)), (z0f a1)] (BO r) := by
 unfold zr4 at h
 refine z0w Try.func96 rfl Try.ntmps96 Try.results96 rfl (z10 ?_)
 change BW _ _ _ ⟨[(0, (PV.sl none 9 1 (List.map z0f a0))), (1, (z0f a1))], [], _⟩ _
 refine bR ?_
 refine sAx (z00 ?_)
 refine cBx ?_
 refine bR ?_
 refine sMx ?_
 refine sMx ?_
 obtain ⟨x1, hx1, h⟩ := obind h
 refine sS rfl rfl rfl (z0b rfl Z1v rfl (.cons (Wk.refl _) (.cons (Wk.refl _) .nil)) ⟨(z0q (fun _ => rfl) a0), ⟨rfl, trivial⟩⟩ (Z0u a0 a1 x1 hx1) rfl) ?_
 refine sS rfl rfl rfl ((z06 rfl rfl rfl rfl).cast (y := (BO ((decide (x1 ≥ 0))))) rfl rfl) ?_
 refine sAx (z00 ?_)
 refine cBx ?_
 refine z0a ?_
 change ∃ xs, _ = some xs ∧ EndOk _ _ _ _
 obtain rfl := Option.some.inj h
 exact ⟨_, rfl, z0d (y := (BO ((decide (x1 ≥ 0))))) (Wk.refl _) rfl ⟨rfl, rfl⟩⟩
noncomputable def zqy (a0 : Str) (a1 : Typ) : Option Bool :=
 Option.bind (zr4 a1.names a0) fun x1 =>
 some (!x1)
theorem Z3u (a0 : Str) (a1 : Typ) (r : Bool) (h : zqy a0 a1 = some r) : z0g Try.prog 95 [(z0f a0), (PV.pt 34 (z07 a1) 0)] (BO r) := by
 unfold zqy at h
 refine z0w Try.func95 rfl Try.ntmps95 Try.results95 rfl (z10 ?_)
 change BW _ _ _ ⟨[(0, (z0f a0)), (1, (PV.pt 34 (z07 a1) 0))], [], _⟩ _
 refine bR ?_
 refine sAx (z00 ?_)
 refine cBx ?_
 refine bR ?_
 refine sS rfl rfl rfl (z1a z1f (i := 4) rfl rfl rfl) ?_
 refine sS rfl rfl rfl (z13 (y := (PV.sl none 9 1 (List.map z0f a1.names))) Try.underlying31 rfl rfl rfl rfl) ?_
 refine sMx ?_
 obtain ⟨x1, hx1, h⟩ := obind h
 refine sS rfl rfl rfl (z0b rfl Z4p rfl (.cons (Wk.refl _) (.cons (Wk.refl _) .nil)) ⟨(z0q (fun _ => rfl) a1.names), ⟨rfl, trivial⟩⟩ (Z45 a1.names a0 x1 hx1) rfl) ?_
 refine sS rfl rfl rfl (z2a rfl rfl) ?_
 refine sAx (z00 ?_)
 refine cBx ?_
 refine z0a ?_
 change ∃ xs, _ = some xs ∧ EndOk _ _ _ _
 obtain rfl := Option.some.inj h
 exact ⟨_, rfl, z0d (y := (BO ((!x1)))) (Wk.refl _) rfl ⟨rfl, rfl⟩⟩
noncomputable def z76 (a0 : (List Str)) (a1c0 : Typ) (g1 : Nat → Option Int) (s1 : Nat) : Option Int :=
 bif (decide (((s1 : Nat) : Int) < (((a0).length : Nat) : Int))) then (
  Option.bind ((a0)[s1]?) fun x4 =>
  Option.bind (zqy x4 a1c0) fun x5 =>
  bif x5 then (
   some ((s1 : Nat) : Int)
  ) else (
   g1 (s1 + 1)
  )
 ) else (
  some (-1)
 )
theorem znh (g1 : OF ρ → Nat → Option Int) (h_g1 : ∀ y0, CM (fun G => g1 G y0)) (a0 : (List Str)) (a1c0 : Typ) (s1 : Nat) : CM (fun G : OF ρ => z76 a0 a1c0 (g1 G) s1) := by
 simp only [z76]
 repeat (first | exact z0c | exact h_g1 _ | refine z14 ?_ ?_ | refine z15 ?_ (fun _ => ?_))
noncomputable def zhz (a0 : (List Str)) (a1c0 : Typ) (s1 : Nat) : Option Int :=
 z38 (ι := Nat) (ρ := fun _ => Int) (fun g i => z76 a0 a1c0 (fun s1 => g s1) i) s1
theorem zhy (a0 : (List Str)) (a1c0 : Typ) (s1 : Nat) : zhz a0 a1c0 s1 = z76 a0 a1c0 (zhz a0 a1c0) s1 :=
 z1d (ι := Nat) (ρ := fun _ => Int) (Φ := fun g i => z76 a0 a1c0 (fun s1 => g s1) i) (fun i => znh (ι := Nat) (ρ := fun _ => Int) (fun g => (fun s1 => g s1)) (fun _ => z1c) a0 a1c0 i) s1
noncomputable def zu9 (a0 : (List Str)) (a1c0 : Typ) : Option Int :=
 zhz a0 a1c0 0
theorem Z47 (a0 : (List Str)) (a1c0 : Typ) (r : Int) (h : zu9 a0 a1c0 = some r) : z0g Try.prog 116 [(PV.sl none 9 1 (List.map z0f a0)), (PV.fn (.func 95) [] [(PV.pt 34 (z07 a1c0) 0)])] (I64 r) := by
 unfold zu9 at h
 refine z0w Try.func116 rfl Try.ntmps116 Try.results116 rfl (z10 ?_)
 change BW _ _ _ ⟨[(0, (PV.sl none 9 1 (List.map z0f a0))), (1, (PV.fn (.func 95) [] [(PV.pt 34 (z07 a1c0) 0)]))], [], _⟩ _
 refine bR ?_
 refine sAx (z00 ?_)
 refine cBx ?_
 refine z0o ?_
 refine bR ?_
 refine sMx ?_
 refine sS rfl rfl rfl (z17 Try.underlying31 rfl rfl) ?_
 refine sMx (z00 ?_)
 refine cBx ?_
 refine z0x ?_
 refine cBx ?_
 unfold zhz at h
 refine z26 (σ := Nat) (fun i => [(0, (PV.sl none 9 1 (List.map z0f a0))), (1, (PV.fn (.func 95) [] [(PV.pt 34 (z07 a1c0) 0)])), (7, (I64 ((((a0).length : Nat) : Int)))), (8, (I64 (((i : Nat) : Int))))]) (fun i => []) 0 h ?_ ?_ ?_
 ·intro i; exact ⟨lbE rfl, ⟨(z01 (z0q (fun _ => rfl) _)), ⟨(z01 (z4t (z4s (z0m a1c0) rfl))), ⟨(z01 rfl), ⟨(z01 rfl), trivial⟩⟩⟩⟩, trivial⟩
 ·exact ⟨.nil, (sC rfl (sC rfl (sC rfl (sC rfl z09))))⟩
 ·rintro g1_f s1 h; replace h : z76 a0 a1c0 (fun y0 => g1_f y0) s1 = some r := h; unfold z76 at h
  change BW _ _ _ ⟨[(0, (PV.sl none 9 1 (List.map z0f a0))), (1, (PV.fn (.func 95) [] [(PV.pt 34 (z07 a1c0) 0)])), (7, (I64 ((((a0).length : Nat) : Int)))), (8, (I64 (((s1 : Nat) : Int))))], [], _⟩ _
  refine bR ?_
  refine sS rfl rfl rfl ((z06 rfl rfl rfl rfl).cast (y := (BO ((decide (((s1 : Nat) : Int) < (((a0).length : Nat) : Int)))))) rfl rfl) (z00 ?_)
  refine cBx ?_
  refine z0o ?_
  refine z2z (t := 0) rfl fun hb3 => ?_
  try rw [List.length_map] at hb3
  refine z05 rfl ?_ ?_
  ·intro hc2; replace h := z02 hc2 h
   have hc2_ := of_decide_eq_true hc2
   refine z0l ?_
   refine cBx ?_
   refine z0o ?_
   refine z0x ?_
   refine cBx ?_
   refine bR ?_
   refine sMx ?_
   refine sAx (z00 ?_)
   refine cBx ?_
   refine bR ?_
   refine sMx ?_
   refine sMx ?_
   refine sMx ?_
   obtain ⟨x4, hx4, h⟩ := obind h
   refine sS rfl rfl rfl (z1i (i := s1) Try.underlying31 inf_9 rfl rfl rfl hx4 rfl) ?_
   refine sS rfl rfl rfl (z13 (y := (z0f x4)) Try.underlying9 rfl rfl rfl rfl) ?_
   obtain ⟨x5, hx5, h⟩ := obind h
   refine sS rfl rfl rfl (z6k rfl rfl Z4q rfl (.cons (Wk.refl _) (.cons (Wk.refl _) .nil)) ⟨rfl, ⟨(z0m a1c0), trivial⟩⟩ (Z3u x4 a1c0 x5 hx5) rfl) (z00 ?_)
   refine cBx ?_
   refine z05 rfl ?_ ?_
   ·intro hc6; replace h := z02 hc6 h
    refine bR ?_
    refine sMx ?_
    refine sAx (z00 ?_)
    refine cBx ?_
    refine z0a ?_
    change ∃ xs, _ = some xs ∧ EndOk _ _ _ _
    obtain rfl := Option.some.inj h
    exact ⟨_, rfl, z0d (y := (I64 (((s1 : Nat) : Int)))) (Wk.refl _) rfl ⟨rfl, rfl⟩⟩
   ·intro hc6; replace h := z03 hc6 h
    refine z0l ?_
    refine cBx ?_
    refine z0s ?_
    refine sS rfl rfl rfl (z1y (k := s1) (c := 1) rfl rfl rfl (by omega)) ?_
    refine sMx (z00 ?_)
    exact ⟨rfl, (s1 + 1), h, ⟨.nil, (sC rfl (sC rfl (sC rfl (sC rfl z09))))⟩⟩
  ·intro hc2; replace h := z03 hc2 h
   refine z22 ?_
   refine cBx ?_
   refine bR ?_
   refine sAx (z00 ?_)
   refine cBx ?_
   refine z0a ?_
   change ∃ xs, _ = some xs ∧ EndOk _ _ _ _
   obtain rfl := Option.some.inj h
   exact ⟨_, rfl, z0d (y := (I64 ((-1)))) (Wk.refl _) rfl ⟨rfl, rfl⟩⟩
noncomputable def zr6 (a0 : (List Str)) (a1c0 : Typ) : Option Bool :=
 Option.bind (zu9 a0 a1c0) fun x1 =>
 some (decide (x1 ≥ 0))
theorem Z48 (a0 : (List Str)) (a1c0 : Typ) (r : Bool) (h : zr6 a0 a1c0 = some r) : z0g Try.prog 94 [(PV.sl none 9 1 (List.map z0f a0)), (PV.fn (.func 95) [] [(PV.pt 34 (z07 a1c0) 0)])] (BO r) := by
 unfold zr6 at h
 refine z0w Try.func94 rfl Try.ntmps94 Try.results94 rfl (z10 ?_)
 change BW _ _ _ ⟨[(0, (PV.sl none 9 1 (List.map z0f a0))), (1, (PV.fn (.func 95) [] [(PV.pt 34 (z07 a1c0) 0)]))], [], _⟩ _
 refine bR ?_
 refine sAx (z00 ?_)
 refine cBx ?_
 refine bR ?_
 refine sMx ?_
 refine sMx ?_
 obtain ⟨x1, hx1, h⟩ := obind h
 refine sS rfl rfl rfl (z0b rfl Z2f rfl (.cons (Wk.refl _) (.cons (Wk.refl _) .nil)) ⟨(z0q (fun _ => rfl) a0), ⟨(z4t (z4s (z0m a1c0) rfl)), trivial⟩⟩ (Z47 a0 a1c0 x1 hx1) rfl) ?_
 refine sS rfl rfl rfl ((z06 rfl rfl rfl rfl).cast (y := (BO ((decide (x1 ≥ 0))))) rfl rfl) ?_
 refine sAx (z00 ?_)
 refine cBx ?_
 refine z0a ?_
 change ∃ xs, _ = some xs ∧ EndOk _ _ _ _
 obtain rfl := Option.some.inj h
 exact ⟨_, rfl, z0d (y := (BO ((decide (x1 ≥ 0))))) (Wk.refl _) rfl ⟨rfl, rfl⟩⟩
end Go.Proofs.Ytiapdjdhaclmnaa
