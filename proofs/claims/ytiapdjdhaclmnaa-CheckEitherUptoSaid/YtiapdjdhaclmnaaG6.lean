/- Pure functions, and that calls answer as they say. Written by gen.py. -/
import Derived.Test.YtiapdjdhaclmnaaG5
namespace Go.Proofs.Ytiapdjdhaclmnaa
open Go Aw
set_option linter.unusedVariables false
set_option linter.unusedSimpArgs false
set_option maxRecDepth 20000
set_option maxHeartbeats 2000000
variable {ι : Type} {ρ : ι → Type}
noncomputable def znv (a0 : Typ) : Option (List Typ) :=
 bif (a0.kind == 7) then (
  some a0.parts
 ) else (
  some ([a0] : (List Typ))
 )
theorem Z0r (a0 : Typ) (r : (List Typ)) (h : znv a0 = some r) : z0g Try.prog 73 [(z07 a0)] (PV.sl none 34 18 (List.map z19 r)) := by
 unfold znv at h
 refine z0w Try.func73 rfl Try.ntmps73 Try.results73 rfl (z10 ?_)
 change BW _ _ _ ⟨[(0, (z07 a0))], [], _⟩ _
 refine bR ?_
 refine sS rfl rfl rfl (z1x rfl rfl rfl) ?_
 refine sAx (z00 ?_)
 refine cBx ?_
 refine z0o ?_
 refine bR ?_
 refine sS rfl rfl rfl (z0e z1f (i := 0) rfl rfl rfl) ?_
 refine sS rfl rfl rfl ((z0n Try.underlying3 rfl rfl rfl rfl rfl)) ?_
 refine sS rfl rfl rfl ((z06 rfl rfl rfl rfl).cast (y := (BO ((a0.kind == 7)))) rfl rfl) (z00 ?_)
 refine cBx ?_
 refine z05 rfl ?_ ?_
 ·intro hc1; replace h := z02 hc1 h
  refine bR ?_
  refine sS rfl rfl rfl (z0e z1f (i := 3) rfl rfl rfl) ?_
  refine sS rfl rfl rfl ((z0n Try.underlying30 rfl rfl rfl rfl rfl)) ?_
  refine sAx (z00 ?_)
  refine cBx ?_
  refine z0a ?_
  change ∃ xs, _ = some xs ∧ EndOk _ _ _ _
  obtain rfl := Option.some.inj h
  exact ⟨_, rfl, z0d (y := (PV.sl none 34 18 (List.map z19 a0.parts))) (Wk.refl _) (z0q z2h a0.parts) ⟨rfl, rfl⟩⟩
 ·intro hc1; replace h := z03 hc1 h
  refine z0l ?_
  refine cBx ?_
  refine bR ?_
  refine sS rfl rfl rfl ((z12 z0t Try.underlying34 rfl rfl rfl rfl rfl rfl)) ?_
  refine sS rfl rfl rfl ((z1t (xs := [(PV.agg [(I64 a0.kind), (I64 a0.of), (I64 ((a0.only).kind)), (BO ((a0.only).bool)), (I64 ((a0.only).int)), (PV.v (.float .f64 (a0.only).float)), (z0f (a0.only).text), (PV.sl none 5 1 (List.map ofB (a0.only).bytes)), (PV.v (.int .u64 (a0.only).ref)), (PV.sl none 29 11 (List.map z1k (a0.only).list)), (PV.sl none 101 12 (List.map z18 (a0.only).fields)), (z0f (a0.only).cls), (I64 ((a0.only).ver)), (PV.sl none 34 18 (List.map z19 a0.parts)), (PV.sl none 9 1 (List.map z0f a0.names)), (PV.sl none 4 1 (List.map z28 a0.lacks)), (BO a0.opn), (z0f a0.cls)])]) Try.underlying30 z0t rfl rfl rfl rfl rfl rfl ⟨lbE rfl, lbE rfl⟩ rfl).cast (y := (PV.sl (some 1) 34 18 (List.map z19 ([a0] : (List Typ))))) (by simp only [List.map_cons, List.map_nil, z2m]; try rfl) rfl) ?_
  refine sAx (z00 ?_)
  refine cBx ?_
  refine z0a ?_
  change ∃ xs, _ = some xs ∧ EndOk _ _ _ _
  obtain rfl := Option.some.inj h
  exact ⟨_, rfl, z0d (y := (PV.sl none 34 18 (List.map z19 ([a0] : (List Typ))))) Wk.tok (z0q z2h ([a0] : (List Typ))) ⟨rfl, rfl⟩⟩
noncomputable def z75 (a0 : (List (List Typ))) (g2 : (List Typ) → Nat → Option (List Typ)) (s8 : (List Typ)) (s9 : Nat) : Option (List Typ) :=
 bif (decide (((s9 : Nat) : Int) < (((a0).length : Nat) : Int))) then (
  Option.bind ((a0)[s9]?) fun x12 =>
  Option.bind (zad 264 s8 x12) fun x13 =>
  g2 x13 (s9 + 1)
 ) else (
  some s8
 )
theorem znf (g2 : OF ρ → (List Typ) → Nat → Option (List Typ)) (h_g2 : ∀ y0 y1, CM (fun G => g2 G y0 y1)) (a0 : (List (List Typ))) (s8 : (List Typ)) (s9 : Nat) : CM (fun G : OF ρ => z75 a0 (g2 G) s8 s9) := by
 simp only [z75]
 repeat (first | exact z0c | exact h_g2 _ _ | refine z14 ?_ ?_ | refine z15 ?_ (fun _ => ?_))
noncomputable def zhx (a0 : (List (List Typ))) (s8 : (List Typ)) (s9 : Nat) : Option (List Typ) :=
 z38 (ι := ((List Typ) × Nat)) (ρ := fun _ => (List Typ)) (fun g i => z75 a0 (fun s8 s9 => g (s8, s9)) i.1 i.2) (s8, s9)
theorem zd7 (a0 : (List (List Typ))) (s8 : (List Typ)) (s9 : Nat) : zhx a0 s8 s9 = z75 a0 (zhx a0) s8 s9 :=
 z1d (ι := ((List Typ) × Nat)) (ρ := fun _ => (List Typ)) (Φ := fun g i => z75 a0 (fun s8 s9 => g (s8, s9)) i.1 i.2) (fun i => znf (ι := ((List Typ) × Nat)) (ρ := fun _ => (List Typ)) (fun g => (fun s8 s9 => g (s8, s9))) (fun _ _ => z1c) a0 i.1 i.2) (s8, s9)
noncomputable def z66 (a0 : (List (List Typ))) (g1 : Int → Nat → Option (List Typ)) (s1 : Int) (s2 : Nat) : Option (List Typ) :=
 bif (decide (((s2 : Nat) : Int) < (((a0).length : Nat) : Int))) then (
  Option.bind ((a0)[s2]?) fun x5 =>
  bif (decide ((IntKind.i64.wrap (s1 + (((x5).length : Nat) : Int))) < 0)) then (
   none
  ) else (
   g1 (IntKind.i64.wrap (s1 + (((x5).length : Nat) : Int))) (s2 + 1)
  )
 ) else (
  Option.bind (zse s1) fun x7 =>
  zhx a0 ([] : (List Typ)) 0
 )
theorem zng (g1 : OF ρ → Int → Nat → Option (List Typ)) (h_g1 : ∀ y0 y1, CM (fun G => g1 G y0 y1)) (a0 : (List (List Typ))) (s1 : Int) (s2 : Nat) : CM (fun G : OF ρ => z66 a0 (g1 G) s1 s2) := by
 simp only [z66]
 repeat (first | exact z0c | exact h_g1 _ _ | apply q08_l2_cm | refine z14 ?_ ?_ | refine z15 ?_ (fun _ => ?_) | intro _ | assumption)
noncomputable def zlm (a0 : (List (List Typ))) (s1 : Int) (s2 : Nat) : Option (List Typ) :=
 z38 (ι := (Int × Nat)) (ρ := fun _ => (List Typ)) (fun g i => z66 a0 (fun s1 s2 => g (s1, s2)) i.1 i.2) (s1, s2)
theorem zd8 (a0 : (List (List Typ))) (s1 : Int) (s2 : Nat) : zlm a0 s1 s2 = z66 a0 (zlm a0) s1 s2 :=
 z1d (ι := (Int × Nat)) (ρ := fun _ => (List Typ)) (Φ := fun g i => z66 a0 (fun s1 s2 => g (s1, s2)) i.1 i.2) (fun i => zng (ι := (Int × Nat)) (ρ := fun _ => (List Typ)) (fun g => (fun s1 s2 => g (s1, s2))) (fun _ _ => z1c) a0 i.1 i.2) (s1, s2)
noncomputable def zr5 (a0 : (List (List Typ))) : Option (List Typ) :=
 zlm a0 0 0
theorem Z46 (a0 : (List (List Typ))) (r : (List Typ)) (h : zr5 a0 = some r) : z0g Try.prog 72 [(PV.sl none 30 1 (List.map (ztm 34 18 z19) a0))] (PV.sl none 34 18 (List.map z19 r)) := by
 unfold zr5 at h
 refine z0w Try.func72 rfl Try.ntmps72 Try.results72 rfl (z10 ?_)
 change BW _ _ _ ⟨[(0, (PV.sl none 30 1 (List.map (ztm 34 18 z19) a0)))], [], _⟩ _
 refine bR ?_
 refine sAx (z00 ?_)
 refine cBx ?_
 refine bR ?_
 refine sAx (z00 ?_)
 refine cBx ?_
 refine z0o ?_
 refine bR ?_
 refine sMx ?_
 refine sS rfl rfl rfl (z17 Try.underlying151 rfl rfl) ?_
 refine sMx (z00 ?_)
 refine cBx ?_
 refine z0x ?_
 refine cBx ?_
 unfold zlm at h
 refine z26 (σ := (Int × Nat)) (fun i => [(0, (PV.sl none 30 1 (List.map (ztm 34 18 z19) a0))), (3, (I64 i.1)), (9, (PV.sl none 30 1 (List.map (ztm 34 18 z19) a0))), (10, (I64 ((((a0).length : Nat) : Int)))), (11, (I64 (((i.2 : Nat) : Int))))]) (fun i => []) (0, 0) h ?_ ?_ ?_
 ·intro i; exact ⟨lbE rfl, ⟨(z01 (z0q (fun a => z0q z2h a) _)), ⟨(z01 rfl), ⟨(z01 (z0q (fun a => z0q z2h a) _)), ⟨(z01 rfl), ⟨(z01 rfl), trivial⟩⟩⟩⟩⟩, trivial⟩
 ·exact ⟨.nil, (sC rfl (sC rfl (sC rfl (sC rfl (sC rfl z09)))))⟩
 ·rintro g1_f ⟨s1, s2⟩ h; replace h : z66 a0 (fun y0 y1 => g1_f (y0, y1)) s1 s2 = some r := h; unfold z66 at h
  change BW _ _ _ ⟨[(0, (PV.sl none 30 1 (List.map (ztm 34 18 z19) a0))), (3, (I64 s1)), (9, (PV.sl none 30 1 (List.map (ztm 34 18 z19) a0))), (10, (I64 ((((a0).length : Nat) : Int)))), (11, (I64 (((s2 : Nat) : Int))))], [], _⟩ _
  refine bR ?_
  refine sS rfl rfl rfl ((z06 rfl rfl rfl rfl).cast (y := (BO ((decide (((s2 : Nat) : Int) < (((a0).length : Nat) : Int)))))) rfl rfl) (z00 ?_)
  refine cBx ?_
  refine z0o ?_
  refine z2z (t := 9) rfl fun hb4 => ?_
  try rw [List.length_map] at hb4
  refine z05 rfl ?_ ?_
  ·intro hc3; replace h := z02 hc3 h
   have hc3_ := of_decide_eq_true hc3
   refine z0l ?_
   refine cBx ?_
   refine z0o ?_
   refine z0x ?_
   refine cBx ?_
   refine bR ?_
   obtain ⟨x5, hx5, h⟩ := obind h
   refine sS rfl rfl rfl (z1i (i := s2) Try.underlying151 zij rfl rfl rfl hx5 rfl) ?_
   refine sS rfl rfl rfl (z13 (y := (PV.sl none 34 18 (List.map z19 x5))) Try.underlying30 rfl rfl rfl rfl) ?_
   refine sAx (z00 ?_)
   refine cBx ?_
   refine bR ?_
   refine sMx ?_
   refine sMx ?_
   refine sS rfl rfl rfl (z17 Try.underlying30 rfl rfl) ?_
   refine sS rfl rfl rfl (z3a rfl rfl rfl) ?_
   refine sAx (z00 ?_)
   refine cBx ?_
   refine bR ?_
   refine sMx ?_
   refine sS rfl rfl rfl ((z06 rfl rfl rfl rfl).cast (y := (BO ((decide ((IntKind.i64.wrap (s1 + (((x5).length : Nat) : Int))) < 0))))) rfl rfl) (z00 ?_)
   refine cBx ?_
   refine z05 rfl ?_ ?_
   ·intro hc6; replace h := z02 hc6 h
    refine z0s ?_
    refine sS rfl rfl rfl ((z1u Try.underlying9 rfl rfl rfl).wk (Wk.iface (Wk.refl _))) ?_
    cases h
   ·intro hc6; replace h := z03 hc6 h
    refine z0l ?_
    refine cBx ?_
    refine z0s ?_
    refine sS rfl rfl rfl (z1y (k := s2) (c := 1) rfl rfl rfl (by omega)) ?_
    refine sMx (z00 ?_)
    exact ⟨rfl, ((IntKind.i64.wrap (s1 + (((x5).length : Nat) : Int))), (s2 + 1)), h, ⟨.nil, (sC rfl (sC rfl (sC rfl (sC rfl (sC rfl z09)))))⟩⟩
  ·intro hc3; replace h := z03 hc3 h
   refine z22 ?_
   refine cBx ?_
   refine bR ?_
   refine sMx ?_
   obtain ⟨x7, hx7, h⟩ := obind h
   refine sS rfl rfl rfl ((zui (k := x7) (Inf.cells z0t).symm rfl Z2n (by exact congrArg (fun i => some (I64 i)) (zbb hx7).1) (zsd (zbb hx7).2.1 (zbb hx7).2.2)).cast (y := (PV.sl (some 0) 34 18 (List.map z19 ([] : (List Typ))))) (H'' := [.arr 34 (([] : (List Typ))).length]) rfl rfl) ?_
   refine sAx (z00 ?_)
   refine cBx ?_
   refine z0o ?_
   refine bR ?_
   refine sMx ?_
   refine sS rfl rfl rfl (z17 Try.underlying151 rfl rfl) ?_
   refine sMx (z00 ?_)
   refine cBx ?_
   refine z0x ?_
   refine cBx ?_
   unfold zhx at h
   refine z26 (σ := ((List Typ) × Nat)) (fun i => [(6, (PV.sl (some 0) 34 18 (List.map z19 i.1))), (25, (PV.sl none 30 1 (List.map (ztm 34 18 z19) a0))), (26, (I64 ((((a0).length : Nat) : Int)))), (27, (I64 (((i.2 : Nat) : Int))))]) (fun i => [.arr 34 (i.1).length]) (([] : (List Typ)), 0) h ?_ ?_ ?_
   ·intro i; exact ⟨lbE rfl, ⟨(z5j rfl (z3j z2h _)), ⟨(z01 (z0q (fun a => z0q z2h a) _)), ⟨(z01 rfl), ⟨(z01 rfl), trivial⟩⟩⟩⟩, trivial⟩
   ·exact ⟨(.cons .same .nil), (sC rfl (sC rfl (sC rfl (sC rfl z09))))⟩
   ·rintro g2_f ⟨s8, s9⟩ h; replace h : z75 a0 (fun y0 y1 => g2_f (y0, y1)) s8 s9 = some r := h; unfold z75 at h
    change BW _ _ _ ⟨[(6, (PV.sl (some 0) 34 18 (List.map z19 s8))), (25, (PV.sl none 30 1 (List.map (ztm 34 18 z19) a0))), (26, (I64 ((((a0).length : Nat) : Int)))), (27, (I64 (((s9 : Nat) : Int))))], [.arr 34 (s8).length], _⟩ _
    refine bR ?_
    refine sS rfl rfl rfl ((z06 rfl rfl rfl rfl).cast (y := (BO ((decide (((s9 : Nat) : Int) < (((a0).length : Nat) : Int)))))) rfl rfl) (z00 ?_)
    refine cBx ?_
    refine z0o ?_
    refine z2z (t := 25) rfl fun hb11 => ?_
    try rw [List.length_map] at hb11
    refine z05 rfl ?_ ?_
    ·intro hc10; replace h := z02 hc10 h
     have hc10_ := of_decide_eq_true hc10
     refine z0l ?_
     refine cBx ?_
     refine z0o ?_
     refine z0x ?_
     refine cBx ?_
     refine bR ?_
     obtain ⟨x12, hx12, h⟩ := obind h
     refine sS rfl rfl rfl (z1i (i := s9) Try.underlying151 zij rfl rfl rfl hx12 rfl) ?_
     refine sS rfl rfl rfl (z13 (y := (PV.sl none 34 18 (List.map z19 x12))) Try.underlying30 rfl rfl rfl rfl) ?_
     refine sAx (z00 ?_)
     refine cBx ?_
     refine z0s ?_
     refine sMx ?_
     refine sMx ?_
     obtain ⟨x13, hx13, h⟩ := obind h
     refine sS rfl rfl rfl (z34 Try.underlying30 z0t rfl Try.underlying30 rfl rfl rfl rfl zkc zdw hx13 rfl) ?_
     refine sAx (z00 ?_)
     refine cBx ?_
     refine z0s ?_
     refine sS rfl rfl rfl (z1y (k := s9) (c := 1) rfl rfl rfl (by omega)) ?_
     refine sMx (z00 ?_)
     exact ⟨rfl, (x13, (s9 + 1)), h, ⟨(.cons .same .nil), (sC rfl (sC rfl (sC rfl (sC rfl z09))))⟩⟩
    ·intro hc10; replace h := z03 hc10 h
     refine z22 ?_
     refine cBx ?_
     refine bR ?_
     refine sMx ?_
     refine sAx (z00 ?_)
     refine cBx ?_
     refine z0a ?_
     change ∃ xs, _ = some xs ∧ EndOk _ _ _ _
     obtain rfl := Option.some.inj h
     exact ⟨_, rfl, z0d (y := (PV.sl none 34 18 (List.map z19 s8))) Wk.tok (z0q z2h s8) ⟨rfl, rfl⟩⟩
noncomputable def znl (a0 : Str) : Option Bool :=
 Option.bind (zjo (V.dict ([(a0, V.nil)] : (List (Str × V))))) fun x1 =>
 some (x1.2 == 0)
theorem Z0f (a0 : Str) (r : Bool) (h : znl a0 = some r) : z0g Try.prog 91 [(z0f a0)] (BO r) := by
 unfold znl at h
 refine z0w Try.func91 rfl Try.ntmps91 Try.results91 rfl (z10 ?_)
 change BW _ _ _ ⟨[(0, (z0f a0))], [], _⟩ _
 refine bR ?_
 refine sAx (z00 ?_)
 refine cBx ?_
 refine bR ?_
 refine sMx ?_
 refine sS rfl rfl rfl (z1w (cs := [(z0f a0), (PV.v .nilIface)]) z6x z2d rfl rfl rfl rfl) ?_
 refine sS rfl rfl rfl (((z1t (xs := [(PV.agg [(z0f a0), (PV.v .nilIface)])]) Try.underlying45 z2d rfl rfl rfl (by simp only [List.all_cons, List.all_nil, ziz, z5m, Bool.and_true, Bool.true_and]; try rfl) (by simp only [List.all_cons, List.all_nil, ziy, z8i, z30, z2j]; try rfl) rfl ⟨lbE rfl, lbE rfl⟩ (by simp only [zgo, z8n, List.flatMap_cons, List.flatMap_nil, z30, z2j]; try rfl)).wk (Wk.sl (.cons (y := (z1h (a0, V.nil))) (.cons (Wk.refl _) (.cons (Wk.eq mk_nil.symm) .nil)) .nil))).cast (y := (PV.sl (some 0) 43 2 (List.map z1h ([(a0, V.nil)] : (List (Str × V)))))) rfl rfl) ?_
 refine sS rfl rfl rfl ((z1u Try.underlying45 rfl rfl rfl).wk ((Wk.iface Wk.tok).trans (Wk.eq (zk0 _).symm))) ?_
 obtain ⟨x1, hx1, h⟩ := obind h
 refine sS rfl rfl rfl (z0b rfl zzh rfl (.cons (Wk.refl _) .nil) ⟨(ids_V (V.dict ([(a0, V.nil)] : (List (Str × V))))), trivial⟩ (zye (V.dict ([(a0, V.nil)] : (List (Str × V)))) x1 hx1) (z04 rfl (z04 rfl z0r))) ?_
 refine sMx ?_
 refine sS rfl rfl rfl (z0j rfl rfl rfl) ?_
 refine sS rfl rfl rfl (z0j rfl rfl rfl) ?_
 refine sAx ?_
 refine sAx (z00 ?_)
 refine cBx ?_
 refine bR ?_
 refine sMx ?_
 refine sS rfl rfl rfl ((z06 rfl rfl rfl rfl).cast (y := (BO ((x1.2 == 0)))) rfl rfl) ?_
 refine sAx (z00 ?_)
 refine cBx ?_
 refine z0a ?_
 change ∃ xs, _ = some xs ∧ EndOk _ _ _ _
 obtain rfl := Option.some.inj h
 exact ⟨_, rfl, z0d (y := (BO ((x1.2 == 0)))) (Wk.refl _) rfl ⟨rfl, rfl⟩⟩
noncomputable def z62 (r_q0p : S_check_room → Typ → Int → Option (Bool × S_check_room)) (a1 : (List Typ)) (a2 : Int) (g1 : Nat → Int → Option (Bool × S_check_room)) (s1 : Nat) (s2 : Int) : Option (Bool × S_check_room) :=
 bif (decide (((s1 : Nat) : Int) < (((a1).length : Nat) : Int))) then (
  Option.bind ((a1)[s1]?) fun x5 =>
  Option.bind (r_q0p (S_check_room.mk s2) x5 (IntKind.i64.wrap (a2 + 1))) fun x6 =>
  bif (!x6.1) then (
   some (false, (x6.2))
  ) else (
   g1 (s1 + 1) ((x6.2).f_left)
  )
 ) else (
  some (true, (S_check_room.mk s2))
 )
theorem zb0 (r_q0p : OF ρ → S_check_room → Typ → Int → Option (Bool × S_check_room)) (h_r_q0p : ∀ y0 y1 y2, CM (fun G => r_q0p G y0 y1 y2)) (g1 : OF ρ → Nat → Int → Option (Bool × S_check_room)) (h_g1 : ∀ y0 y1, CM (fun G => g1 G y0 y1)) (a1 : (List Typ)) (a2 : Int) (s1 : Nat) (s2 : Int) : CM (fun G : OF ρ => z62 (r_q0p G) a1 a2 (g1 G) s1 s2) := by
 simp only [z62]
 repeat (first | exact z0c | exact h_r_q0p _ _ _ | exact h_g1 _ _ | refine z14 ?_ ?_ | refine z15 ?_ (fun _ => ?_))
noncomputable def zf0 (r_q0p : S_check_room → Typ → Int → Option (Bool × S_check_room)) (a1 : (List Typ)) (a2 : Int) (s1 : Nat) (s2 : Int) : Option (Bool × S_check_room) :=
 z38 (ι := (Nat × Int)) (ρ := fun _ => (Bool × S_check_room)) (fun g i => z62 r_q0p a1 a2 (fun s1 s2 => g (s1, s2)) i.1 i.2) (s1, s2)
theorem zhn (r_q0p : S_check_room → Typ → Int → Option (Bool × S_check_room)) (a1 : (List Typ)) (a2 : Int) (s1 : Nat) (s2 : Int) : zf0 r_q0p a1 a2 s1 s2 = z62 r_q0p a1 a2 (zf0 r_q0p a1 a2) s1 s2 :=
 z1d (ι := (Nat × Int)) (ρ := fun _ => (Bool × S_check_room)) (Φ := fun g i => z62 r_q0p a1 a2 (fun s1 s2 => g (s1, s2)) i.1 i.2) (fun i => zb0 (ι := (Nat × Int)) (ρ := fun _ => (Bool × S_check_room)) (fun _ => r_q0p) (fun _ _ _ => z0c) (fun g => (fun s1 s2 => g (s1, s2))) (fun _ _ => z1c) a1 a2 i.1 i.2) (s1, s2)
theorem zq6 (r_q0p : OF ρ → S_check_room → Typ → Int → Option (Bool × S_check_room)) (h_r_q0p : ∀ y0 y1 y2, CM (fun G => r_q0p G y0 y1 y2)) (a1 : (List Typ)) (a2 : Int) (s1 : Nat) (s2 : Int) : CM (fun G : OF ρ => zf0 (r_q0p G) a1 a2 s1 s2) :=
 z3o (κ := (Nat × Int)) (τ := fun _ => (Bool × S_check_room)) (Φ := fun G g i => z62 (r_q0p G) a1 a2 (fun s1 s2 => g (s1, s2)) i.1 i.2) (fun g i => zb0 r_q0p h_r_q0p (fun _ => (fun s1 s2 => g (s1, s2))) (fun _ _ => z0c) a1 a2 i.1 i.2) (fun G i => zb0 (ι := (Nat × Int)) (ρ := fun _ => (Bool × S_check_room)) (fun _ => r_q0p G) (fun _ _ _ => z0c) (fun g => (fun s1 s2 => g (s1, s2))) (fun _ _ => z1c) a1 a2 i.1 i.2) (s1, s2)
noncomputable def zky (r_q0o : S_check_room → (List Typ) → Int → Option (Bool × S_check_room)) (r_q0p : S_check_room → Typ → Int → Option (Bool × S_check_room)) (a0 : S_check_room) (a1 : (List Typ)) (a2 : Int) : Option (Bool × S_check_room) :=
 zf0 r_q0p a1 a2 0 a0.f_left
theorem zwi (r_q0o : OF ρ → S_check_room → (List Typ) → Int → Option (Bool × S_check_room)) (h_r_q0o : ∀ y0 y1 y2, CM (fun G => r_q0o G y0 y1 y2)) (r_q0p : OF ρ → S_check_room → Typ → Int → Option (Bool × S_check_room)) (h_r_q0p : ∀ y0 y1 y2, CM (fun G => r_q0p G y0 y1 y2)) (a0 : S_check_room) (a1 : (List Typ)) (a2 : Int) : CM (fun G : OF ρ => zky (r_q0o G) (r_q0p G) a0 a1 a2) := by
 simp only [zky]
 repeat (first | exact z0c | exact h_r_q0o _ _ _ | exact h_r_q0p _ _ _ | apply zq6 | refine z14 ?_ ?_ | refine z15 ?_ (fun _ => ?_) | intro _ | assumption)
noncomputable def z9k (g1 : Nat → Option (Bool × S_check_room)) (a0 : S_check_room) (s20 : Nat) (s24 : Bool) : Option (Bool × S_check_room) :=
 bif s24 then (
  some (false, (S_check_room.mk (IntKind.i64.wrap (a0.f_left - 1))))
 ) else (
  g1 (s20 + 1)
 )
theorem zq2 (g1 : OF ρ → Nat → Option (Bool × S_check_room)) (h_g1 : ∀ y0, CM (fun G => g1 G y0)) (a0 : S_check_room) (s20 : Nat) (s24 : Bool) : CM (fun G : OF ρ => z9k (g1 G) a0 s20 s24) := by
 simp only [z9k]
 repeat (first | exact z0c | exact h_g1 _ | refine z14 ?_ ?_ | refine z15 ?_ (fun _ => ?_))
noncomputable def z61 (r_q0o : S_check_room → (List Typ) → Int → Option (Bool × S_check_room)) (a0 : S_check_room) (a1 : Typ) (a2 : Int) (g1 : Nat → Option (Bool × S_check_room)) (s20 : Nat) : Option (Bool × S_check_room) :=
 bif (decide (((s20 : Nat) : Int) < (((a1.names).length : Nat) : Int))) then (
  Option.bind ((a1.names)[s20]?) fun x23 =>
  Option.bind (znl x23) fun x26 =>
  bif (!x26) then (
   z9k g1 a0 s20 true
  ) else (
   bif (decide (((s20 : Nat) : Int) > 0)) then (
    Option.bind (zc1 a1.names (IntKind.i64.wrap (((s20 : Nat) : Int) - 1))) fun x29 =>
    z9k g1 a0 s20 (Op.bytesLess x23 x29 || x23 == x29)
   ) else (
    z9k g1 a0 s20 false
   )
  )
 ) else (
  Option.bind (r_q0o (S_check_room.mk (IntKind.i64.wrap (a0.f_left - 1))) a1.parts a2) fun x30 =>
  some (x30.1, (x30.2))
 )
theorem zaz (r_q0o : OF ρ → S_check_room → (List Typ) → Int → Option (Bool × S_check_room)) (h_r_q0o : ∀ y0 y1 y2, CM (fun G => r_q0o G y0 y1 y2)) (g1 : OF ρ → Nat → Option (Bool × S_check_room)) (h_g1 : ∀ y0, CM (fun G => g1 G y0)) (a0 : S_check_room) (a1 : Typ) (a2 : Int) (s20 : Nat) : CM (fun G : OF ρ => z61 (r_q0o G) a0 a1 a2 (g1 G) s20) := by
 simp only [z61]
 repeat (first | exact z0c | exact h_r_q0o _ _ _ | exact h_g1 _ | apply zq2 | refine z14 ?_ ?_ | refine z15 ?_ (fun _ => ?_) | intro _ | assumption)
noncomputable def zez (r_q0o : S_check_room → (List Typ) → Int → Option (Bool × S_check_room)) (a0 : S_check_room) (a1 : Typ) (a2 : Int) (s20 : Nat) : Option (Bool × S_check_room) :=
 z38 (ι := Nat) (ρ := fun _ => (Bool × S_check_room)) (fun g i => z61 r_q0o a0 a1 a2 (fun s20 => g s20) i) s20
theorem zhm (r_q0o : S_check_room → (List Typ) → Int → Option (Bool × S_check_room)) (a0 : S_check_room) (a1 : Typ) (a2 : Int) (s20 : Nat) : zez r_q0o a0 a1 a2 s20 = z61 r_q0o a0 a1 a2 (zez r_q0o a0 a1 a2) s20 :=
 z1d (ι := Nat) (ρ := fun _ => (Bool × S_check_room)) (Φ := fun g i => z61 r_q0o a0 a1 a2 (fun s20 => g s20) i) (fun i => zaz (ι := Nat) (ρ := fun _ => (Bool × S_check_room)) (fun _ => r_q0o) (fun _ _ _ => z0c) (fun g => (fun s20 => g s20)) (fun _ => z1c) a0 a1 a2 i) s20
theorem zq1 (r_q0o : OF ρ → S_check_room → (List Typ) → Int → Option (Bool × S_check_room)) (h_r_q0o : ∀ y0 y1 y2, CM (fun G => r_q0o G y0 y1 y2)) (a0 : S_check_room) (a1 : Typ) (a2 : Int) (s20 : Nat) : CM (fun G : OF ρ => zez (r_q0o G) a0 a1 a2 s20) :=
 z3o (κ := Nat) (τ := fun _ => (Bool × S_check_room)) (Φ := fun G g i => z61 (r_q0o G) a0 a1 a2 (fun s20 => g s20) i) (fun g i => zaz r_q0o h_r_q0o (fun _ => (fun s20 => g s20)) (fun _ => z0c) a0 a1 a2 i) (fun G i => zaz (ι := Nat) (ρ := fun _ => (Bool × S_check_room)) (fun _ => r_q0o G) (fun _ _ _ => z0c) (fun g => (fun s20 => g s20)) (fun _ => z1c) a0 a1 a2 i) s20
noncomputable def z6i (r_q0o : S_check_room → (List Typ) → Int → Option (Bool × S_check_room)) (a0 : S_check_room) (a1 : Typ) (a2 : Int) (s18 : Bool) : Option (Bool × S_check_room) :=
 bif s18 then (
  some (false, (S_check_room.mk (IntKind.i64.wrap (a0.f_left - 1))))
 ) else (
  zez r_q0o a0 a1 a2 0
 )
theorem zq3 (r_q0o : OF ρ → S_check_room → (List Typ) → Int → Option (Bool × S_check_room)) (h_r_q0o : ∀ y0 y1 y2, CM (fun G => r_q0o G y0 y1 y2)) (a0 : S_check_room) (a1 : Typ) (a2 : Int) (s18 : Bool) : CM (fun G : OF ρ => z6i (r_q0o G) a0 a1 a2 s18) := by
 simp only [z6i]
 repeat (first | exact z0c | exact h_r_q0o _ _ _ | apply zq1 | refine z14 ?_ ?_ | refine z15 ?_ (fun _ => ?_) | intro _ | assumption)
noncomputable def zbs (r_q0o : S_check_room → (List Typ) → Int → Option (Bool × S_check_room)) (a0 : S_check_room) (a1 : Typ) (a2 : Int) (s3 : Bool) : Option (Bool × S_check_room) :=
 bif s3 then (
  some (true, (S_check_room.mk (IntKind.i64.wrap (a0.f_left - 1))))
 ) else (
  bif (a1.kind == 3) then (
   bif (decide (a1.of ≥ 1)) then (
    some ((decide (a1.of ≤ 10)), (S_check_room.mk (IntKind.i64.wrap (a0.f_left - 1))))
   ) else (
    some (false, (S_check_room.mk (IntKind.i64.wrap (a0.f_left - 1))))
   )
  ) else (
   bif (a1.kind == 4) then (
    Option.bind (ze3 (a1.only)) fun x8 =>
    some ((x8.2 == 0), (S_check_room.mk (IntKind.i64.wrap (a0.f_left - 1))))
   ) else (
    bif (a1.kind == 8) then (
     Option.bind (znl a1.cls) fun x10 =>
     some (x10, (S_check_room.mk (IntKind.i64.wrap (a0.f_left - 1))))
    ) else (
     bif (a1.kind == 5) then (
      bif ((((a1.parts).length : Nat) : Int) == 1) then (
       Option.bind (r_q0o (S_check_room.mk (IntKind.i64.wrap (a0.f_left - 1))) a1.parts a2) fun x13 =>
       some (x13.1, (x13.2))
      ) else (
       some (false, (S_check_room.mk (IntKind.i64.wrap (a0.f_left - 1))))
      )
     ) else (
      bif (a1.kind == 7) then (
       bif (decide ((((a1.parts).length : Nat) : Int) > 1)) then (
        Option.bind (r_q0o (S_check_room.mk (IntKind.i64.wrap (a0.f_left - 1))) a1.parts a2) fun x16 =>
        some (x16.1, (x16.2))
       ) else (
        some (false, (S_check_room.mk (IntKind.i64.wrap (a0.f_left - 1))))
       )
      ) else (
       bif (a1.kind == 6) then (
        bif (decide ((((a1.names).length : Nat) : Int) > 4096)) then (
         z6i r_q0o a0 a1 a2 true
        ) else (
         bif ((((a1.parts).length : Nat) : Int) != (((a1.names).length : Nat) : Int)) then (
          z6i r_q0o a0 a1 a2 true
         ) else (
          z6i r_q0o a0 a1 a2 ((((a1.lacks).length : Nat) : Int) != (((a1.names).length : Nat) : Int))
         )
        )
       ) else (
        some (false, (S_check_room.mk (IntKind.i64.wrap (a0.f_left - 1))))
       )
      )
     )
    )
   )
  )
 )
theorem zq4 (r_q0o : OF ρ → S_check_room → (List Typ) → Int → Option (Bool × S_check_room)) (h_r_q0o : ∀ y0 y1 y2, CM (fun G => r_q0o G y0 y1 y2)) (a0 : S_check_room) (a1 : Typ) (a2 : Int) (s3 : Bool) : CM (fun G : OF ρ => zbs (r_q0o G) a0 a1 a2 s3) := by
 simp only [zbs]
 repeat (first | exact z0c | exact h_r_q0o _ _ _ | apply zq3 | refine z14 ?_ ?_ | refine z15 ?_ (fun _ => ?_) | intro _ | assumption)
noncomputable def z8s (r_q0o : S_check_room → (List Typ) → Int → Option (Bool × S_check_room)) (a0 : S_check_room) (a1 : Typ) (a2 : Int) (s1 : Bool) : Option (Bool × S_check_room) :=
 bif s1 then (
  some (false, (S_check_room.mk (IntKind.i64.wrap (a0.f_left - 1))))
 ) else (
  bif (a1.kind == 1) then (
   zbs r_q0o a0 a1 a2 (a1.kind == 1)
  ) else (
   zbs r_q0o a0 a1 a2 (a1.kind == 2)
  )
 )
theorem zq5 (r_q0o : OF ρ → S_check_room → (List Typ) → Int → Option (Bool × S_check_room)) (h_r_q0o : ∀ y0 y1 y2, CM (fun G => r_q0o G y0 y1 y2)) (a0 : S_check_room) (a1 : Typ) (a2 : Int) (s1 : Bool) : CM (fun G : OF ρ => z8s (r_q0o G) a0 a1 a2 s1) := by
 simp only [z8s]
 repeat (first | exact z0c | exact h_r_q0o _ _ _ | apply zq4 | refine z14 ?_ ?_ | refine z15 ?_ (fun _ => ?_) | intro _ | assumption)
noncomputable def zkx (r_q0o : S_check_room → (List Typ) → Int → Option (Bool × S_check_room)) (r_q0p : S_check_room → Typ → Int → Option (Bool × S_check_room)) (a0 : S_check_room) (a1 : Typ) (a2 : Int) : Option (Bool × S_check_room) :=
 bif (decide ((IntKind.i64.wrap (a0.f_left - 1)) < 0)) then (
  z8s r_q0o a0 a1 a2 true
 ) else (
  z8s r_q0o a0 a1 a2 (decide (a2 > 64))
 )
theorem zwh (r_q0o : OF ρ → S_check_room → (List Typ) → Int → Option (Bool × S_check_room)) (h_r_q0o : ∀ y0 y1 y2, CM (fun G => r_q0o G y0 y1 y2)) (r_q0p : OF ρ → S_check_room → Typ → Int → Option (Bool × S_check_room)) (h_r_q0p : ∀ y0 y1 y2, CM (fun G => r_q0p G y0 y1 y2)) (a0 : S_check_room) (a1 : Typ) (a2 : Int) : CM (fun G : OF ρ => zkx (r_q0o G) (r_q0p G) a0 a1 a2) := by
 simp only [zkx]
 repeat (first | exact z0c | exact h_r_q0o _ _ _ | exact h_r_q0p _ _ _ | apply zq5 | refine z14 ?_ ?_ | refine z15 ?_ (fun _ => ?_) | intro _ | assumption)
inductive C_q0o where
 | k_q0o (a0 : S_check_room) (a1 : (List Typ)) (a2 : Int)
 | k_q0p (a0 : S_check_room) (a1 : Typ) (a2 : Int)
def C_q0o.R : C_q0o → Type
 | .k_q0o _ _ _ => (Bool × S_check_room)
 | .k_q0p _ _ _ => (Bool × S_check_room)
noncomputable def C_q0o.F (g : ∀ i : C_q0o, Option i.R) : ∀ i : C_q0o, Option i.R
 | .k_q0o a0 a1 a2 => zky (fun a0 a1 a2 => g (.k_q0o a0 a1 a2)) (fun a0 a1 a2 => g (.k_q0p a0 a1 a2)) a0 a1 a2
 | .k_q0p a0 a1 a2 => zkx (fun a0 a1 a2 => g (.k_q0o a0 a1 a2)) (fun a0 a1 a2 => g (.k_q0p a0 a1 a2)) a0 a1 a2
noncomputable def znw (a0 : S_check_room) (a1 : (List Typ)) (a2 : Int) : Option (Bool × S_check_room) := z38 C_q0o.F (.k_q0o a0 a1 a2)
noncomputable def zjr (a0 : S_check_room) (a1 : Typ) (a2 : Int) : Option (Bool × S_check_room) := z38 C_q0o.F (.k_q0p a0 a1 a2)
abbrev Z6q := fun (g : ∀ i : C_q0o, Option i.R) a0 a1 a2 => g (.k_q0o a0 a1 a2)
theorem Z6m (a0 : _) (a1 : _) (a2 : _) : CM (ρ := C_q0o.R) (fun g => g (C_q0o.k_q0o a0 a1 a2)) := z1c
abbrev Z6p := fun (g : ∀ i : C_q0o, Option i.R) a0 a1 a2 => g (.k_q0p a0 a1 a2)
theorem Z6l (a0 : _) (a1 : _) (a2 : _) : CM (ρ := C_q0o.R) (fun g => g (C_q0o.k_q0p a0 a1 a2)) := z1c
theorem C_q0o.cm (i : C_q0o) : CM (fun g : (∀ i : C_q0o, Option i.R) => C_q0o.F g i) := by
 cases i with
 | k_q0o a0 a1 a2 => exact zwi Z6q Z6m Z6p Z6l a0 a1 a2
 | k_q0p a0 a1 a2 => exact zwh Z6q Z6m Z6p Z6l a0 a1 a2
theorem Z5n (a0 : S_check_room) (a1 : (List Typ)) (a2 : Int) : znw a0 a1 a2 = zky znw zjr a0 a1 a2 := z1d C_q0o.cm (.k_q0o a0 a1 a2)
theorem Z5m (a0 : S_check_room) (a1 : Typ) (a2 : Int) : zjr a0 a1 a2 = zkx znw zjr a0 a1 a2 := z1d C_q0o.cm (.k_q0p a0 a1 a2)
def C_q0o.Q : ∀ i : C_q0o, i.R → Prop
 | .k_q0o a0 a1 a2 => fun (r : (Bool × S_check_room)) => z4c Try.prog 92 [(PV.rf 0 0), (PV.sl none 34 18 (List.map z19 a1)), (I64 a2)] (.box 119 [(I64 a0.f_left)]) (BO r.1) (.box 119 [(I64 ((r.2).f_left))])
 | .k_q0p a0 a1 a2 => fun (r : (Bool × S_check_room)) => z4c Try.prog 59 [(PV.rf 0 0), (z07 a1), (I64 a2)] (.box 119 [(I64 a0.f_left)]) (BO r.1) (.box 119 [(I64 ((r.2).f_left))])
theorem zbx (r_q0o : S_check_room → (List Typ) → Int → Option (Bool × S_check_room)) (c_q0o : ∀ (a0 : S_check_room) (a1 : (List Typ)) (a2 : Int) r, r_q0o a0 a1 a2 = some r → z4c Try.prog 92 [(PV.rf 0 0), (PV.sl none 34 18 (List.map z19 a1)), (I64 a2)] (.box 119 [(I64 a0.f_left)]) (BO r.1) (.box 119 [(I64 ((r.2).f_left))])) (r_q0p : S_check_room → Typ → Int → Option (Bool × S_check_room)) (c_q0p : ∀ (a0 : S_check_room) (a1 : Typ) (a2 : Int) r, r_q0p a0 a1 a2 = some r → z4c Try.prog 59 [(PV.rf 0 0), (z07 a1), (I64 a2)] (.box 119 [(I64 a0.f_left)]) (BO r.1) (.box 119 [(I64 ((r.2).f_left))])) (a0 : S_check_room) (a1 : (List Typ)) (a2 : Int) (r : (Bool × S_check_room)) (h : zky r_q0o r_q0p a0 a1 a2 = some r) : z4c Try.prog 92 [(PV.rf 0 0), (PV.sl none 34 18 (List.map z19 a1)), (I64 a2)] (.box 119 [(I64 a0.f_left)]) (BO r.1) (.box 119 [(I64 ((r.2).f_left))]) := by
 unfold zky at h
 refine z0w Try.func92 rfl Try.ntmps92 Try.results92 rfl (z10 ?_)
 change BW _ _ _ ⟨[(0, (PV.rf 0 0)), (1, (PV.sl none 34 18 (List.map z19 a1))), (2, (I64 a2))], [.box 119 [(I64 a0.f_left)]], _⟩ _
 refine bR ?_
 refine sAx (z00 ?_)
 refine cBx ?_
 refine z0o ?_
 refine bR ?_
 refine sMx ?_
 refine sS rfl rfl rfl (z17 Try.underlying30 rfl rfl) ?_
 refine sMx (z00 ?_)
 refine cBx ?_
 refine z0x ?_
 refine cBx ?_
 unfold zf0 at h
 refine z26 (σ := (Nat × Int)) (fun i => [(0, (PV.rf 0 0)), (2, (I64 a2)), (9, (PV.sl none 34 18 (List.map z19 a1))), (10, (I64 ((((a1).length : Nat) : Int)))), (11, (I64 (((i.1 : Nat) : Int))))]) (fun i => [.box 119 [(I64 i.2)]]) (0, a0.f_left) h ?_ ?_ ?_
 ·intro i; exact ⟨lbE rfl, ⟨(il_rf rfl), ⟨(z01 rfl), ⟨(z01 (z0q z2h _)), ⟨(z01 rfl), ⟨(z01 rfl), trivial⟩⟩⟩⟩⟩, ⟨⟨(z01 rfl), trivial⟩, trivial⟩⟩
 ·exact ⟨(.cons .same .nil), (sC rfl (sC rfl (sC rfl (sC rfl (sC rfl z09)))))⟩
 ·rintro g1_f ⟨s1, s2⟩ h; replace h : z62 r_q0p a1 a2 (fun y0 y1 => g1_f (y0, y1)) s1 s2 = some r := h; unfold z62 at h
  change BW _ _ _ ⟨[(0, (PV.rf 0 0)), (2, (I64 a2)), (9, (PV.sl none 34 18 (List.map z19 a1))), (10, (I64 ((((a1).length : Nat) : Int)))), (11, (I64 (((s1 : Nat) : Int))))], [.box 119 [(I64 s2)]], _⟩ _
  refine bR ?_
  refine sS rfl rfl rfl ((z06 rfl rfl rfl rfl).cast (y := (BO ((decide (((s1 : Nat) : Int) < (((a1).length : Nat) : Int)))))) rfl rfl) (z00 ?_)
  refine cBx ?_
  refine z0o ?_
  refine z2z (t := 9) rfl fun hb4 => ?_
  try rw [List.length_map] at hb4
  refine z05 rfl ?_ ?_
  ·intro hc3; replace h := z02 hc3 h
   have hc3_ := of_decide_eq_true hc3
   refine z0l ?_
   refine cBx ?_
   refine z0o ?_
   refine z0x ?_
   refine cBx ?_
   refine bR ?_
   obtain ⟨x5, hx5, h⟩ := obind h
   refine sS rfl rfl rfl (z1i (i := s1) Try.underlying30 z0t rfl rfl rfl hx5 (z2m _)) ?_
   refine sS rfl rfl rfl (z1s z0t Try.underlying34 rfl rfl rfl rfl rfl) ?_
   refine sS rfl rfl rfl (z1j z0t rfl) ?_
   refine z11 rfl rfl (z0v z0t rfl rfl rfl rfl rfl rfl (lbE rfl) rfl) ?_
   refine z00 ?_
   refine cBx ?_
   refine bR ?_
   refine sMx ?_
   refine sS rfl rfl rfl ((z12 z0t Try.underlying34 rfl rfl rfl rfl rfl rfl)) ?_
   refine sMx ?_
   refine sS rfl rfl rfl (z3a rfl rfl rfl) ?_
   obtain ⟨x6, hx6, h⟩ := obind h
   refine sS rfl rfl rfl (z3k 0 rfl Z26 rfl (.cons (Wk.refl _) (.cons (Wk.refl _) (.cons (Wk.refl _) .nil))) (.box (.val (z0m x5) (.val rfl .nil))) rfl (z0u rfl rfl) (c_q0p (S_check_room.mk s2) x5 (IntKind.i64.wrap (a2 + 1)) x6 hx6) rfl (z0u rfl rfl)) ?_
   refine sS rfl rfl rfl (z2a rfl rfl) (z00 ?_)
   refine cBx ?_
   refine z05 rfl ?_ ?_
   ·intro hc7; replace h := z02 hc7 h
    refine bR ?_
    refine sAx (z00 ?_)
    refine cBx ?_
    refine z0a ?_
    change ∃ xs, _ = some xs ∧ EndOk _ _ _ _
    obtain rfl := Option.some.inj h
    exact ⟨_, rfl, z3n (y := (BO false)) (e := .box 119 [(I64 (((x6.2)).f_left))]) (Wk.refl _) rfl rfl (z0u rfl rfl) ⟨rfl, rfl⟩⟩
   ·intro hc7; replace h := z03 hc7 h
    refine z0l ?_
    refine cBx ?_
    refine z0s ?_
    refine sS rfl rfl rfl (z1y (k := s1) (c := 1) rfl rfl rfl (by omega)) ?_
    refine sMx (z00 ?_)
    exact ⟨rfl, ((s1 + 1), (x6.2).f_left), h, ⟨(.cons .same .nil), (sC rfl (sC rfl (sC rfl (sC rfl (sC rfl z09)))))⟩⟩
  ·intro hc3; replace h := z03 hc3 h
   refine z22 ?_
   refine cBx ?_
   refine bR ?_
   refine sAx (z00 ?_)
   refine cBx ?_
   refine z0a ?_
   change ∃ xs, _ = some xs ∧ EndOk _ _ _ _
   obtain rfl := Option.some.inj h
   exact ⟨_, rfl, z3n (y := (BO true)) (e := .box 119 [(I64 (((S_check_room.mk s2)).f_left))]) (Wk.refl _) rfl rfl (z0u rfl rfl) ⟨rfl, rfl⟩⟩
theorem zbw (r_q0o : S_check_room → (List Typ) → Int → Option (Bool × S_check_room)) (c_q0o : ∀ (a0 : S_check_room) (a1 : (List Typ)) (a2 : Int) r, r_q0o a0 a1 a2 = some r → z4c Try.prog 92 [(PV.rf 0 0), (PV.sl none 34 18 (List.map z19 a1)), (I64 a2)] (.box 119 [(I64 a0.f_left)]) (BO r.1) (.box 119 [(I64 ((r.2).f_left))])) (r_q0p : S_check_room → Typ → Int → Option (Bool × S_check_room)) (c_q0p : ∀ (a0 : S_check_room) (a1 : Typ) (a2 : Int) r, r_q0p a0 a1 a2 = some r → z4c Try.prog 59 [(PV.rf 0 0), (z07 a1), (I64 a2)] (.box 119 [(I64 a0.f_left)]) (BO r.1) (.box 119 [(I64 ((r.2).f_left))])) (a0 : S_check_room) (a1 : Typ) (a2 : Int) (r : (Bool × S_check_room)) (h : zkx r_q0o r_q0p a0 a1 a2 = some r) : z4c Try.prog 59 [(PV.rf 0 0), (z07 a1), (I64 a2)] (.box 119 [(I64 a0.f_left)]) (BO r.1) (.box 119 [(I64 ((r.2).f_left))]) := by
 unfold zkx at h
 refine z0w Try.func59 rfl Try.ntmps59 Try.results59 rfl (z10 ?_)
 change BW _ _ _ ⟨[(0, (PV.rf 0 0)), (1, (z07 a1)), (2, (I64 a2))], [.box 119 [(I64 a0.f_left)]], _⟩ _
 refine bR ?_
 refine sS rfl rfl rfl (z1x rfl rfl rfl) ?_
 refine sAx (z00 ?_)
 refine cBx ?_
 refine bR ?_
 refine sMx ?_
 refine sS rfl rfl rfl (z4j rfl rfl) ?_
 refine sS rfl rfl rfl (z0e zlg (i := 0) rfl rfl rfl) ?_
 refine sS rfl rfl rfl ((z0n Try.underlying3 rfl rfl rfl rfl rfl)) ?_
 refine sS rfl rfl rfl (zc8 rfl rfl rfl) ?_
 refine sS rfl rfl rfl (z4j rfl rfl) ?_
 refine sS rfl rfl rfl (z0e zlg (i := 0) rfl rfl rfl) ?_
 refine z11 rfl rfl (z0v zea rfl rfl rfl rfl rfl rfl (lbE rfl) rfl) ?_
 refine z00 ?_
 refine cBx ?_
 refine z0o ?_
 refine z1n (ι := Bool) (fun i => z8s r_q0o a0 a1 a2 i = some r) (fun i => [(0, (PV.rf 0 0)), (2, (I64 a2)), (4, (PV.rf 1 0)), (26, (BO i))]) (fun i => [.box 119 [(I64 ((IntKind.i64.wrap (a0.f_left - 1))))], .box 34 (z1r a1)]) ?_ ?_ ?_
 ·intro i; exact ⟨lbE rfl, ⟨(il_rf rfl), ⟨(z01 rfl), ⟨(il_rf rfl), ⟨(z01 rfl), trivial⟩⟩⟩⟩, ⟨⟨(z01 rfl), trivial⟩, ⟨wfC34, trivial⟩⟩⟩
 ·rintro s1 h; replace h : z8s r_q0o a0 a1 a2 s1 = some r := h; unfold z8s at h
  change BW _ _ _ ⟨[(0, (PV.rf 0 0)), (2, (I64 a2)), (4, (PV.rf 1 0)), (26, (BO s1))], [.box 119 [(I64 ((IntKind.i64.wrap (a0.f_left - 1))))], .box 34 (z1r a1)], _⟩ _
  refine z05 rfl ?_ ?_
  ·intro hc2; replace h := z02 hc2 h
   refine bR ?_
   refine sAx (z00 ?_)
   refine cBx ?_
   refine z0a ?_
   change ∃ xs, _ = some xs ∧ EndOk _ _ _ _
   obtain rfl := Option.some.inj h
   exact ⟨_, rfl, z3n (y := (BO false)) (e := .box 119 [(I64 (((S_check_room.mk (IntKind.i64.wrap (a0.f_left - 1)))).f_left))]) (Wk.refl _) rfl rfl (z0u rfl rfl) ⟨rfl, rfl⟩⟩
  ·intro hc2; replace h := z03 hc2 h
   refine z0l ?_
   refine cBx ?_
   refine z0o ?_
   refine bR ?_
   refine sS rfl rfl rfl (z0e z1f (i := 0) rfl rfl rfl) ?_
   refine sS rfl rfl rfl ((z0n Try.underlying3 rfl rfl rfl rfl rfl)) (z00 ?_)
   refine cBx ?_
   refine z0x ?_
   refine cBx ?_
   refine z1n (ι := Bool) (fun i => zbs r_q0o a0 a1 a2 i = some r) (fun i => [(0, (PV.rf 0 0)), (2, (I64 a2)), (4, (PV.rf 1 0)), (28, (I64 a1.kind)), (29, (BO i))]) (fun i => [.box 119 [(I64 ((IntKind.i64.wrap (a0.f_left - 1))))], .box 34 (z1r a1)]) ?_ ?_ ?_
   ·intro i; exact ⟨lbE rfl, ⟨(il_rf rfl), ⟨(z01 rfl), ⟨(il_rf rfl), ⟨(z01 rfl), ⟨(z01 rfl), trivial⟩⟩⟩⟩⟩, ⟨⟨(z01 rfl), trivial⟩, ⟨wfC34, trivial⟩⟩⟩
   ·rintro s3 h; replace h : zbs r_q0o a0 a1 a2 s3 = some r := h; unfold zbs at h
    change BW _ _ _ ⟨[(0, (PV.rf 0 0)), (2, (I64 a2)), (4, (PV.rf 1 0)), (28, (I64 a1.kind)), (29, (BO s3))], [.box 119 [(I64 ((IntKind.i64.wrap (a0.f_left - 1))))], .box 34 (z1r a1)], _⟩ _
    refine z05 rfl ?_ ?_
    ·intro hc4; replace h := z02 hc4 h
     refine bR ?_
     refine sAx (z00 ?_)
     refine cBx ?_
     refine z0a ?_
     change ∃ xs, _ = some xs ∧ EndOk _ _ _ _
     obtain rfl := Option.some.inj h
     exact ⟨_, rfl, z3n (y := (BO true)) (e := .box 119 [(I64 (((S_check_room.mk (IntKind.i64.wrap (a0.f_left - 1)))).f_left))]) (Wk.refl _) rfl rfl (z0u rfl rfl) ⟨rfl, rfl⟩⟩
    ·intro hc4; replace h := z03 hc4 h
     refine bR ?_
     refine sS rfl rfl rfl ((z06 rfl rfl rfl rfl).cast (y := (BO ((a1.kind == 3)))) rfl rfl) ?_
     refine sAx (z00 ?_)
     refine cBx ?_
     refine z05 rfl ?_ ?_
     ·intro hc5; replace h := z02 hc5 h
      refine bR ?_
      refine sS rfl rfl rfl (z0e z1f (i := 1) rfl rfl rfl) ?_
      refine sS rfl rfl rfl ((z0n Try.underlying3 rfl rfl rfl rfl rfl)) ?_
      refine sS rfl rfl rfl ((z06 rfl rfl rfl rfl).cast (y := (BO ((decide (a1.of ≥ 1))))) rfl rfl) ?_
      refine sMx ?_
      refine z16 (t := 37) rfl ?_ ?_
      ·intro hb6; replace h := z02 hb6 h
       refine z08 rfl rfl rfl rfl rfl rfl (z0e z1f (i := 1) rfl rfl rfl) ?_
       refine z08 rfl rfl rfl rfl rfl rfl ((z0n Try.underlying3 rfl rfl rfl rfl rfl)) ?_
       refine z08 rfl rfl rfl rfl rfl rfl ((z06 rfl rfl rfl rfl).cast (y := (BO ((decide (a1.of ≤ 10))))) rfl rfl) ?_
       refine sS rfl rfl rfl (z0p rfl rfl rfl) ?_
       refine sAx (z00 ?_)
       refine cBx ?_
       refine z0a ?_
       change ∃ xs, _ = some xs ∧ EndOk _ _ _ _
       obtain rfl := Option.some.inj h
       exact ⟨_, rfl, z3n (y := (BO ((decide (a1.of ≤ 10))))) (e := .box 119 [(I64 (((S_check_room.mk (IntKind.i64.wrap (a0.f_left - 1)))).f_left))]) (Wk.refl _) rfl rfl (z0u rfl rfl) ⟨rfl, rfl⟩⟩
      ·intro hb6; replace h := z03 hb6 h
       refine z0h rfl rfl rfl rfl rfl rfl ?_
       refine z0h rfl rfl rfl rfl rfl rfl ?_
       refine z0h rfl rfl rfl rfl rfl rfl ?_
       refine sS rfl rfl rfl (z0i rfl rfl rfl) ?_
       refine sAx (z00 ?_)
       refine cBx ?_
       refine z0a ?_
       change ∃ xs, _ = some xs ∧ EndOk _ _ _ _
       obtain rfl := Option.some.inj h
       exact ⟨_, rfl, z3n (y := (BO false)) (e := .box 119 [(I64 (((S_check_room.mk (IntKind.i64.wrap (a0.f_left - 1)))).f_left))]) (Wk.refl _) rfl rfl (z0u rfl rfl) ⟨rfl, rfl⟩⟩
     ·intro hc5; replace h := z03 hc5 h
      refine bR ?_
      refine sS rfl rfl rfl ((z06 rfl rfl rfl rfl).cast (y := (BO ((a1.kind == 4)))) rfl rfl) ?_
      refine sAx (z00 ?_)
      refine cBx ?_
      refine z05 rfl ?_ ?_
      ·intro hc7; replace h := z02 hc7 h
       refine bR ?_
       refine sS rfl rfl rfl (z0e z1f (i := 2) rfl rfl rfl) ?_
       refine sS rfl rfl rfl ((z12 z2g Try.underlying29 rfl rfl rfl rfl rfl rfl)) ?_
       obtain ⟨x8, hx8, h⟩ := obind h
       refine sS rfl rfl rfl (z0b rfl zvp rfl (.cons (Wk.refl _) .nil) ⟨(z20 (a1.only)), trivial⟩ (ztu (a1.only) x8 hx8) (z04 (ids_V x8.1) (z04 rfl z0r))) ?_
       refine sMx ?_
       refine sS rfl rfl rfl (z0j rfl rfl rfl) ?_
       refine sS rfl rfl rfl (z0j rfl rfl rfl) ?_
       refine sAx ?_
       refine sAx (z00 ?_)
       refine cBx ?_
       refine bR ?_
       refine sMx ?_
       refine sS rfl rfl rfl ((z06 rfl rfl rfl rfl).cast (y := (BO ((x8.2 == 0)))) rfl rfl) ?_
       refine sAx (z00 ?_)
       refine cBx ?_
       refine z0a ?_
       change ∃ xs, _ = some xs ∧ EndOk _ _ _ _
       obtain rfl := Option.some.inj h
       exact ⟨_, rfl, z3n (y := (BO ((x8.2 == 0)))) (e := .box 119 [(I64 (((S_check_room.mk (IntKind.i64.wrap (a0.f_left - 1)))).f_left))]) (Wk.refl _) rfl rfl (z0u rfl rfl) ⟨rfl, rfl⟩⟩
      ·intro hc7; replace h := z03 hc7 h
       refine bR ?_
       refine sS rfl rfl rfl ((z06 rfl rfl rfl rfl).cast (y := (BO ((a1.kind == 8)))) rfl rfl) ?_
       refine sAx (z00 ?_)
       refine cBx ?_
       refine z05 rfl ?_ ?_
       ·intro hc9; replace h := z02 hc9 h
        refine bR ?_
        refine sS rfl rfl rfl (z0e z1f (i := 7) rfl rfl rfl) ?_
        refine sS rfl rfl rfl ((z0n Try.underlying9 rfl rfl rfl rfl rfl)) ?_
        obtain ⟨x10, hx10, h⟩ := obind h
        refine sS rfl rfl rfl (z0b rfl Z1x rfl (.cons (Wk.refl _) .nil) ⟨rfl, trivial⟩ (Z0f a1.cls x10 hx10) rfl) ?_
        refine sAx (z00 ?_)
        refine cBx ?_
        refine z0a ?_
        change ∃ xs, _ = some xs ∧ EndOk _ _ _ _
        obtain rfl := Option.some.inj h
        exact ⟨_, rfl, z3n (y := (BO x10)) (e := .box 119 [(I64 (((S_check_room.mk (IntKind.i64.wrap (a0.f_left - 1)))).f_left))]) (Wk.refl _) rfl rfl (z0u rfl rfl) ⟨rfl, rfl⟩⟩
       ·intro hc9; replace h := z03 hc9 h
        refine bR ?_
        refine sS rfl rfl rfl ((z06 rfl rfl rfl rfl).cast (y := (BO ((a1.kind == 5)))) rfl rfl) ?_
        refine sAx (z00 ?_)
        refine cBx ?_
        refine z05 rfl ?_ ?_
        ·intro hc11; replace h := z02 hc11 h
         refine bR ?_
         refine sS rfl rfl rfl (z0e z1f (i := 3) rfl rfl rfl) ?_
         refine sS rfl rfl rfl ((z0n Try.underlying30 rfl rfl rfl rfl rfl)) ?_
         refine sS rfl rfl rfl (z17 Try.underlying30 rfl rfl) ?_
         refine sS rfl rfl rfl ((z06 rfl rfl rfl rfl).cast (y := (BO (((((a1.parts).length : Nat) : Int) == 1)))) rfl rfl) ?_
         refine sMx ?_
         refine z16 (t := 63) rfl ?_ ?_
         ·intro hb12; replace h := z02 hb12 h
          refine z08 rfl rfl rfl rfl rfl rfl (z0k rfl rfl) ?_
          refine z08 rfl rfl rfl rfl rfl rfl (z0e z1f (i := 3) rfl rfl rfl) ?_
          refine z08 rfl rfl rfl rfl rfl rfl ((z0n Try.underlying30 rfl rfl rfl rfl rfl)) ?_
          refine z08 rfl rfl rfl rfl rfl rfl (z0k rfl rfl) ?_
          obtain ⟨x13, hx13, h⟩ := obind h
          refine z08 rfl rfl rfl rfl rfl rfl (z3k 0 rfl zzd rfl (.cons (Wk.refl _) (.cons (Wk.refl _) (.cons (Wk.refl _) .nil))) (.box (.val (z0q z2h a1.parts) (.val rfl .nil))) rfl (z0u rfl rfl) (c_q0o (S_check_room.mk (IntKind.i64.wrap (a0.f_left - 1))) a1.parts a2 x13 hx13) rfl (z0u rfl rfl)) ?_
          refine sS rfl rfl rfl (z0p rfl rfl rfl) ?_
          refine sAx (z00 ?_)
          refine cBx ?_
          refine z0a ?_
          change ∃ xs, _ = some xs ∧ EndOk _ _ _ _
          obtain rfl := Option.some.inj h
          exact ⟨_, rfl, z3n (y := (BO x13.1)) (e := .box 119 [(I64 (((x13.2)).f_left))]) (Wk.refl _) rfl rfl (z0u rfl rfl) ⟨rfl, rfl⟩⟩
         ·intro hb12; replace h := z03 hb12 h
          refine z0h rfl rfl rfl rfl rfl rfl ?_
          refine z0h rfl rfl rfl rfl rfl rfl ?_
          refine z0h rfl rfl rfl rfl rfl rfl ?_
          refine z0h rfl rfl rfl rfl rfl rfl ?_
          refine z0h rfl rfl rfl rfl rfl rfl ?_
          refine sS rfl rfl rfl (z0i rfl rfl rfl) ?_
          refine sAx (z00 ?_)
          refine cBx ?_
          refine z0a ?_
          change ∃ xs, _ = some xs ∧ EndOk _ _ _ _
          obtain rfl := Option.some.inj h
          exact ⟨_, rfl, z3n (y := (BO false)) (e := .box 119 [(I64 (((S_check_room.mk (IntKind.i64.wrap (a0.f_left - 1)))).f_left))]) (Wk.refl _) rfl rfl (z0u rfl rfl) ⟨rfl, rfl⟩⟩
        ·intro hc11; replace h := z03 hc11 h
         refine bR ?_
         refine sS rfl rfl rfl ((z06 rfl rfl rfl rfl).cast (y := (BO ((a1.kind == 7)))) rfl rfl) ?_
         refine sAx (z00 ?_)
         refine cBx ?_
         refine z05 rfl ?_ ?_
         ·intro hc14; replace h := z02 hc14 h
          refine bR ?_
          refine sS rfl rfl rfl (z0e z1f (i := 3) rfl rfl rfl) ?_
          refine sS rfl rfl rfl ((z0n Try.underlying30 rfl rfl rfl rfl rfl)) ?_
          refine sS rfl rfl rfl (z17 Try.underlying30 rfl rfl) ?_
          refine sS rfl rfl rfl ((z06 rfl rfl rfl rfl).cast (y := (BO ((decide ((((a1.parts).length : Nat) : Int) > 1))))) rfl rfl) ?_
          refine sMx ?_
          refine z16 (t := 76) rfl ?_ ?_
          ·intro hb15; replace h := z02 hb15 h
           refine z08 rfl rfl rfl rfl rfl rfl (z0k rfl rfl) ?_
           refine z08 rfl rfl rfl rfl rfl rfl (z0e z1f (i := 3) rfl rfl rfl) ?_
           refine z08 rfl rfl rfl rfl rfl rfl ((z0n Try.underlying30 rfl rfl rfl rfl rfl)) ?_
           refine z08 rfl rfl rfl rfl rfl rfl (z0k rfl rfl) ?_
           obtain ⟨x16, hx16, h⟩ := obind h
           refine z08 rfl rfl rfl rfl rfl rfl (z3k 0 rfl zzd rfl (.cons (Wk.refl _) (.cons (Wk.refl _) (.cons (Wk.refl _) .nil))) (.box (.val (z0q z2h a1.parts) (.val rfl .nil))) rfl (z0u rfl rfl) (c_q0o (S_check_room.mk (IntKind.i64.wrap (a0.f_left - 1))) a1.parts a2 x16 hx16) rfl (z0u rfl rfl)) ?_
           refine sS rfl rfl rfl (z0p rfl rfl rfl) ?_
           refine sAx (z00 ?_)
           refine cBx ?_
           refine z0a ?_
           change ∃ xs, _ = some xs ∧ EndOk _ _ _ _
           obtain rfl := Option.some.inj h
           exact ⟨_, rfl, z3n (y := (BO x16.1)) (e := .box 119 [(I64 (((x16.2)).f_left))]) (Wk.refl _) rfl rfl (z0u rfl rfl) ⟨rfl, rfl⟩⟩
          ·intro hb15; replace h := z03 hb15 h
           refine z0h rfl rfl rfl rfl rfl rfl ?_
           refine z0h rfl rfl rfl rfl rfl rfl ?_
           refine z0h rfl rfl rfl rfl rfl rfl ?_
           refine z0h rfl rfl rfl rfl rfl rfl ?_
           refine z0h rfl rfl rfl rfl rfl rfl ?_
           refine sS rfl rfl rfl (z0i rfl rfl rfl) ?_
           refine sAx (z00 ?_)
           refine cBx ?_
           refine z0a ?_
           change ∃ xs, _ = some xs ∧ EndOk _ _ _ _
           obtain rfl := Option.some.inj h
           exact ⟨_, rfl, z3n (y := (BO false)) (e := .box 119 [(I64 (((S_check_room.mk (IntKind.i64.wrap (a0.f_left - 1)))).f_left))]) (Wk.refl _) rfl rfl (z0u rfl rfl) ⟨rfl, rfl⟩⟩
         ·intro hc14; replace h := z03 hc14 h
          refine bR ?_
          refine sS rfl rfl rfl ((z06 rfl rfl rfl rfl).cast (y := (BO ((a1.kind == 6)))) rfl rfl) ?_
          refine sAx (z00 ?_)
          refine cBx ?_
          refine z05 rfl ?_ ?_
          ·intro hc17; replace h := z02 hc17 h
           refine z0o ?_
           refine z1n (ι := Bool) (fun i => z6i r_q0o a0 a1 a2 i = some r) (fun i => [(0, (PV.rf 0 0)), (2, (I64 a2)), (4, (PV.rf 1 0)), (106, (BO i))]) (fun i => [.box 119 [(I64 ((IntKind.i64.wrap (a0.f_left - 1))))], .box 34 (z1r a1)]) ?_ ?_ ?_
           ·intro i; exact ⟨lbE rfl, ⟨(il_rf rfl), ⟨(z01 rfl), ⟨(il_rf rfl), ⟨(z01 rfl), trivial⟩⟩⟩⟩, ⟨⟨(z01 rfl), trivial⟩, ⟨wfC34, trivial⟩⟩⟩
           ·rintro s18 h; replace h : z6i r_q0o a0 a1 a2 s18 = some r := h; unfold z6i at h
            change BW _ _ _ ⟨[(0, (PV.rf 0 0)), (2, (I64 a2)), (4, (PV.rf 1 0)), (106, (BO s18))], [.box 119 [(I64 ((IntKind.i64.wrap (a0.f_left - 1))))], .box 34 (z1r a1)], _⟩ _
            refine z05 rfl ?_ ?_
            ·intro hc19; replace h := z02 hc19 h
             refine bR ?_
             refine sAx (z00 ?_)
             refine cBx ?_
             refine z0a ?_
             change ∃ xs, _ = some xs ∧ EndOk _ _ _ _
             obtain rfl := Option.some.inj h
             exact ⟨_, rfl, z3n (y := (BO false)) (e := .box 119 [(I64 (((S_check_room.mk (IntKind.i64.wrap (a0.f_left - 1)))).f_left))]) (Wk.refl _) rfl rfl (z0u rfl rfl) ⟨rfl, rfl⟩⟩
            ·intro hc19; replace h := z03 hc19 h
             refine z0l ?_
             refine cBx ?_
             refine z0o ?_
             refine bR ?_
             refine sS rfl rfl rfl (z0e z1f (i := 4) rfl rfl rfl) ?_
             refine sS rfl rfl rfl ((z0n Try.underlying31 rfl rfl rfl rfl rfl)) ?_
             refine sS rfl rfl rfl (z17 Try.underlying31 rfl rfl) ?_
             refine sMx (z00 ?_)
             refine cBx ?_
             refine z0x ?_
             refine cBx ?_
             unfold zez at h
             refine z26 (σ := Nat) (fun i => [(0, (PV.rf 0 0)), (2, (I64 a2)), (4, (PV.rf 1 0)), (108, (PV.sl none 9 1 (List.map z0f a1.names))), (109, (I64 ((((a1.names).length : Nat) : Int)))), (110, (I64 (((i : Nat) : Int))))]) (fun i => [.box 119 [(I64 ((IntKind.i64.wrap (a0.f_left - 1))))], .box 34 (z1r a1)]) 0 h ?_ ?_ ?_
             ·intro i; exact ⟨lbE rfl, ⟨(il_rf rfl), ⟨(z01 rfl), ⟨(il_rf rfl), ⟨(z01 (z0q (fun _ => rfl) _)), ⟨(z01 rfl), ⟨(z01 rfl), trivial⟩⟩⟩⟩⟩⟩, ⟨⟨(z01 rfl), trivial⟩, ⟨wfC34, trivial⟩⟩⟩
             ·exact ⟨(.cons .same (.cons .same .nil)), (sC rfl (sC rfl (sC rfl (sC rfl (sC rfl (sC rfl z09))))))⟩
             ·rintro g1_f s20 h; replace h : z61 r_q0o a0 a1 a2 (fun y0 => g1_f y0) s20 = some r := h; unfold z61 at h
              change BW _ _ _ ⟨[(0, (PV.rf 0 0)), (2, (I64 a2)), (4, (PV.rf 1 0)), (108, (PV.sl none 9 1 (List.map z0f a1.names))), (109, (I64 ((((a1.names).length : Nat) : Int)))), (110, (I64 (((s20 : Nat) : Int))))], [.box 119 [(I64 ((IntKind.i64.wrap (a0.f_left - 1))))], .box 34 (z1r a1)], _⟩ _
              refine bR ?_
              refine sS rfl rfl rfl ((z06 rfl rfl rfl rfl).cast (y := (BO ((decide (((s20 : Nat) : Int) < (((a1.names).length : Nat) : Int)))))) rfl rfl) (z00 ?_)
              refine cBx ?_
              refine z0o ?_
              refine z2z (t := 108) rfl fun hb22 => ?_
              try rw [List.length_map] at hb22
              refine z05 rfl ?_ ?_
              ·intro hc21; replace h := z02 hc21 h
               have hc21_ := of_decide_eq_true hc21
               refine z0l ?_
               refine cBx ?_
               refine z0o ?_
               refine z0x ?_
               refine cBx ?_
               refine bR ?_
               refine sMx ?_
               obtain ⟨x23, hx23, h⟩ := obind h
               refine sS rfl rfl rfl (z1i (i := s20) Try.underlying31 inf_9 rfl rfl rfl hx23 rfl) ?_
               refine sS rfl rfl rfl (z13 (y := (z0f x23)) Try.underlying9 rfl rfl rfl rfl) ?_
               refine sAx ?_
               refine sAx (z00 ?_)
               refine cBx ?_
               refine z1n (ι := Bool) (fun i => z9k (fun y0 => g1_f y0) a0 s20 i = some r) (fun i => [(0, (PV.rf 0 0)), (2, (I64 a2)), (4, (PV.rf 1 0)), (108, (PV.sl none 9 1 (List.map z0f a1.names))), (109, (I64 ((((a1.names).length : Nat) : Int)))), (110, (I64 (((s20 : Nat) : Int)))), (131, (BO i))]) (fun i => [.box 119 [(I64 ((IntKind.i64.wrap (a0.f_left - 1))))], .box 34 (z1r a1)]) ?_ ?_ ?_
               ·intro i; exact ⟨lbE rfl, ⟨(il_rf rfl), ⟨(z01 rfl), ⟨(il_rf rfl), ⟨(z01 (z0q (fun _ => rfl) _)), ⟨(z01 rfl), ⟨(z01 rfl), ⟨(z01 rfl), trivial⟩⟩⟩⟩⟩⟩⟩, ⟨⟨(z01 rfl), trivial⟩, ⟨wfC34, trivial⟩⟩⟩
               ·rintro s24 h; replace h : z9k (fun y0 => g1_f y0) a0 s20 s24 = some r := h; unfold z9k at h
                change BW _ _ _ ⟨[(0, (PV.rf 0 0)), (2, (I64 a2)), (4, (PV.rf 1 0)), (108, (PV.sl none 9 1 (List.map z0f a1.names))), (109, (I64 ((((a1.names).length : Nat) : Int)))), (110, (I64 (((s20 : Nat) : Int)))), (131, (BO s24))], [.box 119 [(I64 ((IntKind.i64.wrap (a0.f_left - 1))))], .box 34 (z1r a1)], _⟩ _
                refine z05 rfl ?_ ?_
                ·intro hc25; replace h := z02 hc25 h
                 refine bR ?_
                 refine sAx (z00 ?_)
                 refine cBx ?_
                 refine z0a ?_
                 change ∃ xs, _ = some xs ∧ EndOk _ _ _ _
                 obtain rfl := Option.some.inj h
                 exact ⟨_, rfl, z3n (y := (BO false)) (e := .box 119 [(I64 (((S_check_room.mk (IntKind.i64.wrap (a0.f_left - 1)))).f_left))]) (Wk.refl _) rfl rfl (z0u rfl rfl) ⟨rfl, rfl⟩⟩
                ·intro hc25; replace h := z03 hc25 h
                 refine z0l ?_
                 refine cBx ?_
                 refine z0s ?_
                 refine sS rfl rfl rfl (z1y (k := s20) (c := 1) rfl rfl rfl (by omega)) ?_
                 refine sMx (z00 ?_)
                 exact ⟨rfl, (s20 + 1), h, ⟨(.cons .same (.cons .same .nil)), (sC rfl (sC rfl (sC rfl (sC rfl (sC rfl (sC rfl z09))))))⟩⟩
               ·refine z0s ?_
                refine sMx ?_
                obtain ⟨x26, hx26, h⟩ := obind h
                refine sS rfl rfl rfl (z0b rfl Z1x rfl (.cons (Wk.refl _) .nil) ⟨rfl, trivial⟩ (Z0f x23 x26 hx26) rfl) ?_
                refine sS rfl rfl rfl (z2a rfl rfl) ?_
                refine sMx ?_
                refine z16 (t := 118) rfl ?_ ?_
                ·intro hb27; replace h := z02 hb27 h
                 refine z0h rfl rfl rfl rfl rfl rfl ?_
                 refine z0h rfl rfl rfl rfl rfl rfl ?_
                 refine z0h rfl rfl rfl rfl rfl rfl ?_
                 refine z0h rfl rfl rfl rfl rfl rfl ?_
                 refine z0h rfl rfl rfl rfl rfl rfl ?_
                 refine z0h rfl rfl rfl rfl rfl rfl ?_
                 refine z0h rfl rfl rfl rfl rfl rfl ?_
                 refine z0h rfl rfl rfl rfl rfl rfl ?_
                 refine z0h rfl rfl rfl rfl rfl rfl ?_
                 refine z0h rfl rfl rfl rfl rfl rfl ?_
                 refine z0h rfl rfl rfl rfl rfl rfl ?_
                 refine z0h rfl rfl rfl rfl rfl rfl ?_
                 refine sS rfl rfl rfl (z0p rfl rfl rfl) (z00 ?_)
                 exact ⟨rfl, true, h, ⟨(.cons .same (.cons .same .nil)), (sC rfl (sC rfl (sC rfl (sC rfl (sC rfl (sC rfl (sC rfl z09)))))))⟩⟩
                ·intro hb27; replace h := z03 hb27 h
                 refine z08 rfl rfl rfl rfl rfl rfl (z0k rfl rfl) ?_
                 refine z08 rfl rfl rfl rfl rfl rfl ((z06 rfl rfl rfl rfl).cast (y := (BO ((decide (((s20 : Nat) : Int) > 0))))) rfl rfl) ?_
                 refine z08 rfl rfl rfl rfl rfl rfl (z0k rfl rfl) ?_
                 refine z16 (t := 121) rfl ?_ ?_
                 ·intro hb28; replace h := z02 hb28 h
                  refine z08 rfl rfl rfl rfl rfl rfl (z0k rfl rfl) ?_
                  refine z08 rfl rfl rfl rfl rfl rfl (z0e z1f (i := 4) rfl rfl rfl) ?_
                  refine z08 rfl rfl rfl rfl rfl rfl ((z0n Try.underlying31 rfl rfl rfl rfl rfl)) ?_
                  refine z08 rfl rfl rfl rfl rfl rfl (z0k rfl rfl) ?_
                  refine z08 rfl rfl rfl rfl rfl rfl (zc8 rfl rfl rfl) ?_
                  obtain ⟨x29, hx29, h⟩ := obind h
                  refine z08 rfl rfl rfl rfl rfl rfl (z47 Try.underlying31 inf_9 rfl rfl rfl hx29 rfl) ?_
                  refine z08 rfl rfl rfl rfl rfl rfl (z13 (y := (z0f x29)) Try.underlying9 rfl rfl rfl rfl) ?_
                  refine z08 rfl rfl rfl rfl rfl rfl ((z40 (a := x23) (b := x29) rfl rfl rfl rfl).cast (y := (BO ((Op.bytesLess x23 x29 || x23 == x29)))) rfl rfl) ?_
                  refine z08 rfl rfl rfl rfl rfl rfl (z0p rfl rfl rfl) ?_
                  refine sS rfl rfl rfl (z0i rfl rfl rfl) (z00 ?_)
                  exact ⟨rfl, (Op.bytesLess x23 x29 || x23 == x29), h, ⟨(.cons .same (.cons .same .nil)), (sC rfl (sC rfl (sC rfl (sC rfl (sC rfl (sC rfl (sC rfl z09)))))))⟩⟩
                 ·intro hb28; replace h := z03 hb28 h
                  refine z0h rfl rfl rfl rfl rfl rfl ?_
                  refine z0h rfl rfl rfl rfl rfl rfl ?_
                  refine z0h rfl rfl rfl rfl rfl rfl ?_
                  refine z0h rfl rfl rfl rfl rfl rfl ?_
                  refine z0h rfl rfl rfl rfl rfl rfl ?_
                  refine z0h rfl rfl rfl rfl rfl rfl ?_
                  refine z0h rfl rfl rfl rfl rfl rfl ?_
                  refine z0h rfl rfl rfl rfl rfl rfl ?_
                  refine z08 rfl rfl rfl rfl rfl rfl (z0i rfl rfl rfl) ?_
                  refine sS rfl rfl rfl (z0i rfl rfl rfl) (z00 ?_)
                  exact ⟨rfl, false, h, ⟨(.cons .same (.cons .same .nil)), (sC rfl (sC rfl (sC rfl (sC rfl (sC rfl (sC rfl (sC rfl z09)))))))⟩⟩
              ·intro hc21; replace h := z03 hc21 h
               refine z22 ?_
               refine cBx ?_
               refine bR ?_
               refine sMx ?_
               refine sS rfl rfl rfl (z0e z1f (i := 3) rfl rfl rfl) ?_
               refine sS rfl rfl rfl ((z0n Try.underlying30 rfl rfl rfl rfl rfl)) ?_
               refine sMx ?_
               obtain ⟨x30, hx30, h⟩ := obind h
               refine sS rfl rfl rfl (z3k 0 rfl zzd rfl (.cons (Wk.refl _) (.cons (Wk.refl _) (.cons (Wk.refl _) .nil))) (.box (.val (z0q z2h a1.parts) (.val rfl .nil))) rfl (z0u rfl rfl) (c_q0o (S_check_room.mk (IntKind.i64.wrap (a0.f_left - 1))) a1.parts a2 x30 hx30) rfl (z0u rfl rfl)) ?_
               refine sAx (z00 ?_)
               refine cBx ?_
               refine z0a ?_
               change ∃ xs, _ = some xs ∧ EndOk _ _ _ _
               obtain rfl := Option.some.inj h
               exact ⟨_, rfl, z3n (y := (BO x30.1)) (e := .box 119 [(I64 (((x30.2)).f_left))]) (Wk.refl _) rfl rfl (z0u rfl rfl) ⟨rfl, rfl⟩⟩
           ·refine z0s ?_
            refine sS rfl rfl rfl (z0e z1f (i := 4) rfl rfl rfl) ?_
            refine sS rfl rfl rfl ((z0n Try.underlying31 rfl rfl rfl rfl rfl)) ?_
            refine sS rfl rfl rfl (z17 Try.underlying31 rfl rfl) ?_
            refine sS rfl rfl rfl ((z06 rfl rfl rfl rfl).cast (y := (BO ((decide ((((a1.names).length : Nat) : Int) > 4096))))) rfl rfl) ?_
            refine sMx ?_
            refine z16 (t := 89) rfl ?_ ?_
            ·intro hb31; replace h := z02 hb31 h
             refine z0h rfl rfl rfl rfl rfl rfl ?_
             refine z0h rfl rfl rfl rfl rfl rfl ?_
             refine z0h rfl rfl rfl rfl rfl rfl ?_
             refine z0h rfl rfl rfl rfl rfl rfl ?_
             refine z0h rfl rfl rfl rfl rfl rfl ?_
             refine z0h rfl rfl rfl rfl rfl rfl ?_
             refine z0h rfl rfl rfl rfl rfl rfl ?_
             refine sS rfl rfl rfl (z0p rfl rfl rfl) ?_
             refine sMx ?_
             refine z0h rfl rfl rfl rfl rfl rfl ?_
             refine z0h rfl rfl rfl rfl rfl rfl ?_
             refine z0h rfl rfl rfl rfl rfl rfl ?_
             refine z0h rfl rfl rfl rfl rfl rfl ?_
             refine z0h rfl rfl rfl rfl rfl rfl ?_
             refine z0h rfl rfl rfl rfl rfl rfl ?_
             refine z0h rfl rfl rfl rfl rfl rfl ?_
             refine sS rfl rfl rfl (z0p rfl rfl rfl) (z00 ?_)
             exact ⟨rfl, true, h, ⟨(.cons .same (.cons .same .nil)), (sC rfl (sC rfl (sC rfl (sC rfl z09))))⟩⟩
            ·intro hb31; replace h := z03 hb31 h
             refine z08 rfl rfl rfl rfl rfl rfl (z0e z1f (i := 3) rfl rfl rfl) ?_
             refine z08 rfl rfl rfl rfl rfl rfl ((z0n Try.underlying30 rfl rfl rfl rfl rfl)) ?_
             refine z08 rfl rfl rfl rfl rfl rfl (z17 Try.underlying30 rfl rfl) ?_
             refine z08 rfl rfl rfl rfl rfl rfl (z0e z1f (i := 4) rfl rfl rfl) ?_
             refine z08 rfl rfl rfl rfl rfl rfl ((z0n Try.underlying31 rfl rfl rfl rfl rfl)) ?_
             refine z08 rfl rfl rfl rfl rfl rfl (z17 Try.underlying31 rfl rfl) ?_
             refine z08 rfl rfl rfl rfl rfl rfl ((z06 rfl rfl rfl rfl).cast (y := (BO (((((a1.parts).length : Nat) : Int) != (((a1.names).length : Nat) : Int))))) rfl rfl) ?_
             refine sS rfl rfl rfl (z0i rfl rfl rfl) ?_
             refine sMx ?_
             refine z16 (t := 98) rfl ?_ ?_
             ·intro hb32; replace h := z02 hb32 h
              refine z0h rfl rfl rfl rfl rfl rfl ?_
              refine z0h rfl rfl rfl rfl rfl rfl ?_
              refine z0h rfl rfl rfl rfl rfl rfl ?_
              refine z0h rfl rfl rfl rfl rfl rfl ?_
              refine z0h rfl rfl rfl rfl rfl rfl ?_
              refine z0h rfl rfl rfl rfl rfl rfl ?_
              refine z0h rfl rfl rfl rfl rfl rfl ?_
              refine sS rfl rfl rfl (z0p rfl rfl rfl) (z00 ?_)
              exact ⟨rfl, true, h, ⟨(.cons .same (.cons .same .nil)), (sC rfl (sC rfl (sC rfl (sC rfl z09))))⟩⟩
             ·intro hb32; replace h := z03 hb32 h
              refine z08 rfl rfl rfl rfl rfl rfl (z0e z1f (i := 5) rfl rfl rfl) ?_
              refine z08 rfl rfl rfl rfl rfl rfl ((z0n Try.underlying32 rfl rfl rfl rfl rfl)) ?_
              refine z08 rfl rfl rfl rfl rfl rfl (z17 Try.underlying32 rfl rfl) ?_
              refine z08 rfl rfl rfl rfl rfl rfl (z0e z1f (i := 4) rfl rfl rfl) ?_
              refine z08 rfl rfl rfl rfl rfl rfl ((z0n Try.underlying31 rfl rfl rfl rfl rfl)) ?_
              refine z08 rfl rfl rfl rfl rfl rfl (z17 Try.underlying31 rfl rfl) ?_
              refine z08 rfl rfl rfl rfl rfl rfl ((z06 rfl rfl rfl rfl).cast (y := (BO (((((a1.lacks).length : Nat) : Int) != (((a1.names).length : Nat) : Int))))) rfl rfl) ?_
              refine sS rfl rfl rfl (z0i rfl rfl rfl) (z00 ?_)
              exact ⟨rfl, ((((a1.lacks).length : Nat) : Int) != (((a1.names).length : Nat) : Int)), h, ⟨(.cons .same (.cons .same .nil)), (sC rfl (sC rfl (sC rfl (sC rfl z09))))⟩⟩
          ·intro hc17; replace h := z03 hc17 h
           refine z0l ?_
           refine cBx ?_
           refine bR ?_
           refine sAx (z00 ?_)
           refine cBx ?_
           refine z0a ?_
           change ∃ xs, _ = some xs ∧ EndOk _ _ _ _
           obtain rfl := Option.some.inj h
           exact ⟨_, rfl, z3n (y := (BO false)) (e := .box 119 [(I64 (((S_check_room.mk (IntKind.i64.wrap (a0.f_left - 1)))).f_left))]) (Wk.refl _) rfl rfl (z0u rfl rfl) ⟨rfl, rfl⟩⟩
   ·refine bR ?_
    refine sS rfl rfl rfl ((z06 rfl rfl rfl rfl).cast (y := (BO ((a1.kind == 1)))) rfl rfl) ?_
    refine sAx (z00 ?_)
    refine cBx ?_
    refine z05 rfl ?_ ?_
    ·intro hc33; replace h := z02 hc33 h
     refine z0l ?_
     exact ⟨rfl, (a1.kind == 1), h, ⟨(.cons .same (.cons .same .nil)), (sC rfl (sC rfl (sC rfl (sC rfl (sC rfl z09)))))⟩⟩
    ·intro hc33; replace h := z03 hc33 h
     refine z0s ?_
     refine sS rfl rfl rfl ((z06 rfl rfl rfl rfl).cast (y := (BO ((a1.kind == 2)))) rfl rfl) ?_
     refine sAx (z00 ?_)
     exact ⟨rfl, (a1.kind == 2), h, ⟨(.cons .same (.cons .same .nil)), (sC rfl (sC rfl (sC rfl (sC rfl (sC rfl z09)))))⟩⟩
 ·refine z0s ?_
  refine sMx ?_
  refine sS rfl rfl rfl (z4j rfl rfl) ?_
  refine sS rfl rfl rfl (z0e zlg (i := 0) rfl rfl rfl) ?_
  refine sS rfl rfl rfl ((z0n Try.underlying3 rfl rfl rfl rfl rfl)) ?_
  refine sS rfl rfl rfl ((z06 rfl rfl rfl rfl).cast (y := (BO ((decide ((IntKind.i64.wrap (a0.f_left - 1)) < 0))))) rfl rfl) ?_
  refine sMx ?_
  refine z16 (t := 23) rfl ?_ ?_
  ·intro hb34; replace h := z02 hb34 h
   refine z0h rfl rfl rfl rfl rfl rfl ?_
   refine z0h rfl rfl rfl rfl rfl rfl ?_
   refine sS rfl rfl rfl (z0p rfl rfl rfl) (z00 ?_)
   exact ⟨rfl, true, h, ⟨(.cons .same (.cons .same .nil)), (sC rfl (sC rfl (sC rfl (sC rfl z09))))⟩⟩
  ·intro hb34; replace h := z03 hb34 h
   refine z08 rfl rfl rfl rfl rfl rfl (z0k rfl rfl) ?_
   refine z08 rfl rfl rfl rfl rfl rfl ((z06 rfl rfl rfl rfl).cast (y := (BO ((decide (a2 > 64))))) rfl rfl) ?_
   refine sS rfl rfl rfl (z0i rfl rfl rfl) (z00 ?_)
   exact ⟨rfl, (decide (a2 > 64)), h, ⟨(.cons .same (.cons .same .nil)), (sC rfl (sC rfl (sC rfl (sC rfl z09))))⟩⟩
theorem C_q0o.sound : ∀ (i : C_q0o) (r : i.R), z38 C_q0o.F i = some r → C_q0o.Q i r := by
 refine z4a (Φ := C_q0o.F) (Q := C_q0o.Q) ?_
 intro g hg i r h
 cases i with
 | k_q0o a0 a1 a2 => exact zbx (fun a0 a1 a2 => g (.k_q0o a0 a1 a2)) (fun a0 a1 a2 r hr => hg (.k_q0o a0 a1 a2) r hr) (fun a0 a1 a2 => g (.k_q0p a0 a1 a2)) (fun a0 a1 a2 r hr => hg (.k_q0p a0 a1 a2) r hr) a0 a1 a2 r h
 | k_q0p a0 a1 a2 => exact zbw (fun a0 a1 a2 => g (.k_q0o a0 a1 a2)) (fun a0 a1 a2 r hr => hg (.k_q0o a0 a1 a2) r hr) (fun a0 a1 a2 => g (.k_q0p a0 a1 a2)) (fun a0 a1 a2 r hr => hg (.k_q0p a0 a1 a2) r hr) a0 a1 a2 r h
theorem Z3v (a0 : S_check_room) (a1 : Typ) (a2 : Int) (r : (Bool × S_check_room)) (h : zjr a0 a1 a2 = some r) : z4c Try.prog 59 [(PV.rf 0 0), (z07 a1), (I64 a2)] (.box 119 [(I64 a0.f_left)]) (BO r.1) (.box 119 [(I64 ((r.2).f_left))]) := C_q0o.sound (.k_q0p a0 a1 a2) r h
noncomputable def zde (a0 : Typ) : Option Bool :=
 Option.bind (zjr (S_check_room.mk 16384) a0 1) fun x1 =>
 some x1.1
theorem zji (a0 : Typ) (r : Bool) (h : zde a0 = some r) : z0g Try.prog 33 [(z07 a0)] (BO r) := by
 unfold zde at h
 refine z0w Try.func33 rfl Try.ntmps33 Try.results33 rfl (z10 ?_)
 change BW _ _ _ ⟨[(0, (z07 a0))], [], _⟩ _
 refine bR ?_
 refine sS rfl rfl rfl (z1x rfl rfl rfl) ?_
 refine sAx (z00 ?_)
 refine cBx ?_
 refine bR ?_
 refine sS rfl rfl rfl (z1w (cs := [(I64 16384)]) zlg zk6 rfl rfl rfl rfl) ?_
 refine sS rfl rfl rfl (z1j zk6 rfl) ?_
 refine z11 rfl rfl (z0v zk6 rfl rfl rfl rfl rfl rfl (lbE rfl) rfl) ?_
 refine z00 ?_
 refine cBx ?_
 refine bR ?_
 refine sS rfl rfl rfl ((z12 z0t Try.underlying34 rfl rfl rfl rfl rfl rfl)) ?_
 obtain ⟨x1, hx1, h⟩ := obind h
 refine sS rfl rfl rfl (z3k 1 rfl Z26 rfl (.cons (Wk.refl _) (.cons (Wk.refl _) (.cons (Wk.refl _) .nil))) (.box (.val (z0m a0) (.val rfl .nil))) rfl (z0u rfl rfl) (Z3v (S_check_room.mk 16384) a0 1 x1 hx1) rfl (z0u rfl rfl)) ?_
 refine sAx (z00 ?_)
 refine cBx ?_
 refine z0a ?_
 change ∃ xs, _ = some xs ∧ EndOk _ _ _ _
 obtain rfl := Option.some.inj h
 exact ⟨_, rfl, z0d (y := (BO x1.1)) (Wk.refl _) rfl ⟨rfl, rfl⟩⟩
noncomputable def znr (a0 : Typ) (a1 : Typ) : Option (Typ × Bool) :=
 Option.bind (z43 a0 a1) fun x1 =>
 bif x1 then (
  some (a1, true)
 ) else (
  Option.bind (z43 a1 a0) fun x3 =>
  bif x3 then (
   some (a0, true)
  ) else (
   Option.bind (znv a0) fun x5 =>
   Option.bind (znv a1) fun x6 =>
   Option.bind (zr5 ([x5, x6] : (List (List Typ)))) fun x7 =>
   Option.bind (zde (Typ.mk 7 0 (Term.mk 0 false 0 0 [] [] 0 [] [] [] 0) x7 [] [] false [])) fun x8 =>
   some ((Typ.mk 7 0 (Term.mk 0 false 0 0 [] [] 0 [] [] [] 0) x7 [] [] false []), x8)
  )
 )
theorem Z0o (a0 : Typ) (a1 : Typ) (r : (Typ × Bool)) (h : znr a0 a1 = some r) : z0g Try.prog 43 [(z07 a0), (z07 a1)] (PV.tup [(z07 r.1), (BO r.2)]) := by
 unfold znr at h
 refine z0w Try.func43 rfl Try.ntmps43 Try.results43 rfl (z10 ?_)
 change BW _ _ _ ⟨[(0, (z07 a0)), (1, (z07 a1))], [], _⟩ _
 refine bR ?_
 refine sS rfl rfl rfl (z1x rfl rfl rfl) ?_
 refine sS rfl rfl rfl (z1x rfl rfl rfl) ?_
 refine sS rfl rfl rfl (z1j z0t rfl) ?_
 refine sAx (z00 ?_)
 refine cBx ?_
 refine z0o ?_
 refine z0x ?_
 refine cBx ?_
 refine bR ?_
 refine sS rfl rfl rfl ((z12 z0t Try.underlying34 rfl rfl rfl rfl rfl rfl)) ?_
 refine sS rfl rfl rfl ((z12 z0t Try.underlying34 rfl rfl rfl rfl rfl rfl)) ?_
 obtain ⟨x1, hx1, h⟩ := obind h
 refine sS rfl rfl rfl (z0b rfl zka rfl (.cons (Wk.refl _) (.cons (Wk.refl _) .nil)) ⟨(z0m a0), ⟨(z0m a1), trivial⟩⟩ (zyd a0 a1 x1 hx1) rfl) ?_
 refine sAx (z00 ?_)
 refine cBx ?_
 refine z05 rfl ?_ ?_
 ·intro hc2; replace h := z02 hc2 h
  refine bR ?_
  refine sS rfl rfl rfl ((z12 z0t Try.underlying34 rfl rfl rfl rfl rfl rfl)) ?_
  refine z11 rfl rfl (z0v z0t rfl rfl rfl rfl rfl rfl (lbE rfl) rfl) ?_
  refine sAx (z00 ?_)
  refine cBx ?_
  refine z0a ?_
  change ∃ xs, _ = some xs ∧ EndOk _ _ _ _
  obtain rfl := Option.some.inj h
  exact ⟨_, rfl, z0d (y := (PV.tup [(z07 a1), (BO true)])) (Wk.refl _) (z04 (z0m a1) (z04 rfl z0r)) ⟨rfl, rfl⟩⟩
 ·intro hc2; replace h := z03 hc2 h
  refine bR ?_
  refine sS rfl rfl rfl ((z12 z0t Try.underlying34 rfl rfl rfl rfl rfl rfl)) ?_
  refine sS rfl rfl rfl ((z12 z0t Try.underlying34 rfl rfl rfl rfl rfl rfl)) ?_
  obtain ⟨x3, hx3, h⟩ := obind h
  refine sS rfl rfl rfl (z0b rfl zka rfl (.cons (Wk.refl _) (.cons (Wk.refl _) .nil)) ⟨(z0m a1), ⟨(z0m a0), trivial⟩⟩ (zyd a1 a0 x3 hx3) rfl) ?_
  refine sAx (z00 ?_)
  refine cBx ?_
  refine z05 rfl ?_ ?_
  ·intro hc4; replace h := z02 hc4 h
   refine bR ?_
   refine sS rfl rfl rfl ((z12 z0t Try.underlying34 rfl rfl rfl rfl rfl rfl)) ?_
   refine z11 rfl rfl (z0v z0t rfl rfl rfl rfl rfl rfl (lbE rfl) rfl) ?_
   refine sAx (z00 ?_)
   refine cBx ?_
   refine z0a ?_
   change ∃ xs, _ = some xs ∧ EndOk _ _ _ _
   obtain rfl := Option.some.inj h
   exact ⟨_, rfl, z0d (y := (PV.tup [(z07 a0), (BO true)])) (Wk.refl _) (z04 (z0m a0) (z04 rfl z0r)) ⟨rfl, rfl⟩⟩
  ·intro hc4; replace h := z03 hc4 h
   refine z0l ?_
   refine cBx ?_
   refine z0o (z2e 8 [7] [0, 1] mo (by kernel_rfl) ?_)
   refine z0y rfl rfl rfl rfl (fun H hp => (z12 z0t Try.underlying34 rfl rfl rfl (hp.at rfl rfl) rfl rfl)) ?_
   obtain ⟨x5, hx5, h⟩ := obind h
   refine z0y rfl rfl rfl rfl (fun H hp => z0b rfl Z20 rfl (.cons (Wk.refl _) .nil) ⟨(z0m a0), trivial⟩ (Z0r a0 x5 hx5) (z0q z2h x5)) ?_
   refine z0y rfl rfl rfl rfl (fun H hp => (z12 z0t Try.underlying34 rfl rfl rfl (hp.at rfl rfl) rfl rfl)) ?_
   obtain ⟨x6, hx6, h⟩ := obind h
   refine z0y rfl rfl rfl rfl (fun H hp => z0b rfl Z20 rfl (.cons (Wk.refl _) .nil) ⟨(z0m a1), trivial⟩ (Z0r a1 x6 hx6) (z0q z2h x6)) ?_
   refine z0y rfl rfl rfl rfl (fun H hp => (z7c (xs := [(PV.sl none 34 18 (List.map z19 x5)), (PV.sl none 34 18 (List.map z19 x6))]) Try.underlying151 zij rfl rfl rfl rfl rfl rfl ⟨lbE rfl, lbE rfl⟩ rfl).cast (y := (PV.sl none 30 1 (List.map (ztm 34 18 z19) ([x5, x6] : (List (List Typ)))))) rfl rfl) ?_
   obtain ⟨x7, hx7, h⟩ := obind h
   refine z0y rfl rfl rfl rfl (fun H hp => z0b rfl Z4y rfl (.cons (Wk.refl _) .nil) ⟨(z0q (fun a => z0q z2h a) ([x5, x6] : (List (List Typ)))), trivial⟩ (Z46 ([x5, x6] : (List (List Typ))) x7 hx7) (z0q z2h x7)) ?_
   refine z0y rfl rfl rfl rfl (fun H hp => z1w (cs := [(I64 7), (I64 0), (I64 0), (BO false), (I64 0), (PV.v (.float .f64 0)), (z0f []), (PV.v (.slice none 0 0)), (PV.v (.int .u64 0)), (PV.v (.slice none 0 0)), (PV.v (.slice none 0 0)), (z0f []), (I64 0), (PV.sl none 34 18 (List.map z19 x7)), (PV.v (.slice none 0 0)), (PV.v (.slice none 0 0)), (BO false), (z0f [])]) z1f z0t rfl rfl rfl rfl) ?_
   refine zab rfl rfl rfl rfl (z1j z0t rfl) ⟨rfl, ⟨rfl, trivial⟩⟩ ?_
   refine z2b ?_
   change AO _ _ _ _ _
   refine z11 rfl rfl (z0v z0t rfl rfl rfl rfl rfl rfl (lbE rfl) rfl) ?_
   refine z00 ?_
   refine cBx ?_
   refine z0o (z2e 3 [] [3] mo (by kernel_rfl) ?_)
   refine z0y rfl rfl rfl rfl (fun H hp => (z12 z0t Try.underlying34 rfl rfl rfl (hp.at rfl rfl) rfl rfl)) ?_
   refine z0y rfl rfl rfl rfl (fun H hp => (z12 z0t Try.underlying34 rfl rfl rfl (hp.at rfl rfl) rfl rfl)) ?_
   obtain ⟨x8, hx8, h⟩ := obind h
   refine z0y rfl rfl rfl rfl (fun H hp => z0b rfl zkb rfl (.cons (Wk.agg (.cons (Wk.refl _) (.cons (Wk.refl _) (.cons (Wk.refl _) (.cons (Wk.refl _) (.cons (Wk.refl _) (.cons (Wk.refl _) (.cons (Wk.refl _) (.cons Wk.nil (.cons (Wk.refl _) (.cons Wk.nil (.cons Wk.nil (.cons (Wk.refl _) (.cons (Wk.refl _) (.cons (Wk.refl _) (.cons Wk.nil (.cons Wk.nil (.cons (Wk.refl _) (.cons (Wk.refl _) .nil))))))))))))))))))) .nil) ⟨(z0m (Typ.mk 7 0 (Term.mk 0 false 0 0 [] [] 0 [] [] [] 0) x7 [] [] false [])), trivial⟩ (zji (Typ.mk 7 0 (Term.mk 0 false 0 0 [] [] 0 [] [] [] 0) x7 [] [] false []) x8 hx8) rfl) ?_
   refine z2b ?_
   change AO _ _ _ _ _
   refine z11 rfl rfl (z0v z0t rfl rfl rfl rfl rfl rfl (lbE rfl) rfl) ?_
   refine sAx (z00 ?_)
   refine cBx ?_
   refine z0a ?_
   change ∃ xs, _ = some xs ∧ EndOk _ _ _ _
   obtain rfl := Option.some.inj h
   exact ⟨_, rfl, z0d (y := (PV.tup [(z07 (Typ.mk 7 0 (Term.mk 0 false 0 0 [] [] 0 [] [] [] 0) x7 [] [] false [])), (BO x8)])) (Wk.tup (.cons (Wk.agg (.cons (Wk.refl _) (.cons (Wk.refl _) (.cons (Wk.refl _) (.cons (Wk.refl _) (.cons (Wk.refl _) (.cons (Wk.refl _) (.cons (Wk.refl _) (.cons Wk.nil (.cons (Wk.refl _) (.cons Wk.nil (.cons Wk.nil (.cons (Wk.refl _) (.cons (Wk.refl _) (.cons (Wk.refl _) (.cons Wk.nil (.cons Wk.nil (.cons (Wk.refl _) (.cons (Wk.refl _) .nil))))))))))))))))))) (.cons (Wk.refl _) .nil))) (z04 (z0m (Typ.mk 7 0 (Term.mk 0 false 0 0 [] [] 0 [] [] [] 0) x7 [] [] false [])) (z04 rfl z0r)) ⟨rfl, rfl⟩⟩
end Go.Proofs.Ytiapdjdhaclmnaa
