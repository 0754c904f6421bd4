/- Pure functions, and that calls answer as they say. Written by gen.py. -/
import Derived.Test.YtiapdjdhaclmnaaG2
namespace Go.Proofs.Ytiapdjdhaclmnaa
open Go Aw
set_option linter.unusedVariables false
set_option linter.unusedSimpArgs false
set_option maxRecDepth 20000
set_option maxHeartbeats 2000000
variable {ι : Type} {ρ : ι → Type}
noncomputable def zqr (a0 : V) (a1 : V) : Option Bool :=
 Option.bind (zg1 a0) fun x1 =>
 Option.bind (zg1 a1) fun x2 =>
 bif (x1.2 == 0) then (
  bif (x2.2 == 0) then (
   Option.bind (z9p a0 a1) fun x5 =>
   some (x5 == 0)
  ) else (
   some false
  )
 ) else (
  some false
 )
theorem Z3l (a0 : V) (a1 : V) (r : Bool) (h : zqr a0 a1 = some r) : z0g Try.prog 54 [(ofV a0), (ofV a1)] (BO r) := by
 unfold zqr at h
 refine z0w Try.func54 rfl Try.ntmps54 Try.results54 rfl (z10 ?_)
 change BW _ _ _ ⟨[(0, (ofV a0)), (1, (ofV a1))], [], _⟩ _
 refine bR ?_
 refine sAx (z00 ?_)
 refine cBx ?_
 refine bR ?_
 refine sMx ?_
 obtain ⟨x1, hx1, h⟩ := obind h
 refine sS rfl rfl rfl (z0b rfl zsm rfl (.cons (Wk.refl _) .nil) ⟨(ids_V a0), trivial⟩ (zow a0 x1 hx1) (z04 rfl (z04 rfl z0r))) ?_
 refine sMx ?_
 refine sS rfl rfl rfl (z0j rfl rfl rfl) ?_
 refine sS rfl rfl rfl (z0j rfl rfl rfl) ?_
 refine sAx ?_
 refine sAx (z00 ?_)
 refine cBx ?_
 refine bR ?_
 refine sMx ?_
 obtain ⟨x2, hx2, h⟩ := obind h
 refine sS rfl rfl rfl (z0b rfl zsm rfl (.cons (Wk.refl _) .nil) ⟨(ids_V a1), trivial⟩ (zow a1 x2 hx2) (z04 rfl (z04 rfl z0r))) ?_
 refine sMx ?_
 refine sS rfl rfl rfl (z0j rfl rfl rfl) ?_
 refine sS rfl rfl rfl (z0j rfl rfl rfl) ?_
 refine sAx ?_
 refine sAx (z00 ?_)
 refine cBx ?_
 refine bR ?_
 refine sMx ?_
 refine sS rfl rfl rfl ((z06 rfl rfl rfl rfl).cast (y := (BO ((x1.2 == 0)))) rfl rfl) ?_
 refine sMx ?_
 refine z16 (t := 21) rfl ?_ ?_
 ·intro hb3; replace h := z02 hb3 h
  refine z08 rfl rfl rfl rfl rfl rfl (z0k rfl rfl) ?_
  refine z08 rfl rfl rfl rfl rfl rfl ((z06 rfl rfl rfl rfl).cast (y := (BO ((x2.2 == 0)))) rfl rfl) ?_
  refine sS rfl rfl rfl (z0p rfl rfl rfl) ?_
  refine sMx ?_
  refine z16 (t := 25) rfl ?_ ?_
  ·intro hb4; replace h := z02 hb4 h
   refine z08 rfl rfl rfl rfl rfl rfl (z0k rfl rfl) ?_
   refine z08 rfl rfl rfl rfl rfl rfl (z0k rfl rfl) ?_
   obtain ⟨x5, hx5, h⟩ := obind h
   refine z08 rfl rfl rfl rfl rfl rfl (z0b rfl zze rfl (.cons (Wk.refl _) (.cons (Wk.refl _) .nil)) ⟨(ids_V a0), ⟨(ids_V a1), trivial⟩⟩ (Z3r a0 a1 x5 hx5) rfl) ?_
   refine z08 rfl rfl rfl rfl rfl rfl ((z06 rfl rfl rfl rfl).cast (y := (BO ((x5 == 0)))) rfl rfl) ?_
   refine sS rfl rfl rfl (z0p rfl rfl rfl) ?_
   refine sAx (z00 ?_)
   refine cBx ?_
   refine z0a ?_
   change ∃ xs, _ = some xs ∧ EndOk _ _ _ _
   obtain rfl := Option.some.inj h
   exact ⟨_, rfl, z0d (y := (BO ((x5 == 0)))) (Wk.refl _) rfl ⟨rfl, rfl⟩⟩
  ·intro hb4; replace h := z03 hb4 h
   refine z0h rfl rfl rfl rfl rfl rfl ?_
   refine z0h rfl rfl rfl rfl rfl rfl ?_
   refine z0h rfl rfl rfl rfl rfl rfl ?_
   refine z0h rfl rfl rfl rfl rfl rfl ?_
   refine sS rfl rfl rfl (z0i rfl rfl rfl) ?_
   refine sAx (z00 ?_)
   refine cBx ?_
   refine z0a ?_
   change ∃ xs, _ = some xs ∧ EndOk _ _ _ _
   obtain rfl := Option.some.inj h
   exact ⟨_, rfl, z0d (y := (BO false)) (Wk.refl _) rfl ⟨rfl, rfl⟩⟩
 ·intro hb3; replace h := z03 hb3 h
  refine z0h rfl rfl rfl rfl rfl rfl ?_
  refine z0h rfl rfl rfl rfl rfl rfl ?_
  refine sS rfl rfl rfl (z0i rfl rfl rfl) ?_
  refine sMx ?_
  refine z0h rfl rfl rfl rfl rfl rfl ?_
  refine z0h rfl rfl rfl rfl rfl rfl ?_
  refine z0h rfl rfl rfl rfl rfl rfl ?_
  refine z0h rfl rfl rfl rfl rfl rfl ?_
  refine sS rfl rfl rfl (z0i rfl rfl rfl) ?_
  refine sAx (z00 ?_)
  refine cBx ?_
  refine z0a ?_
  change ∃ xs, _ = some xs ∧ EndOk _ _ _ _
  obtain rfl := Option.some.inj h
  exact ⟨_, rfl, z0d (y := (BO false)) (Wk.refl _) rfl ⟨rfl, rfl⟩⟩
noncomputable def zqq (a0 : V) : Option (Int × Int × Int) :=
 Option.bind (zg2 (S_value_count.mk 0 0 0) a0 1) fun x1 =>
 bif (!x1.1) then (
  some (0, 0, (x1.2).f_why)
 ) else (
  some ((x1.2).f_n, (x1.2).f_deep, 0)
 )
theorem Z3k (a0 : V) (r : (Int × Int × Int)) (h : zqq a0 = some r) : z0g Try.prog 115 [(ofV a0)] (PV.tup [(I64 r.1), (I64 r.2.1), (I64 r.2.2)]) := by
 unfold zqq at h
 refine z0w Try.func115 rfl Try.ntmps115 Try.results115 rfl (z10 ?_)
 change BW _ _ _ ⟨[(0, (ofV a0))], [], _⟩ _
 refine bR ?_
 refine sAx ?_
 refine sAx ?_
 refine sAx (z00 ?_)
 refine cBx ?_
 refine bR ?_
 refine sS rfl rfl rfl (z1j zs8 rfl) (z00 ?_)
 refine cBx ?_
 refine z0o ?_
 refine bR ?_
 refine sMx ?_
 obtain ⟨x1, hx1, h⟩ := obind h
 refine sS rfl rfl rfl (z3k 0 rfl zvo rfl (.cons (Wk.refl _) (.cons (Wk.refl _) (.cons (Wk.refl _) .nil))) (.box (.val (ids_V a0) (.val rfl .nil))) rfl (z0u rfl (z0u rfl (z0u rfl rfl))) (Z0t (S_value_count.mk 0 0 0) a0 1 x1 hx1) rfl (z0u rfl (z0u rfl (z0u rfl rfl)))) ?_
 refine sS rfl rfl rfl (z2a rfl rfl) (z00 ?_)
 refine cBx ?_
 refine z05 rfl ?_ ?_
 ·intro hc2; replace h := z02 hc2 h
  refine z0o (z2e 4 [] [0] mo (by kernel_rfl) ?_)
  refine z0y rfl rfl rfl rfl (fun H hp => z0e z7j (i := 2) rfl rfl rfl) ?_
  refine z0y rfl rfl rfl rfl (fun H hp => (z0n Try.underlying39 rfl rfl rfl (hp.at rfl rfl) rfl)) ?_
  refine z0y rfl rfl rfl rfl (fun H hp => z4h rfl rfl) ?_
  refine z0y rfl rfl rfl rfl (fun H hp => z4h rfl rfl) ?_
  refine z2b ?_
  change AO _ _ _ _ _
  refine sAx (z00 ?_)
  refine cBx ?_
  refine z0a ?_
  change ∃ xs, _ = some xs ∧ EndOk _ _ _ _
  obtain rfl := Option.some.inj h
  exact ⟨_, rfl, z0d (y := (PV.tup [(I64 0), (I64 0), (I64 ((x1.2).f_why))])) (Wk.refl _) (z04 rfl (z04 rfl (z04 rfl z0r))) ⟨rfl, rfl⟩⟩
 ·intro hc2; replace h := z03 hc2 h
  refine z0l ?_
  refine cBx ?_
  refine z0o (z2e 5 [] [0] mo (by kernel_rfl) ?_)
  refine z0y rfl rfl rfl rfl (fun H hp => z0e z7j (i := 0) rfl rfl rfl) ?_
  refine z0y rfl rfl rfl rfl (fun H hp => (z0n Try.underlying3 rfl rfl rfl (hp.at rfl rfl) rfl)) ?_
  refine z0y rfl rfl rfl rfl (fun H hp => z0e z7j (i := 1) rfl rfl rfl) ?_
  refine z0y rfl rfl rfl rfl (fun H hp => (z0n Try.underlying3 rfl rfl rfl (hp.at rfl rfl) rfl)) ?_
  refine z0y rfl rfl rfl rfl (fun H hp => z4h rfl rfl) ?_
  refine z2b ?_
  change AO _ _ _ _ _
  refine sAx ?_
  refine sAx (z00 ?_)
  refine cBx ?_
  refine z0a ?_
  change ∃ xs, _ = some xs ∧ EndOk _ _ _ _
  obtain rfl := Option.some.inj h
  exact ⟨_, rfl, z0d (y := (PV.tup [(I64 ((x1.2).f_n)), (I64 ((x1.2).f_deep)), (I64 0)])) (Wk.refl _) (z04 rfl (z04 rfl (z04 rfl z0r))) ⟨rfl, rfl⟩⟩
noncomputable def znq (a0 : V) : Option Int :=
 Option.bind (zqq a0) fun x1 =>
 some x1.1
theorem Z0m (a0 : V) (r : Int) (h : znq a0 = some r) : z0g Try.prog 89 [(ofV a0)] (I64 r) := by
 unfold znq at h
 refine z0w Try.func89 rfl Try.ntmps89 Try.results89 rfl (z10 ?_)
 change BW _ _ _ ⟨[(0, (ofV a0))], [], _⟩ _
 refine bR ?_
 refine sAx (z00 ?_)
 refine cBx ?_
 refine bR ?_
 refine sMx ?_
 obtain ⟨x1, hx1, h⟩ := obind h
 refine sS rfl rfl rfl (z0b rfl Z2g rfl (.cons (Wk.refl _) .nil) ⟨(ids_V a0), trivial⟩ (Z3k a0 x1 hx1) (z04 rfl (z04 rfl (z04 rfl z0r)))) ?_
 refine sMx ?_
 refine sS rfl rfl rfl (z0j rfl rfl rfl) ?_
 refine sS rfl rfl rfl (z0j rfl rfl rfl) ?_
 refine sS rfl rfl rfl (z0j rfl rfl rfl) ?_
 refine sAx ?_
 refine sAx ?_
 refine sAx (z00 ?_)
 refine cBx ?_
 refine bR ?_
 refine sMx ?_
 refine sAx (z00 ?_)
 refine cBx ?_
 refine z0a ?_
 change ∃ xs, _ = some xs ∧ EndOk _ _ _ _
 obtain rfl := Option.some.inj h
 exact ⟨_, rfl, z0d (y := (I64 x1.1)) (Wk.refl _) rfl ⟨rfl, rfl⟩⟩
noncomputable def z9i (g1 : Int → Int → Int → Option (Bool × Int)) (s2 : Int) (s3 : Int) (x5 : (Str × V)) (s11 : Int) : Option (Bool × Int) :=
 Option.bind (znq x5.2) fun x12 =>
 g1 s11 (IntKind.i64.wrap (s2 + x12)) (IntKind.i64.wrap (s3 + 1))
theorem zpz (g1 : OF ρ → Int → Int → Int → Option (Bool × Int)) (h_g1 : ∀ y0 y1 y2, CM (fun G => g1 G y0 y1 y2)) (s2 : Int) (s3 : Int) (x5 : (Str × V)) (s11 : Int) : CM (fun G : OF ρ => z9i (g1 G) s2 s3 x5 s11) := by
 simp only [z9i]
 repeat (first | exact z0c | exact h_g1 _ _ _ | refine z14 ?_ ?_ | refine z15 ?_ (fun _ => ?_))
noncomputable def z9h (r_q22 : V → Typ → Int → Option (Bool × Int)) (g1 : Int → Int → Int → Option (Bool × Int)) (a1 : Typ) (a2 : Int) (s2 : Int) (s3 : Int) (x5 : (Str × V)) (s6 : Int) (s13 : Bool) : Option (Bool × Int) :=
 bif s13 then (
  Option.bind (zc1 a1.parts s6) fun x15 =>
  Option.bind (r_q22 x5.2 x15 s2) fun x16 =>
  bif (!x16.1) then (
   some (false, x16.2)
  ) else (
   z9i g1 s2 s3 x5 (IntKind.i64.wrap (s6 + 1))
  )
 ) else (
  bif (!a1.opn) then (
   some (false, a2)
  ) else (
   z9i g1 s2 s3 x5 s6
  )
 )
theorem zpy (r_q22 : OF ρ → V → Typ → Int → Option (Bool × Int)) (h_r_q22 : ∀ y0 y1 y2, CM (fun G => r_q22 G y0 y1 y2)) (g1 : OF ρ → Int → Int → Int → Option (Bool × Int)) (h_g1 : ∀ y0 y1 y2, CM (fun G => g1 G y0 y1 y2)) (a1 : Typ) (a2 : Int) (s2 : Int) (s3 : Int) (x5 : (Str × V)) (s6 : Int) (s13 : Bool) : CM (fun G : OF ρ => z9h (r_q22 G) (g1 G) a1 a2 s2 s3 x5 s6 s13) := by
 simp only [z9h]
 repeat (first | exact z0c | exact h_r_q22 _ _ _ | exact h_g1 _ _ _ | apply zpz | refine z14 ?_ ?_ | refine z15 ?_ (fun _ => ?_) | intro _ | assumption)
noncomputable def z9j (r_q22 : V → Typ → Int → Option (Bool × Int)) (g1 : Int → Int → Int → Option (Bool × Int)) (g2 : Int → Option (Bool × Int)) (a1 : Typ) (a2 : Int) (s2 : Int) (s3 : Int) (x5 : (Str × V)) (s6 : Int) (s7 : Bool) : Option (Bool × Int) :=
 bif s7 then (
  Option.bind (zc1 a1.lacks s6) fun x9 =>
  bif (!x9) then (
   some (false, a2)
  ) else (
   g2 (IntKind.i64.wrap (s6 + 1))
  )
 ) else (
  bif (decide (s6 < (((a1.names).length : Nat) : Int))) then (
   Option.bind (zc1 a1.names s6) fun x20 =>
   z9h r_q22 g1 a1 a2 s2 s3 x5 s6 (x20 == x5.1)
  ) else (
   z9h r_q22 g1 a1 a2 s2 s3 x5 s6 false
  )
 )
theorem zq0 (r_q22 : OF ρ → V → Typ → Int → Option (Bool × Int)) (h_r_q22 : ∀ y0 y1 y2, CM (fun G => r_q22 G y0 y1 y2)) (g1 : OF ρ → Int → Int → Int → Option (Bool × Int)) (h_g1 : ∀ y0 y1 y2, CM (fun G => g1 G y0 y1 y2)) (g2 : OF ρ → Int → Option (Bool × Int)) (h_g2 : ∀ y0, CM (fun G => g2 G y0)) (a1 : Typ) (a2 : Int) (s2 : Int) (s3 : Int) (x5 : (Str × V)) (s6 : Int) (s7 : Bool) : CM (fun G : OF ρ => z9j (r_q22 G) (g1 G) (g2 G) a1 a2 s2 s3 x5 s6 s7) := by
 simp only [z9j]
 repeat (first | exact z0c | exact h_r_q22 _ _ _ | exact h_g1 _ _ _ | exact h_g2 _ | apply zpy | refine z14 ?_ ?_ | refine z15 ?_ (fun _ => ?_) | intro _ | assumption)
noncomputable def z72 (r_q22 : V → Typ → Int → Option (Bool × Int)) (g1 : Int → Int → Int → Option (Bool × Int)) (a1 : Typ) (a2 : Int) (s2 : Int) (s3 : Int) (x5 : (Str × V)) (g2 : Int → Option (Bool × Int)) (s6 : Int) : Option (Bool × Int) :=
 bif (decide (s6 < (((a1.names).length : Nat) : Int))) then (
  Option.bind (zc1 a1.names s6) fun x22 =>
  z9j r_q22 g1 g2 a1 a2 s2 s3 x5 s6 (Op.bytesLess x22 x5.1)
 ) else (
  z9j r_q22 g1 g2 a1 a2 s2 s3 x5 s6 false
 )
theorem zax (r_q22 : OF ρ → V → Typ → Int → Option (Bool × Int)) (h_r_q22 : ∀ y0 y1 y2, CM (fun G => r_q22 G y0 y1 y2)) (g1 : OF ρ → Int → Int → Int → Option (Bool × Int)) (h_g1 : ∀ y0 y1 y2, CM (fun G => g1 G y0 y1 y2)) (g2 : OF ρ → Int → Option (Bool × Int)) (h_g2 : ∀ y0, CM (fun G => g2 G y0)) (a1 : Typ) (a2 : Int) (s2 : Int) (s3 : Int) (x5 : (Str × V)) (s6 : Int) : CM (fun G : OF ρ => z72 (r_q22 G) (g1 G) a1 a2 s2 s3 x5 (g2 G) s6) := by
 simp only [z72]
 repeat (first | exact z0c | exact h_r_q22 _ _ _ | exact h_g1 _ _ _ | exact h_g2 _ | apply zq0 | refine z14 ?_ ?_ | refine z15 ?_ (fun _ => ?_) | intro _ | assumption)
noncomputable def zd2 (r_q22 : V → Typ → Int → Option (Bool × Int)) (g1 : Int → Int → Int → Option (Bool × Int)) (a1 : Typ) (a2 : Int) (s2 : Int) (s3 : Int) (x5 : (Str × V)) (s6 : Int) : Option (Bool × Int) :=
 z38 (ι := Int) (ρ := fun _ => (Bool × Int)) (fun g i => z72 r_q22 g1 a1 a2 s2 s3 x5 (fun s6 => g s6) i) s6
theorem zpv (r_q22 : V → Typ → Int → Option (Bool × Int)) (g1 : Int → Int → Int → Option (Bool × Int)) (a1 : Typ) (a2 : Int) (s2 : Int) (s3 : Int) (x5 : (Str × V)) (s6 : Int) : zd2 r_q22 g1 a1 a2 s2 s3 x5 s6 = z72 r_q22 g1 a1 a2 s2 s3 x5 (zd2 r_q22 g1 a1 a2 s2 s3 x5) s6 :=
 z1d (ι := Int) (ρ := fun _ => (Bool × Int)) (Φ := fun g i => z72 r_q22 g1 a1 a2 s2 s3 x5 (fun s6 => g s6) i) (fun i => zax (ι := Int) (ρ := fun _ => (Bool × Int)) (fun _ => r_q22) (fun _ _ _ => z0c) (fun _ => g1) (fun _ _ _ => z0c) (fun g => (fun s6 => g s6)) (fun _ => z1c) a1 a2 s2 s3 x5 i) s6
theorem zpw (r_q22 : OF ρ → V → Typ → Int → Option (Bool × Int)) (h_r_q22 : ∀ y0 y1 y2, CM (fun G => r_q22 G y0 y1 y2)) (g1 : OF ρ → Int → Int → Int → Option (Bool × Int)) (h_g1 : ∀ y0 y1 y2, CM (fun G => g1 G y0 y1 y2)) (a1 : Typ) (a2 : Int) (s2 : Int) (s3 : Int) (x5 : (Str × V)) (s6 : Int) : CM (fun G : OF ρ => zd2 (r_q22 G) (g1 G) a1 a2 s2 s3 x5 s6) :=
 z3o (κ := Int) (τ := fun _ => (Bool × Int)) (Φ := fun G g i => z72 (r_q22 G) (g1 G) a1 a2 s2 s3 x5 (fun s6 => g s6) i) (fun g i => zax r_q22 h_r_q22 g1 h_g1 (fun _ => (fun s6 => g s6)) (fun _ => z0c) a1 a2 s2 s3 x5 i) (fun G i => zax (ι := Int) (ρ := fun _ => (Bool × Int)) (fun _ => r_q22 G) (fun _ _ _ => z0c) (fun _ => g1 G) (fun _ _ _ => z0c) (fun g => (fun s6 => g s6)) (fun _ => z1c) a1 a2 s2 s3 x5 i) s6
noncomputable def z71 (a1 : Typ) (a2 : Int) (g2 : Int → Option (Bool × Int)) (s23 : Int) : Option (Bool × Int) :=
 bif (decide (s23 < (((a1.names).length : Nat) : Int))) then (
  Option.bind (zc1 a1.lacks s23) fun x25 =>
  bif (!x25) then (
   some (false, a2)
  ) else (
   g2 (IntKind.i64.wrap (s23 + 1))
  )
 ) else (
  some (true, 0)
 )
theorem znc (g2 : OF ρ → Int → Option (Bool × Int)) (h_g2 : ∀ y0, CM (fun G => g2 G y0)) (a1 : Typ) (a2 : Int) (s23 : Int) : CM (fun G : OF ρ => z71 a1 a2 (g2 G) s23) := by
 simp only [z71]
 repeat (first | exact z0c | exact h_g2 _ | refine z14 ?_ ?_ | refine z15 ?_ (fun _ => ?_))
noncomputable def zhl (a1 : Typ) (a2 : Int) (s23 : Int) : Option (Bool × Int) :=
 z38 (ι := Int) (ρ := fun _ => (Bool × Int)) (fun g i => z71 a1 a2 (fun s23 => g s23) i) s23
theorem zhk (a1 : Typ) (a2 : Int) (s23 : Int) : zhl a1 a2 s23 = z71 a1 a2 (zhl a1 a2) s23 :=
 z1d (ι := Int) (ρ := fun _ => (Bool × Int)) (Φ := fun g i => z71 a1 a2 (fun s23 => g s23) i) (fun i => znc (ι := Int) (ρ := fun _ => (Bool × Int)) (fun g => (fun s23 => g s23)) (fun _ => z1c) a1 a2 i) s23
noncomputable def z54 (r_q22 : V → Typ → Int → Option (Bool × Int)) (a0 : (List (Str × V))) (a1 : Typ) (a2 : Int) (g1 : Int → Int → Int → Option (Bool × Int)) (s1 : Int) (s2 : Int) (s3 : Int) : Option (Bool × Int) :=
 bif (decide (s3 < (((a0).length : Nat) : Int))) then (
  Option.bind (zc1 a0 s3) fun x5 =>
  zd2 r_q22 g1 a1 a2 s2 s3 x5 s1
 ) else (
  zhl a1 a2 s1
 )
theorem zay (r_q22 : OF ρ → V → Typ → Int → Option (Bool × Int)) (h_r_q22 : ∀ y0 y1 y2, CM (fun G => r_q22 G y0 y1 y2)) (g1 : OF ρ → Int → Int → Int → Option (Bool × Int)) (h_g1 : ∀ y0 y1 y2, CM (fun G => g1 G y0 y1 y2)) (a0 : (List (Str × V))) (a1 : Typ) (a2 : Int) (s1 : Int) (s2 : Int) (s3 : Int) : CM (fun G : OF ρ => z54 (r_q22 G) a0 a1 a2 (g1 G) s1 s2 s3) := by
 simp only [z54]
 repeat (first | exact z0c | exact h_r_q22 _ _ _ | exact h_g1 _ _ _ | apply zpw | apply q0s_l3_cm | refine z14 ?_ ?_ | refine z15 ?_ (fun _ => ?_) | intro _ | assumption)
noncomputable def z9g (r_q22 : V → Typ → Int → Option (Bool × Int)) (a0 : (List (Str × V))) (a1 : Typ) (a2 : Int) (s1 : Int) (s2 : Int) (s3 : Int) : Option (Bool × Int) :=
 z38 (ι := (Int × Int × Int)) (ρ := fun _ => (Bool × Int)) (fun g i => z54 r_q22 a0 a1 a2 (fun s1 s2 s3 => g (s1, s2, s3)) i.1 i.2.1 i.2.2) (s1, s2, s3)
theorem zd3 (r_q22 : V → Typ → Int → Option (Bool × Int)) (a0 : (List (Str × V))) (a1 : Typ) (a2 : Int) (s1 : Int) (s2 : Int) (s3 : Int) : z9g r_q22 a0 a1 a2 s1 s2 s3 = z54 r_q22 a0 a1 a2 (z9g r_q22 a0 a1 a2) s1 s2 s3 :=
 z1d (ι := (Int × Int × Int)) (ρ := fun _ => (Bool × Int)) (Φ := fun g i => z54 r_q22 a0 a1 a2 (fun s1 s2 s3 => g (s1, s2, s3)) i.1 i.2.1 i.2.2) (fun i => zay (ι := (Int × Int × Int)) (ρ := fun _ => (Bool × Int)) (fun _ => r_q22) (fun _ _ _ => z0c) (fun g => (fun s1 s2 s3 => g (s1, s2, s3))) (fun _ _ _ => z1c) a0 a1 a2 i.1 i.2.1 i.2.2) (s1, s2, s3)
theorem zpx (r_q22 : OF ρ → V → Typ → Int → Option (Bool × Int)) (h_r_q22 : ∀ y0 y1 y2, CM (fun G => r_q22 G y0 y1 y2)) (a0 : (List (Str × V))) (a1 : Typ) (a2 : Int) (s1 : Int) (s2 : Int) (s3 : Int) : CM (fun G : OF ρ => z9g (r_q22 G) a0 a1 a2 s1 s2 s3) :=
 z3o (κ := (Int × Int × Int)) (τ := fun _ => (Bool × Int)) (Φ := fun G g i => z54 (r_q22 G) a0 a1 a2 (fun s1 s2 s3 => g (s1, s2, s3)) i.1 i.2.1 i.2.2) (fun g i => zay r_q22 h_r_q22 (fun _ => (fun s1 s2 s3 => g (s1, s2, s3))) (fun _ _ _ => z0c) a0 a1 a2 i.1 i.2.1 i.2.2) (fun G i => zay (ι := (Int × Int × Int)) (ρ := fun _ => (Bool × Int)) (fun _ => r_q22 G) (fun _ _ _ => z0c) (fun g => (fun s1 s2 s3 => g (s1, s2, s3))) (fun _ _ _ => z1c) a0 a1 a2 i.1 i.2.1 i.2.2) (s1, s2, s3)
noncomputable def zkw (r_q0s : (List (Str × V)) → Typ → Int → Option (Bool × Int)) (r_q0x : (List V) → Typ → Int → Option (Bool × Int)) (r_q22 : V → Typ → Int → Option (Bool × Int)) (a0 : (List (Str × V))) (a1 : Typ) (a2 : Int) : Option (Bool × Int) :=
 z9g r_q22 a0 a1 a2 0 (IntKind.i64.wrap (a2 + 1)) 0
theorem zwg (r_q0s : OF ρ → (List (Str × V)) → Typ → Int → Option (Bool × Int)) (h_r_q0s : ∀ y0 y1 y2, CM (fun G => r_q0s G y0 y1 y2)) (r_q0x : OF ρ → (List V) → Typ → Int → Option (Bool × Int)) (h_r_q0x : ∀ y0 y1 y2, CM (fun G => r_q0x G y0 y1 y2)) (r_q22 : OF ρ → V → Typ → Int → Option (Bool × Int)) (h_r_q22 : ∀ y0 y1 y2, CM (fun G => r_q22 G y0 y1 y2)) (a0 : (List (Str × V))) (a1 : Typ) (a2 : Int) : CM (fun G : OF ρ => zkw (r_q0s G) (r_q0x G) (r_q22 G) a0 a1 a2) := by
 simp only [zkw]
 repeat (first | exact z0c | exact h_r_q0s _ _ _ | exact h_r_q0x _ _ _ | exact h_r_q22 _ _ _ | apply zpx | refine z14 ?_ ?_ | refine z15 ?_ (fun _ => ?_) | intro _ | assumption)
noncomputable def z5z (r_q22 : V → Typ → Int → Option (Bool × Int)) (a0 : (List V)) (a1 : Typ) (g1 : Int → Nat → Option (Bool × Int)) (s1 : Int) (s2 : Nat) : Option (Bool × Int) :=
 bif (decide (((s2 : Nat) : Int) < (((a0).length : Nat) : Int))) then (
  Option.bind ((a0)[s2]?) fun x5 =>
  Option.bind (r_q22 x5 a1 s1) fun x6 =>
  bif (!x6.1) then (
   some (false, x6.2)
  ) else (
   Option.bind (znq x5) fun x8 =>
   g1 (IntKind.i64.wrap (s1 + x8)) (s2 + 1)
  )
 ) else (
  some (true, 0)
 )
theorem zav (r_q22 : OF ρ → V → Typ → Int → Option (Bool × Int)) (h_r_q22 : ∀ y0 y1 y2, CM (fun G => r_q22 G y0 y1 y2)) (g1 : OF ρ → Int → Nat → Option (Bool × Int)) (h_g1 : ∀ y0 y1, CM (fun G => g1 G y0 y1)) (a0 : (List V)) (a1 : Typ) (s1 : Int) (s2 : Nat) : CM (fun G : OF ρ => z5z (r_q22 G) a0 a1 (g1 G) s1 s2) := by
 simp only [z5z]
 repeat (first | exact z0c | exact h_r_q22 _ _ _ | exact h_g1 _ _ | refine z14 ?_ ?_ | refine z15 ?_ (fun _ => ?_))
noncomputable def zex (r_q22 : V → Typ → Int → Option (Bool × Int)) (a0 : (List V)) (a1 : Typ) (s1 : Int) (s2 : Nat) : Option (Bool × Int) :=
 z38 (ι := (Int × Nat)) (ρ := fun _ => (Bool × Int)) (fun g i => z5z r_q22 a0 a1 (fun s1 s2 => g (s1, s2)) i.1 i.2) (s1, s2)
theorem zhg (r_q22 : V → Typ → Int → Option (Bool × Int)) (a0 : (List V)) (a1 : Typ) (s1 : Int) (s2 : Nat) : zex r_q22 a0 a1 s1 s2 = z5z r_q22 a0 a1 (zex r_q22 a0 a1) s1 s2 :=
 z1d (ι := (Int × Nat)) (ρ := fun _ => (Bool × Int)) (Φ := fun g i => z5z r_q22 a0 a1 (fun s1 s2 => g (s1, s2)) i.1 i.2) (fun i => zav (ι := (Int × Nat)) (ρ := fun _ => (Bool × Int)) (fun _ => r_q22) (fun _ _ _ => z0c) (fun g => (fun s1 s2 => g (s1, s2))) (fun _ _ => z1c) a0 a1 i.1 i.2) (s1, s2)
theorem zpr (r_q22 : OF ρ → V → Typ → Int → Option (Bool × Int)) (h_r_q22 : ∀ y0 y1 y2, CM (fun G => r_q22 G y0 y1 y2)) (a0 : (List V)) (a1 : Typ) (s1 : Int) (s2 : Nat) : CM (fun G : OF ρ => zex (r_q22 G) a0 a1 s1 s2) :=
 z3o (κ := (Int × Nat)) (τ := fun _ => (Bool × Int)) (Φ := fun G g i => z5z (r_q22 G) a0 a1 (fun s1 s2 => g (s1, s2)) i.1 i.2) (fun g i => zav r_q22 h_r_q22 (fun _ => (fun s1 s2 => g (s1, s2))) (fun _ _ => z0c) a0 a1 i.1 i.2) (fun G i => zav (ι := (Int × Nat)) (ρ := fun _ => (Bool × Int)) (fun _ => r_q22 G) (fun _ _ _ => z0c) (fun g => (fun s1 s2 => g (s1, s2))) (fun _ _ => z1c) a0 a1 i.1 i.2) (s1, s2)
noncomputable def zku (r_q0s : (List (Str × V)) → Typ → Int → Option (Bool × Int)) (r_q0x : (List V) → Typ → Int → Option (Bool × Int)) (r_q22 : V → Typ → Int → Option (Bool × Int)) (a0 : (List V)) (a1 : Typ) (a2 : Int) : Option (Bool × Int) :=
 zex r_q22 a0 a1 (IntKind.i64.wrap (a2 + 1)) 0
theorem zwd (r_q0s : OF ρ → (List (Str × V)) → Typ → Int → Option (Bool × Int)) (h_r_q0s : ∀ y0 y1 y2, CM (fun G => r_q0s G y0 y1 y2)) (r_q0x : OF ρ → (List V) → Typ → Int → Option (Bool × Int)) (h_r_q0x : ∀ y0 y1 y2, CM (fun G => r_q0x G y0 y1 y2)) (r_q22 : OF ρ → V → Typ → Int → Option (Bool × Int)) (h_r_q22 : ∀ y0 y1 y2, CM (fun G => r_q22 G y0 y1 y2)) (a0 : (List V)) (a1 : Typ) (a2 : Int) : CM (fun G : OF ρ => zku (r_q0s G) (r_q0x G) (r_q22 G) a0 a1 a2) := by
 simp only [zku]
 repeat (first | exact z0c | exact h_r_q0s _ _ _ | exact h_r_q0x _ _ _ | exact h_r_q22 _ _ _ | apply zpr | refine z14 ?_ ?_ | refine z15 ?_ (fun _ => ?_) | intro _ | assumption)
noncomputable def z6e (a2 : Int) (s1 : Bool) : Option (Bool × Int) :=
 bif s1 then (
  some (true, 0)
 ) else (
  some (false, a2)
 )
noncomputable def z5p (r_q22 : V → Typ → Int → Option (Bool × Int)) (a0 : V) (a1 : Typ) (a2 : Int) (g1 : Nat → Option (Bool × Int)) (s13 : Nat) : Option (Bool × Int) :=
 bif (decide (((s13 : Nat) : Int) < (((a1.parts).length : Nat) : Int))) then (
  Option.bind ((a1.parts)[s13]?) fun x16 =>
  Option.bind (r_q22 a0 x16 a2) fun x17 =>
  bif x17.1 then (
   some (true, 0)
  ) else (
   g1 (s13 + 1)
  )
 ) else (
  z6e a2 false
 )
theorem zam (r_q22 : OF ρ → V → Typ → Int → Option (Bool × Int)) (h_r_q22 : ∀ y0 y1 y2, CM (fun G => r_q22 G y0 y1 y2)) (g1 : OF ρ → Nat → Option (Bool × Int)) (h_g1 : ∀ y0, CM (fun G => g1 G y0)) (a0 : V) (a1 : Typ) (a2 : Int) (s13 : Nat) : CM (fun G : OF ρ => z5p (r_q22 G) a0 a1 a2 (g1 G) s13) := by
 simp only [z5p]
 repeat (first | exact z0c | exact h_r_q22 _ _ _ | exact h_g1 _ | apply q22_j1_cm | refine z14 ?_ ?_ | refine z15 ?_ (fun _ => ?_) | intro _ | assumption)
noncomputable def zek (r_q22 : V → Typ → Int → Option (Bool × Int)) (a0 : V) (a1 : Typ) (a2 : Int) (s13 : Nat) : Option (Bool × Int) :=
 z38 (ι := Nat) (ρ := fun _ => (Bool × Int)) (fun g i => z5p r_q22 a0 a1 a2 (fun s13 => g s13) i) s13
theorem zgy (r_q22 : V → Typ → Int → Option (Bool × Int)) (a0 : V) (a1 : Typ) (a2 : Int) (s13 : Nat) : zek r_q22 a0 a1 a2 s13 = z5p r_q22 a0 a1 a2 (zek r_q22 a0 a1 a2) s13 :=
 z1d (ι := Nat) (ρ := fun _ => (Bool × Int)) (Φ := fun g i => z5p r_q22 a0 a1 a2 (fun s13 => g s13) i) (fun i => zam (ι := Nat) (ρ := fun _ => (Bool × Int)) (fun _ => r_q22) (fun _ _ _ => z0c) (fun g => (fun s13 => g s13)) (fun _ => z1c) a0 a1 a2 i) s13
theorem zp5 (r_q22 : OF ρ → V → Typ → Int → Option (Bool × Int)) (h_r_q22 : ∀ y0 y1 y2, CM (fun G => r_q22 G y0 y1 y2)) (a0 : V) (a1 : Typ) (a2 : Int) (s13 : Nat) : CM (fun G : OF ρ => zek (r_q22 G) a0 a1 a2 s13) :=
 z3o (κ := Nat) (τ := fun _ => (Bool × Int)) (Φ := fun G g i => z5p (r_q22 G) a0 a1 a2 (fun s13 => g s13) i) (fun g i => zam r_q22 h_r_q22 (fun _ => (fun s13 => g s13)) (fun _ => z0c) a0 a1 a2 i) (fun G i => zam (ι := Nat) (ρ := fun _ => (Bool × Int)) (fun _ => r_q22 G) (fun _ _ _ => z0c) (fun g => (fun s13 => g s13)) (fun _ => z1c) a0 a1 a2 i) s13
noncomputable def zki (r_q0s : (List (Str × V)) → Typ → Int → Option (Bool × Int)) (r_q0x : (List V) → Typ → Int → Option (Bool × Int)) (r_q22 : V → Typ → Int → Option (Bool × Int)) (a0 : V) (a1 : Typ) (a2 : Int) : Option (Bool × Int) :=
 bif (a1.kind == 1) then (
  z6e a2 true
 ) else (
  bif (a1.kind == 3) then (
   Option.bind (znm a0) fun x5 =>
   z6e a2 (x5 == a1.of)
  ) else (
   bif (a1.kind == 4) then (
    Option.bind (ze3 (a1.only)) fun x7 =>
    Option.bind (zqr a0 x7.1) fun x8 =>
    z6e a2 x8
   ) else (
    bif (a1.kind == 8) then (
     bif (a0).isRec then (
      Option.bind ((a0).asRec) fun x11 =>
      z6e a2 (x11.cls == a1.cls)
     ) else (
      z6e a2 false
     )
    ) else (
     bif (a1.kind == 7) then (
      zek r_q22 a0 a1 a2 0
     ) else (
      bif (a1.kind == 5) then (
       bif (a0).isList then (
        Option.bind ((a1.parts)[0]?) fun x21 =>
        Option.bind (r_q0x ((a0).asList) x21 a2) fun x22 =>
        some (x22.1, x22.2)
       ) else (
        z6e a2 false
       )
      ) else (
       bif (a1.kind == 6) then (
        bif (a0).isDict then (
         Option.bind (r_q0s ((a0).asDict) a1 a2) fun x25 =>
         some (x25.1, x25.2)
        ) else (
         z6e a2 false
        )
       ) else (
        z6e a2 false
       )
      )
     )
    )
   )
  )
 )
theorem zw0 (r_q0s : OF ρ → (List (Str × V)) → Typ → Int → Option (Bool × Int)) (h_r_q0s : ∀ y0 y1 y2, CM (fun G => r_q0s G y0 y1 y2)) (r_q0x : OF ρ → (List V) → Typ → Int → Option (Bool × Int)) (h_r_q0x : ∀ y0 y1 y2, CM (fun G => r_q0x G y0 y1 y2)) (r_q22 : OF ρ → V → Typ → Int → Option (Bool × Int)) (h_r_q22 : ∀ y0 y1 y2, CM (fun G => r_q22 G y0 y1 y2)) (a0 : V) (a1 : Typ) (a2 : Int) : CM (fun G : OF ρ => zki (r_q0s G) (r_q0x G) (r_q22 G) a0 a1 a2) := by
 simp only [zki]
 repeat (first | exact z0c | exact h_r_q0s _ _ _ | exact h_r_q0x _ _ _ | exact h_r_q22 _ _ _ | apply q22_j1_cm | apply zp5 | refine z14 ?_ ?_ | refine z15 ?_ (fun _ => ?_) | intro _ | assumption)
inductive C_q0s where
 | k_q0s (a0 : (List (Str × V))) (a1 : Typ) (a2 : Int)
 | k_q0x (a0 : (List V)) (a1 : Typ) (a2 : Int)
 | k_q22 (a0 : V) (a1 : Typ) (a2 : Int)
def C_q0s.R : C_q0s → Type
 | .k_q0s _ _ _ => (Bool × Int)
 | .k_q0x _ _ _ => (Bool × Int)
 | .k_q22 _ _ _ => (Bool × Int)
noncomputable def C_q0s.F (g : ∀ i : C_q0s, Option i.R) : ∀ i : C_q0s, Option i.R
 | .k_q0s a0 a1 a2 => zkw (fun a0 a1 a2 => g (.k_q0s a0 a1 a2)) (fun a0 a1 a2 => g (.k_q0x a0 a1 a2)) (fun a0 a1 a2 => g (.k_q22 a0 a1 a2)) a0 a1 a2
 | .k_q0x a0 a1 a2 => zku (fun a0 a1 a2 => g (.k_q0s a0 a1 a2)) (fun a0 a1 a2 => g (.k_q0x a0 a1 a2)) (fun a0 a1 a2 => g (.k_q22 a0 a1 a2)) a0 a1 a2
 | .k_q22 a0 a1 a2 => zki (fun a0 a1 a2 => g (.k_q0s a0 a1 a2)) (fun a0 a1 a2 => g (.k_q0x a0 a1 a2)) (fun a0 a1 a2 => g (.k_q22 a0 a1 a2)) a0 a1 a2
noncomputable def znu (a0 : (List (Str × V))) (a1 : Typ) (a2 : Int) : Option (Bool × Int) := z38 C_q0s.F (.k_q0s a0 a1 a2)
noncomputable def zns (a0 : (List V)) (a1 : Typ) (a2 : Int) : Option (Bool × Int) := z38 C_q0s.F (.k_q0x a0 a1 a2)
noncomputable def z8j (a0 : V) (a1 : Typ) (a2 : Int) : Option (Bool × Int) := z38 C_q0s.F (.k_q22 a0 a1 a2)
abbrev Z4m := fun (g : ∀ i : C_q0s, Option i.R) a0 a1 a2 => g (.k_q0s a0 a1 a2)
theorem Z4j (a0 : _) (a1 : _) (a2 : _) : CM (ρ := C_q0s.R) (fun g => g (C_q0s.k_q0s a0 a1 a2)) := z1c
abbrev Z4l := fun (g : ∀ i : C_q0s, Option i.R) a0 a1 a2 => g (.k_q0x a0 a1 a2)
theorem Z4i (a0 : _) (a1 : _) (a2 : _) : CM (ρ := C_q0s.R) (fun g => g (C_q0s.k_q0x a0 a1 a2)) := z1c
abbrev Z4k := fun (g : ∀ i : C_q0s, Option i.R) a0 a1 a2 => g (.k_q22 a0 a1 a2)
theorem Z4h (a0 : _) (a1 : _) (a2 : _) : CM (ρ := C_q0s.R) (fun g => g (C_q0s.k_q22 a0 a1 a2)) := z1c
theorem C_q0s.cm (i : C_q0s) : CM (fun g : (∀ i : C_q0s, Option i.R) => C_q0s.F g i) := by
 cases i with
 | k_q0s a0 a1 a2 => exact zwg Z4m Z4j Z4l Z4i Z4k Z4h a0 a1 a2
 | k_q0x a0 a1 a2 => exact zwd Z4m Z4j Z4l Z4i Z4k Z4h a0 a1 a2
 | k_q22 a0 a1 a2 => exact zw0 Z4m Z4j Z4l Z4i Z4k Z4h a0 a1 a2
theorem Z5l (a0 : (List (Str × V))) (a1 : Typ) (a2 : Int) : znu a0 a1 a2 = zkw znu zns z8j a0 a1 a2 := z1d C_q0s.cm (.k_q0s a0 a1 a2)
theorem Z5j (a0 : (List V)) (a1 : Typ) (a2 : Int) : zns a0 a1 a2 = zku znu zns z8j a0 a1 a2 := z1d C_q0s.cm (.k_q0x a0 a1 a2)
theorem Z59 (a0 : V) (a1 : Typ) (a2 : Int) : z8j a0 a1 a2 = zki znu zns z8j a0 a1 a2 := z1d C_q0s.cm (.k_q22 a0 a1 a2)
def C_q0s.Q : ∀ i : C_q0s, i.R → Prop
 | .k_q0s a0 a1 a2 => fun (r : (Bool × Int)) => z0g Try.prog 56 [(PV.sl none 43 2 (List.map z1h a0)), (z07 a1), (I64 a2)] (PV.tup [(BO r.1), (I64 r.2)])
 | .k_q0x a0 a1 a2 => fun (r : (Bool × Int)) => z0g Try.prog 55 [(PV.sl none 20 1 (List.map ofV a0)), (z07 a1), (I64 a2)] (PV.tup [(BO r.1), (I64 r.2)])
 | .k_q22 a0 a1 a2 => fun (r : (Bool × Int)) => z0g Try.prog 31 [(ofV a0), (z07 a1), (I64 a2)] (PV.tup [(BO r.1), (I64 r.2)])
theorem zcq (r_q0s : (List (Str × V)) → Typ → Int → Option (Bool × Int)) (c_q0s : ∀ (a0 : (List (Str × V))) (a1 : Typ) (a2 : Int) r, r_q0s a0 a1 a2 = some r → z0g Try.prog 56 [(PV.sl none 43 2 (List.map z1h a0)), (z07 a1), (I64 a2)] (PV.tup [(BO r.1), (I64 r.2)])) (r_q0x : (List V) → Typ → Int → Option (Bool × Int)) (c_q0x : ∀ (a0 : (List V)) (a1 : Typ) (a2 : Int) r, r_q0x a0 a1 a2 = some r → z0g Try.prog 55 [(PV.sl none 20 1 (List.map ofV a0)), (z07 a1), (I64 a2)] (PV.tup [(BO r.1), (I64 r.2)])) (r_q22 : V → Typ → Int → Option (Bool × Int)) (c_q22 : ∀ (a0 : V) (a1 : Typ) (a2 : Int) r, r_q22 a0 a1 a2 = some r → z0g Try.prog 31 [(ofV a0), (z07 a1), (I64 a2)] (PV.tup [(BO r.1), (I64 r.2)])) (a0 : (List (Str × V))) (a1 : Typ) (a2 : Int) (r : (Bool × Int)) (h : zkw r_q0s r_q0x r_q22 a0 a1 a2 = some r) : z0g Try.prog 56 [(PV.sl none 43 2 (List.map z1h a0)), (z07 a1), (I64 a2)] (PV.tup [(BO r.1), (I64 r.2)]) := by
 unfold zkw at h
 refine z0w Try.func56 rfl Try.ntmps56 Try.results56 rfl (z10 ?_)
 change BW _ _ _ ⟨[(0, (PV.sl none 43 2 (List.map z1h a0))), (1, (z07 a1)), (2, (I64 a2))], [], _⟩ _
 refine bR ?_
 refine sS rfl rfl rfl (z1x rfl rfl rfl) ?_
 refine sAx ?_
 refine sAx (z00 ?_)
 refine cBx ?_
 refine bR ?_
 refine sMx ?_
 refine sS rfl rfl rfl (z3a rfl rfl rfl) ?_
 refine sAx ?_
 refine sAx (z00 ?_)
 refine cBx ?_
 refine z0o ?_
 refine bR ?_
 refine sMx ?_
 refine sS rfl rfl rfl (z17 Try.underlying45 rfl rfl) ?_
 refine sMx (z00 ?_)
 refine cBx ?_
 refine z0x ?_
 refine cBx ?_
 unfold z9g at h
 refine z26 (σ := (Int × Int × Int)) (fun i => [(2, (I64 a2)), (4, (PV.rf 0 0)), (8, (I64 i.1)), (9, (I64 i.2.1)), (16, (PV.sl none 43 2 (List.map z1h a0))), (17, (I64 ((((a0).length : Nat) : Int)))), (18, (I64 i.2.2))]) (fun i => [.box 34 (z1r a1)]) (0, (IntKind.i64.wrap (a2 + 1)), 0) h ?_ ?_ ?_
 ·intro i; exact ⟨lbE rfl, ⟨(z01 rfl), ⟨(il_rf rfl), ⟨(z01 rfl), ⟨(z01 rfl), ⟨(z01 (z0q z1z _)), ⟨(z01 rfl), ⟨(z01 rfl), trivial⟩⟩⟩⟩⟩⟩⟩, ⟨wfC34, trivial⟩⟩
 ·exact ⟨(.cons .same .nil), (sC rfl (sC rfl (sC rfl (sC rfl (sC rfl (sC rfl (sC rfl z09)))))))⟩
 ·rintro g1_f ⟨s1, s2, s3⟩ h; replace h : z54 r_q22 a0 a1 a2 (fun y0 y1 y2 => g1_f (y0, y1, y2)) s1 s2 s3 = some r := h; unfold z54 at h
  change BW _ _ _ ⟨[(2, (I64 a2)), (4, (PV.rf 0 0)), (8, (I64 s1)), (9, (I64 s2)), (16, (PV.sl none 43 2 (List.map z1h a0))), (17, (I64 ((((a0).length : Nat) : Int)))), (18, (I64 s3))], [.box 34 (z1r a1)], _⟩ _
  refine bR ?_
  refine sS rfl rfl rfl ((z06 rfl rfl rfl rfl).cast (y := (BO ((decide (s3 < (((a0).length : Nat) : Int)))))) rfl rfl) (z00 ?_)
  refine cBx ?_
  refine z0o ?_
  refine z05 rfl ?_ ?_
  ·intro hc4; replace h := z02 hc4 h
   refine z0l ?_
   refine cBx ?_
   refine z0o ?_
   refine z0x ?_
   refine cBx ?_
   refine bR ?_
   obtain ⟨x5, hx5, h⟩ := obind h
   refine sS rfl rfl rfl (z47 Try.underlying45 z2d rfl rfl rfl hx5 rfl) ?_
   refine sS rfl rfl rfl (z1s z2d Try.underlying43 rfl rfl rfl rfl rfl) ?_
   refine sS rfl rfl rfl ((z1j z2d rfl).cast (H'' := [.box 34 (z1r a1), .box 43 [(z0f []), (ofV V.nil)]]) rfl (by simp only [mk_nil]; rfl)) ?_
   refine z11 rfl rfl (z0v z2d rfl rfl rfl rfl rfl rfl (lbE rfl) (by show List.all [(z0f x5.1), (ofV x5.2)] z96 = true; simp only [List.all_cons, List.all_nil, zg4, z7d, Bool.and_true, Bool.true_and]; try rfl)) ?_
   refine z00 ?_
   refine cBx ?_
   refine z0o ?_
   refine z0x ?_
   refine cBx ?_
   unfold zd2 at h
   refine z26 (σ := Int) (fun i => [(2, (I64 a2)), (4, (PV.rf 0 0)), (8, (I64 i)), (9, (I64 s2)), (11, (PV.rf 1 0)), (16, (PV.sl none 43 2 (List.map z1h a0))), (17, (I64 ((((a0).length : Nat) : Int)))), (18, (I64 s3))]) (fun i => [.box 34 (z1r a1), .box 43 [(z0f x5.1), (ofV x5.2)]]) s1 h ?_ ?_ ?_
   ·intro i; exact ⟨lbE rfl, ⟨(z01 rfl), ⟨(il_rf rfl), ⟨(z01 rfl), ⟨(z01 rfl), ⟨(il_rf rfl), ⟨(z01 (z0q z1z _)), ⟨(z01 rfl), ⟨(z01 rfl), trivial⟩⟩⟩⟩⟩⟩⟩⟩, ⟨wfC34, ⟨⟨(z01 rfl), ⟨(z01 (ids_V _)), trivial⟩⟩, trivial⟩⟩⟩
   ·exact ⟨(.cons .same (.cons .same .nil)), (sC rfl (sC rfl (sC rfl (sC rfl (sC rfl (sC rfl (sC rfl (sC rfl z09))))))))⟩
   ·rintro g2_f s6 h; replace h : z72 r_q22 (fun y0 y1 y2 => g1_f (y0, y1, y2)) a1 a2 s2 s3 x5 (fun y0 => g2_f y0) s6 = some r := h; unfold z72 at h
    change BW _ _ _ ⟨[(2, (I64 a2)), (4, (PV.rf 0 0)), (8, (I64 s6)), (9, (I64 s2)), (11, (PV.rf 1 0)), (16, (PV.sl none 43 2 (List.map z1h a0))), (17, (I64 ((((a0).length : Nat) : Int)))), (18, (I64 s3))], [.box 34 (z1r a1), .box 43 [(z0f x5.1), (ofV x5.2)]], _⟩ _
    refine z0o ?_
    refine z1n (ι := Bool) (fun i => z9j r_q22 (fun y0 y1 y2 => g1_f (y0, y1, y2)) (fun y0 => g2_f y0) a1 a2 s2 s3 x5 s6 i = some r) (fun i => [(2, (I64 a2)), (4, (PV.rf 0 0)), (8, (I64 s6)), (9, (I64 s2)), (11, (PV.rf 1 0)), (16, (PV.sl none 43 2 (List.map z1h a0))), (17, (I64 ((((a0).length : Nat) : Int)))), (18, (I64 s3)), (36, (BO i))]) (fun i => [.box 34 (z1r a1), .box 43 [(z0f x5.1), (ofV x5.2)]]) ?_ ?_ ?_
    ·intro i; exact ⟨lbE rfl, ⟨(z01 rfl), ⟨(il_rf rfl), ⟨(z01 rfl), ⟨(z01 rfl), ⟨(il_rf rfl), ⟨(z01 (z0q z1z _)), ⟨(z01 rfl), ⟨(z01 rfl), ⟨(z01 rfl), trivial⟩⟩⟩⟩⟩⟩⟩⟩⟩, ⟨wfC34, ⟨⟨(z01 rfl), ⟨(z01 (ids_V _)), trivial⟩⟩, trivial⟩⟩⟩
    ·rintro s7 h; replace h : z9j r_q22 (fun y0 y1 y2 => g1_f (y0, y1, y2)) (fun y0 => g2_f y0) a1 a2 s2 s3 x5 s6 s7 = some r := h; unfold z9j at h
     change BW _ _ _ ⟨[(2, (I64 a2)), (4, (PV.rf 0 0)), (8, (I64 s6)), (9, (I64 s2)), (11, (PV.rf 1 0)), (16, (PV.sl none 43 2 (List.map z1h a0))), (17, (I64 ((((a0).length : Nat) : Int)))), (18, (I64 s3)), (36, (BO s7))], [.box 34 (z1r a1), .box 43 [(z0f x5.1), (ofV x5.2)]], _⟩ _
     refine z05 rfl ?_ ?_
     ·intro hc8; replace h := z02 hc8 h
      refine z0l ?_
      refine cBx ?_
      refine z0x ?_
      refine cBx ?_
      refine z0o ?_
      refine bR ?_
      refine sS rfl rfl rfl (z0e z1f (i := 5) rfl rfl rfl) ?_
      refine sS rfl rfl rfl ((z0n Try.underlying32 rfl rfl rfl rfl rfl)) ?_
      refine sMx ?_
      obtain ⟨x9, hx9, h⟩ := obind h
      refine sS rfl rfl rfl (z47 Try.underlying32 inf_4 rfl rfl rfl hx9 rfl) ?_
      refine sS rfl rfl rfl (z13 (y := (BO x9)) Try.underlying4 rfl rfl rfl rfl) ?_
      refine sS rfl rfl rfl (z2a rfl rfl) (z00 ?_)
      refine cBx ?_
      refine z05 rfl ?_ ?_
      ·intro hc10; replace h := z02 hc10 h
       refine bR ?_
       refine sMx ?_
       refine sAx ?_
       refine sAx (z00 ?_)
       refine cBx ?_
       refine z0a ?_
       change ∃ xs, _ = some xs ∧ EndOk _ _ _ _
       obtain rfl := Option.some.inj h
       exact ⟨_, rfl, z0d (y := (PV.tup [(BO false), (I64 a2)])) (Wk.refl _) (z04 rfl (z04 rfl z0r)) ⟨rfl, rfl⟩⟩
      ·intro hc10; replace h := z03 hc10 h
       refine z0l ?_
       refine cBx ?_
       refine z0s ?_
       refine sMx ?_
       refine sS rfl rfl rfl (z3a rfl rfl rfl) ?_
       refine sAx (z00 ?_)
       exact ⟨rfl, (IntKind.i64.wrap (s6 + 1)), h, ⟨(.cons .same (.cons .same .nil)), (sC rfl (sC rfl (sC rfl (sC rfl (sC rfl (sC rfl (sC rfl (sC rfl z09))))))))⟩⟩
     ·intro hc8; replace h := z03 hc8 h
      refine z22 ?_
      refine cBx ?_
      refine z1n (ι := Int) (fun i => z9i (fun y0 y1 y2 => g1_f (y0, y1, y2)) s2 s3 x5 i = some r) (fun i => [(2, (I64 a2)), (4, (PV.rf 0 0)), (8, (I64 i)), (9, (I64 s2)), (11, (PV.rf 1 0)), (16, (PV.sl none 43 2 (List.map z1h a0))), (17, (I64 ((((a0).length : Nat) : Int)))), (18, (I64 s3))]) (fun i => [.box 34 (z1r a1), .box 43 [(z0f x5.1), (ofV x5.2)]]) ?_ ?_ ?_
      ·intro i; exact ⟨lbE rfl, ⟨(z01 rfl), ⟨(il_rf rfl), ⟨(z01 rfl), ⟨(z01 rfl), ⟨(il_rf rfl), ⟨(z01 (z0q z1z _)), ⟨(z01 rfl), ⟨(z01 rfl), trivial⟩⟩⟩⟩⟩⟩⟩⟩, ⟨wfC34, ⟨⟨(z01 rfl), ⟨(z01 (ids_V _)), trivial⟩⟩, trivial⟩⟩⟩
      ·rintro s11 h; replace h : z9i (fun y0 y1 y2 => g1_f (y0, y1, y2)) s2 s3 x5 s11 = some r := h; unfold z9i at h
       change BW _ _ _ ⟨[(2, (I64 a2)), (4, (PV.rf 0 0)), (8, (I64 s11)), (9, (I64 s2)), (11, (PV.rf 1 0)), (16, (PV.sl none 43 2 (List.map z1h a0))), (17, (I64 ((((a0).length : Nat) : Int)))), (18, (I64 s3))], [.box 34 (z1r a1), .box 43 [(z0f x5.1), (ofV x5.2)]], _⟩ _
       refine z0s ?_
       refine sMx ?_
       refine sS rfl rfl rfl (z0e z6x (i := 1) rfl rfl rfl) ?_
       refine sS rfl rfl rfl ((z0n Try.underlying20 rfl rfl rfl rfl rfl)) ?_
       obtain ⟨x12, hx12, h⟩ := obind h
       refine sS rfl rfl rfl (z0b rfl Z1y rfl (.cons (Wk.refl _) .nil) ⟨(ids_V x5.2), trivial⟩ (Z0m x5.2 x12 hx12) rfl) ?_
       refine sS rfl rfl rfl (z3a rfl rfl rfl) ?_
       refine sAx (z00 ?_)
       refine cBx ?_
       refine z0s ?_
       refine sS rfl rfl rfl (z3a rfl rfl rfl) ?_
       refine sMx (z00 ?_)
       exact ⟨rfl, (s11, (IntKind.i64.wrap (s2 + x12)), (IntKind.i64.wrap (s3 + 1))), h, ⟨(.cons .same .nil), (sC rfl (sC rfl (sC rfl (sC rfl (sC rfl (sC rfl (sC rfl z09)))))))⟩⟩
      ·refine z1n (ι := Bool) (fun i => z9h r_q22 (fun y0 y1 y2 => g1_f (y0, y1, y2)) a1 a2 s2 s3 x5 s6 i = some r) (fun i => [(2, (I64 a2)), (4, (PV.rf 0 0)), (8, (I64 s6)), (9, (I64 s2)), (11, (PV.rf 1 0)), (16, (PV.sl none 43 2 (List.map z1h a0))), (17, (I64 ((((a0).length : Nat) : Int)))), (18, (I64 s3)), (60, (BO i))]) (fun i => [.box 34 (z1r a1), .box 43 [(z0f x5.1), (ofV x5.2)]]) ?_ ?_ ?_
       ·intro i; exact ⟨lbE rfl, ⟨(z01 rfl), ⟨(il_rf rfl), ⟨(z01 rfl), ⟨(z01 rfl), ⟨(il_rf rfl), ⟨(z01 (z0q z1z _)), ⟨(z01 rfl), ⟨(z01 rfl), ⟨(z01 rfl), trivial⟩⟩⟩⟩⟩⟩⟩⟩⟩, ⟨wfC34, ⟨⟨(z01 rfl), ⟨(z01 (ids_V _)), trivial⟩⟩, trivial⟩⟩⟩
       ·rintro s13 h; replace h : z9h r_q22 (fun y0 y1 y2 => g1_f (y0, y1, y2)) a1 a2 s2 s3 x5 s6 s13 = some r := h; unfold z9h at h
        change BW _ _ _ ⟨[(2, (I64 a2)), (4, (PV.rf 0 0)), (8, (I64 s6)), (9, (I64 s2)), (11, (PV.rf 1 0)), (16, (PV.sl none 43 2 (List.map z1h a0))), (17, (I64 ((((a0).length : Nat) : Int)))), (18, (I64 s3)), (60, (BO s13))], [.box 34 (z1r a1), .box 43 [(z0f x5.1), (ofV x5.2)]], _⟩ _
        refine z05 rfl ?_ ?_
        ·intro hc14; replace h := z02 hc14 h
         refine z0o ?_
         refine z0o (z2e 13 [] [0, 1] mo (by kernel_rfl) ?_)
         refine z0y rfl rfl rfl rfl (fun H hp => z0e z6x (i := 1) rfl rfl rfl) ?_
         refine z0y rfl rfl rfl rfl (fun H hp => (z0n Try.underlying20 rfl rfl rfl (hp.at rfl rfl) rfl)) ?_
         refine z0y rfl rfl rfl rfl (fun H hp => z0e z1f (i := 3) rfl rfl rfl) ?_
         refine z0y rfl rfl rfl rfl (fun H hp => (z0n Try.underlying30 rfl rfl rfl (hp.at rfl rfl) rfl)) ?_
         refine z0y rfl rfl rfl rfl (fun H hp => z0k rfl rfl) ?_
         obtain ⟨x15, hx15, h⟩ := obind h
         refine z0y rfl rfl rfl rfl (fun H hp => z47 Try.underlying30 z0t rfl rfl rfl hx15 (z2m _)) ?_
         refine z0y rfl rfl rfl rfl (fun H hp => z1s z0t Try.underlying34 rfl rfl rfl rfl rfl) ?_
         refine z0y rfl rfl rfl rfl (fun H hp => z0k rfl rfl) ?_
         obtain ⟨x16, hx16, h⟩ := obind h
         refine z0y rfl rfl rfl rfl (fun H hp => z0b rfl zsn rfl (.cons (Wk.refl _) (.cons (Wk.refl _) (.cons (Wk.refl _) .nil))) ⟨(ids_V x5.2), ⟨(z0m x15), ⟨rfl, trivial⟩⟩⟩ (c_q22 x5.2 x15 s2 x16 hx16) (z04 rfl (z04 rfl z0r))) ?_
         refine z0y rfl rfl rfl rfl (fun H hp => z0k rfl rfl) ?_
         refine z0y rfl rfl rfl rfl (fun H hp => z0j rfl rfl rfl) ?_
         refine z0y rfl rfl rfl rfl (fun H hp => z0j rfl rfl rfl) ?_
         refine z0y rfl rfl rfl rfl (fun H hp => z4h rfl rfl) ?_
         refine z2b ?_
         change AO _ _ _ _ _
         refine sAx (z00 ?_)
         refine cBx ?_
         refine bR ?_
         refine sMx ?_
         refine sS rfl rfl rfl (z2a rfl rfl) (z00 ?_)
         refine cBx ?_
         refine z05 rfl ?_ ?_
         ·intro hc17; replace h := z02 hc17 h
          refine bR ?_
          refine sMx ?_
          refine sAx ?_
          refine sAx (z00 ?_)
          refine cBx ?_
          refine z0a ?_
          change ∃ xs, _ = some xs ∧ EndOk _ _ _ _
          obtain rfl := Option.some.inj h
          exact ⟨_, rfl, z0d (y := (PV.tup [(BO false), (I64 x16.2)])) (Wk.refl _) (z04 rfl (z04 rfl z0r)) ⟨rfl, rfl⟩⟩
         ·intro hc17; replace h := z03 hc17 h
          refine z0l ?_
          refine cBx ?_
          refine z0s ?_
          refine sMx ?_
          refine sS rfl rfl rfl (z3a rfl rfl rfl) ?_
          refine sAx (z00 ?_)
          exact ⟨rfl, (IntKind.i64.wrap (s6 + 1)), h, ⟨(.cons .same (.cons .same .nil)), (sC rfl (sC rfl (sC rfl (sC rfl (sC rfl (sC rfl (sC rfl (sC rfl z09))))))))⟩⟩
        ·intro hc14; replace h := z03 hc14 h
         refine bR ?_
         refine sS rfl rfl rfl (z0e z1f (i := 6) rfl rfl rfl) ?_
         refine sS rfl rfl rfl ((z0n Try.underlying4 rfl rfl rfl rfl rfl)) ?_
         refine sS rfl rfl rfl (z2a rfl rfl) (z00 ?_)
         refine cBx ?_
         refine z05 rfl ?_ ?_
         ·intro hc18; replace h := z02 hc18 h
          refine bR ?_
          refine sMx ?_
          refine sAx ?_
          refine sAx (z00 ?_)
          refine cBx ?_
          refine z0a ?_
          change ∃ xs, _ = some xs ∧ EndOk _ _ _ _
          obtain rfl := Option.some.inj h
          exact ⟨_, rfl, z0d (y := (PV.tup [(BO false), (I64 a2)])) (Wk.refl _) (z04 rfl (z04 rfl z0r)) ⟨rfl, rfl⟩⟩
         ·intro hc18; replace h := z03 hc18 h
          refine z0l ?_
          exact ⟨rfl, s6, h, ⟨(.cons .same (.cons .same .nil)), (sC rfl (sC rfl (sC rfl (sC rfl (sC rfl (sC rfl (sC rfl (sC rfl z09))))))))⟩⟩
       ·refine z2e 13 [] [0, 1] mo (by kernel_rfl) ?_
        refine z0y rfl rfl rfl rfl (fun H hp => z0k rfl rfl) ?_
        refine z0y rfl rfl rfl rfl (fun H hp => z0e z1f (i := 4) rfl rfl rfl) ?_
        refine z0y rfl rfl rfl rfl (fun H hp => (z0n Try.underlying31 rfl rfl rfl (hp.at rfl rfl) rfl)) ?_
        refine z0y rfl rfl rfl rfl (fun H hp => z17 Try.underlying31 rfl rfl) ?_
        refine z0y rfl rfl rfl rfl (fun H hp => (z06 rfl rfl rfl rfl).cast (y := (BO ((decide (s6 < (((a1.names).length : Nat) : Int)))))) rfl rfl) ?_
        refine z0y rfl rfl rfl rfl (fun H hp => z0k rfl rfl) ?_
        refine z3s 51 rfl ?_ ?_
        ·intro hb19; replace h := z02 hb19 h
         refine z1b rfl rfl rfl rfl rfl rfl rfl (fun H hp => z0e z1f (i := 4) rfl rfl rfl) ?_
         refine z1b rfl rfl rfl rfl rfl rfl rfl (fun H hp => (z0n Try.underlying31 rfl rfl rfl (hp.at rfl rfl) rfl)) ?_
         refine z1b rfl rfl rfl rfl rfl rfl rfl (fun H hp => z0k rfl rfl) ?_
         obtain ⟨x20, hx20, h⟩ := obind h
         refine z1b rfl rfl rfl rfl rfl rfl rfl (fun H hp => z47 Try.underlying31 inf_9 rfl rfl rfl hx20 rfl) ?_
         refine z1b rfl rfl rfl rfl rfl rfl rfl (fun H hp => z13 (y := (z0f x20)) Try.underlying9 rfl rfl rfl rfl) ?_
         refine z1b rfl rfl rfl rfl rfl rfl rfl (fun H hp => z0e z6x (i := 0) rfl rfl rfl) ?_
         refine z1b rfl rfl rfl rfl rfl rfl rfl (fun H hp => (z0n Try.underlying9 rfl rfl rfl (hp.at rfl rfl) rfl)) ?_
         refine z2b ?_
         change AO _ _ _ _ _
         refine z08 rfl rfl rfl rfl rfl rfl ((z40 (a := x20) (b := x5.1) rfl rfl rfl rfl).cast (y := (BO ((x20 == x5.1)))) rfl rfl) ?_
         refine sS rfl rfl rfl (z0p rfl rfl rfl) (z00 ?_)
         exact ⟨rfl, (x20 == x5.1), h, ⟨(.cons .same (.cons .same .nil)), (sC rfl (sC rfl (sC rfl (sC rfl (sC rfl (sC rfl (sC rfl (sC rfl (sC rfl z09)))))))))⟩⟩
        ·intro hb19; replace h := z03 hb19 h
         refine z1g rfl rfl rfl rfl rfl rfl rfl ?_
         refine z1g rfl rfl rfl rfl rfl rfl rfl ?_
         refine z1g rfl rfl rfl rfl rfl rfl rfl ?_
         refine z1g rfl rfl rfl rfl rfl rfl rfl ?_
         refine z1g rfl rfl rfl rfl rfl rfl rfl ?_
         refine z1g rfl rfl rfl rfl rfl rfl rfl ?_
         refine z1g rfl rfl rfl rfl rfl rfl rfl ?_
         refine z2b ?_
         change AO _ _ _ _ _
         refine z0h rfl rfl rfl rfl rfl rfl ?_
         refine sS rfl rfl rfl (z0i rfl rfl rfl) (z00 ?_)
         exact ⟨rfl, false, h, ⟨(.cons .same (.cons .same .nil)), (sC rfl (sC rfl (sC rfl (sC rfl (sC rfl (sC rfl (sC rfl (sC rfl (sC rfl z09)))))))))⟩⟩
    ·refine z2e 13 [] [0, 1] mo (by kernel_rfl) ?_
     refine z0y rfl rfl rfl rfl (fun H hp => z0k rfl rfl) ?_
     refine z0y rfl rfl rfl rfl (fun H hp => z0e z1f (i := 4) rfl rfl rfl) ?_
     refine z0y rfl rfl rfl rfl (fun H hp => (z0n Try.underlying31 rfl rfl rfl (hp.at rfl rfl) rfl)) ?_
     refine z0y rfl rfl rfl rfl (fun H hp => z17 Try.underlying31 rfl rfl) ?_
     refine z0y rfl rfl rfl rfl (fun H hp => (z06 rfl rfl rfl rfl).cast (y := (BO ((decide (s6 < (((a1.names).length : Nat) : Int)))))) rfl rfl) ?_
     refine z0y rfl rfl rfl rfl (fun H hp => z0k rfl rfl) ?_
     refine z3s 27 rfl ?_ ?_
     ·intro hb21; replace h := z02 hb21 h
      refine z1b rfl rfl rfl rfl rfl rfl rfl (fun H hp => z0e z1f (i := 4) rfl rfl rfl) ?_
      refine z1b rfl rfl rfl rfl rfl rfl rfl (fun H hp => (z0n Try.underlying31 rfl rfl rfl (hp.at rfl rfl) rfl)) ?_
      refine z1b rfl rfl rfl rfl rfl rfl rfl (fun H hp => z0k rfl rfl) ?_
      obtain ⟨x22, hx22, h⟩ := obind h
      refine z1b rfl rfl rfl rfl rfl rfl rfl (fun H hp => z47 Try.underlying31 inf_9 rfl rfl rfl hx22 rfl) ?_
      refine z1b rfl rfl rfl rfl rfl rfl rfl (fun H hp => z13 (y := (z0f x22)) Try.underlying9 rfl rfl rfl rfl) ?_
      refine z1b rfl rfl rfl rfl rfl rfl rfl (fun H hp => z0e z6x (i := 0) rfl rfl rfl) ?_
      refine z1b rfl rfl rfl rfl rfl rfl rfl (fun H hp => (z0n Try.underlying9 rfl rfl rfl (hp.at rfl rfl) rfl)) ?_
      refine z2b ?_
      change AO _ _ _ _ _
      refine z08 rfl rfl rfl rfl rfl rfl ((z40 (a := x22) (b := x5.1) rfl rfl rfl rfl).cast (y := (BO ((Op.bytesLess x22 x5.1)))) rfl rfl) ?_
      refine sS rfl rfl rfl (z0p rfl rfl rfl) (z00 ?_)
      exact ⟨rfl, (Op.bytesLess x22 x5.1), h, ⟨(.cons .same (.cons .same .nil)), (sC rfl (sC rfl (sC rfl (sC rfl (sC rfl (sC rfl (sC rfl (sC rfl (sC rfl z09)))))))))⟩⟩
     ·intro hb21; replace h := z03 hb21 h
      refine z1g rfl rfl rfl rfl rfl rfl rfl ?_
      refine z1g rfl rfl rfl rfl rfl rfl rfl ?_
      refine z1g rfl rfl rfl rfl rfl rfl rfl ?_
      refine z1g rfl rfl rfl rfl rfl rfl rfl ?_
      refine z1g rfl rfl rfl rfl rfl rfl rfl ?_
      refine z1g rfl rfl rfl rfl rfl rfl rfl ?_
      refine z1g rfl rfl rfl rfl rfl rfl rfl ?_
      refine z2b ?_
      change AO _ _ _ _ _
      refine z0h rfl rfl rfl rfl rfl rfl ?_
      refine sS rfl rfl rfl (z0i rfl rfl rfl) (z00 ?_)
      exact ⟨rfl, false, h, ⟨(.cons .same (.cons .same .nil)), (sC rfl (sC rfl (sC rfl (sC rfl (sC rfl (sC rfl (sC rfl (sC rfl (sC rfl z09)))))))))⟩⟩
  ·intro hc4; replace h := z03 hc4 h
   refine z22 ?_
   refine cBx ?_
   refine z0o ?_
   refine z0x ?_
   refine cBx ?_
   unfold zhl at h
   refine z26 (σ := Int) (fun i => [(2, (I64 a2)), (4, (PV.rf 0 0)), (8, (I64 i))]) (fun i => [.box 34 (z1r a1)]) s1 h ?_ ?_ ?_
   ·intro i; exact ⟨lbE rfl, ⟨(z01 rfl), ⟨(il_rf rfl), ⟨(z01 rfl), trivial⟩⟩⟩, ⟨wfC34, trivial⟩⟩
   ·exact ⟨(.cons .same .nil), (sC rfl (sC rfl (sC rfl z09)))⟩
   ·rintro g2_f s23 h; replace h : z71 a1 a2 (fun y0 => g2_f y0) s23 = some r := h; unfold z71 at h
    change BW _ _ _ ⟨[(2, (I64 a2)), (4, (PV.rf 0 0)), (8, (I64 s23))], [.box 34 (z1r a1)], _⟩ _
    refine z0o ?_
    refine bR ?_
    refine sMx ?_
    refine sS rfl rfl rfl (z0e z1f (i := 4) rfl rfl rfl) ?_
    refine sS rfl rfl rfl ((z0n Try.underlying31 rfl rfl rfl rfl rfl)) ?_
    refine sS rfl rfl rfl (z17 Try.underlying31 rfl rfl) ?_
    refine sS rfl rfl rfl ((z06 rfl rfl rfl rfl).cast (y := (BO ((decide (s23 < (((a1.names).length : Nat) : Int)))))) rfl rfl) (z00 ?_)
    refine cBx ?_
    refine z05 rfl ?_ ?_
    ·intro hc24; replace h := z02 hc24 h
     refine z0l ?_
     refine cBx ?_
     refine z0o ?_
     refine z0x ?_
     refine cBx ?_
     refine bR ?_
     refine sS rfl rfl rfl (z0e z1f (i := 5) rfl rfl rfl) ?_
     refine sS rfl rfl rfl ((z0n Try.underlying32 rfl rfl rfl rfl rfl)) ?_
     refine sMx ?_
     obtain ⟨x25, hx25, h⟩ := obind h
     refine sS rfl rfl rfl (z47 Try.underlying32 inf_4 rfl rfl rfl hx25 rfl) ?_
     refine sS rfl rfl rfl (z13 (y := (BO x25)) Try.underlying4 rfl rfl rfl rfl) ?_
     refine sS rfl rfl rfl (z2a rfl rfl) (z00 ?_)
     refine cBx ?_
     refine z05 rfl ?_ ?_
     ·intro hc26; replace h := z02 hc26 h
      refine bR ?_
      refine sMx ?_
      refine sAx ?_
      refine sAx (z00 ?_)
      refine cBx ?_
      refine z0a ?_
      change ∃ xs, _ = some xs ∧ EndOk _ _ _ _
      obtain rfl := Option.some.inj h
      exact ⟨_, rfl, z0d (y := (PV.tup [(BO false), (I64 a2)])) (Wk.refl _) (z04 rfl (z04 rfl z0r)) ⟨rfl, rfl⟩⟩
     ·intro hc26; replace h := z03 hc26 h
      refine z0l ?_
      refine cBx ?_
      refine z0s ?_
      refine sMx ?_
      refine sS rfl rfl rfl (z3a rfl rfl rfl) ?_
      refine sAx (z00 ?_)
      exact ⟨rfl, (IntKind.i64.wrap (s23 + 1)), h, ⟨(.cons .same .nil), (sC rfl (sC rfl (sC rfl z09)))⟩⟩
    ·intro hc24; replace h := z03 hc24 h
     refine z22 ?_
     refine cBx ?_
     refine bR ?_
     refine sAx ?_
     refine sAx (z00 ?_)
     refine cBx ?_
     refine z0a ?_
     change ∃ xs, _ = some xs ∧ EndOk _ _ _ _
     obtain rfl := Option.some.inj h
     exact ⟨_, rfl, z0d (y := (PV.tup [(BO true), (I64 0)])) (Wk.refl _) (z04 rfl (z04 rfl z0r)) ⟨rfl, rfl⟩⟩
theorem ze2 (r_q0s : (List (Str × V)) → Typ → Int → Option (Bool × Int)) (c_q0s : ∀ (a0 : (List (Str × V))) (a1 : Typ) (a2 : Int) r, r_q0s a0 a1 a2 = some r → z0g Try.prog 56 [(PV.sl none 43 2 (List.map z1h a0)), (z07 a1), (I64 a2)] (PV.tup [(BO r.1), (I64 r.2)])) (r_q0x : (List V) → Typ → Int → Option (Bool × Int)) (c_q0x : ∀ (a0 : (List V)) (a1 : Typ) (a2 : Int) r, r_q0x a0 a1 a2 = some r → z0g Try.prog 55 [(PV.sl none 20 1 (List.map ofV a0)), (z07 a1), (I64 a2)] (PV.tup [(BO r.1), (I64 r.2)])) (r_q22 : V → Typ → Int → Option (Bool × Int)) (c_q22 : ∀ (a0 : V) (a1 : Typ) (a2 : Int) r, r_q22 a0 a1 a2 = some r → z0g Try.prog 31 [(ofV a0), (z07 a1), (I64 a2)] (PV.tup [(BO r.1), (I64 r.2)])) (a0 : (List V)) (a1 : Typ) (a2 : Int) (r : (Bool × Int)) (h : zku r_q0s r_q0x r_q22 a0 a1 a2 = some r) : z0g Try.prog 55 [(PV.sl none 20 1 (List.map ofV a0)), (z07 a1), (I64 a2)] (PV.tup [(BO r.1), (I64 r.2)]) := by
 unfold zku at h
 refine z0w Try.func55 rfl Try.ntmps55 Try.results55 rfl (z10 ?_)
 change BW _ _ _ ⟨[(0, (PV.sl none 20 1 (List.map ofV a0))), (1, (z07 a1)), (2, (I64 a2))], [], _⟩ _
 refine bR ?_
 refine sS rfl rfl rfl (z1x rfl rfl rfl) ?_
 refine sAx ?_
 refine sAx (z00 ?_)
 refine cBx ?_
 refine bR ?_
 refine sMx ?_
 refine sS rfl rfl rfl (z3a rfl rfl rfl) ?_
 refine sAx (z00 ?_)
 refine cBx ?_
 refine z0o ?_
 refine bR ?_
 refine sMx ?_
 refine sS rfl rfl rfl (z17 Try.underlying37 rfl rfl) ?_
 refine sMx (z00 ?_)
 refine cBx ?_
 refine z0x ?_
 refine cBx ?_
 unfold zex at h
 refine z26 (σ := (Int × Nat)) (fun i => [(4, (PV.rf 0 0)), (8, (I64 i.1)), (15, (PV.sl none 20 1 (List.map ofV a0))), (16, (I64 ((((a0).length : Nat) : Int)))), (17, (I64 (((i.2 : Nat) : Int))))]) (fun i => [.box 34 (z1r a1)]) ((IntKind.i64.wrap (a2 + 1)), 0) h ?_ ?_ ?_
 ·intro i; exact ⟨lbE rfl, ⟨(il_rf rfl), ⟨(z01 rfl), ⟨(z01 (z0q ids_V _)), ⟨(z01 rfl), ⟨(z01 rfl), trivial⟩⟩⟩⟩⟩, ⟨wfC34, trivial⟩⟩
 ·exact ⟨(.cons .same .nil), (sC rfl (sC rfl (sC rfl (sC rfl (sC rfl z09)))))⟩
 ·rintro g1_f ⟨s1, s2⟩ h; replace h : z5z r_q22 a0 a1 (fun y0 y1 => g1_f (y0, y1)) s1 s2 = some r := h; unfold z5z at h
  change BW _ _ _ ⟨[(4, (PV.rf 0 0)), (8, (I64 s1)), (15, (PV.sl none 20 1 (List.map ofV a0))), (16, (I64 ((((a0).length : Nat) : Int)))), (17, (I64 (((s2 : Nat) : Int))))], [.box 34 (z1r a1)], _⟩ _
  refine bR ?_
  refine sS rfl rfl rfl ((z06 rfl rfl rfl rfl).cast (y := (BO ((decide (((s2 : Nat) : Int) < (((a0).length : Nat) : Int)))))) rfl rfl) (z00 ?_)
  refine cBx ?_
  refine z0o ?_
  refine z2z (t := 15) rfl fun hb4 => ?_
  try rw [List.length_map] at hb4
  refine z05 rfl ?_ ?_
  ·intro hc3; replace h := z02 hc3 h
   have hc3_ := of_decide_eq_true hc3
   refine z0l ?_
   refine cBx ?_
   refine z0o ?_
   refine z0x ?_
   refine cBx ?_
   refine bR ?_
   obtain ⟨x5, hx5, h⟩ := obind h
   refine sS rfl rfl rfl (z1i (i := s2) Try.underlying37 z6r rfl rfl rfl hx5 rfl) ?_
   refine sS rfl rfl rfl (z13 (y := (ofV x5)) Try.underlying20 rfl rfl rfl (by rw [z30]; rfl)) ?_
   refine sAx (z00 ?_)
   refine cBx ?_
   refine z0o ?_
   refine bR ?_
   refine sMx ?_
   refine sS rfl rfl rfl ((z12 z0t Try.underlying34 rfl rfl rfl rfl rfl rfl)) ?_
   refine sMx ?_
   obtain ⟨x6, hx6, h⟩ := obind h
   refine sS rfl rfl rfl (z0b rfl zsn rfl (.cons (Wk.refl _) (.cons (Wk.refl _) (.cons (Wk.refl _) .nil))) ⟨(ids_V x5), ⟨(z0m a1), ⟨rfl, trivial⟩⟩⟩ (c_q22 x5 a1 s1 x6 hx6) (z04 rfl (z04 rfl z0r))) ?_
   refine sMx ?_
   refine sS rfl rfl rfl (z0j rfl rfl rfl) ?_
   refine sS rfl rfl rfl (z0j rfl rfl rfl) ?_
   refine sAx ?_
   refine sAx (z00 ?_)
   refine cBx ?_
   refine bR ?_
   refine sMx ?_
   refine sS rfl rfl rfl (z2a rfl rfl) (z00 ?_)
   refine cBx ?_
   refine z05 rfl ?_ ?_
   ·intro hc7; replace h := z02 hc7 h
    refine bR ?_
    refine sMx ?_
    refine sAx ?_
    refine sAx (z00 ?_)
    refine cBx ?_
    refine z0a ?_
    change ∃ xs, _ = some xs ∧ EndOk _ _ _ _
    obtain rfl := Option.some.inj h
    exact ⟨_, rfl, z0d (y := (PV.tup [(BO false), (I64 x6.2)])) (Wk.refl _) (z04 rfl (z04 rfl z0r)) ⟨rfl, rfl⟩⟩
   ·intro hc7; replace h := z03 hc7 h
    refine z0l ?_
    refine cBx ?_
    refine z0s ?_
    refine sMx ?_
    refine sMx ?_
    obtain ⟨x8, hx8, h⟩ := obind h
    refine sS rfl rfl rfl (z0b rfl Z1y rfl (.cons (Wk.refl _) .nil) ⟨(ids_V x5), trivial⟩ (Z0m x5 x8 hx8) rfl) ?_
    refine sS rfl rfl rfl (z3a rfl rfl rfl) ?_
    refine sAx (z00 ?_)
    refine cBx ?_
    refine z0s ?_
    refine sS rfl rfl rfl (z1y (k := s2) (c := 1) rfl rfl rfl (by omega)) ?_
    refine sMx (z00 ?_)
    exact ⟨rfl, ((IntKind.i64.wrap (s1 + x8)), (s2 + 1)), h, ⟨(.cons .same .nil), (sC rfl (sC rfl (sC rfl (sC rfl (sC rfl z09)))))⟩⟩
  ·intro hc3; replace h := z03 hc3 h
   refine z22 ?_
   refine cBx ?_
   refine bR ?_
   refine sAx ?_
   refine sAx (z00 ?_)
   refine cBx ?_
   refine z0a ?_
   change ∃ xs, _ = some xs ∧ EndOk _ _ _ _
   obtain rfl := Option.some.inj h
   exact ⟨_, rfl, z0d (y := (PV.tup [(BO true), (I64 0)])) (Wk.refl _) (z04 rfl (z04 rfl z0r)) ⟨rfl, rfl⟩⟩
theorem zn2 (r_q0s : (List (Str × V)) → Typ → Int → Option (Bool × Int)) (c_q0s : ∀ (a0 : (List (Str × V))) (a1 : Typ) (a2 : Int) r, r_q0s a0 a1 a2 = some r → z0g Try.prog 56 [(PV.sl none 43 2 (List.map z1h a0)), (z07 a1), (I64 a2)] (PV.tup [(BO r.1), (I64 r.2)])) (r_q0x : (List V) → Typ → Int → Option (Bool × Int)) (c_q0x : ∀ (a0 : (List V)) (a1 : Typ) (a2 : Int) r, r_q0x a0 a1 a2 = some r → z0g Try.prog 55 [(PV.sl none 20 1 (List.map ofV a0)), (z07 a1), (I64 a2)] (PV.tup [(BO r.1), (I64 r.2)])) (r_q22 : V → Typ → Int → Option (Bool × Int)) (c_q22 : ∀ (a0 : V) (a1 : Typ) (a2 : Int) r, r_q22 a0 a1 a2 = some r → z0g Try.prog 31 [(ofV a0), (z07 a1), (I64 a2)] (PV.tup [(BO r.1), (I64 r.2)])) (a0 : V) (a1 : Typ) (a2 : Int) (r : (Bool × Int)) (h : zki r_q0s r_q0x r_q22 a0 a1 a2 = some r) : z0g Try.prog 31 [(ofV a0), (z07 a1), (I64 a2)] (PV.tup [(BO r.1), (I64 r.2)]) := by
 unfold zki at h
 refine z0w Try.func31 rfl Try.ntmps31 Try.results31 rfl (z10 ?_)
 change BW _ _ _ ⟨[(0, (ofV a0)), (1, (z07 a1)), (2, (I64 a2))], [], _⟩ _
 refine bR ?_
 refine sS rfl rfl rfl (z1x rfl rfl rfl) ?_
 refine sAx ?_
 refine sAx (z00 ?_)
 refine cBx ?_
 refine bR ?_
 refine sAx (z00 ?_)
 refine cBx ?_
 refine z1n (ι := Bool) (fun i => z6e a2 i = some r) (fun i => [(2, (I64 a2)), (8, (BO i))]) (fun i => []) ?_ ?_ ?_
 ·intro i; exact ⟨lbE rfl, ⟨(z01 rfl), ⟨(z01 rfl), trivial⟩⟩, trivial⟩
 ·rintro s1 h; replace h : z6e a2 s1 = some r := h; unfold z6e at h
  change BW _ _ _ ⟨[(2, (I64 a2)), (8, (BO s1))], [], _⟩ _
  refine z0o ?_
  refine bR ?_
  refine sMx (z00 ?_)
  refine cBx ?_
  refine z05 rfl ?_ ?_
  ·intro hc2; replace h := z02 hc2 h
   refine bR ?_
   refine sAx ?_
   refine sAx (z00 ?_)
   refine cBx ?_
   refine z0a ?_
   change ∃ xs, _ = some xs ∧ EndOk _ _ _ _
   obtain rfl := Option.some.inj h
   exact ⟨_, rfl, z0d (y := (PV.tup [(BO true), (I64 0)])) (Wk.refl _) (z04 rfl (z04 rfl z0r)) ⟨rfl, rfl⟩⟩
  ·intro hc2; replace h := z03 hc2 h
   refine z0l ?_
   refine cBx ?_
   refine bR ?_
   refine sMx ?_
   refine sAx ?_
   refine sAx (z00 ?_)
   refine cBx ?_
   refine z0a ?_
   change ∃ xs, _ = some xs ∧ EndOk _ _ _ _
   obtain rfl := Option.some.inj h
   exact ⟨_, rfl, z0d (y := (PV.tup [(BO false), (I64 a2)])) (Wk.refl _) (z04 rfl (z04 rfl z0r)) ⟨rfl, rfl⟩⟩
 ·refine bR ?_
  refine sS rfl rfl rfl (z0e z1f (i := 0) rfl rfl rfl) ?_
  refine sS rfl rfl rfl ((z0n Try.underlying3 rfl rfl rfl rfl rfl)) (z00 ?_)
  refine cBx ?_
  refine z0x ?_
  refine cBx ?_
  refine bR ?_
  refine sS rfl rfl rfl ((z06 rfl rfl rfl rfl).cast (y := (BO ((a1.kind == 1)))) rfl rfl) ?_
  refine sAx (z00 ?_)
  refine cBx ?_
  refine z05 rfl ?_ ?_
  ·intro hc3; replace h := z02 hc3 h
   refine z0s ?_
   refine sAx (z00 ?_)
   exact ⟨rfl, true, h, ⟨.nil, (sC rfl (sC rfl z09))⟩⟩
  ·intro hc3; replace h := z03 hc3 h
   refine bR ?_
   refine sS rfl rfl rfl ((z06 rfl rfl rfl rfl).cast (y := (BO ((a1.kind == 3)))) rfl rfl) ?_
   refine sAx (z00 ?_)
   refine cBx ?_
   refine z05 rfl ?_ ?_
   ·intro hc4; replace h := z02 hc4 h
    refine z2e 4 [] [0] mo (by kernel_rfl) ?_
    refine z0y rfl rfl rfl rfl (fun H hp => z0k rfl rfl) ?_
    obtain ⟨x5, hx5, h⟩ := obind h
    refine z0y rfl rfl rfl rfl (fun H hp => z0b rfl Z27 rfl (.cons (Wk.refl _) .nil) ⟨(ids_V a0), trivial⟩ (Z0g a0 x5 hx5) rfl) ?_
    refine z0y rfl rfl rfl rfl (fun H hp => z0e z1f (i := 1) rfl rfl rfl) ?_
    refine z0y rfl rfl rfl rfl (fun H hp => (z0n Try.underlying3 rfl rfl rfl (hp.at rfl rfl) rfl)) ?_
    refine z2b ?_
    change AO _ _ _ _ _
    refine sS rfl rfl rfl ((z06 rfl rfl rfl rfl).cast (y := (BO ((x5 == a1.of)))) rfl rfl) ?_
    refine sAx (z00 ?_)
    exact ⟨rfl, (x5 == a1.of), h, ⟨.nil, (sC rfl (sC rfl z09))⟩⟩
   ·intro hc4; replace h := z03 hc4 h
    refine bR ?_
    refine sS rfl rfl rfl ((z06 rfl rfl rfl rfl).cast (y := (BO ((a1.kind == 4)))) rfl rfl) ?_
    refine sAx (z00 ?_)
    refine cBx ?_
    refine z05 rfl ?_ ?_
    ·intro hc6; replace h := z02 hc6 h
     refine bR ?_
     refine sS rfl rfl rfl (z0e z1f (i := 2) rfl rfl rfl) ?_
     refine sS rfl rfl rfl ((z12 z2g Try.underlying29 rfl rfl rfl rfl rfl rfl)) ?_
     obtain ⟨x7, hx7, h⟩ := obind h
     refine sS rfl rfl rfl (z0b rfl zvp rfl (.cons (Wk.refl _) .nil) ⟨(z20 (a1.only)), trivial⟩ (ztu (a1.only) x7 hx7) (z04 (ids_V x7.1) (z04 rfl z0r))) ?_
     refine sMx ?_
     refine sS rfl rfl rfl (z0j rfl rfl rfl) ?_
     refine sS rfl rfl rfl (z0j rfl rfl rfl) ?_
     refine sAx ?_
     refine sAx (z00 ?_)
     refine cBx ?_
     refine z0s ?_
     refine sMx ?_
     refine sMx ?_
     obtain ⟨x8, hx8, h⟩ := obind h
     refine sS rfl rfl rfl (z0b rfl Z53 rfl (.cons (Wk.refl _) (.cons (Wk.refl _) .nil)) ⟨(ids_V a0), ⟨(ids_V x7.1), trivial⟩⟩ (Z3l a0 x7.1 x8 hx8) rfl) ?_
     refine sAx (z00 ?_)
     exact ⟨rfl, x8, h, ⟨.nil, (sC rfl (sC rfl z09))⟩⟩
    ·intro hc6; replace h := z03 hc6 h
     refine bR ?_
     refine sS rfl rfl rfl ((z06 rfl rfl rfl rfl).cast (y := (BO ((a1.kind == 8)))) rfl rfl) ?_
     refine sAx (z00 ?_)
     refine cBx ?_
     refine z05 rfl ?_ ?_
     ·intro hc9; replace h := z02 hc9 h
      refine bR ?_
      refine sMx ?_
      refine sS rfl rfl rfl (z55 rfl rfl) ?_
      refine sMx ?_
      refine sS rfl rfl rfl (z0j rfl rfl rfl) ?_
      refine sS rfl rfl rfl (z0j rfl rfl rfl) ?_
      refine sAx ?_
      refine sAx (z00 ?_)
      refine cBx ?_
      refine z2e 8 [] [0] mo (by kernel_rfl) ?_
      refine z0y rfl rfl rfl rfl (fun H hp => z0k rfl rfl) ?_
      refine z0y rfl rfl rfl rfl (fun H hp => z0k rfl rfl) ?_
      refine z3s 51 rfl ?_ ?_
      ·intro hb10; replace h := z02 hb10 h
       refine z1b rfl rfl rfl rfl rfl rfl rfl (fun H hp => z0k rfl rfl) ?_
       obtain ⟨x11, hx11, h⟩ := obind h
       refine z1b rfl rfl rfl rfl rfl rfl rfl (fun H hp => z39 rfl rfl hx11) ?_
       refine z1b rfl rfl rfl rfl rfl rfl rfl (fun H hp => z1a z6w (i := 0) rfl rfl rfl) ?_
       refine z1b rfl rfl rfl rfl rfl rfl rfl (fun H hp => z13 (y := (z0f x11.cls)) Try.underlying9 rfl rfl rfl rfl) ?_
       refine z1b rfl rfl rfl rfl rfl rfl rfl (fun H hp => z0e z1f (i := 7) rfl rfl rfl) ?_
       refine z1b rfl rfl rfl rfl rfl rfl rfl (fun H hp => (z0n Try.underlying9 rfl rfl rfl (hp.at rfl rfl) rfl)) ?_
       refine z2b ?_
       change AO _ _ _ _ _
       refine z08 rfl rfl rfl rfl rfl rfl ((z40 (a := x11.cls) (b := a1.cls) rfl rfl rfl rfl).cast (y := (BO ((x11.cls == a1.cls)))) rfl rfl) ?_
       refine sS rfl rfl rfl (z0p rfl rfl rfl) ?_
       refine sAx (z00 ?_)
       exact ⟨rfl, (x11.cls == a1.cls), h, ⟨.nil, (sC rfl (sC rfl z09))⟩⟩
      ·intro hb10; replace h := z03 hb10 h
       refine z1g rfl rfl rfl rfl rfl rfl rfl ?_
       refine z1g rfl rfl rfl rfl rfl rfl rfl ?_
       refine z1g rfl rfl rfl rfl rfl rfl rfl ?_
       refine z1g rfl rfl rfl rfl rfl rfl rfl ?_
       refine z1g rfl rfl rfl rfl rfl rfl rfl ?_
       refine z1g rfl rfl rfl rfl rfl rfl rfl ?_
       refine z2b ?_
       change AO _ _ _ _ _
       refine z0h rfl rfl rfl rfl rfl rfl ?_
       refine sS rfl rfl rfl (z0i rfl rfl rfl) ?_
       refine sAx (z00 ?_)
       exact ⟨rfl, false, h, ⟨.nil, (sC rfl (sC rfl z09))⟩⟩
     ·intro hc9; replace h := z03 hc9 h
      refine bR ?_
      refine sS rfl rfl rfl ((z06 rfl rfl rfl rfl).cast (y := (BO ((a1.kind == 7)))) rfl rfl) ?_
      refine sAx (z00 ?_)
      refine cBx ?_
      refine z05 rfl ?_ ?_
      ·intro hc12; replace h := z02 hc12 h
       refine bR ?_
       refine sS rfl rfl rfl (z0e z1f (i := 3) rfl rfl rfl) ?_
       refine sS rfl rfl rfl ((z0n Try.underlying30 rfl rfl rfl rfl rfl)) ?_
       refine sS rfl rfl rfl (z17 Try.underlying30 rfl rfl) ?_
       refine sMx (z00 ?_)
       refine cBx ?_
       refine z0x ?_
       refine cBx ?_
       unfold zek at h
       refine z26 (σ := Nat) (fun i => [(0, (ofV a0)), (2, (I64 a2)), (8, (BO false)), (63, (PV.sl none 34 18 (List.map z19 a1.parts))), (64, (I64 ((((a1.parts).length : Nat) : Int)))), (65, (I64 (((i : Nat) : Int))))]) (fun i => []) 0 h ?_ ?_ ?_
       ·intro i; exact ⟨lbE rfl, ⟨(z01 (ids_V _)), ⟨(z01 rfl), ⟨(z01 rfl), ⟨(z01 (z0q z2h _)), ⟨(z01 rfl), ⟨(z01 rfl), trivial⟩⟩⟩⟩⟩⟩, trivial⟩
       ·exact ⟨.nil, (sC rfl (sC rfl (sC rfl (sC rfl (sC rfl (sC rfl z09))))))⟩
       ·rintro g1_f s13 h; replace h : z5p r_q22 a0 a1 a2 (fun y0 => g1_f y0) s13 = some r := h; unfold z5p at h
        change BW _ _ _ ⟨[(0, (ofV a0)), (2, (I64 a2)), (8, (BO false)), (63, (PV.sl none 34 18 (List.map z19 a1.parts))), (64, (I64 ((((a1.parts).length : Nat) : Int)))), (65, (I64 (((s13 : Nat) : Int))))], [], _⟩ _
        refine bR ?_
        refine sS rfl rfl rfl ((z06 rfl rfl rfl rfl).cast (y := (BO ((decide (((s13 : Nat) : Int) < (((a1.parts).length : Nat) : Int)))))) rfl rfl) (z00 ?_)
        refine cBx ?_
        refine z0o ?_
        refine z2z (t := 63) rfl fun hb15 => ?_
        try rw [List.length_map] at hb15
        refine z05 rfl ?_ ?_
        ·intro hc14; replace h := z02 hc14 h
         have hc14_ := of_decide_eq_true hc14
         refine z0l ?_
         refine cBx ?_
         refine z0o ?_
         refine z0x ?_
         refine cBx ?_
         refine bR ?_
         obtain ⟨x16, hx16, h⟩ := obind h
         refine sS rfl rfl rfl (z1i (i := s13) Try.underlying30 z0t rfl rfl rfl hx16 (z2m _)) ?_
         refine sS rfl rfl rfl (z1s z0t Try.underlying34 rfl rfl rfl rfl rfl) ?_
         refine sS rfl rfl rfl (z1j z0t rfl) ?_
         refine z11 rfl rfl (z0v z0t rfl rfl rfl rfl rfl rfl (lbE rfl) rfl) ?_
         refine z00 ?_
         refine cBx ?_
         refine bR ?_
         refine sMx ?_
         refine sS rfl rfl rfl ((z12 z0t Try.underlying34 rfl rfl rfl rfl rfl rfl)) ?_
         refine sMx ?_
         obtain ⟨x17, hx17, h⟩ := obind h
         refine sS rfl rfl rfl (z0b rfl zsn rfl (.cons (Wk.refl _) (.cons (Wk.refl _) (.cons (Wk.refl _) .nil))) ⟨(ids_V a0), ⟨(z0m x16), ⟨rfl, trivial⟩⟩⟩ (c_q22 a0 x16 a2 x17 hx17) (z04 rfl (z04 rfl z0r))) ?_
         refine sMx ?_
         refine sS rfl rfl rfl (z0j rfl rfl rfl) ?_
         refine sS rfl rfl rfl (z0j rfl rfl rfl) ?_
         refine sAx ?_
         refine sAx (z00 ?_)
         refine cBx ?_
         refine bR ?_
         refine sMx (z00 ?_)
         refine cBx ?_
         refine z05 rfl ?_ ?_
         ·intro hc18; replace h := z02 hc18 h
          refine bR ?_
          refine sAx ?_
          refine sAx (z00 ?_)
          refine cBx ?_
          refine z0a ?_
          change ∃ xs, _ = some xs ∧ EndOk _ _ _ _
          obtain rfl := Option.some.inj h
          exact ⟨_, rfl, z0d (y := (PV.tup [(BO true), (I64 0)])) (Wk.refl _) (z04 rfl (z04 rfl z0r)) ⟨rfl, rfl⟩⟩
         ·intro hc18; replace h := z03 hc18 h
          refine z0l ?_
          refine cBx ?_
          refine z0s ?_
          refine sS rfl rfl rfl (z1y (k := s13) (c := 1) rfl rfl rfl (by omega)) ?_
          refine sMx (z00 ?_)
          exact ⟨rfl, (s13 + 1), h, ⟨.nil, (sC rfl (sC rfl (sC rfl (sC rfl (sC rfl (sC rfl z09))))))⟩⟩
        ·intro hc14; replace h := z03 hc14 h
         refine z22 ?_
         exact ⟨rfl, false, h, ⟨.nil, (sC rfl (sC rfl z09))⟩⟩
      ·intro hc12; replace h := z03 hc12 h
       refine bR ?_
       refine sS rfl rfl rfl ((z06 rfl rfl rfl rfl).cast (y := (BO ((a1.kind == 5)))) rfl rfl) ?_
       refine sAx (z00 ?_)
       refine cBx ?_
       refine z05 rfl ?_ ?_
       ·intro hc19; replace h := z02 hc19 h
        refine bR ?_
        refine sMx ?_
        refine sS rfl rfl rfl (z4f rfl rfl) ?_
        refine sMx ?_
        refine sS rfl rfl rfl (z0j rfl rfl rfl) ?_
        refine sS rfl rfl rfl (z0j rfl rfl rfl) ?_
        refine sAx ?_
        refine sAx (z00 ?_)
        refine cBx ?_
        refine bR ?_
        refine sMx (z00 ?_)
        refine cBx ?_
        refine z05 rfl ?_ ?_
        ·intro hc20; replace h := z02 hc20 h
         refine bR ?_
         refine sMx ?_
         refine sS rfl rfl rfl (z0e z1f (i := 3) rfl rfl rfl) ?_
         refine sS rfl rfl rfl ((z0n Try.underlying30 rfl rfl rfl rfl rfl)) ?_
         obtain ⟨x21, hx21, h⟩ := obind h
         refine sS rfl rfl rfl (z1i (i := 0) Try.underlying30 z0t rfl rfl rfl hx21 (z2m _)) ?_
         refine sS rfl rfl rfl (z1s z0t Try.underlying34 rfl rfl rfl rfl rfl) ?_
         refine sMx ?_
         obtain ⟨x22, hx22, h⟩ := obind h
         refine sS rfl rfl rfl (z0b rfl Z52 rfl (.cons (Wk.refl _) (.cons (Wk.refl _) (.cons (Wk.refl _) .nil))) ⟨(z0q ids_V ((a0).asList)), ⟨(z0m x21), ⟨rfl, trivial⟩⟩⟩ (c_q0x ((a0).asList) x21 a2 x22 hx22) (z04 rfl (z04 rfl z0r))) ?_
         refine sS rfl rfl rfl (z0j rfl rfl rfl) ?_
         refine sS rfl rfl rfl (z0j rfl rfl rfl) ?_
         refine sAx ?_
         refine sAx (z00 ?_)
         refine cBx ?_
         refine z0a ?_
         change ∃ xs, _ = some xs ∧ EndOk _ _ _ _
         obtain rfl := Option.some.inj h
         exact ⟨_, rfl, z0d (y := (PV.tup [(BO x22.1), (I64 x22.2)])) (Wk.refl _) (z04 rfl (z04 rfl z0r)) ⟨rfl, rfl⟩⟩
        ·intro hc20; replace h := z03 hc20 h
         refine z0l ?_
         exact ⟨rfl, false, h, ⟨.nil, (sC rfl (sC rfl z09))⟩⟩
       ·intro hc19; replace h := z03 hc19 h
        refine bR ?_
        refine sS rfl rfl rfl ((z06 rfl rfl rfl rfl).cast (y := (BO ((a1.kind == 6)))) rfl rfl) ?_
        refine sAx (z00 ?_)
        refine cBx ?_
        refine z05 rfl ?_ ?_
        ·intro hc23; replace h := z02 hc23 h
         refine bR ?_
         refine sMx ?_
         refine sS rfl rfl rfl (z4g rfl rfl) ?_
         refine sMx ?_
         refine sS rfl rfl rfl (z0j rfl rfl rfl) ?_
         refine sS rfl rfl rfl (z0j rfl rfl rfl) ?_
         refine sAx ?_
         refine sAx (z00 ?_)
         refine cBx ?_
         refine bR ?_
         refine sMx (z00 ?_)
         refine cBx ?_
         refine z05 rfl ?_ ?_
         ·intro hc24; replace h := z02 hc24 h
          refine bR ?_
          refine sMx ?_
          refine sS rfl rfl rfl ((z12 z0t Try.underlying34 rfl rfl rfl rfl rfl rfl)) ?_
          refine sMx ?_
          obtain ⟨x25, hx25, h⟩ := obind h
          refine sS rfl rfl rfl (z0b rfl Z51 rfl (.cons (Wk.refl _) (.cons (Wk.refl _) (.cons (Wk.refl _) .nil))) ⟨(z0q z1z ((a0).asDict)), ⟨(z0m a1), ⟨rfl, trivial⟩⟩⟩ (c_q0s ((a0).asDict) a1 a2 x25 hx25) (z04 rfl (z04 rfl z0r))) ?_
          refine sS rfl rfl rfl (z0j rfl rfl rfl) ?_
          refine sS rfl rfl rfl (z0j rfl rfl rfl) ?_
          refine sAx ?_
          refine sAx (z00 ?_)
          refine cBx ?_
          refine z0a ?_
          change ∃ xs, _ = some xs ∧ EndOk _ _ _ _
          obtain rfl := Option.some.inj h
          exact ⟨_, rfl, z0d (y := (PV.tup [(BO x25.1), (I64 x25.2)])) (Wk.refl _) (z04 rfl (z04 rfl z0r)) ⟨rfl, rfl⟩⟩
         ·intro hc24; replace h := z03 hc24 h
          refine z0l ?_
          exact ⟨rfl, false, h, ⟨.nil, (sC rfl (sC rfl z09))⟩⟩
        ·intro hc23; replace h := z03 hc23 h
         refine z0l ?_
         exact ⟨rfl, false, h, ⟨.nil, (sC rfl (sC rfl z09))⟩⟩
theorem C_q0s.sound : ∀ (i : C_q0s) (r : i.R), z38 C_q0s.F i = some r → C_q0s.Q i r := by
 refine z4a (Φ := C_q0s.F) (Q := C_q0s.Q) ?_
 intro g hg i r h
 cases i with
 | k_q0s a0 a1 a2 => exact zcq (fun a0 a1 a2 => g (.k_q0s a0 a1 a2)) (fun a0 a1 a2 r hr => hg (.k_q0s a0 a1 a2) r hr) (fun a0 a1 a2 => g (.k_q0x a0 a1 a2)) (fun a0 a1 a2 r hr => hg (.k_q0x a0 a1 a2) r hr) (fun a0 a1 a2 => g (.k_q22 a0 a1 a2)) (fun a0 a1 a2 r hr => hg (.k_q22 a0 a1 a2) r hr) a0 a1 a2 r h
 | k_q0x a0 a1 a2 => exact ze2 (fun a0 a1 a2 => g (.k_q0s a0 a1 a2)) (fun a0 a1 a2 r hr => hg (.k_q0s a0 a1 a2) r hr) (fun a0 a1 a2 => g (.k_q0x a0 a1 a2)) (fun a0 a1 a2 r hr => hg (.k_q0x a0 a1 a2) r hr) (fun a0 a1 a2 => g (.k_q22 a0 a1 a2)) (fun a0 a1 a2 r hr => hg (.k_q22 a0 a1 a2) r hr) a0 a1 a2 r h
 | k_q22 a0 a1 a2 => exact zn2 (fun a0 a1 a2 => g (.k_q0s a0 a1 a2)) (fun a0 a1 a2 r hr => hg (.k_q0s a0 a1 a2) r hr) (fun a0 a1 a2 => g (.k_q0x a0 a1 a2)) (fun a0 a1 a2 r hr => hg (.k_q0x a0 a1 a2) r hr) (fun a0 a1 a2 => g (.k_q22 a0 a1 a2)) (fun a0 a1 a2 r hr => hg (.k_q22 a0 a1 a2) r hr) a0 a1 a2 r h
theorem Z0c (a0 : V) (a1 : Typ) (a2 : Int) (r : (Bool × Int)) (h : z8j a0 a1 a2 = some r) : z0g Try.prog 31 [(ofV a0), (z07 a1), (I64 a2)] (PV.tup [(BO r.1), (I64 r.2)]) := C_q0s.sound (.k_q22 a0 a1 a2) r h
noncomputable def zno (a0 : Typ) : Option Typ :=
 some a0
theorem Z0j (a0 : Typ) (r : Typ) (h : zno a0 = some r) : z0g Try.prog 61 [(z07 a0)] (PV.fn (.func 62) [] [(PV.pt 34 (z07 r) 0)]) := by
 unfold zno at h
 refine z0w Try.func61 rfl Try.ntmps61 Try.results61 rfl (z10 ?_)
 change BW _ _ _ ⟨[(0, (z07 a0))], [], _⟩ _
 refine bR ?_
 refine sS rfl rfl rfl (z1x rfl rfl rfl) ?_
 refine sAx (z00 ?_)
 refine cBx ?_
 refine z0o ?_
 refine zbe 0 1 (y := (PV.pt 34 (z07 a0) 0)) rfl rfl (Wk.pt (x := .agg [(I64 a0.kind), (I64 a0.of), (I64 ((a0.only).kind)), (BO ((a0.only).bool)), (I64 ((a0.only).int)), (PV.v (.float .f64 (a0.only).float)), (z0f (a0.only).text), (PV.sl none 5 1 (List.map ofB (a0.only).bytes)), (PV.v (.int .u64 (a0.only).ref)), (PV.sl none 29 11 (List.map z1k (a0.only).list)), (PV.sl none 101 12 (List.map z18 (a0.only).fields)), (z0f (a0.only).cls), (I64 ((a0.only).ver)), (PV.sl none 34 18 (List.map z19 a0.parts)), (PV.sl none 9 1 (List.map z0f a0.names)), (PV.sl none 4 1 (List.map z28 a0.lacks)), (BO a0.opn), (z0f a0.cls)]) (y := (z07 a0)) (.cons (Wk.refl _) (.cons (Wk.refl _) (.cons (Wk.refl _) (.cons (Wk.refl _) (.cons (Wk.refl _) (.cons (Wk.refl _) (.cons (Wk.refl _) (.cons (Wk.refl _) (.cons (Wk.refl _) (.cons (Wk.refl _) (.cons (Wk.refl _) (.cons (Wk.refl _) (.cons (Wk.refl _) (.cons (Wk.refl _) (.cons (Wk.refl _) (.cons (Wk.refl _) (.cons (Wk.refl _) (.cons (Wk.refl _) .nil))))))))))))))))))) ?_
 refine z0s ?_
 refine sS rfl rfl rfl (zlo rfl rfl rfl) ?_
 refine sAx (z00 ?_)
 refine cBx ?_
 refine z0a ?_
 change ∃ xs, _ = some xs ∧ EndOk _ _ _ _
 obtain rfl := Option.some.inj h
 exact ⟨_, rfl, z0d (y := (PV.fn (.func 62) [] [(PV.pt 34 (z07 a0) 0)])) (Wk.refl _) (z4t (z4s (z0m a0) rfl)) ⟨rfl, rfl⟩⟩
end Go.Proofs.Ytiapdjdhaclmnaa
