/- Pure functions, and that calls answer as they say. Written by gen.py. -/
import Derived.Test.YtiapdjdhaclmnaaG3
namespace Go.Proofs.Ytiapdjdhaclmnaa
open Go Aw
set_option linter.unusedVariables false
set_option linter.unusedSimpArgs false
set_option maxRecDepth 20000
set_option maxHeartbeats 2000000
noncomputable def check_fielded_j2 (g1 : Int → Int → Int → Option (Bool × Int)) (s2 : Int) (s3 : Int) (x5 : (Str × V)) (s11 : Int) : Option (Bool × Int) :=
 Option.bind (p_check_parts x5.2) fun x12 =>
 g1 s11 (IntKind.i64.wrap (s2 + x12)) (IntKind.i64.wrap (s3 + 1))
theorem check_fielded_j2_cm {ι : Type} {ρ : ι → Type} (g1 : (∀ i, Option (ρ i)) → Int → Int → Int → Option (Bool × Int)) (h_g1 : ∀ y0 y1 y2, CM (fun G => g1 G y0 y1 y2)) (s2 : Int) (s3 : Int) (x5 : (Str × V)) (s11 : Int) : CM (fun G : (∀ i, Option (ρ i)) => check_fielded_j2 (g1 G) s2 s3 x5 s11) := by
 simp only [check_fielded_j2]
 repeat (first | exact cm_const | exact h_g1 _ _ _ | refine cm_cond ?_ ?_ | refine cm_bind ?_ (fun _ => ?_))
noncomputable def check_fielded_j3 (r_check_is : V → Typ → Int → Option (Bool × Int)) (g1 : Int → Int → Int → Option (Bool × Int)) (a1 : Typ) (a2 : Int) (s2 : Int) (s3 : Int) (x5 : (Str × V)) (s6 : Int) (s13 : Bool) : Option (Bool × Int) :=
 bif s13 then (
  Option.bind (idxI a1.parts s6) fun x15 =>
  Option.bind (r_check_is x5.2 x15 s2) fun x16 =>
  bif (!x16.1) then (
   some (false, x16.2)
  ) else (
   check_fielded_j2 g1 s2 s3 x5 (IntKind.i64.wrap (s6 + 1))
  )
 ) else (
  bif (!a1.opn) then (
   some (false, a2)
  ) else (
   check_fielded_j2 g1 s2 s3 x5 s6
  )
 )
theorem check_fielded_j3_cm {ι : Type} {ρ : ι → Type} (r_check_is : (∀ i, Option (ρ i)) → V → Typ → Int → Option (Bool × Int)) (h_r_check_is : ∀ y0 y1 y2, CM (fun G => r_check_is G y0 y1 y2)) (g1 : (∀ i, Option (ρ i)) → Int → Int → Int → Option (Bool × Int)) (h_g1 : ∀ y0 y1 y2, CM (fun G => g1 G y0 y1 y2)) (a1 : Typ) (a2 : Int) (s2 : Int) (s3 : Int) (x5 : (Str × V)) (s6 : Int) (s13 : Bool) : CM (fun G : (∀ i, Option (ρ i)) => check_fielded_j3 (r_check_is G) (g1 G) a1 a2 s2 s3 x5 s6 s13) := by
 simp only [check_fielded_j3]
 repeat (first | exact cm_const | exact h_r_check_is _ _ _ | exact h_g1 _ _ _ | apply check_fielded_j2_cm | refine cm_cond ?_ ?_ | refine cm_bind ?_ (fun _ => ?_) | intro _ | assumption)
noncomputable def check_fielded_j1 (r_check_is : V → Typ → Int → Option (Bool × Int)) (g1 : Int → Int → Int → Option (Bool × Int)) (g2 : Int → Option (Bool × Int)) (a1 : Typ) (a2 : Int) (s2 : Int) (s3 : Int) (x5 : (Str × V)) (s6 : Int) (s7 : Bool) : Option (Bool × Int) :=
 bif s7 then (
  Option.bind (idxI a1.lacks s6) fun x9 =>
  bif (!x9) then (
   some (false, a2)
  ) else (
   g2 (IntKind.i64.wrap (s6 + 1))
  )
 ) else (
  bif (decide (s6 < (((a1.names).length : Nat) : Int))) then (
   Option.bind (idxI a1.names s6) fun x20 =>
   check_fielded_j3 r_check_is g1 a1 a2 s2 s3 x5 s6 (x20 == x5.1)
  ) else (
   check_fielded_j3 r_check_is g1 a1 a2 s2 s3 x5 s6 false
  )
 )
theorem check_fielded_j1_cm {ι : Type} {ρ : ι → Type} (r_check_is : (∀ i, Option (ρ i)) → V → Typ → Int → Option (Bool × Int)) (h_r_check_is : ∀ y0 y1 y2, CM (fun G => r_check_is G y0 y1 y2)) (g1 : (∀ i, Option (ρ i)) → Int → Int → Int → Option (Bool × Int)) (h_g1 : ∀ y0 y1 y2, CM (fun G => g1 G y0 y1 y2)) (g2 : (∀ i, Option (ρ i)) → Int → Option (Bool × Int)) (h_g2 : ∀ y0, CM (fun G => g2 G y0)) (a1 : Typ) (a2 : Int) (s2 : Int) (s3 : Int) (x5 : (Str × V)) (s6 : Int) (s7 : Bool) : CM (fun G : (∀ i, Option (ρ i)) => check_fielded_j1 (r_check_is G) (g1 G) (g2 G) a1 a2 s2 s3 x5 s6 s7) := by
 simp only [check_fielded_j1]
 repeat (first | exact cm_const | exact h_r_check_is _ _ _ | exact h_g1 _ _ _ | exact h_g2 _ | apply check_fielded_j3_cm | refine cm_cond ?_ ?_ | refine cm_bind ?_ (fun _ => ?_) | intro _ | assumption)
noncomputable def check_fielded_l2b (r_check_is : V → Typ → Int → Option (Bool × Int)) (g1 : Int → Int → Int → Option (Bool × Int)) (a1 : Typ) (a2 : Int) (s2 : Int) (s3 : Int) (x5 : (Str × V)) (g2 : Int → Option (Bool × Int)) (s6 : Int) : Option (Bool × Int) :=
 bif (decide (s6 < (((a1.names).length : Nat) : Int))) then (
  Option.bind (idxI a1.names s6) fun x22 =>
  check_fielded_j1 r_check_is g1 g2 a1 a2 s2 s3 x5 s6 (Op.bytesLess x22 x5.1)
 ) else (
  check_fielded_j1 r_check_is g1 g2 a1 a2 s2 s3 x5 s6 false
 )
theorem check_fielded_l2b_cm {ι : Type} {ρ : ι → Type} (r_check_is : (∀ i, Option (ρ i)) → V → Typ → Int → Option (Bool × Int)) (h_r_check_is : ∀ y0 y1 y2, CM (fun G => r_check_is G y0 y1 y2)) (g1 : (∀ i, Option (ρ i)) → Int → Int → Int → Option (Bool × Int)) (h_g1 : ∀ y0 y1 y2, CM (fun G => g1 G y0 y1 y2)) (g2 : (∀ i, Option (ρ i)) → Int → Option (Bool × Int)) (h_g2 : ∀ y0, CM (fun G => g2 G y0)) (a1 : Typ) (a2 : Int) (s2 : Int) (s3 : Int) (x5 : (Str × V)) (s6 : Int) : CM (fun G : (∀ i, Option (ρ i)) => check_fielded_l2b (r_check_is G) (g1 G) a1 a2 s2 s3 x5 (g2 G) s6) := by
 simp only [check_fielded_l2b]
 repeat (first | exact cm_const | exact h_r_check_is _ _ _ | exact h_g1 _ _ _ | exact h_g2 _ | apply check_fielded_j1_cm | refine cm_cond ?_ ?_ | refine cm_bind ?_ (fun _ => ?_) | intro _ | assumption)
noncomputable def check_fielded_l2 (r_check_is : V → Typ → Int → Option (Bool × Int)) (g1 : Int → Int → Int → Option (Bool × Int)) (a1 : Typ) (a2 : Int) (s2 : Int) (s3 : Int) (x5 : (Str × V)) (s6 : Int) : Option (Bool × Int) :=
 fixO (ι := Int) (ρ := fun _ => (Bool × Int)) (fun g i => check_fielded_l2b r_check_is g1 a1 a2 s2 s3 x5 (fun s6 => g s6) i) s6
theorem check_fielded_l2_eq (r_check_is : V → Typ → Int → Option (Bool × Int)) (g1 : Int → Int → Int → Option (Bool × Int)) (a1 : Typ) (a2 : Int) (s2 : Int) (s3 : Int) (x5 : (Str × V)) (s6 : Int) : check_fielded_l2 r_check_is g1 a1 a2 s2 s3 x5 s6 = check_fielded_l2b r_check_is g1 a1 a2 s2 s3 x5 (check_fielded_l2 r_check_is g1 a1 a2 s2 s3 x5) s6 :=
 fixO_eq (ι := Int) (ρ := fun _ => (Bool × Int)) (Φ := fun g i => check_fielded_l2b r_check_is g1 a1 a2 s2 s3 x5 (fun s6 => g s6) i) (fun i => check_fielded_l2b_cm (ι := Int) (ρ := fun _ => (Bool × Int)) (fun _ => r_check_is) (fun _ _ _ => cm_const) (fun _ => g1) (fun _ _ _ => cm_const) (fun g => (fun s6 => g s6)) (fun _ => cm_app) a1 a2 s2 s3 x5 i) s6
theorem check_fielded_l2_cm {ι : Type} {ρ : ι → Type} (r_check_is : (∀ i, Option (ρ i)) → V → Typ → Int → Option (Bool × Int)) (h_r_check_is : ∀ y0 y1 y2, CM (fun G => r_check_is G y0 y1 y2)) (g1 : (∀ i, Option (ρ i)) → Int → Int → Int → Option (Bool × Int)) (h_g1 : ∀ y0 y1 y2, CM (fun G => g1 G y0 y1 y2)) (a1 : Typ) (a2 : Int) (s2 : Int) (s3 : Int) (x5 : (Str × V)) (s6 : Int) : CM (fun G : (∀ i, Option (ρ i)) => check_fielded_l2 (r_check_is G) (g1 G) a1 a2 s2 s3 x5 s6) :=
 cm_fix (κ := Int) (τ := fun _ => (Bool × Int)) (Φ := fun G g i => check_fielded_l2b (r_check_is G) (g1 G) a1 a2 s2 s3 x5 (fun s6 => g s6) i) (fun g i => check_fielded_l2b_cm r_check_is h_r_check_is g1 h_g1 (fun _ => (fun s6 => g s6)) (fun _ => cm_const) a1 a2 s2 s3 x5 i) (fun G i => check_fielded_l2b_cm (ι := Int) (ρ := fun _ => (Bool × Int)) (fun _ => r_check_is G) (fun _ _ _ => cm_const) (fun _ => g1 G) (fun _ _ _ => cm_const) (fun g => (fun s6 => g s6)) (fun _ => cm_app) a1 a2 s2 s3 x5 i) s6
noncomputable def check_fielded_l3b (a1 : Typ) (a2 : Int) (g2 : Int → Option (Bool × Int)) (s23 : Int) : Option (Bool × Int) :=
 bif (decide (s23 < (((a1.names).length : Nat) : Int))) then (
  Option.bind (idxI a1.lacks s23) fun x25 =>
  bif (!x25) then (
   some (false, a2)
  ) else (
   g2 (IntKind.i64.wrap (s23 + 1))
  )
 ) else (
  some (true, 0)
 )
theorem check_fielded_l3b_cm {ι : Type} {ρ : ι → Type} (g2 : (∀ i, Option (ρ i)) → Int → Option (Bool × Int)) (h_g2 : ∀ y0, CM (fun G => g2 G y0)) (a1 : Typ) (a2 : Int) (s23 : Int) : CM (fun G : (∀ i, Option (ρ i)) => check_fielded_l3b a1 a2 (g2 G) s23) := by
 simp only [check_fielded_l3b]
 repeat (first | exact cm_const | exact h_g2 _ | refine cm_cond ?_ ?_ | refine cm_bind ?_ (fun _ => ?_))
noncomputable def check_fielded_l3 (a1 : Typ) (a2 : Int) (s23 : Int) : Option (Bool × Int) :=
 fixO (ι := Int) (ρ := fun _ => (Bool × Int)) (fun g i => check_fielded_l3b a1 a2 (fun s23 => g s23) i) s23
theorem check_fielded_l3_eq (a1 : Typ) (a2 : Int) (s23 : Int) : check_fielded_l3 a1 a2 s23 = check_fielded_l3b a1 a2 (check_fielded_l3 a1 a2) s23 :=
 fixO_eq (ι := Int) (ρ := fun _ => (Bool × Int)) (Φ := fun g i => check_fielded_l3b a1 a2 (fun s23 => g s23) i) (fun i => check_fielded_l3b_cm (ι := Int) (ρ := fun _ => (Bool × Int)) (fun g => (fun s23 => g s23)) (fun _ => cm_app) a1 a2 i) s23
noncomputable def check_fielded_l1b (r_check_is : V → Typ → Int → Option (Bool × Int)) (a0 : (List (Str × V))) (a1 : Typ) (a2 : Int) (g1 : Int → Int → Int → Option (Bool × Int)) (s1 : Int) (s2 : Int) (s3 : Int) : Option (Bool × Int) :=
 bif (decide (s3 < (((a0).length : Nat) : Int))) then (
  Option.bind (idxI a0 s3) fun x5 =>
  check_fielded_l2 r_check_is g1 a1 a2 s2 s3 x5 s1
 ) else (
  check_fielded_l3 a1 a2 s1
 )
theorem check_fielded_l1b_cm {ι : Type} {ρ : ι → Type} (r_check_is : (∀ i, Option (ρ i)) → V → Typ → Int → Option (Bool × Int)) (h_r_check_is : ∀ y0 y1 y2, CM (fun G => r_check_is G y0 y1 y2)) (g1 : (∀ i, Option (ρ i)) → Int → Int → Int → Option (Bool × Int)) (h_g1 : ∀ y0 y1 y2, CM (fun G => g1 G y0 y1 y2)) (a0 : (List (Str × V))) (a1 : Typ) (a2 : Int) (s1 : Int) (s2 : Int) (s3 : Int) : CM (fun G : (∀ i, Option (ρ i)) => check_fielded_l1b (r_check_is G) a0 a1 a2 (g1 G) s1 s2 s3) := by
 simp only [check_fielded_l1b]
 repeat (first | exact cm_const | exact h_r_check_is _ _ _ | exact h_g1 _ _ _ | apply check_fielded_l2_cm | apply check_fielded_l3_cm | refine cm_cond ?_ ?_ | refine cm_bind ?_ (fun _ => ?_) | intro _ | assumption)
noncomputable def check_fielded_l1 (r_check_is : V → Typ → Int → Option (Bool × Int)) (a0 : (List (Str × V))) (a1 : Typ) (a2 : Int) (s1 : Int) (s2 : Int) (s3 : Int) : Option (Bool × Int) :=
 fixO (ι := (Int × Int × Int)) (ρ := fun _ => (Bool × Int)) (fun g i => check_fielded_l1b r_check_is a0 a1 a2 (fun s1 s2 s3 => g (s1, s2, s3)) i.1 i.2.1 i.2.2) (s1, s2, s3)
theorem check_fielded_l1_eq (r_check_is : V → Typ → Int → Option (Bool × Int)) (a0 : (List (Str × V))) (a1 : Typ) (a2 : Int) (s1 : Int) (s2 : Int) (s3 : Int) : check_fielded_l1 r_check_is a0 a1 a2 s1 s2 s3 = check_fielded_l1b r_check_is a0 a1 a2 (check_fielded_l1 r_check_is a0 a1 a2) s1 s2 s3 :=
 fixO_eq (ι := (Int × Int × Int)) (ρ := fun _ => (Bool × Int)) (Φ := fun g i => check_fielded_l1b r_check_is a0 a1 a2 (fun s1 s2 s3 => g (s1, s2, s3)) i.1 i.2.1 i.2.2) (fun i => check_fielded_l1b_cm (ι := (Int × Int × Int)) (ρ := fun _ => (Bool × Int)) (fun _ => r_check_is) (fun _ _ _ => cm_const) (fun g => (fun s1 s2 s3 => g (s1, s2, s3))) (fun _ _ _ => cm_app) a0 a1 a2 i.1 i.2.1 i.2.2) (s1, s2, s3)
theorem check_fielded_l1_cm {ι : Type} {ρ : ι → Type} (r_check_is : (∀ i, Option (ρ i)) → V → Typ → Int → Option (Bool × Int)) (h_r_check_is : ∀ y0 y1 y2, CM (fun G => r_check_is G y0 y1 y2)) (a0 : (List (Str × V))) (a1 : Typ) (a2 : Int) (s1 : Int) (s2 : Int) (s3 : Int) : CM (fun G : (∀ i, Option (ρ i)) => check_fielded_l1 (r_check_is G) a0 a1 a2 s1 s2 s3) :=
 cm_fix (κ := (Int × Int × Int)) (τ := fun _ => (Bool × Int)) (Φ := fun G g i => check_fielded_l1b (r_check_is G) a0 a1 a2 (fun s1 s2 s3 => g (s1, s2, s3)) i.1 i.2.1 i.2.2) (fun g i => check_fielded_l1b_cm r_check_is h_r_check_is (fun _ => (fun s1 s2 s3 => g (s1, s2, s3))) (fun _ _ _ => cm_const) a0 a1 a2 i.1 i.2.1 i.2.2) (fun G i => check_fielded_l1b_cm (ι := (Int × Int × Int)) (ρ := fun _ => (Bool × Int)) (fun _ => r_check_is G) (fun _ _ _ => cm_const) (fun g => (fun s1 s2 s3 => g (s1, s2, s3))) (fun _ _ _ => cm_app) a0 a1 a2 i.1 i.2.1 i.2.2) (s1, s2, s3)
noncomputable def b_check_fielded (r_check_fielded : (List (Str × V)) → Typ → Int → Option (Bool × Int)) (r_check_listed : (List V) → Typ → Int → Option (Bool × Int)) (r_check_is : V → Typ → Int → Option (Bool × Int)) (a0 : (List (Str × V))) (a1 : Typ) (a2 : Int) : Option (Bool × Int) :=
 check_fielded_l1 r_check_is a0 a1 a2 0 (IntKind.i64.wrap (a2 + 1)) 0
theorem b_check_fielded_cm {ι : Type} {ρ : ι → Type} (r_check_fielded : (∀ i, Option (ρ i)) → (List (Str × V)) → Typ → Int → Option (Bool × Int)) (h_r_check_fielded : ∀ y0 y1 y2, CM (fun G => r_check_fielded G y0 y1 y2)) (r_check_listed : (∀ i, Option (ρ i)) → (List V) → Typ → Int → Option (Bool × Int)) (h_r_check_listed : ∀ y0 y1 y2, CM (fun G => r_check_listed G y0 y1 y2)) (r_check_is : (∀ i, Option (ρ i)) → V → Typ → Int → Option (Bool × Int)) (h_r_check_is : ∀ y0 y1 y2, CM (fun G => r_check_is G y0 y1 y2)) (a0 : (List (Str × V))) (a1 : Typ) (a2 : Int) : CM (fun G : (∀ i, Option (ρ i)) => b_check_fielded (r_check_fielded G) (r_check_listed G) (r_check_is G) a0 a1 a2) := by
 simp only [b_check_fielded]
 repeat (first | exact cm_const | exact h_r_check_fielded _ _ _ | exact h_r_check_listed _ _ _ | exact h_r_check_is _ _ _ | apply check_fielded_l1_cm | refine cm_cond ?_ ?_ | refine cm_bind ?_ (fun _ => ?_) | intro _ | assumption)
noncomputable def check_listed_l1b (r_check_is : V → Typ → Int → Option (Bool × Int)) (a0 : (List V)) (a1 : Typ) (g1 : Int → Nat → Option (Bool × Int)) (s1 : Int) (s2 : Nat) : Option (Bool × Int) :=
 bif (decide (((s2 : Nat) : Int) < (((a0).length : Nat) : Int))) then (
  Option.bind ((a0)[s2]?) fun x5 =>
  Option.bind (r_check_is x5 a1 s1) fun x6 =>
  bif (!x6.1) then (
   some (false, x6.2)
  ) else (
   Option.bind (p_check_parts x5) fun x8 =>
   g1 (IntKind.i64.wrap (s1 + x8)) (s2 + 1)
  )
 ) else (
  some (true, 0)
 )
theorem check_listed_l1b_cm {ι : Type} {ρ : ι → Type} (r_check_is : (∀ i, Option (ρ i)) → V → Typ → Int → Option (Bool × Int)) (h_r_check_is : ∀ y0 y1 y2, CM (fun G => r_check_is G y0 y1 y2)) (g1 : (∀ i, Option (ρ i)) → Int → Nat → Option (Bool × Int)) (h_g1 : ∀ y0 y1, CM (fun G => g1 G y0 y1)) (a0 : (List V)) (a1 : Typ) (s1 : Int) (s2 : Nat) : CM (fun G : (∀ i, Option (ρ i)) => check_listed_l1b (r_check_is G) a0 a1 (g1 G) s1 s2) := by
 simp only [check_listed_l1b]
 repeat (first | exact cm_const | exact h_r_check_is _ _ _ | exact h_g1 _ _ | refine cm_cond ?_ ?_ | refine cm_bind ?_ (fun _ => ?_))
noncomputable def check_listed_l1 (r_check_is : V → Typ → Int → Option (Bool × Int)) (a0 : (List V)) (a1 : Typ) (s1 : Int) (s2 : Nat) : Option (Bool × Int) :=
 fixO (ι := (Int × Nat)) (ρ := fun _ => (Bool × Int)) (fun g i => check_listed_l1b r_check_is a0 a1 (fun s1 s2 => g (s1, s2)) i.1 i.2) (s1, s2)
theorem check_listed_l1_eq (r_check_is : V → Typ → Int → Option (Bool × Int)) (a0 : (List V)) (a1 : Typ) (s1 : Int) (s2 : Nat) : check_listed_l1 r_check_is a0 a1 s1 s2 = check_listed_l1b r_check_is a0 a1 (check_listed_l1 r_check_is a0 a1) s1 s2 :=
 fixO_eq (ι := (Int × Nat)) (ρ := fun _ => (Bool × Int)) (Φ := fun g i => check_listed_l1b r_check_is a0 a1 (fun s1 s2 => g (s1, s2)) i.1 i.2) (fun i => check_listed_l1b_cm (ι := (Int × Nat)) (ρ := fun _ => (Bool × Int)) (fun _ => r_check_is) (fun _ _ _ => cm_const) (fun g => (fun s1 s2 => g (s1, s2))) (fun _ _ => cm_app) a0 a1 i.1 i.2) (s1, s2)
theorem check_listed_l1_cm {ι : Type} {ρ : ι → Type} (r_check_is : (∀ i, Option (ρ i)) → V → Typ → Int → Option (Bool × Int)) (h_r_check_is : ∀ y0 y1 y2, CM (fun G => r_check_is G y0 y1 y2)) (a0 : (List V)) (a1 : Typ) (s1 : Int) (s2 : Nat) : CM (fun G : (∀ i, Option (ρ i)) => check_listed_l1 (r_check_is G) a0 a1 s1 s2) :=
 cm_fix (κ := (Int × Nat)) (τ := fun _ => (Bool × Int)) (Φ := fun G g i => check_listed_l1b (r_check_is G) a0 a1 (fun s1 s2 => g (s1, s2)) i.1 i.2) (fun g i => check_listed_l1b_cm r_check_is h_r_check_is (fun _ => (fun s1 s2 => g (s1, s2))) (fun _ _ => cm_const) a0 a1 i.1 i.2) (fun G i => check_listed_l1b_cm (ι := (Int × Nat)) (ρ := fun _ => (Bool × Int)) (fun _ => r_check_is G) (fun _ _ _ => cm_const) (fun g => (fun s1 s2 => g (s1, s2))) (fun _ _ => cm_app) a0 a1 i.1 i.2) (s1, s2)
noncomputable def b_check_listed (r_check_fielded : (List (Str × V)) → Typ → Int → Option (Bool × Int)) (r_check_listed : (List V) → Typ → Int → Option (Bool × Int)) (r_check_is : V → Typ → Int → Option (Bool × Int)) (a0 : (List V)) (a1 : Typ) (a2 : Int) : Option (Bool × Int) :=
 check_listed_l1 r_check_is a0 a1 (IntKind.i64.wrap (a2 + 1)) 0
theorem b_check_listed_cm {ι : Type} {ρ : ι → Type} (r_check_fielded : (∀ i, Option (ρ i)) → (List (Str × V)) → Typ → Int → Option (Bool × Int)) (h_r_check_fielded : ∀ y0 y1 y2, CM (fun G => r_check_fielded G y0 y1 y2)) (r_check_listed : (∀ i, Option (ρ i)) → (List V) → Typ → Int → Option (Bool × Int)) (h_r_check_listed : ∀ y0 y1 y2, CM (fun G => r_check_listed G y0 y1 y2)) (r_check_is : (∀ i, Option (ρ i)) → V → Typ → Int → Option (Bool × Int)) (h_r_check_is : ∀ y0 y1 y2, CM (fun G => r_check_is G y0 y1 y2)) (a0 : (List V)) (a1 : Typ) (a2 : Int) : CM (fun G : (∀ i, Option (ρ i)) => b_check_listed (r_check_fielded G) (r_check_listed G) (r_check_is G) a0 a1 a2) := by
 simp only [b_check_listed]
 repeat (first | exact cm_const | exact h_r_check_fielded _ _ _ | exact h_r_check_listed _ _ _ | exact h_r_check_is _ _ _ | apply check_listed_l1_cm | refine cm_cond ?_ ?_ | refine cm_bind ?_ (fun _ => ?_) | intro _ | assumption)
noncomputable def check_is_j1 (a2 : Int) (s1 : Bool) : Option (Bool × Int) :=
 bif s1 then (
  some (true, 0)
 ) else (
  some (false, a2)
 )
noncomputable def check_is_l1b (r_check_is : V → Typ → Int → Option (Bool × Int)) (a0 : V) (a1 : Typ) (a2 : Int) (g1 : Nat → Option (Bool × Int)) (s13 : Nat) : Option (Bool × Int) :=
 bif (decide (((s13 : Nat) : Int) < (((a1.parts).length : Nat) : Int))) then (
  Option.bind ((a1.parts)[s13]?) fun x16 =>
  Option.bind (r_check_is a0 x16 a2) fun x17 =>
  bif x17.1 then (
   some (true, 0)
  ) else (
   g1 (s13 + 1)
  )
 ) else (
  check_is_j1 a2 false
 )
theorem check_is_l1b_cm {ι : Type} {ρ : ι → Type} (r_check_is : (∀ i, Option (ρ i)) → V → Typ → Int → Option (Bool × Int)) (h_r_check_is : ∀ y0 y1 y2, CM (fun G => r_check_is G y0 y1 y2)) (g1 : (∀ i, Option (ρ i)) → Nat → Option (Bool × Int)) (h_g1 : ∀ y0, CM (fun G => g1 G y0)) (a0 : V) (a1 : Typ) (a2 : Int) (s13 : Nat) : CM (fun G : (∀ i, Option (ρ i)) => check_is_l1b (r_check_is G) a0 a1 a2 (g1 G) s13) := by
 simp only [check_is_l1b]
 repeat (first | exact cm_const | exact h_r_check_is _ _ _ | exact h_g1 _ | apply check_is_j1_cm | refine cm_cond ?_ ?_ | refine cm_bind ?_ (fun _ => ?_) | intro _ | assumption)
noncomputable def check_is_l1 (r_check_is : V → Typ → Int → Option (Bool × Int)) (a0 : V) (a1 : Typ) (a2 : Int) (s13 : Nat) : Option (Bool × Int) :=
 fixO (ι := Nat) (ρ := fun _ => (Bool × Int)) (fun g i => check_is_l1b r_check_is a0 a1 a2 (fun s13 => g s13) i) s13
theorem check_is_l1_eq (r_check_is : V → Typ → Int → Option (Bool × Int)) (a0 : V) (a1 : Typ) (a2 : Int) (s13 : Nat) : check_is_l1 r_check_is a0 a1 a2 s13 = check_is_l1b r_check_is a0 a1 a2 (check_is_l1 r_check_is a0 a1 a2) s13 :=
 fixO_eq (ι := Nat) (ρ := fun _ => (Bool × Int)) (Φ := fun g i => check_is_l1b r_check_is a0 a1 a2 (fun s13 => g s13) i) (fun i => check_is_l1b_cm (ι := Nat) (ρ := fun _ => (Bool × Int)) (fun _ => r_check_is) (fun _ _ _ => cm_const) (fun g => (fun s13 => g s13)) (fun _ => cm_app) a0 a1 a2 i) s13
theorem check_is_l1_cm {ι : Type} {ρ : ι → Type} (r_check_is : (∀ i, Option (ρ i)) → V → Typ → Int → Option (Bool × Int)) (h_r_check_is : ∀ y0 y1 y2, CM (fun G => r_check_is G y0 y1 y2)) (a0 : V) (a1 : Typ) (a2 : Int) (s13 : Nat) : CM (fun G : (∀ i, Option (ρ i)) => check_is_l1 (r_check_is G) a0 a1 a2 s13) :=
 cm_fix (κ := Nat) (τ := fun _ => (Bool × Int)) (Φ := fun G g i => check_is_l1b (r_check_is G) a0 a1 a2 (fun s13 => g s13) i) (fun g i => check_is_l1b_cm r_check_is h_r_check_is (fun _ => (fun s13 => g s13)) (fun _ => cm_const) a0 a1 a2 i) (fun G i => check_is_l1b_cm (ι := Nat) (ρ := fun _ => (Bool × Int)) (fun _ => r_check_is G) (fun _ _ _ => cm_const) (fun g => (fun s13 => g s13)) (fun _ => cm_app) a0 a1 a2 i) s13
noncomputable def b_check_is (r_check_fielded : (List (Str × V)) → Typ → Int → Option (Bool × Int)) (r_check_listed : (List V) → Typ → Int → Option (Bool × Int)) (r_check_is : V → Typ → Int → Option (Bool × Int)) (a0 : V) (a1 : Typ) (a2 : Int) : Option (Bool × Int) :=
 bif (a1.kind == 1) then (
  check_is_j1 a2 true
 ) else (
  bif (a1.kind == 3) then (
   Option.bind (p_value_Kind a0) fun x5 =>
   check_is_j1 a2 (x5 == a1.of)
  ) else (
   bif (a1.kind == 4) then (
    Option.bind (p_value_Of (a1.only)) fun x7 =>
    Option.bind (p_value_Same a0 x7.1) fun x8 =>
    check_is_j1 a2 x8
   ) else (
    bif (a1.kind == 8) then (
     bif (a0).isRec then (
      Option.bind ((a0).asRec) fun x11 =>
      check_is_j1 a2 (x11.cls == a1.cls)
     ) else (
      check_is_j1 a2 false
     )
    ) else (
     bif (a1.kind == 7) then (
      check_is_l1 r_check_is a0 a1 a2 0
     ) else (
      bif (a1.kind == 5) then (
       bif (a0).isList then (
        Option.bind ((a1.parts)[0]?) fun x21 =>
        Option.bind (r_check_listed ((a0).asList) x21 a2) fun x22 =>
        some (x22.1, x22.2)
       ) else (
        check_is_j1 a2 false
       )
      ) else (
       bif (a1.kind == 6) then (
        bif (a0).isDict then (
         Option.bind (r_check_fielded ((a0).asDict) a1 a2) fun x25 =>
         some (x25.1, x25.2)
        ) else (
         check_is_j1 a2 false
        )
       ) else (
        check_is_j1 a2 false
       )
      )
     )
    )
   )
  )
 )
theorem b_check_is_cm {ι : Type} {ρ : ι → Type} (r_check_fielded : (∀ i, Option (ρ i)) → (List (Str × V)) → Typ → Int → Option (Bool × Int)) (h_r_check_fielded : ∀ y0 y1 y2, CM (fun G => r_check_fielded G y0 y1 y2)) (r_check_listed : (∀ i, Option (ρ i)) → (List V) → Typ → Int → Option (Bool × Int)) (h_r_check_listed : ∀ y0 y1 y2, CM (fun G => r_check_listed G y0 y1 y2)) (r_check_is : (∀ i, Option (ρ i)) → V → Typ → Int → Option (Bool × Int)) (h_r_check_is : ∀ y0 y1 y2, CM (fun G => r_check_is G y0 y1 y2)) (a0 : V) (a1 : Typ) (a2 : Int) : CM (fun G : (∀ i, Option (ρ i)) => b_check_is (r_check_fielded G) (r_check_listed G) (r_check_is G) a0 a1 a2) := by
 simp only [b_check_is]
 repeat (first | exact cm_const | exact h_r_check_fielded _ _ _ | exact h_r_check_listed _ _ _ | exact h_r_check_is _ _ _ | apply check_is_j1_cm | apply check_is_l1_cm | refine cm_cond ?_ ?_ | refine cm_bind ?_ (fun _ => ?_) | intro _ | assumption)
inductive C_check_fielded where
 | k_check_fielded (a0 : (List (Str × V))) (a1 : Typ) (a2 : Int)
 | k_check_listed (a0 : (List V)) (a1 : Typ) (a2 : Int)
 | k_check_is (a0 : V) (a1 : Typ) (a2 : Int)
def C_check_fielded.R : C_check_fielded → Type
 | .k_check_fielded _ _ _ => (Bool × Int)
 | .k_check_listed _ _ _ => (Bool × Int)
 | .k_check_is _ _ _ => (Bool × Int)
noncomputable def C_check_fielded.F (g : ∀ i : C_check_fielded, Option i.R) : ∀ i : C_check_fielded, Option i.R
 | .k_check_fielded a0 a1 a2 => b_check_fielded (fun a0 a1 a2 => g (.k_check_fielded a0 a1 a2)) (fun a0 a1 a2 => g (.k_check_listed a0 a1 a2)) (fun a0 a1 a2 => g (.k_check_is a0 a1 a2)) a0 a1 a2
 | .k_check_listed a0 a1 a2 => b_check_listed (fun a0 a1 a2 => g (.k_check_fielded a0 a1 a2)) (fun a0 a1 a2 => g (.k_check_listed a0 a1 a2)) (fun a0 a1 a2 => g (.k_check_is a0 a1 a2)) a0 a1 a2
 | .k_check_is a0 a1 a2 => b_check_is (fun a0 a1 a2 => g (.k_check_fielded a0 a1 a2)) (fun a0 a1 a2 => g (.k_check_listed a0 a1 a2)) (fun a0 a1 a2 => g (.k_check_is a0 a1 a2)) a0 a1 a2
noncomputable def p_check_fielded (a0 : (List (Str × V))) (a1 : Typ) (a2 : Int) : Option (Bool × Int) := fixO C_check_fielded.F (.k_check_fielded a0 a1 a2)
noncomputable def p_check_listed (a0 : (List V)) (a1 : Typ) (a2 : Int) : Option (Bool × Int) := fixO C_check_fielded.F (.k_check_listed a0 a1 a2)
noncomputable def p_check_is (a0 : V) (a1 : Typ) (a2 : Int) : Option (Bool × Int) := fixO C_check_fielded.F (.k_check_is a0 a1 a2)
theorem C_check_fielded.cm (i : C_check_fielded) : CM (fun g : (∀ i : C_check_fielded, Option i.R) => C_check_fielded.F g i) := by
 cases i with
 | k_check_fielded a0 a1 a2 => exact b_check_fielded_cm (fun (g : ∀ i : C_check_fielded, Option i.R) a0 a1 a2 => g (.k_check_fielded a0 a1 a2)) (fun a0 a1 a2 => cm_app (i := C_check_fielded.k_check_fielded a0 a1 a2)) (fun (g : ∀ i : C_check_fielded, Option i.R) a0 a1 a2 => g (.k_check_listed a0 a1 a2)) (fun a0 a1 a2 => cm_app (i := C_check_fielded.k_check_listed a0 a1 a2)) (fun (g : ∀ i : C_check_fielded, Option i.R) a0 a1 a2 => g (.k_check_is a0 a1 a2)) (fun a0 a1 a2 => cm_app (i := C_check_fielded.k_check_is a0 a1 a2)) a0 a1 a2
 | k_check_listed a0 a1 a2 => exact b_check_listed_cm (fun (g : ∀ i : C_check_fielded, Option i.R) a0 a1 a2 => g (.k_check_fielded a0 a1 a2)) (fun a0 a1 a2 => cm_app (i := C_check_fielded.k_check_fielded a0 a1 a2)) (fun (g : ∀ i : C_check_fielded, Option i.R) a0 a1 a2 => g (.k_check_listed a0 a1 a2)) (fun a0 a1 a2 => cm_app (i := C_check_fielded.k_check_listed a0 a1 a2)) (fun (g : ∀ i : C_check_fielded, Option i.R) a0 a1 a2 => g (.k_check_is a0 a1 a2)) (fun a0 a1 a2 => cm_app (i := C_check_fielded.k_check_is a0 a1 a2)) a0 a1 a2
 | k_check_is a0 a1 a2 => exact b_check_is_cm (fun (g : ∀ i : C_check_fielded, Option i.R) a0 a1 a2 => g (.k_check_fielded a0 a1 a2)) (fun a0 a1 a2 => cm_app (i := C_check_fielded.k_check_fielded a0 a1 a2)) (fun (g : ∀ i : C_check_fielded, Option i.R) a0 a1 a2 => g (.k_check_listed a0 a1 a2)) (fun a0 a1 a2 => cm_app (i := C_check_fielded.k_check_listed a0 a1 a2)) (fun (g : ∀ i : C_check_fielded, Option i.R) a0 a1 a2 => g (.k_check_is a0 a1 a2)) (fun a0 a1 a2 => cm_app (i := C_check_fielded.k_check_is a0 a1 a2)) a0 a1 a2
theorem e_check_fielded (a0 : (List (Str × V))) (a1 : Typ) (a2 : Int) : p_check_fielded a0 a1 a2 = b_check_fielded p_check_fielded p_check_listed p_check_is a0 a1 a2 := fixO_eq C_check_fielded.cm (.k_check_fielded a0 a1 a2)
theorem e_check_listed (a0 : (List V)) (a1 : Typ) (a2 : Int) : p_check_listed a0 a1 a2 = b_check_listed p_check_fielded p_check_listed p_check_is a0 a1 a2 := fixO_eq C_check_fielded.cm (.k_check_listed a0 a1 a2)
theorem e_check_is (a0 : V) (a1 : Typ) (a2 : Int) : p_check_is a0 a1 a2 = b_check_is p_check_fielded p_check_listed p_check_is a0 a1 a2 := fixO_eq C_check_fielded.cm (.k_check_is a0 a1 a2)
def C_check_fielded.Q : ∀ i : C_check_fielded, i.R → Prop
 | .k_check_fielded a0 a1 a2 => fun (r : (Bool × Int)) => PCalls Try.prog 56 [(PV.sl none 2 (List.map ofFld a0)), (ofTypX a1), (I64 a2)] (PV.tup [(BO r.1), (I64 r.2)])
 | .k_check_listed a0 a1 a2 => fun (r : (Bool × Int)) => PCalls Try.prog 55 [(PV.sl none 1 (List.map ofV a0)), (ofTypX a1), (I64 a2)] (PV.tup [(BO r.1), (I64 r.2)])
 | .k_check_is a0 a1 a2 => fun (r : (Bool × Int)) => PCalls Try.prog 31 [(ofV a0), (ofTypX a1), (I64 a2)] (PV.tup [(BO r.1), (I64 r.2)])
theorem t_check_fielded (r_check_fielded : (List (Str × V)) → Typ → Int → Option (Bool × Int)) (c_check_fielded : ∀ (a0 : (List (Str × V))) (a1 : Typ) (a2 : Int) r, r_check_fielded a0 a1 a2 = some r → PCalls Try.prog 56 [(PV.sl none 2 (List.map ofFld a0)), (ofTypX a1), (I64 a2)] (PV.tup [(BO r.1), (I64 r.2)])) (r_check_listed : (List V) → Typ → Int → Option (Bool × Int)) (c_check_listed : ∀ (a0 : (List V)) (a1 : Typ) (a2 : Int) r, r_check_listed a0 a1 a2 = some r → PCalls Try.prog 55 [(PV.sl none 1 (List.map ofV a0)), (ofTypX a1), (I64 a2)] (PV.tup [(BO r.1), (I64 r.2)])) (r_check_is : V → Typ → Int → Option (Bool × Int)) (c_check_is : ∀ (a0 : V) (a1 : Typ) (a2 : Int) r, r_check_is a0 a1 a2 = some r → PCalls Try.prog 31 [(ofV a0), (ofTypX a1), (I64 a2)] (PV.tup [(BO r.1), (I64 r.2)])) (a0 : (List (Str × V))) (a1 : Typ) (a2 : Int) (r : (Bool × Int)) (h : b_check_fielded r_check_fielded r_check_listed r_check_is a0 a1 a2 = some r) : PCalls Try.prog 56 [(PV.sl none 2 (List.map ofFld a0)), (ofTypX a1), (I64 a2)] (PV.tup [(BO r.1), (I64 r.2)]) := by
 unfold b_check_fielded at h
 refine acalls_of Try.func56 rfl Try.ntmps56 Try.results56 rfl (aw_of_bw ?_)
 change BW _ _ _ ⟨[(0, (PV.sl none 2 (List.map ofFld a0))), (1, (ofTypX a1)), (2, (I64 a2))], [], _⟩ _
 refine bR ?_
 refine sS rfl rfl rfl (op1_box rfl rfl rfl) ?_
 refine sA rfl rfl rfl rfl rfl ?_
 refine sA rfl rfl rfl rfl rfl (ao_nil ?_)
 change BW _ _ _ _ _
 refine bR ?_
 refine sM rfl rfl rfl rfl rfl ?_
 refine sS rfl rfl rfl (op1_addW rfl rfl rfl) ?_
 refine sA rfl rfl rfl rfl rfl ?_
 refine sA rfl rfl rfl rfl rfl (ao_nil ?_)
 change BW _ _ _ _ _
 refine bw_seq ?_
 refine bR ?_
 refine sM rfl rfl rfl rfl rfl ?_
 refine sS rfl rfl rfl (op1_lenM Try.underlying45 rfl rfl) ?_
 refine sM rfl rfl rfl rfl rfl (ao_nil ?_)
 change BW _ _ _ _ _
 refine bw_block ?_
 change BW _ _ _ _ _
 unfold check_fielded_l1 at h
 refine bw_loop (σ := (Int × Int × Int)) (fun i => [(2, (I64 a2)), (4, (PV.rf 0 0)), (8, (I64 i.1)), (9, (I64 i.2.1)), (16, (PV.sl none 2 (List.map ofFld a0))), (17, (I64 ((((a0).length : Nat) : Int)))), (18, (I64 i.2.2))]) (fun i => [.box 34 [(I64 a1.kind), (I64 a1.of), (I64 ((a1.only).kind)), (BO ((a1.only).bool)), (I64 ((a1.only).int)), (PV.v (.float .f64 (a1.only).float)), (ofStr (a1.only).text), (PV.sl none 1 (List.map ofB (a1.only).bytes)), (PV.v (.int .u64 (a1.only).ref)), (PV.sl none 11 (List.map ofTerm (a1.only).list)), (PV.sl none 12 (List.map ofEntry (a1.only).fields)), (ofStr (a1.only).cls), (I64 ((a1.only).ver)), (PV.sl none 18 (List.map ofTyp a1.parts)), (PV.sl none 1 (List.map ofStr a1.names)), (PV.sl none 1 (List.map ofBool a1.lacks)), (BO a1.opn), (ofStr a1.cls)]]) (0, (IntKind.i64.wrap (a2 + 1)), 0) h ?_ ?_ ?_
 ·intro i; exact ⟨Nat.le_of_ble_eq_true rfl, ⟨(il_nil rfl), ⟨(il_rf rfl), ⟨(il_nil rfl), ⟨(il_nil rfl), ⟨(il_nil (ids_slM ids_Fld _)), ⟨(il_nil rfl), ⟨(il_nil rfl), trivial⟩⟩⟩⟩⟩⟩⟩, ⟨⟨(il_nil rfl), ⟨(il_nil rfl), ⟨(il_nil rfl), ⟨(il_nil rfl), ⟨(il_nil rfl), ⟨(il_nil rfl), ⟨(il_nil rfl), ⟨(il_nil (ids_slM (fun _ => rfl) _)), ⟨(il_nil rfl), ⟨(il_nil (ids_slM ids_Term _)), ⟨(il_nil (ids_slM ids_Entry _)), ⟨(il_nil rfl), ⟨(il_nil rfl), ⟨(il_nil (ids_slM ids_Typ _)), ⟨(il_nil (ids_slM (fun _ => rfl) _)), ⟨(il_nil (ids_slM (fun _ => rfl) _)), ⟨(il_nil rfl), ⟨(il_nil rfl), trivial⟩⟩⟩⟩⟩⟩⟩⟩⟩⟩⟩⟩⟩⟩⟩⟩⟩⟩, trivial⟩⟩
 ·exact ⟨(.cons .same .nil), (sC rfl (sC rfl (sC rfl (sC rfl (sC rfl (sC rfl (sC rfl sub_nil)))))))⟩
 ·rintro g1_f ⟨s1, s2, s3⟩ h; replace h : check_fielded_l1b r_check_is a0 a1 a2 (fun y0 y1 y2 => g1_f (y0, y1, y2)) s1 s2 s3 = some r := h; unfold check_fielded_l1b at h
  change BW _ _ _ ⟨[(2, (I64 a2)), (4, (PV.rf 0 0)), (8, (I64 s1)), (9, (I64 s2)), (16, (PV.sl none 2 (List.map ofFld a0))), (17, (I64 ((((a0).length : Nat) : Int)))), (18, (I64 s3))], [.box 34 [(I64 a1.kind), (I64 a1.of), (I64 ((a1.only).kind)), (BO ((a1.only).bool)), (I64 ((a1.only).int)), (PV.v (.float .f64 (a1.only).float)), (ofStr (a1.only).text), (PV.sl none 1 (List.map ofB (a1.only).bytes)), (PV.v (.int .u64 (a1.only).ref)), (PV.sl none 11 (List.map ofTerm (a1.only).list)), (PV.sl none 12 (List.map ofEntry (a1.only).fields)), (ofStr (a1.only).cls), (I64 ((a1.only).ver)), (PV.sl none 18 (List.map ofTyp a1.parts)), (PV.sl none 1 (List.map ofStr a1.names)), (PV.sl none 1 (List.map ofBool a1.lacks)), (BO a1.opn), (ofStr a1.cls)]], _⟩ _
  refine bR ?_
  refine sS rfl rfl rfl ((op1_cmp rfl rfl rfl rfl).cast (y := (BO ((decide (s3 < (((a0).length : Nat) : Int)))))) rfl rfl) (ao_nil ?_)
  change BW _ _ _ _ _
  refine bw_seq ?_
  refine bw_cond rfl ?_ ?_
  ·intro hc4; replace h := ocond_t hc4 h
   refine bw_skip ?_
   change BW _ _ _ _ _
   refine bw_seq ?_
   refine bw_block ?_
   change BW _ _ _ _ _
   refine bR ?_
   obtain ⟨x5, hx5, h⟩ := obind h
   refine sS rfl rfl rfl (op1_idxM Try.underlying45 inf_43 rfl rfl rfl hx5 rfl) ?_
   refine sS rfl rfl rfl (op1_ldPW inf_43 Try.underlying43 rfl rfl rfl rfl rfl) ?_
   refine sS rfl rfl rfl (op1_alloc inf_43 rfl) ?_
   refine ao_step0 rfl rfl (op1_store inf_43 rfl rfl rfl rfl rfl rfl (Nat.le_of_ble_eq_true rfl) (by show List.all [(ofStr x5.1), (ofV x5.2)] one1 = true; simp only [List.all_cons, List.all_nil, one_V, one_RecP, Bool.and_true, Bool.true_and]; try rfl)) ?_
   refine ao_nil ?_
   change BW _ _ _ _ _
   refine bw_seq ?_
   refine bw_block ?_
   change BW _ _ _ _ _
   unfold check_fielded_l2 at h
   refine bw_loop (σ := Int) (fun i => [(2, (I64 a2)), (4, (PV.rf 0 0)), (8, (I64 i)), (9, (I64 s2)), (11, (PV.rf 1 0)), (16, (PV.sl none 2 (List.map ofFld a0))), (17, (I64 ((((a0).length : Nat) : Int)))), (18, (I64 s3))]) (fun i => [.box 34 [(I64 a1.kind), (I64 a1.of), (I64 ((a1.only).kind)), (BO ((a1.only).bool)), (I64 ((a1.only).int)), (PV.v (.float .f64 (a1.only).float)), (ofStr (a1.only).text), (PV.sl none 1 (List.map ofB (a1.only).bytes)), (PV.v (.int .u64 (a1.only).ref)), (PV.sl none 11 (List.map ofTerm (a1.only).list)), (PV.sl none 12 (List.map ofEntry (a1.only).fields)), (ofStr (a1.only).cls), (I64 ((a1.only).ver)), (PV.sl none 18 (List.map ofTyp a1.parts)), (PV.sl none 1 (List.map ofStr a1.names)), (PV.sl none 1 (List.map ofBool a1.lacks)), (BO a1.opn), (ofStr a1.cls)], .box 43 [(ofStr x5.1), (ofV x5.2)]]) s1 h ?_ ?_ ?_
   ·intro i; exact ⟨Nat.le_of_ble_eq_true rfl, ⟨(il_nil rfl), ⟨(il_rf rfl), ⟨(il_nil rfl), ⟨(il_nil rfl), ⟨(il_rf rfl), ⟨(il_nil (ids_slM ids_Fld _)), ⟨(il_nil rfl), ⟨(il_nil rfl), trivial⟩⟩⟩⟩⟩⟩⟩⟩, ⟨⟨(il_nil rfl), ⟨(il_nil rfl), ⟨(il_nil rfl), ⟨(il_nil rfl), ⟨(il_nil rfl), ⟨(il_nil rfl), ⟨(il_nil rfl), ⟨(il_nil (ids_slM (fun _ => rfl) _)), ⟨(il_nil rfl), ⟨(il_nil (ids_slM ids_Term _)), ⟨(il_nil (ids_slM ids_Entry _)), ⟨(il_nil rfl), ⟨(il_nil rfl), ⟨(il_nil (ids_slM ids_Typ _)), ⟨(il_nil (ids_slM (fun _ => rfl) _)), ⟨(il_nil (ids_slM (fun _ => rfl) _)), ⟨(il_nil rfl), ⟨(il_nil rfl), trivial⟩⟩⟩⟩⟩⟩⟩⟩⟩⟩⟩⟩⟩⟩⟩⟩⟩⟩, ⟨⟨(il_nil rfl), ⟨(il_nil (ids_V _)), trivial⟩⟩, trivial⟩⟩⟩
   ·exact ⟨(.cons .same (.cons .same .nil)), (sC rfl (sC rfl (sC rfl (sC rfl (sC rfl (sC rfl (sC rfl (sC rfl sub_nil))))))))⟩
   ·rintro g2_f s6 h; replace h : check_fielded_l2b r_check_is (fun y0 y1 y2 => g1_f (y0, y1, y2)) a1 a2 s2 s3 x5 (fun y0 => g2_f y0) s6 = some r := h; unfold check_fielded_l2b at h
    change BW _ _ _ ⟨[(2, (I64 a2)), (4, (PV.rf 0 0)), (8, (I64 s6)), (9, (I64 s2)), (11, (PV.rf 1 0)), (16, (PV.sl none 2 (List.map ofFld a0))), (17, (I64 ((((a0).length : Nat) : Int)))), (18, (I64 s3))], [.box 34 [(I64 a1.kind), (I64 a1.of), (I64 ((a1.only).kind)), (BO ((a1.only).bool)), (I64 ((a1.only).int)), (PV.v (.float .f64 (a1.only).float)), (ofStr (a1.only).text), (PV.sl none 1 (List.map ofB (a1.only).bytes)), (PV.v (.int .u64 (a1.only).ref)), (PV.sl none 11 (List.map ofTerm (a1.only).list)), (PV.sl none 12 (List.map ofEntry (a1.only).fields)), (ofStr (a1.only).cls), (I64 ((a1.only).ver)), (PV.sl none 18 (List.map ofTyp a1.parts)), (PV.sl none 1 (List.map ofStr a1.names)), (PV.sl none 1 (List.map ofBool a1.lacks)), (BO a1.opn), (ofStr a1.cls)], .box 43 [(ofStr x5.1), (ofV x5.2)]], _⟩ _
    refine bw_seq ?_
    refine bw_seqJ (ι := Bool) (fun i => check_fielded_j1 r_check_is (fun y0 y1 y2 => g1_f (y0, y1, y2)) (fun y0 => g2_f y0) a1 a2 s2 s3 x5 s6 i = some r) (fun i => [(2, (I64 a2)), (4, (PV.rf 0 0)), (8, (I64 s6)), (9, (I64 s2)), (11, (PV.rf 1 0)), (16, (PV.sl none 2 (List.map ofFld a0))), (17, (I64 ((((a0).length : Nat) : Int)))), (18, (I64 s3)), (36, (BO i))]) (fun i => [.box 34 [(I64 a1.kind), (I64 a1.of), (I64 ((a1.only).kind)), (BO ((a1.only).bool)), (I64 ((a1.only).int)), (PV.v (.float .f64 (a1.only).float)), (ofStr (a1.only).text), (PV.sl none 1 (List.map ofB (a1.only).bytes)), (PV.v (.int .u64 (a1.only).ref)), (PV.sl none 11 (List.map ofTerm (a1.only).list)), (PV.sl none 12 (List.map ofEntry (a1.only).fields)), (ofStr (a1.only).cls), (I64 ((a1.only).ver)), (PV.sl none 18 (List.map ofTyp a1.parts)), (PV.sl none 1 (List.map ofStr a1.names)), (PV.sl none 1 (List.map ofBool a1.lacks)), (BO a1.opn), (ofStr a1.cls)], .box 43 [(ofStr x5.1), (ofV x5.2)]]) ?_ ?_ ?_
    ·intro i; exact ⟨Nat.le_of_ble_eq_true rfl, ⟨(il_nil rfl), ⟨(il_rf rfl), ⟨(il_nil rfl), ⟨(il_nil rfl), ⟨(il_rf rfl), ⟨(il_nil (ids_slM ids_Fld _)), ⟨(il_nil rfl), ⟨(il_nil rfl), ⟨(il_nil rfl), trivial⟩⟩⟩⟩⟩⟩⟩⟩⟩, ⟨⟨(il_nil rfl), ⟨(il_nil rfl), ⟨(il_nil rfl), ⟨(il_nil rfl), ⟨(il_nil rfl), ⟨(il_nil rfl), ⟨(il_nil rfl), ⟨(il_nil (ids_slM (fun _ => rfl) _)), ⟨(il_nil rfl), ⟨(il_nil (ids_slM ids_Term _)), ⟨(il_nil (ids_slM ids_Entry _)), ⟨(il_nil rfl), ⟨(il_nil rfl), ⟨(il_nil (ids_slM ids_Typ _)), ⟨(il_nil (ids_slM (fun _ => rfl) _)), ⟨(il_nil (ids_slM (fun _ => rfl) _)), ⟨(il_nil rfl), ⟨(il_nil rfl), trivial⟩⟩⟩⟩⟩⟩⟩⟩⟩⟩⟩⟩⟩⟩⟩⟩⟩⟩, ⟨⟨(il_nil rfl), ⟨(il_nil (ids_V _)), trivial⟩⟩, trivial⟩⟩⟩
    ·rintro s7 h; replace h : check_fielded_j1 r_check_is (fun y0 y1 y2 => g1_f (y0, y1, y2)) (fun y0 => g2_f y0) a1 a2 s2 s3 x5 s6 s7 = some r := h; unfold check_fielded_j1 at h
     change BW _ _ _ ⟨[(2, (I64 a2)), (4, (PV.rf 0 0)), (8, (I64 s6)), (9, (I64 s2)), (11, (PV.rf 1 0)), (16, (PV.sl none 2 (List.map ofFld a0))), (17, (I64 ((((a0).length : Nat) : Int)))), (18, (I64 s3)), (36, (BO s7))], [.box 34 [(I64 a1.kind), (I64 a1.of), (I64 ((a1.only).kind)), (BO ((a1.only).bool)), (I64 ((a1.only).int)), (PV.v (.float .f64 (a1.only).float)), (ofStr (a1.only).text), (PV.sl none 1 (List.map ofB (a1.only).bytes)), (PV.v (.int .u64 (a1.only).ref)), (PV.sl none 11 (List.map ofTerm (a1.only).list)), (PV.sl none 12 (List.map ofEntry (a1.only).fields)), (ofStr (a1.only).cls), (I64 ((a1.only).ver)), (PV.sl none 18 (List.map ofTyp a1.parts)), (PV.sl none 1 (List.map ofStr a1.names)), (PV.sl none 1 (List.map ofBool a1.lacks)), (BO a1.opn), (ofStr a1.cls)], .box 43 [(ofStr x5.1), (ofV x5.2)]], _⟩ _
     refine bw_cond rfl ?_ ?_
     ·intro hc8; replace h := ocond_t hc8 h
      refine bw_skip ?_
      change BW _ _ _ _ _
      refine bw_block ?_
      change BW _ _ _ _ _
      refine bw_seq ?_
      refine bR ?_
      refine sS rfl rfl rfl (op1_faR st_34 (i := 5) rfl rfl rfl) ?_
      refine sS rfl rfl rfl ((op1_ldR Try.underlying32 rfl rfl rfl rfl rfl)) ?_
      refine sM rfl rfl rfl rfl rfl ?_
      obtain ⟨x9, hx9, h⟩ := obind h
      refine sS rfl rfl rfl (op1_idxM Try.underlying32 inf_4 rfl rfl rfl hx9 rfl) ?_
      refine sS rfl rfl rfl (op1_ldP (y := (BO x9)) Try.underlying4 rfl rfl rfl rfl) ?_
      refine sS rfl rfl rfl (op1_not rfl rfl) (ao_nil ?_)
      change BW _ _ _ _ _
      refine bw_cond rfl ?_ ?_
      ·intro hc10; replace h := ocond_t hc10 h
       refine bR ?_
       refine sM rfl rfl rfl rfl rfl ?_
       refine sA rfl rfl rfl rfl rfl ?_
       refine sA rfl rfl rfl rfl rfl (ao_nil ?_)
       change BW _ _ _ _ _
       refine bw_ret ?_
       change ∃ xs, _ = some xs ∧ EndOk _ _ _ _
       obtain rfl := Option.some.inj h
       exact ⟨_, rfl, endOk0 (y := (PV.tup [(BO false), (I64 a2)])) (Wk.refl _) (ids_tup_cons rfl (ids_tup_cons rfl ids_tup_nil)) ⟨rfl, rfl⟩⟩
      ·intro hc10; replace h := ocond_f hc10 h
       refine bw_skip ?_
       change BW _ _ _ _ _
       refine bw_region ?_
       refine sM rfl rfl rfl rfl rfl ?_
       refine sS rfl rfl rfl (op1_addW rfl rfl rfl) ?_
       refine sA rfl rfl rfl rfl rfl (ao_nil ?_)
       exact ⟨rfl, (IntKind.i64.wrap (s6 + 1)), h, ⟨(.cons .same (.cons .same .nil)), (sC rfl (sC rfl (sC rfl (sC rfl (sC rfl (sC rfl (sC rfl (sC rfl sub_nil))))))))⟩⟩
     ·intro hc8; replace h := ocond_f hc8 h
      refine bw_exit ?_
      change BW _ _ _ _ _
      refine bw_seqJ (ι := Int) (fun i => check_fielded_j2 (fun y0 y1 y2 => g1_f (y0, y1, y2)) s2 s3 x5 i = some r) (fun i => [(2, (I64 a2)), (4, (PV.rf 0 0)), (8, (I64 i)), (9, (I64 s2)), (11, (PV.rf 1 0)), (16, (PV.sl none 2 (List.map ofFld a0))), (17, (I64 ((((a0).length : Nat) : Int)))), (18, (I64 s3))]) (fun i => [.box 34 [(I64 a1.kind), (I64 a1.of), (I64 ((a1.only).kind)), (BO ((a1.only).bool)), (I64 ((a1.only).int)), (PV.v (.float .f64 (a1.only).float)), (ofStr (a1.only).text), (PV.sl none 1 (List.map ofB (a1.only).bytes)), (PV.v (.int .u64 (a1.only).ref)), (PV.sl none 11 (List.map ofTerm (a1.only).list)), (PV.sl none 12 (List.map ofEntry (a1.only).fields)), (ofStr (a1.only).cls), (I64 ((a1.only).ver)), (PV.sl none 18 (List.map ofTyp a1.parts)), (PV.sl none 1 (List.map ofStr a1.names)), (PV.sl none 1 (List.map ofBool a1.lacks)), (BO a1.opn), (ofStr a1.cls)], .box 43 [(ofStr x5.1), (ofV x5.2)]]) ?_ ?_ ?_
      ·intro i; exact ⟨Nat.le_of_ble_eq_true rfl, ⟨(il_nil rfl), ⟨(il_rf rfl), ⟨(il_nil rfl), ⟨(il_nil rfl), ⟨(il_rf rfl), ⟨(il_nil (ids_slM ids_Fld _)), ⟨(il_nil rfl), ⟨(il_nil rfl), trivial⟩⟩⟩⟩⟩⟩⟩⟩, ⟨⟨(il_nil rfl), ⟨(il_nil rfl), ⟨(il_nil rfl), ⟨(il_nil rfl), ⟨(il_nil rfl), ⟨(il_nil rfl), ⟨(il_nil rfl), ⟨(il_nil (ids_slM (fun _ => rfl) _)), ⟨(il_nil rfl), ⟨(il_nil (ids_slM ids_Term _)), ⟨(il_nil (ids_slM ids_Entry _)), ⟨(il_nil rfl), ⟨(il_nil rfl), ⟨(il_nil (ids_slM ids_Typ _)), ⟨(il_nil (ids_slM (fun _ => rfl) _)), ⟨(il_nil (ids_slM (fun _ => rfl) _)), ⟨(il_nil rfl), ⟨(il_nil rfl), trivial⟩⟩⟩⟩⟩⟩⟩⟩⟩⟩⟩⟩⟩⟩⟩⟩⟩⟩, ⟨⟨(il_nil rfl), ⟨(il_nil (ids_V _)), trivial⟩⟩, trivial⟩⟩⟩
      ·rintro s11 h; replace h : check_fielded_j2 (fun y0 y1 y2 => g1_f (y0, y1, y2)) s2 s3 x5 s11 = some r := h; unfold check_fielded_j2 at h
       change BW _ _ _ ⟨[(2, (I64 a2)), (4, (PV.rf 0 0)), (8, (I64 s11)), (9, (I64 s2)), (11, (PV.rf 1 0)), (16, (PV.sl none 2 (List.map ofFld a0))), (17, (I64 ((((a0).length : Nat) : Int)))), (18, (I64 s3))], [.box 34 [(I64 a1.kind), (I64 a1.of), (I64 ((a1.only).kind)), (BO ((a1.only).bool)), (I64 ((a1.only).int)), (PV.v (.float .f64 (a1.only).float)), (ofStr (a1.only).text), (PV.sl none 1 (List.map ofB (a1.only).bytes)), (PV.v (.int .u64 (a1.only).ref)), (PV.sl none 11 (List.map ofTerm (a1.only).list)), (PV.sl none 12 (List.map ofEntry (a1.only).fields)), (ofStr (a1.only).cls), (I64 ((a1.only).ver)), (PV.sl none 18 (List.map ofTyp a1.parts)), (PV.sl none 1 (List.map ofStr a1.names)), (PV.sl none 1 (List.map ofBool a1.lacks)), (BO a1.opn), (ofStr a1.cls)], .box 43 [(ofStr x5.1), (ofV x5.2)]], _⟩ _
       refine bw_region ?_
       refine sM rfl rfl rfl rfl rfl ?_
       refine sS rfl rfl rfl (op1_faR st_43 (i := 1) rfl rfl rfl) ?_
       refine sS rfl rfl rfl ((op1_ldR Try.underlying20 rfl rfl rfl rfl rfl)) ?_
       obtain ⟨x12, hx12, h⟩ := obind h
       refine sS rfl rfl rfl (op1_pcall rfl en_89 rfl (.cons (Wk.refl _) .nil) ⟨(ids_V x5.2), trivial⟩ (s_check_parts x5.2 x12 hx12) rfl) ?_
       refine sS rfl rfl rfl (op1_addW rfl rfl rfl) ?_
       refine sA rfl rfl rfl rfl rfl (ao_nil ?_)
       change BW _ _ _ _ _
       refine bw_region ?_
       refine sS rfl rfl rfl (op1_addW rfl rfl rfl) ?_
       refine sM rfl rfl rfl rfl rfl (ao_nil ?_)
       exact ⟨rfl, (s11, (IntKind.i64.wrap (s2 + x12)), (IntKind.i64.wrap (s3 + 1))), h, ⟨(.cons .same .nil), (sC rfl (sC rfl (sC rfl (sC rfl (sC rfl (sC rfl (sC rfl sub_nil)))))))⟩⟩
      ·refine bw_seqJ (ι := Bool) (fun i => check_fielded_j3 r_check_is (fun y0 y1 y2 => g1_f (y0, y1, y2)) a1 a2 s2 s3 x5 s6 i = some r) (fun i => [(2, (I64 a2)), (4, (PV.rf 0 0)), (8, (I64 s6)), (9, (I64 s2)), (11, (PV.rf 1 0)), (16, (PV.sl none 2 (List.map ofFld a0))), (17, (I64 ((((a0).length : Nat) : Int)))), (18, (I64 s3)), (60, (BO i))]) (fun i => [.box 34 [(I64 a1.kind), (I64 a1.of), (I64 ((a1.only).kind)), (BO ((a1.only).bool)), (I64 ((a1.only).int)), (PV.v (.float .f64 (a1.only).float)), (ofStr (a1.only).text), (PV.sl none 1 (List.map ofB (a1.only).bytes)), (PV.v (.int .u64 (a1.only).ref)), (PV.sl none 11 (List.map ofTerm (a1.only).list)), (PV.sl none 12 (List.map ofEntry (a1.only).fields)), (ofStr (a1.only).cls), (I64 ((a1.only).ver)), (PV.sl none 18 (List.map ofTyp a1.parts)), (PV.sl none 1 (List.map ofStr a1.names)), (PV.sl none 1 (List.map ofBool a1.lacks)), (BO a1.opn), (ofStr a1.cls)], .box 43 [(ofStr x5.1), (ofV x5.2)]]) ?_ ?_ ?_
       ·intro i; exact ⟨Nat.le_of_ble_eq_true rfl, ⟨(il_nil rfl), ⟨(il_rf rfl), ⟨(il_nil rfl), ⟨(il_nil rfl), ⟨(il_rf rfl), ⟨(il_nil (ids_slM ids_Fld _)), ⟨(il_nil rfl), ⟨(il_nil rfl), ⟨(il_nil rfl), trivial⟩⟩⟩⟩⟩⟩⟩⟩⟩, ⟨⟨(il_nil rfl), ⟨(il_nil rfl), ⟨(il_nil rfl), ⟨(il_nil rfl), ⟨(il_nil rfl), ⟨(il_nil rfl), ⟨(il_nil rfl), ⟨(il_nil (ids_slM (fun _ => rfl) _)), ⟨(il_nil rfl), ⟨(il_nil (ids_slM ids_Term _)), ⟨(il_nil (ids_slM ids_Entry _)), ⟨(il_nil rfl), ⟨(il_nil rfl), ⟨(il_nil (ids_slM ids_Typ _)), ⟨(il_nil (ids_slM (fun _ => rfl) _)), ⟨(il_nil (ids_slM (fun _ => rfl) _)), ⟨(il_nil rfl), ⟨(il_nil rfl), trivial⟩⟩⟩⟩⟩⟩⟩⟩⟩⟩⟩⟩⟩⟩⟩⟩⟩⟩, ⟨⟨(il_nil rfl), ⟨(il_nil (ids_V _)), trivial⟩⟩, trivial⟩⟩⟩
       ·rintro s13 h; replace h : check_fielded_j3 r_check_is (fun y0 y1 y2 => g1_f (y0, y1, y2)) a1 a2 s2 s3 x5 s6 s13 = some r := h; unfold check_fielded_j3 at h
        change BW _ _ _ ⟨[(2, (I64 a2)), (4, (PV.rf 0 0)), (8, (I64 s6)), (9, (I64 s2)), (11, (PV.rf 1 0)), (16, (PV.sl none 2 (List.map ofFld a0))), (17, (I64 ((((a0).length : Nat) : Int)))), (18, (I64 s3)), (60, (BO s13))], [.box 34 [(I64 a1.kind), (I64 a1.of), (I64 ((a1.only).kind)), (BO ((a1.only).bool)), (I64 ((a1.only).int)), (PV.v (.float .f64 (a1.only).float)), (ofStr (a1.only).text), (PV.sl none 1 (List.map ofB (a1.only).bytes)), (PV.v (.int .u64 (a1.only).ref)), (PV.sl none 11 (List.map ofTerm (a1.only).list)), (PV.sl none 12 (List.map ofEntry (a1.only).fields)), (ofStr (a1.only).cls), (I64 ((a1.only).ver)), (PV.sl none 18 (List.map ofTyp a1.parts)), (PV.sl none 1 (List.map ofStr a1.names)), (PV.sl none 1 (List.map ofBool a1.lacks)), (BO a1.opn), (ofStr a1.cls)], .box 43 [(ofStr x5.1), (ofV x5.2)]], _⟩ _
        refine bw_cond rfl ?_ ?_
        ·intro hc14; replace h := ocond_t hc14 h
         refine bw_seq ?_
         refine bw_seq (bw_tail 13 [] [0, 1] mo (by kernel_rfl) ?_)
         refine ac_go rfl rfl rfl rfl (fun H hp => op1_faR st_43 (i := 1) rfl rfl rfl) ?_
         refine ac_go rfl rfl rfl rfl (fun H hp => (op1_ldR Try.underlying20 rfl rfl rfl (hp.at rfl rfl) rfl)) ?_
         refine ac_go rfl rfl rfl rfl (fun H hp => op1_faR st_34 (i := 3) rfl rfl rfl) ?_
         refine ac_go rfl rfl rfl rfl (fun H hp => (op1_ldR Try.underlying30 rfl rfl rfl (hp.at rfl rfl) rfl)) ?_
         refine ac_go rfl rfl rfl rfl (fun H hp => op1_move rfl rfl) ?_
         obtain ⟨x15, hx15, h⟩ := obind h
         refine ac_go rfl rfl rfl rfl (fun H hp => op1_idxM Try.underlying30 inf_34 rfl rfl rfl hx15 (ofTyp_eq _)) ?_
         refine ac_go rfl rfl rfl rfl (fun H hp => op1_ldPW inf_34 Try.underlying34 rfl rfl rfl rfl rfl) ?_
         refine ac_go rfl rfl rfl rfl (fun H hp => op1_move rfl rfl) ?_
         obtain ⟨x16, hx16, h⟩ := obind h
         refine ac_go rfl rfl rfl rfl (fun H hp => op1_pcall rfl en_31 rfl (.cons (Wk.refl _) (.cons (Wk.refl _) (.cons (Wk.refl _) .nil))) ⟨(ids_V x5.2), ⟨(ids_TypX x15), ⟨rfl, trivial⟩⟩⟩ (c_check_is x5.2 x15 s2 x16 hx16) (ids_tup_cons rfl (ids_tup_cons rfl ids_tup_nil))) ?_
         refine ac_go rfl rfl rfl rfl (fun H hp => op1_move rfl rfl) ?_
         refine ac_go rfl rfl rfl rfl (fun H hp => op1_ext rfl rfl rfl) ?_
         refine ac_go rfl rfl rfl rfl (fun H hp => op1_ext rfl rfl rfl) ?_
         refine ac_go rfl rfl rfl rfl (fun H hp => op1_assign rfl rfl) ?_
         refine ac_nil ?_
         change AO _ _ _ _ _
         refine sA rfl rfl rfl rfl rfl (ao_nil ?_)
         change BW _ _ _ _ _
         refine bR ?_
         refine sM rfl rfl rfl rfl rfl ?_
         refine sS rfl rfl rfl (op1_not rfl rfl) (ao_nil ?_)
         change BW _ _ _ _ _
         refine bw_cond rfl ?_ ?_
         ·intro hc17; replace h := ocond_t hc17 h
          refine bR ?_
          refine sM rfl rfl rfl rfl rfl ?_
          refine sA rfl rfl rfl rfl rfl ?_
          refine sA rfl rfl rfl rfl rfl (ao_nil ?_)
          change BW _ _ _ _ _
          refine bw_ret ?_
          change ∃ xs, _ = some xs ∧ EndOk _ _ _ _
          obtain rfl := Option.some.inj h
          exact ⟨_, rfl, endOk0 (y := (PV.tup [(BO false), (I64 x16.2)])) (Wk.refl _) (ids_tup_cons rfl (ids_tup_cons rfl ids_tup_nil)) ⟨rfl, rfl⟩⟩
         ·intro hc17; replace h := ocond_f hc17 h
          refine bw_skip ?_
          change BW _ _ _ _ _
          refine bw_region ?_
          refine sM rfl rfl rfl rfl rfl ?_
          refine sS rfl rfl rfl (op1_addW rfl rfl rfl) ?_
          refine sA rfl rfl rfl rfl rfl (ao_nil ?_)
          exact ⟨rfl, (IntKind.i64.wrap (s6 + 1)), h, ⟨(.cons .same (.cons .same .nil)), (sC rfl (sC rfl (sC rfl (sC rfl (sC rfl (sC rfl (sC rfl (sC rfl sub_nil))))))))⟩⟩
        ·intro hc14; replace h := ocond_f hc14 h
         refine bR ?_
         refine sS rfl rfl rfl (op1_faR st_34 (i := 6) rfl rfl rfl) ?_
         refine sS rfl rfl rfl ((op1_ldR Try.underlying4 rfl rfl rfl rfl rfl)) ?_
         refine sS rfl rfl rfl (op1_not rfl rfl) (ao_nil ?_)
         change BW _ _ _ _ _
         refine bw_cond rfl ?_ ?_
         ·intro hc18; replace h := ocond_t hc18 h
          refine bR ?_
          refine sM rfl rfl rfl rfl rfl ?_
          refine sA rfl rfl rfl rfl rfl ?_
          refine sA rfl rfl rfl rfl rfl (ao_nil ?_)
          change BW _ _ _ _ _
          refine bw_ret ?_
          change ∃ xs, _ = some xs ∧ EndOk _ _ _ _
          obtain rfl := Option.some.inj h
          exact ⟨_, rfl, endOk0 (y := (PV.tup [(BO false), (I64 a2)])) (Wk.refl _) (ids_tup_cons rfl (ids_tup_cons rfl ids_tup_nil)) ⟨rfl, rfl⟩⟩
         ·intro hc18; replace h := ocond_f hc18 h
          refine bw_skip ?_
          exact ⟨rfl, s6, h, ⟨(.cons .same (.cons .same .nil)), (sC rfl (sC rfl (sC rfl (sC rfl (sC rfl (sC rfl (sC rfl (sC rfl sub_nil))))))))⟩⟩
       ·refine bw_tail 13 [] [0, 1] mo (by kernel_rfl) ?_
        refine ac_go rfl rfl rfl rfl (fun H hp => op1_move rfl rfl) ?_
        refine ac_go rfl rfl rfl rfl (fun H hp => op1_faR st_34 (i := 4) rfl rfl rfl) ?_
        refine ac_go rfl rfl rfl rfl (fun H hp => (op1_ldR Try.underlying31 rfl rfl rfl (hp.at rfl rfl) rfl)) ?_
        refine ac_go rfl rfl rfl rfl (fun H hp => op1_lenM Try.underlying31 rfl rfl) ?_
        refine ac_go rfl rfl rfl rfl (fun H hp => (op1_cmp rfl rfl rfl rfl).cast (y := (BO ((decide (s6 < (((a1.names).length : Nat) : Int)))))) rfl rfl) ?_
        refine ac_go rfl rfl rfl rfl (fun H hp => op1_move rfl rfl) ?_
        refine ac_cases 51 rfl ?_ ?_
        ·intro hb19; replace h := ocond_t hb19 h
         refine ac_yes rfl rfl rfl rfl rfl rfl rfl (fun H hp => op1_faR st_34 (i := 4) rfl rfl rfl) ?_
         refine ac_yes rfl rfl rfl rfl rfl rfl rfl (fun H hp => (op1_ldR Try.underlying31 rfl rfl rfl (hp.at rfl rfl) rfl)) ?_
         refine ac_yes rfl rfl rfl rfl rfl rfl rfl (fun H hp => op1_move rfl rfl) ?_
         obtain ⟨x20, hx20, h⟩ := obind h
         refine ac_yes rfl rfl rfl rfl rfl rfl rfl (fun H hp => op1_idxM Try.underlying31 inf_9 rfl rfl rfl hx20 rfl) ?_
         refine ac_yes rfl rfl rfl rfl rfl rfl rfl (fun H hp => op1_ldP (y := (ofStr x20)) Try.underlying9 rfl rfl rfl rfl) ?_
         refine ac_yes rfl rfl rfl rfl rfl rfl rfl (fun H hp => op1_faR st_43 (i := 0) rfl rfl rfl) ?_
         refine ac_yes rfl rfl rfl rfl rfl rfl rfl (fun H hp => (op1_ldR Try.underlying9 rfl rfl rfl (hp.at rfl rfl) rfl)) ?_
         refine ac_nil ?_
         change AO _ _ _ _ _
         refine ao_yes rfl rfl rfl rfl rfl rfl ((op1_cmpT (a := x20) (b := x5.1) rfl rfl rfl rfl).cast (y := (BO ((x20 == x5.1)))) rfl rfl) ?_
         refine sS rfl rfl rfl (op1_pickT rfl rfl rfl) (ao_nil ?_)
         exact ⟨rfl, (x20 == x5.1), h, ⟨(.cons .same (.cons .same .nil)), (sC rfl (sC rfl (sC rfl (sC rfl (sC rfl (sC rfl (sC rfl (sC rfl (sC rfl sub_nil)))))))))⟩⟩
        ·intro hb19; replace h := ocond_f hb19 h
         refine ac_no rfl rfl rfl rfl rfl rfl rfl ?_
         refine ac_no rfl rfl rfl rfl rfl rfl rfl ?_
         refine ac_no rfl rfl rfl rfl rfl rfl rfl ?_
         refine ac_no rfl rfl rfl rfl rfl rfl rfl ?_
         refine ac_no rfl rfl rfl rfl rfl rfl rfl ?_
         refine ac_no rfl rfl rfl rfl rfl rfl rfl ?_
         refine ac_no rfl rfl rfl rfl rfl rfl rfl ?_
         refine ac_nil ?_
         change AO _ _ _ _ _
         refine ao_no rfl rfl rfl rfl rfl rfl ?_
         refine sS rfl rfl rfl (op1_pickF rfl rfl rfl) (ao_nil ?_)
         exact ⟨rfl, false, h, ⟨(.cons .same (.cons .same .nil)), (sC rfl (sC rfl (sC rfl (sC rfl (sC rfl (sC rfl (sC rfl (sC rfl (sC rfl sub_nil)))))))))⟩⟩
    ·refine bw_tail 13 [] [0, 1] mo (by kernel_rfl) ?_
     refine ac_go rfl rfl rfl rfl (fun H hp => op1_move rfl rfl) ?_
     refine ac_go rfl rfl rfl rfl (fun H hp => op1_faR st_34 (i := 4) rfl rfl rfl) ?_
     refine ac_go rfl rfl rfl rfl (fun H hp => (op1_ldR Try.underlying31 rfl rfl rfl (hp.at rfl rfl) rfl)) ?_
     refine ac_go rfl rfl rfl rfl (fun H hp => op1_lenM Try.underlying31 rfl rfl) ?_
     refine ac_go rfl rfl rfl rfl (fun H hp => (op1_cmp rfl rfl rfl rfl).cast (y := (BO ((decide (s6 < (((a1.names).length : Nat) : Int)))))) rfl rfl) ?_
     refine ac_go rfl rfl rfl rfl (fun H hp => op1_move rfl rfl) ?_
     refine ac_cases 27 rfl ?_ ?_
     ·intro hb21; replace h := ocond_t hb21 h
      refine ac_yes rfl rfl rfl rfl rfl rfl rfl (fun H hp => op1_faR st_34 (i := 4) rfl rfl rfl) ?_
      refine ac_yes rfl rfl rfl rfl rfl rfl rfl (fun H hp => (op1_ldR Try.underlying31 rfl rfl rfl (hp.at rfl rfl) rfl)) ?_
      refine ac_yes rfl rfl rfl rfl rfl rfl rfl (fun H hp => op1_move rfl rfl) ?_
      obtain ⟨x22, hx22, h⟩ := obind h
      refine ac_yes rfl rfl rfl rfl rfl rfl rfl (fun H hp => op1_idxM Try.underlying31 inf_9 rfl rfl rfl hx22 rfl) ?_
      refine ac_yes rfl rfl rfl rfl rfl rfl rfl (fun H hp => op1_ldP (y := (ofStr x22)) Try.underlying9 rfl rfl rfl rfl) ?_
      refine ac_yes rfl rfl rfl rfl rfl rfl rfl (fun H hp => op1_faR st_43 (i := 0) rfl rfl rfl) ?_
      refine ac_yes rfl rfl rfl rfl rfl rfl rfl (fun H hp => (op1_ldR Try.underlying9 rfl rfl rfl (hp.at rfl rfl) rfl)) ?_
      refine ac_nil ?_
      change AO _ _ _ _ _
      refine ao_yes rfl rfl rfl rfl rfl rfl ((op1_cmpT (a := x22) (b := x5.1) rfl rfl rfl rfl).cast (y := (BO ((Op.bytesLess x22 x5.1)))) rfl rfl) ?_
      refine sS rfl rfl rfl (op1_pickT rfl rfl rfl) (ao_nil ?_)
      exact ⟨rfl, (Op.bytesLess x22 x5.1), h, ⟨(.cons .same (.cons .same .nil)), (sC rfl (sC rfl (sC rfl (sC rfl (sC rfl (sC rfl (sC rfl (sC rfl (sC rfl sub_nil)))))))))⟩⟩
     ·intro hb21; replace h := ocond_f hb21 h
      refine ac_no rfl rfl rfl rfl rfl rfl rfl ?_
      refine ac_no rfl rfl rfl rfl rfl rfl rfl ?_
      refine ac_no rfl rfl rfl rfl rfl rfl rfl ?_
      refine ac_no rfl rfl rfl rfl rfl rfl rfl ?_
      refine ac_no rfl rfl rfl rfl rfl rfl rfl ?_
      refine ac_no rfl rfl rfl rfl rfl rfl rfl ?_
      refine ac_no rfl rfl rfl rfl rfl rfl rfl ?_
      refine ac_nil ?_
      change AO _ _ _ _ _
      refine ao_no rfl rfl rfl rfl rfl rfl ?_
      refine sS rfl rfl rfl (op1_pickF rfl rfl rfl) (ao_nil ?_)
      exact ⟨rfl, false, h, ⟨(.cons .same (.cons .same .nil)), (sC rfl (sC rfl (sC rfl (sC rfl (sC rfl (sC rfl (sC rfl (sC rfl (sC rfl sub_nil)))))))))⟩⟩
  ·intro hc4; replace h := ocond_f hc4 h
   refine bw_exit ?_
   change BW _ _ _ _ _
   refine bw_seq ?_
   refine bw_block ?_
   change BW _ _ _ _ _
   unfold check_fielded_l3 at h
   refine bw_loop (σ := Int) (fun i => [(2, (I64 a2)), (4, (PV.rf 0 0)), (8, (I64 i))]) (fun i => [.box 34 [(I64 a1.kind), (I64 a1.of), (I64 ((a1.only).kind)), (BO ((a1.only).bool)), (I64 ((a1.only).int)), (PV.v (.float .f64 (a1.only).float)), (ofStr (a1.only).text), (PV.sl none 1 (List.map ofB (a1.only).bytes)), (PV.v (.int .u64 (a1.only).ref)), (PV.sl none 11 (List.map ofTerm (a1.only).list)), (PV.sl none 12 (List.map ofEntry (a1.only).fields)), (ofStr (a1.only).cls), (I64 ((a1.only).ver)), (PV.sl none 18 (List.map ofTyp a1.parts)), (PV.sl none 1 (List.map ofStr a1.names)), (PV.sl none 1 (List.map ofBool a1.lacks)), (BO a1.opn), (ofStr a1.cls)]]) s1 h ?_ ?_ ?_
   ·intro i; exact ⟨Nat.le_of_ble_eq_true rfl, ⟨(il_nil rfl), ⟨(il_rf rfl), ⟨(il_nil rfl), trivial⟩⟩⟩, ⟨⟨(il_nil rfl), ⟨(il_nil rfl), ⟨(il_nil rfl), ⟨(il_nil rfl), ⟨(il_nil rfl), ⟨(il_nil rfl), ⟨(il_nil rfl), ⟨(il_nil (ids_slM (fun _ => rfl) _)), ⟨(il_nil rfl), ⟨(il_nil (ids_slM ids_Term _)), ⟨(il_nil (ids_slM ids_Entry _)), ⟨(il_nil rfl), ⟨(il_nil rfl), ⟨(il_nil (ids_slM ids_Typ _)), ⟨(il_nil (ids_slM (fun _ => rfl) _)), ⟨(il_nil (ids_slM (fun _ => rfl) _)), ⟨(il_nil rfl), ⟨(il_nil rfl), trivial⟩⟩⟩⟩⟩⟩⟩⟩⟩⟩⟩⟩⟩⟩⟩⟩⟩⟩, trivial⟩⟩
   ·exact ⟨(.cons .same .nil), (sC rfl (sC rfl (sC rfl sub_nil)))⟩
   ·rintro g2_f s23 h; replace h : check_fielded_l3b a1 a2 (fun y0 => g2_f y0) s23 = some r := h; unfold check_fielded_l3b at h
    change BW _ _ _ ⟨[(2, (I64 a2)), (4, (PV.rf 0 0)), (8, (I64 s23))], [.box 34 [(I64 a1.kind), (I64 a1.of), (I64 ((a1.only).kind)), (BO ((a1.only).bool)), (I64 ((a1.only).int)), (PV.v (.float .f64 (a1.only).float)), (ofStr (a1.only).text), (PV.sl none 1 (List.map ofB (a1.only).bytes)), (PV.v (.int .u64 (a1.only).ref)), (PV.sl none 11 (List.map ofTerm (a1.only).list)), (PV.sl none 12 (List.map ofEntry (a1.only).fields)), (ofStr (a1.only).cls), (I64 ((a1.only).ver)), (PV.sl none 18 (List.map ofTyp a1.parts)), (PV.sl none 1 (List.map ofStr a1.names)), (PV.sl none 1 (List.map ofBool a1.lacks)), (BO a1.opn), (ofStr a1.cls)]], _⟩ _
    refine bw_seq ?_
    refine bR ?_
    refine sM rfl rfl rfl rfl rfl ?_
    refine sS rfl rfl rfl (op1_faR st_34 (i := 4) rfl rfl rfl) ?_
    refine sS rfl rfl rfl ((op1_ldR Try.underlying31 rfl rfl rfl rfl rfl)) ?_
    refine sS rfl rfl rfl (op1_lenM Try.underlying31 rfl rfl) ?_
    refine sS rfl rfl rfl ((op1_cmp rfl rfl rfl rfl).cast (y := (BO ((decide (s23 < (((a1.names).length : Nat) : Int)))))) rfl rfl) (ao_nil ?_)
    change BW _ _ _ _ _
    refine bw_cond rfl ?_ ?_
    ·intro hc24; replace h := ocond_t hc24 h
     refine bw_skip ?_
     change BW _ _ _ _ _
     refine bw_seq ?_
     refine bw_block ?_
     change BW _ _ _ _ _
     refine bR ?_
     refine sS rfl rfl rfl (op1_faR st_34 (i := 5) rfl rfl rfl) ?_
     refine sS rfl rfl rfl ((op1_ldR Try.underlying32 rfl rfl rfl rfl rfl)) ?_
     refine sM rfl rfl rfl rfl rfl ?_
     obtain ⟨x25, hx25, h⟩ := obind h
     refine sS rfl rfl rfl (op1_idxM Try.underlying32 inf_4 rfl rfl rfl hx25 rfl) ?_
     refine sS rfl rfl rfl (op1_ldP (y := (BO x25)) Try.underlying4 rfl rfl rfl rfl) ?_
     refine sS rfl rfl rfl (op1_not rfl rfl) (ao_nil ?_)
     change BW _ _ _ _ _
     refine bw_cond rfl ?_ ?_
     ·intro hc26; replace h := ocond_t hc26 h
      refine bR ?_
      refine sM rfl rfl rfl rfl rfl ?_
      refine sA rfl rfl rfl rfl rfl ?_
      refine sA rfl rfl rfl rfl rfl (ao_nil ?_)
      change BW _ _ _ _ _
      refine bw_ret ?_
      change ∃ xs, _ = some xs ∧ EndOk _ _ _ _
      obtain rfl := Option.some.inj h
      exact ⟨_, rfl, endOk0 (y := (PV.tup [(BO false), (I64 a2)])) (Wk.refl _) (ids_tup_cons rfl (ids_tup_cons rfl ids_tup_nil)) ⟨rfl, rfl⟩⟩
     ·intro hc26; replace h := ocond_f hc26 h
      refine bw_skip ?_
      change BW _ _ _ _ _
      refine bw_region ?_
      refine sM rfl rfl rfl rfl rfl ?_
      refine sS rfl rfl rfl (op1_addW rfl rfl rfl) ?_
      refine sA rfl rfl rfl rfl rfl (ao_nil ?_)
      exact ⟨rfl, (IntKind.i64.wrap (s23 + 1)), h, ⟨(.cons .same .nil), (sC rfl (sC rfl (sC rfl sub_nil)))⟩⟩
    ·intro hc24; replace h := ocond_f hc24 h
     refine bw_exit ?_
     change BW _ _ _ _ _
     refine bR ?_
     refine sA rfl rfl rfl rfl rfl ?_
     refine sA rfl rfl rfl rfl rfl (ao_nil ?_)
     change BW _ _ _ _ _
     refine bw_ret ?_
     change ∃ xs, _ = some xs ∧ EndOk _ _ _ _
     obtain rfl := Option.some.inj h
     exact ⟨_, rfl, endOk0 (y := (PV.tup [(BO true), (I64 0)])) (Wk.refl _) (ids_tup_cons rfl (ids_tup_cons rfl ids_tup_nil)) ⟨rfl, rfl⟩⟩
theorem t_check_listed (r_check_fielded : (List (Str × V)) → Typ → Int → Option (Bool × Int)) (c_check_fielded : ∀ (a0 : (List (Str × V))) (a1 : Typ) (a2 : Int) r, r_check_fielded a0 a1 a2 = some r → PCalls Try.prog 56 [(PV.sl none 2 (List.map ofFld a0)), (ofTypX a1), (I64 a2)] (PV.tup [(BO r.1), (I64 r.2)])) (r_check_listed : (List V) → Typ → Int → Option (Bool × Int)) (c_check_listed : ∀ (a0 : (List V)) (a1 : Typ) (a2 : Int) r, r_check_listed a0 a1 a2 = some r → PCalls Try.prog 55 [(PV.sl none 1 (List.map ofV a0)), (ofTypX a1), (I64 a2)] (PV.tup [(BO r.1), (I64 r.2)])) (r_check_is : V → Typ → Int → Option (Bool × Int)) (c_check_is : ∀ (a0 : V) (a1 : Typ) (a2 : Int) r, r_check_is a0 a1 a2 = some r → PCalls Try.prog 31 [(ofV a0), (ofTypX a1), (I64 a2)] (PV.tup [(BO r.1), (I64 r.2)])) (a0 : (List V)) (a1 : Typ) (a2 : Int) (r : (Bool × Int)) (h : b_check_listed r_check_fielded r_check_listed r_check_is a0 a1 a2 = some r) : PCalls Try.prog 55 [(PV.sl none 1 (List.map ofV a0)), (ofTypX a1), (I64 a2)] (PV.tup [(BO r.1), (I64 r.2)]) := by
 unfold b_check_listed at h
 refine acalls_of Try.func55 rfl Try.ntmps55 Try.results55 rfl (aw_of_bw ?_)
 change BW _ _ _ ⟨[(0, (PV.sl none 1 (List.map ofV a0))), (1, (ofTypX a1)), (2, (I64 a2))], [], _⟩ _
 refine bR ?_
 refine sS rfl rfl rfl (op1_box rfl rfl rfl) ?_
 refine sA rfl rfl rfl rfl rfl ?_
 refine sA rfl rfl rfl rfl rfl (ao_nil ?_)
 change BW _ _ _ _ _
 refine bR ?_
 refine sM rfl rfl rfl rfl rfl ?_
 refine sS rfl rfl rfl (op1_addW rfl rfl rfl) ?_
 refine sA rfl rfl rfl rfl rfl (ao_nil ?_)
 change BW _ _ _ _ _
 refine bw_seq ?_
 refine bR ?_
 refine sM rfl rfl rfl rfl rfl ?_
 refine sS rfl rfl rfl (op1_lenM Try.underlying37 rfl rfl) ?_
 refine sM rfl rfl rfl rfl rfl (ao_nil ?_)
 change BW _ _ _ _ _
 refine bw_block ?_
 change BW _ _ _ _ _
 unfold check_listed_l1 at h
 refine bw_loop (σ := (Int × Nat)) (fun i => [(4, (PV.rf 0 0)), (8, (I64 i.1)), (15, (PV.sl none 1 (List.map ofV a0))), (16, (I64 ((((a0).length : Nat) : Int)))), (17, (I64 (((i.2 : Nat) : Int))))]) (fun i => [.box 34 [(I64 a1.kind), (I64 a1.of), (I64 ((a1.only).kind)), (BO ((a1.only).bool)), (I64 ((a1.only).int)), (PV.v (.float .f64 (a1.only).float)), (ofStr (a1.only).text), (PV.sl none 1 (List.map ofB (a1.only).bytes)), (PV.v (.int .u64 (a1.only).ref)), (PV.sl none 11 (List.map ofTerm (a1.only).list)), (PV.sl none 12 (List.map ofEntry (a1.only).fields)), (ofStr (a1.only).cls), (I64 ((a1.only).ver)), (PV.sl none 18 (List.map ofTyp a1.parts)), (PV.sl none 1 (List.map ofStr a1.names)), (PV.sl none 1 (List.map ofBool a1.lacks)), (BO a1.opn), (ofStr a1.cls)]]) ((IntKind.i64.wrap (a2 + 1)), 0) h ?_ ?_ ?_
 ·intro i; exact ⟨Nat.le_of_ble_eq_true rfl, ⟨(il_rf rfl), ⟨(il_nil rfl), ⟨(il_nil (ids_slM ids_V _)), ⟨(il_nil rfl), ⟨(il_nil rfl), trivial⟩⟩⟩⟩⟩, ⟨⟨(il_nil rfl), ⟨(il_nil rfl), ⟨(il_nil rfl), ⟨(il_nil rfl), ⟨(il_nil rfl), ⟨(il_nil rfl), ⟨(il_nil rfl), ⟨(il_nil (ids_slM (fun _ => rfl) _)), ⟨(il_nil rfl), ⟨(il_nil (ids_slM ids_Term _)), ⟨(il_nil (ids_slM ids_Entry _)), ⟨(il_nil rfl), ⟨(il_nil rfl), ⟨(il_nil (ids_slM ids_Typ _)), ⟨(il_nil (ids_slM (fun _ => rfl) _)), ⟨(il_nil (ids_slM (fun _ => rfl) _)), ⟨(il_nil rfl), ⟨(il_nil rfl), trivial⟩⟩⟩⟩⟩⟩⟩⟩⟩⟩⟩⟩⟩⟩⟩⟩⟩⟩, trivial⟩⟩
 ·exact ⟨(.cons .same .nil), (sC rfl (sC rfl (sC rfl (sC rfl (sC rfl sub_nil)))))⟩
 ·rintro g1_f ⟨s1, s2⟩ h; replace h : check_listed_l1b r_check_is a0 a1 (fun y0 y1 => g1_f (y0, y1)) s1 s2 = some r := h; unfold check_listed_l1b at h
  change BW _ _ _ ⟨[(4, (PV.rf 0 0)), (8, (I64 s1)), (15, (PV.sl none 1 (List.map ofV a0))), (16, (I64 ((((a0).length : Nat) : Int)))), (17, (I64 (((s2 : Nat) : Int))))], [.box 34 [(I64 a1.kind), (I64 a1.of), (I64 ((a1.only).kind)), (BO ((a1.only).bool)), (I64 ((a1.only).int)), (PV.v (.float .f64 (a1.only).float)), (ofStr (a1.only).text), (PV.sl none 1 (List.map ofB (a1.only).bytes)), (PV.v (.int .u64 (a1.only).ref)), (PV.sl none 11 (List.map ofTerm (a1.only).list)), (PV.sl none 12 (List.map ofEntry (a1.only).fields)), (ofStr (a1.only).cls), (I64 ((a1.only).ver)), (PV.sl none 18 (List.map ofTyp a1.parts)), (PV.sl none 1 (List.map ofStr a1.names)), (PV.sl none 1 (List.map ofBool a1.lacks)), (BO a1.opn), (ofStr a1.cls)]], _⟩ _
  refine bR ?_
  refine sS rfl rfl rfl ((op1_cmp rfl rfl rfl rfl).cast (y := (BO ((decide (((s2 : Nat) : Int) < (((a0).length : Nat) : Int)))))) rfl rfl) (ao_nil ?_)
  change BW _ _ _ _ _
  refine bw_seq ?_
  refine bw_len (t := 15) rfl fun hb4 => ?_
  try rw [List.length_map] at hb4
  refine bw_cond rfl ?_ ?_
  ·intro hc3; replace h := ocond_t hc3 h
   have hc3_ := of_decide_eq_true hc3
   refine bw_skip ?_
   change BW _ _ _ _ _
   refine bw_seq ?_
   refine bw_block ?_
   change BW _ _ _ _ _
   refine bR ?_
   obtain ⟨x5, hx5, h⟩ := obind h
   refine sS rfl rfl rfl (op1_idxN (i := s2) Try.underlying37 inf_20 rfl rfl rfl hx5 rfl) ?_
   refine sS rfl rfl rfl (op1_ldP (y := (ofV x5)) Try.underlying20 rfl rfl rfl (by rw [cells_V]; rfl)) ?_
   refine sA rfl rfl rfl rfl rfl (ao_nil ?_)
   change BW _ _ _ _ _
   refine bw_seq ?_
   refine bR ?_
   refine sM rfl rfl rfl rfl rfl ?_
   refine sS rfl rfl rfl ((op1_ldRA inf_34 Try.underlying34 rfl rfl rfl rfl rfl rfl)) ?_
   refine sM rfl rfl rfl rfl rfl ?_
   obtain ⟨x6, hx6, h⟩ := obind h
   refine sS rfl rfl rfl (op1_pcall rfl en_31 rfl (.cons (Wk.refl _) (.cons (Wk.refl _) (.cons (Wk.refl _) .nil))) ⟨(ids_V x5), ⟨(ids_TypX a1), ⟨rfl, trivial⟩⟩⟩ (c_check_is x5 a1 s1 x6 hx6) (ids_tup_cons rfl (ids_tup_cons rfl ids_tup_nil))) ?_
   refine sM rfl rfl rfl rfl rfl ?_
   refine sS rfl rfl rfl (op1_ext rfl rfl rfl) ?_
   refine sS rfl rfl rfl (op1_ext rfl rfl rfl) ?_
   refine sA rfl rfl rfl rfl rfl ?_
   refine sA rfl rfl rfl rfl rfl (ao_nil ?_)
   change BW _ _ _ _ _
   refine bR ?_
   refine sM rfl rfl rfl rfl rfl ?_
   refine sS rfl rfl rfl (op1_not rfl rfl) (ao_nil ?_)
   change BW _ _ _ _ _
   refine bw_cond rfl ?_ ?_
   ·intro hc7; replace h := ocond_t hc7 h
    refine bR ?_
    refine sM rfl rfl rfl rfl rfl ?_
    refine sA rfl rfl rfl rfl rfl ?_
    refine sA rfl rfl rfl rfl rfl (ao_nil ?_)
    change BW _ _ _ _ _
    refine bw_ret ?_
    change ∃ xs, _ = some xs ∧ EndOk _ _ _ _
    obtain rfl := Option.some.inj h
    exact ⟨_, rfl, endOk0 (y := (PV.tup [(BO false), (I64 x6.2)])) (Wk.refl _) (ids_tup_cons rfl (ids_tup_cons rfl ids_tup_nil)) ⟨rfl, rfl⟩⟩
   ·intro hc7; replace h := ocond_f hc7 h
    refine bw_skip ?_
    change BW _ _ _ _ _
    refine bw_region ?_
    refine sM rfl rfl rfl rfl rfl ?_
    refine sM rfl rfl rfl rfl rfl ?_
    obtain ⟨x8, hx8, h⟩ := obind h
    refine sS rfl rfl rfl (op1_pcall rfl en_89 rfl (.cons (Wk.refl _) .nil) ⟨(ids_V x5), trivial⟩ (s_check_parts x5 x8 hx8) rfl) ?_
    refine sS rfl rfl rfl (op1_addW rfl rfl rfl) ?_
    refine sA rfl rfl rfl rfl rfl (ao_nil ?_)
    change BW _ _ _ _ _
    refine bw_region ?_
    refine sS rfl rfl rfl (op1_incN (k := s2) (c := 1) rfl rfl rfl (by omega)) ?_
    refine sM rfl rfl rfl rfl rfl (ao_nil ?_)
    exact ⟨rfl, ((IntKind.i64.wrap (s1 + x8)), (s2 + 1)), h, ⟨(.cons .same .nil), (sC rfl (sC rfl (sC rfl (sC rfl (sC rfl sub_nil)))))⟩⟩
  ·intro hc3; replace h := ocond_f hc3 h
   refine bw_exit ?_
   change BW _ _ _ _ _
   refine bR ?_
   refine sA rfl rfl rfl rfl rfl ?_
   refine sA rfl rfl rfl rfl rfl (ao_nil ?_)
   change BW _ _ _ _ _
   refine bw_ret ?_
   change ∃ xs, _ = some xs ∧ EndOk _ _ _ _
   obtain rfl := Option.some.inj h
   exact ⟨_, rfl, endOk0 (y := (PV.tup [(BO true), (I64 0)])) (Wk.refl _) (ids_tup_cons rfl (ids_tup_cons rfl ids_tup_nil)) ⟨rfl, rfl⟩⟩
theorem t_check_is (r_check_fielded : (List (Str × V)) → Typ → Int → Option (Bool × Int)) (c_check_fielded : ∀ (a0 : (List (Str × V))) (a1 : Typ) (a2 : Int) r, r_check_fielded a0 a1 a2 = some r → PCalls Try.prog 56 [(PV.sl none 2 (List.map ofFld a0)), (ofTypX a1), (I64 a2)] (PV.tup [(BO r.1), (I64 r.2)])) (r_check_listed : (List V) → Typ → Int → Option (Bool × Int)) (c_check_listed : ∀ (a0 : (List V)) (a1 : Typ) (a2 : Int) r, r_check_listed a0 a1 a2 = some r → PCalls Try.prog 55 [(PV.sl none 1 (List.map ofV a0)), (ofTypX a1), (I64 a2)] (PV.tup [(BO r.1), (I64 r.2)])) (r_check_is : V → Typ → Int → Option (Bool × Int)) (c_check_is : ∀ (a0 : V) (a1 : Typ) (a2 : Int) r, r_check_is a0 a1 a2 = some r → PCalls Try.prog 31 [(ofV a0), (ofTypX a1), (I64 a2)] (PV.tup [(BO r.1), (I64 r.2)])) (a0 : V) (a1 : Typ) (a2 : Int) (r : (Bool × Int)) (h : b_check_is r_check_fielded r_check_listed r_check_is a0 a1 a2 = some r) : PCalls Try.prog 31 [(ofV a0), (ofTypX a1), (I64 a2)] (PV.tup [(BO r.1), (I64 r.2)]) := by
 unfold b_check_is at h
 refine acalls_of Try.func31 rfl Try.ntmps31 Try.results31 rfl (aw_of_bw ?_)
 change BW _ _ _ ⟨[(0, (ofV a0)), (1, (ofTypX a1)), (2, (I64 a2))], [], _⟩ _
 refine bR ?_
 refine sS rfl rfl rfl (op1_box rfl rfl rfl) ?_
 refine sA rfl rfl rfl rfl rfl ?_
 refine sA rfl rfl rfl rfl rfl (ao_nil ?_)
 change BW _ _ _ _ _
 refine bR ?_
 refine sA rfl rfl rfl rfl rfl (ao_nil ?_)
 change BW _ _ _ _ _
 refine bw_seqJ (ι := Bool) (fun i => check_is_j1 a2 i = some r) (fun i => [(2, (I64 a2)), (8, (BO i))]) (fun i => []) ?_ ?_ ?_
 ·intro i; exact ⟨Nat.le_of_ble_eq_true rfl, ⟨(il_nil rfl), ⟨(il_nil rfl), trivial⟩⟩, trivial⟩
 ·rintro s1 h; replace h : check_is_j1 a2 s1 = some r := h; unfold check_is_j1 at h
  change BW _ _ _ ⟨[(2, (I64 a2)), (8, (BO s1))], [], _⟩ _
  refine bw_seq ?_
  refine bR ?_
  refine sM rfl rfl rfl rfl rfl (ao_nil ?_)
  change BW _ _ _ _ _
  refine bw_cond rfl ?_ ?_
  ·intro hc2; replace h := ocond_t hc2 h
   refine bR ?_
   refine sA rfl rfl rfl rfl rfl ?_
   refine sA rfl rfl rfl rfl rfl (ao_nil ?_)
   change BW _ _ _ _ _
   refine bw_ret ?_
   change ∃ xs, _ = some xs ∧ EndOk _ _ _ _
   obtain rfl := Option.some.inj h
   exact ⟨_, rfl, endOk0 (y := (PV.tup [(BO true), (I64 0)])) (Wk.refl _) (ids_tup_cons rfl (ids_tup_cons rfl ids_tup_nil)) ⟨rfl, rfl⟩⟩
  ·intro hc2; replace h := ocond_f hc2 h
   refine bw_skip ?_
   change BW _ _ _ _ _
   refine bR ?_
   refine sM rfl rfl rfl rfl rfl ?_
   refine sA rfl rfl rfl rfl rfl ?_
   refine sA rfl rfl rfl rfl rfl (ao_nil ?_)
   change BW _ _ _ _ _
   refine bw_ret ?_
   change ∃ xs, _ = some xs ∧ EndOk _ _ _ _
   obtain rfl := Option.some.inj h
   exact ⟨_, rfl, endOk0 (y := (PV.tup [(BO false), (I64 a2)])) (Wk.refl _) (ids_tup_cons rfl (ids_tup_cons rfl ids_tup_nil)) ⟨rfl, rfl⟩⟩
 ·refine bR ?_
  refine sS rfl rfl rfl (op1_faR st_34 (i := 0) rfl rfl rfl) ?_
  refine sS rfl rfl rfl ((op1_ldR Try.underlying3 rfl rfl rfl rfl rfl)) (ao_nil ?_)
  change BW _ _ _ _ _
  refine bw_block ?_
  change BW _ _ _ _ _
  refine bR ?_
  refine sS rfl rfl rfl ((op1_cmp rfl rfl rfl rfl).cast (y := (BO ((a1.kind == 1)))) rfl rfl) ?_
  refine sA rfl rfl rfl rfl rfl (ao_nil ?_)
  change BW _ _ _ _ _
  refine bw_cond rfl ?_ ?_
  ·intro hc3; replace h := ocond_t hc3 h
   refine bw_region ?_
   refine sA rfl rfl rfl rfl rfl (ao_nil ?_)
   exact ⟨rfl, true, h, ⟨.nil, (sC rfl (sC rfl sub_nil))⟩⟩
  ·intro hc3; replace h := ocond_f hc3 h
   refine bR ?_
   refine sS rfl rfl rfl ((op1_cmp rfl rfl rfl rfl).cast (y := (BO ((a1.kind == 3)))) rfl rfl) ?_
   refine sA rfl rfl rfl rfl rfl (ao_nil ?_)
   change BW _ _ _ _ _
   refine bw_cond rfl ?_ ?_
   ·intro hc4; replace h := ocond_t hc4 h
    refine bw_tail 4 [] [0] mo (by kernel_rfl) ?_
    refine ac_go rfl rfl rfl rfl (fun H hp => op1_move rfl rfl) ?_
    obtain ⟨x5, hx5, h⟩ := obind h
    refine ac_go rfl rfl rfl rfl (fun H hp => op1_pcall rfl en_52 rfl (.cons (Wk.refl _) .nil) ⟨(ids_V a0), trivial⟩ (s_value_Kind a0 x5 hx5) rfl) ?_
    refine ac_go rfl rfl rfl rfl (fun H hp => op1_faR st_34 (i := 1) rfl rfl rfl) ?_
    refine ac_go rfl rfl rfl rfl (fun H hp => (op1_ldR Try.underlying3 rfl rfl rfl (hp.at rfl rfl) rfl)) ?_
    refine ac_nil ?_
    change AO _ _ _ _ _
    refine sS rfl rfl rfl ((op1_cmp rfl rfl rfl rfl).cast (y := (BO ((x5 == a1.of)))) rfl rfl) ?_
    refine sA rfl rfl rfl rfl rfl (ao_nil ?_)
    exact ⟨rfl, (x5 == a1.of), h, ⟨.nil, (sC rfl (sC rfl sub_nil))⟩⟩
   ·intro hc4; replace h := ocond_f hc4 h
    refine bR ?_
    refine sS rfl rfl rfl ((op1_cmp rfl rfl rfl rfl).cast (y := (BO ((a1.kind == 4)))) rfl rfl) ?_
    refine sA rfl rfl rfl rfl rfl (ao_nil ?_)
    change BW _ _ _ _ _
    refine bw_cond rfl ?_ ?_
    ·intro hc6; replace h := ocond_t hc6 h
     refine bR ?_
     refine sS rfl rfl rfl (op1_faR st_34 (i := 2) rfl rfl rfl) ?_
     refine sS rfl rfl rfl ((op1_ldRA inf_29 Try.underlying29 rfl rfl rfl rfl rfl rfl)) ?_
     obtain ⟨x7, hx7, h⟩ := obind h
     refine sS rfl rfl rfl (op1_pcall rfl en_53 rfl (.cons (Wk.refl _) .nil) ⟨(ids_TermX (a1.only)), trivial⟩ (s_value_Of (a1.only) x7 hx7) (ids_tup_cons (ids_V x7.1) (ids_tup_cons rfl ids_tup_nil))) ?_
     refine sM rfl rfl rfl rfl rfl ?_
     refine sS rfl rfl rfl (op1_ext rfl rfl rfl) ?_
     refine sS rfl rfl rfl (op1_ext rfl rfl rfl) ?_
     refine sA rfl rfl rfl rfl rfl ?_
     refine sA rfl rfl rfl rfl rfl (ao_nil ?_)
     change BW _ _ _ _ _
     refine bw_region ?_
     refine sM rfl rfl rfl rfl rfl ?_
     refine sM rfl rfl rfl rfl rfl ?_
     obtain ⟨x8, hx8, h⟩ := obind h
     refine sS rfl rfl rfl (op1_pcall rfl en_54 rfl (.cons (Wk.refl _) (.cons (Wk.refl _) .nil)) ⟨(ids_V a0), ⟨(ids_V x7.1), trivial⟩⟩ (s_value_Same a0 x7.1 x8 hx8) rfl) ?_
     refine sA rfl rfl rfl rfl rfl (ao_nil ?_)
     exact ⟨rfl, x8, h, ⟨.nil, (sC rfl (sC rfl sub_nil))⟩⟩
    ·intro hc6; replace h := ocond_f hc6 h
     refine bR ?_
     refine sS rfl rfl rfl ((op1_cmp rfl rfl rfl rfl).cast (y := (BO ((a1.kind == 8)))) rfl rfl) ?_
     refine sA rfl rfl rfl rfl rfl (ao_nil ?_)
     change BW _ _ _ _ _
     refine bw_cond rfl ?_ ?_
     ·intro hc9; replace h := ocond_t hc9 h
      refine bR ?_
      refine sM rfl rfl rfl rfl rfl ?_
      refine sS rfl rfl rfl (op1_taRec rfl rfl) ?_
      refine sM rfl rfl rfl rfl rfl ?_
      refine sS rfl rfl rfl (op1_ext rfl rfl rfl) ?_
      refine sS rfl rfl rfl (op1_ext rfl rfl rfl) ?_
      refine sA rfl rfl rfl rfl rfl ?_
      refine sA rfl rfl rfl rfl rfl (ao_nil ?_)
      change BW _ _ _ _ _
      refine bw_tail 8 [] [0] mo (by kernel_rfl) ?_
      refine ac_go rfl rfl rfl rfl (fun H hp => op1_move rfl rfl) ?_
      refine ac_go rfl rfl rfl rfl (fun H hp => op1_move rfl rfl) ?_
      refine ac_cases 51 rfl ?_ ?_
      ·intro hb10; replace h := ocond_t hb10 h
       refine ac_yes rfl rfl rfl rfl rfl rfl rfl (fun H hp => op1_move rfl rfl) ?_
       obtain ⟨x11, hx11, h⟩ := obind h
       refine ac_yes rfl rfl rfl rfl rfl rfl rfl (fun H hp => op1_pNil rfl rfl hx11) ?_
       refine ac_yes rfl rfl rfl rfl rfl rfl rfl (fun H hp => op1_faP st_72 (i := 0) rfl rfl rfl) ?_
       refine ac_yes rfl rfl rfl rfl rfl rfl rfl (fun H hp => op1_ldP (y := (ofStr x11.cls)) Try.underlying9 rfl rfl rfl rfl) ?_
       refine ac_yes rfl rfl rfl rfl rfl rfl rfl (fun H hp => op1_faR st_34 (i := 7) rfl rfl rfl) ?_
       refine ac_yes rfl rfl rfl rfl rfl rfl rfl (fun H hp => (op1_ldR Try.underlying9 rfl rfl rfl (hp.at rfl rfl) rfl)) ?_
       refine ac_nil ?_
       change AO _ _ _ _ _
       refine ao_yes rfl rfl rfl rfl rfl rfl ((op1_cmpT (a := x11.cls) (b := a1.cls) rfl rfl rfl rfl).cast (y := (BO ((x11.cls == a1.cls)))) rfl rfl) ?_
       refine sS rfl rfl rfl (op1_pickT rfl rfl rfl) ?_
       refine sA rfl rfl rfl rfl rfl (ao_nil ?_)
       exact ⟨rfl, (x11.cls == a1.cls), h, ⟨.nil, (sC rfl (sC rfl sub_nil))⟩⟩
      ·intro hb10; replace h := ocond_f hb10 h
       refine ac_no rfl rfl rfl rfl rfl rfl rfl ?_
       refine ac_no rfl rfl rfl rfl rfl rfl rfl ?_
       refine ac_no rfl rfl rfl rfl rfl rfl rfl ?_
       refine ac_no rfl rfl rfl rfl rfl rfl rfl ?_
       refine ac_no rfl rfl rfl rfl rfl rfl rfl ?_
       refine ac_no rfl rfl rfl rfl rfl rfl rfl ?_
       refine ac_nil ?_
       change AO _ _ _ _ _
       refine ao_no rfl rfl rfl rfl rfl rfl ?_
       refine sS rfl rfl rfl (op1_pickF rfl rfl rfl) ?_
       refine sA rfl rfl rfl rfl rfl (ao_nil ?_)
       exact ⟨rfl, false, h, ⟨.nil, (sC rfl (sC rfl sub_nil))⟩⟩
     ·intro hc9; replace h := ocond_f hc9 h
      refine bR ?_
      refine sS rfl rfl rfl ((op1_cmp rfl rfl rfl rfl).cast (y := (BO ((a1.kind == 7)))) rfl rfl) ?_
      refine sA rfl rfl rfl rfl rfl (ao_nil ?_)
      change BW _ _ _ _ _
      refine bw_cond rfl ?_ ?_
      ·intro hc12; replace h := ocond_t hc12 h
       refine bR ?_
       refine sS rfl rfl rfl (op1_faR st_34 (i := 3) rfl rfl rfl) ?_
       refine sS rfl rfl rfl ((op1_ldR Try.underlying30 rfl rfl rfl rfl rfl)) ?_
       refine sS rfl rfl rfl (op1_lenM Try.underlying30 rfl rfl) ?_
       refine sM rfl rfl rfl rfl rfl (ao_nil ?_)
       change BW _ _ _ _ _
       refine bw_block ?_
       change BW _ _ _ _ _
       unfold check_is_l1 at h
       refine bw_loop (σ := Nat) (fun i => [(0, (ofV a0)), (2, (I64 a2)), (8, (BO false)), (63, (PV.sl none 18 (List.map ofTyp a1.parts))), (64, (I64 ((((a1.parts).length : Nat) : Int)))), (65, (I64 (((i : Nat) : Int))))]) (fun i => []) 0 h ?_ ?_ ?_
       ·intro i; exact ⟨Nat.le_of_ble_eq_true rfl, ⟨(il_nil (ids_V _)), ⟨(il_nil rfl), ⟨(il_nil rfl), ⟨(il_nil (ids_slM ids_Typ _)), ⟨(il_nil rfl), ⟨(il_nil rfl), trivial⟩⟩⟩⟩⟩⟩, trivial⟩
       ·exact ⟨.nil, (sC rfl (sC rfl (sC rfl (sC rfl (sC rfl (sC rfl sub_nil))))))⟩
       ·rintro g1_f s13 h; replace h : check_is_l1b r_check_is a0 a1 a2 (fun y0 => g1_f y0) s13 = some r := h; unfold check_is_l1b at h
        change BW _ _ _ ⟨[(0, (ofV a0)), (2, (I64 a2)), (8, (BO false)), (63, (PV.sl none 18 (List.map ofTyp a1.parts))), (64, (I64 ((((a1.parts).length : Nat) : Int)))), (65, (I64 (((s13 : Nat) : Int))))], [], _⟩ _
        refine bR ?_
        refine sS rfl rfl rfl ((op1_cmp rfl rfl rfl rfl).cast (y := (BO ((decide (((s13 : Nat) : Int) < (((a1.parts).length : Nat) : Int)))))) rfl rfl) (ao_nil ?_)
        change BW _ _ _ _ _
        refine bw_seq ?_
        refine bw_len (t := 63) rfl fun hb15 => ?_
        try rw [List.length_map] at hb15
        refine bw_cond rfl ?_ ?_
        ·intro hc14; replace h := ocond_t hc14 h
         have hc14_ := of_decide_eq_true hc14
         refine bw_skip ?_
         change BW _ _ _ _ _
         refine bw_seq ?_
         refine bw_block ?_
         change BW _ _ _ _ _
         refine bR ?_
         obtain ⟨x16, hx16, h⟩ := obind h
         refine sS rfl rfl rfl (op1_idxN (i := s13) Try.underlying30 inf_34 rfl rfl rfl hx16 (ofTyp_eq _)) ?_
         refine sS rfl rfl rfl (op1_ldPW inf_34 Try.underlying34 rfl rfl rfl rfl rfl) ?_
         refine sS rfl rfl rfl (op1_alloc inf_34 rfl) ?_
         refine ao_step0 rfl rfl (op1_store inf_34 rfl rfl rfl rfl rfl rfl (Nat.le_of_ble_eq_true rfl) rfl) ?_
         refine ao_nil ?_
         change BW _ _ _ _ _
         refine bR ?_
         refine sM rfl rfl rfl rfl rfl ?_
         refine sS rfl rfl rfl ((op1_ldRA inf_34 Try.underlying34 rfl rfl rfl rfl rfl rfl)) ?_
         refine sM rfl rfl rfl rfl rfl ?_
         obtain ⟨x17, hx17, h⟩ := obind h
         refine sS rfl rfl rfl (op1_pcall rfl en_31 rfl (.cons (Wk.refl _) (.cons (Wk.refl _) (.cons (Wk.refl _) .nil))) ⟨(ids_V a0), ⟨(ids_TypX x16), ⟨rfl, trivial⟩⟩⟩ (c_check_is a0 x16 a2 x17 hx17) (ids_tup_cons rfl (ids_tup_cons rfl ids_tup_nil))) ?_
         refine sM rfl rfl rfl rfl rfl ?_
         refine sS rfl rfl rfl (op1_ext rfl rfl rfl) ?_
         refine sS rfl rfl rfl (op1_ext rfl rfl rfl) ?_
         refine sA rfl rfl rfl rfl rfl ?_
         refine sA rfl rfl rfl rfl rfl (ao_nil ?_)
         change BW _ _ _ _ _
         refine bR ?_
         refine sM rfl rfl rfl rfl rfl (ao_nil ?_)
         change BW _ _ _ _ _
         refine bw_cond rfl ?_ ?_
         ·intro hc18; replace h := ocond_t hc18 h
          refine bR ?_
          refine sA rfl rfl rfl rfl rfl ?_
          refine sA rfl rfl rfl rfl rfl (ao_nil ?_)
          change BW _ _ _ _ _
          refine bw_ret ?_
          change ∃ xs, _ = some xs ∧ EndOk _ _ _ _
          obtain rfl := Option.some.inj h
          exact ⟨_, rfl, endOk0 (y := (PV.tup [(BO true), (I64 0)])) (Wk.refl _) (ids_tup_cons rfl (ids_tup_cons rfl ids_tup_nil)) ⟨rfl, rfl⟩⟩
         ·intro hc18; replace h := ocond_f hc18 h
          refine bw_skip ?_
          change BW _ _ _ _ _
          refine bw_region ?_
          refine sS rfl rfl rfl (op1_incN (k := s13) (c := 1) rfl rfl rfl (by omega)) ?_
          refine sM rfl rfl rfl rfl rfl (ao_nil ?_)
          exact ⟨rfl, (s13 + 1), h, ⟨.nil, (sC rfl (sC rfl (sC rfl (sC rfl (sC rfl (sC rfl sub_nil))))))⟩⟩
        ·intro hc14; replace h := ocond_f hc14 h
         refine bw_exit ?_
         exact ⟨rfl, false, h, ⟨.nil, (sC rfl (sC rfl sub_nil))⟩⟩
      ·intro hc12; replace h := ocond_f hc12 h
       refine bR ?_
       refine sS rfl rfl rfl ((op1_cmp rfl rfl rfl rfl).cast (y := (BO ((a1.kind == 5)))) rfl rfl) ?_
       refine sA rfl rfl rfl rfl rfl (ao_nil ?_)
       change BW _ _ _ _ _
       refine bw_cond rfl ?_ ?_
       ·intro hc19; replace h := ocond_t hc19 h
        refine bR ?_
        refine sM rfl rfl rfl rfl rfl ?_
        refine sS rfl rfl rfl (op1_taList rfl rfl) ?_
        refine sM rfl rfl rfl rfl rfl ?_
        refine sS rfl rfl rfl (op1_ext rfl rfl rfl) ?_
        refine sS rfl rfl rfl (op1_ext rfl rfl rfl) ?_
        refine sA rfl rfl rfl rfl rfl ?_
        refine sA rfl rfl rfl rfl rfl (ao_nil ?_)
        change BW _ _ _ _ _
        refine bR ?_
        refine sM rfl rfl rfl rfl rfl (ao_nil ?_)
        change BW _ _ _ _ _
        refine bw_cond rfl ?_ ?_
        ·intro hc20; replace h := ocond_t hc20 h
         refine bR ?_
         refine sM rfl rfl rfl rfl rfl ?_
         refine sS rfl rfl rfl (op1_faR st_34 (i := 3) rfl rfl rfl) ?_
         refine sS rfl rfl rfl ((op1_ldR Try.underlying30 rfl rfl rfl rfl rfl)) ?_
         obtain ⟨x21, hx21, h⟩ := obind h
         refine sS rfl rfl rfl (op1_idxN (i := 0) Try.underlying30 inf_34 rfl rfl rfl hx21 (ofTyp_eq _)) ?_
         refine sS rfl rfl rfl (op1_ldPW inf_34 Try.underlying34 rfl rfl rfl rfl rfl) ?_
         refine sM rfl rfl rfl rfl rfl ?_
         obtain ⟨x22, hx22, h⟩ := obind h
         refine sS rfl rfl rfl (op1_pcall rfl en_55 rfl (.cons (Wk.refl _) (.cons (Wk.refl _) (.cons (Wk.refl _) .nil))) ⟨(ids_slM ids_V ((a0).asList)), ⟨(ids_TypX x21), ⟨rfl, trivial⟩⟩⟩ (c_check_listed ((a0).asList) x21 a2 x22 hx22) (ids_tup_cons rfl (ids_tup_cons rfl ids_tup_nil))) ?_
         refine sS rfl rfl rfl (op1_ext rfl rfl rfl) ?_
         refine sS rfl rfl rfl (op1_ext rfl rfl rfl) ?_
         refine sA rfl rfl rfl rfl rfl ?_
         refine sA rfl rfl rfl rfl rfl (ao_nil ?_)
         change BW _ _ _ _ _
         refine bw_ret ?_
         change ∃ xs, _ = some xs ∧ EndOk _ _ _ _
         obtain rfl := Option.some.inj h
         exact ⟨_, rfl, endOk0 (y := (PV.tup [(BO x22.1), (I64 x22.2)])) (Wk.refl _) (ids_tup_cons rfl (ids_tup_cons rfl ids_tup_nil)) ⟨rfl, rfl⟩⟩
        ·intro hc20; replace h := ocond_f hc20 h
         refine bw_skip ?_
         exact ⟨rfl, false, h, ⟨.nil, (sC rfl (sC rfl sub_nil))⟩⟩
       ·intro hc19; replace h := ocond_f hc19 h
        refine bR ?_
        refine sS rfl rfl rfl ((op1_cmp rfl rfl rfl rfl).cast (y := (BO ((a1.kind == 6)))) rfl rfl) ?_
        refine sA rfl rfl rfl rfl rfl (ao_nil ?_)
        change BW _ _ _ _ _
        refine bw_cond rfl ?_ ?_
        ·intro hc23; replace h := ocond_t hc23 h
         refine bR ?_
         refine sM rfl rfl rfl rfl rfl ?_
         refine sS rfl rfl rfl (op1_taDict rfl rfl) ?_
         refine sM rfl rfl rfl rfl rfl ?_
         refine sS rfl rfl rfl (op1_ext rfl rfl rfl) ?_
         refine sS rfl rfl rfl (op1_ext rfl rfl rfl) ?_
         refine sA rfl rfl rfl rfl rfl ?_
         refine sA rfl rfl rfl rfl rfl (ao_nil ?_)
         change BW _ _ _ _ _
         refine bR ?_
         refine sM rfl rfl rfl rfl rfl (ao_nil ?_)
         change BW _ _ _ _ _
         refine bw_cond rfl ?_ ?_
         ·intro hc24; replace h := ocond_t hc24 h
          refine bR ?_
          refine sM rfl rfl rfl rfl rfl ?_
          refine sS rfl rfl rfl ((op1_ldRA inf_34 Try.underlying34 rfl rfl rfl rfl rfl rfl)) ?_
          refine sM rfl rfl rfl rfl rfl ?_
          obtain ⟨x25, hx25, h⟩ := obind h
          refine sS rfl rfl rfl (op1_pcall rfl en_56 rfl (.cons (Wk.refl _) (.cons (Wk.refl _) (.cons (Wk.refl _) .nil))) ⟨(ids_slM ids_Fld ((a0).asDict)), ⟨(ids_TypX a1), ⟨rfl, trivial⟩⟩⟩ (c_check_fielded ((a0).asDict) a1 a2 x25 hx25) (ids_tup_cons rfl (ids_tup_cons rfl ids_tup_nil))) ?_
          refine sS rfl rfl rfl (op1_ext rfl rfl rfl) ?_
          refine sS rfl rfl rfl (op1_ext rfl rfl rfl) ?_
          refine sA rfl rfl rfl rfl rfl ?_
          refine sA rfl rfl rfl rfl rfl (ao_nil ?_)
          change BW _ _ _ _ _
          refine bw_ret ?_
          change ∃ xs, _ = some xs ∧ EndOk _ _ _ _
          obtain rfl := Option.some.inj h
          exact ⟨_, rfl, endOk0 (y := (PV.tup [(BO x25.1), (I64 x25.2)])) (Wk.refl _) (ids_tup_cons rfl (ids_tup_cons rfl ids_tup_nil)) ⟨rfl, rfl⟩⟩
         ·intro hc24; replace h := ocond_f hc24 h
          refine bw_skip ?_
          exact ⟨rfl, false, h, ⟨.nil, (sC rfl (sC rfl sub_nil))⟩⟩
        ·intro hc23; replace h := ocond_f hc23 h
         refine bw_skip ?_
         exact ⟨rfl, false, h, ⟨.nil, (sC rfl (sC rfl sub_nil))⟩⟩
theorem C_check_fielded.sound : ∀ (i : C_check_fielded) (r : i.R), fixO C_check_fielded.F i = some r → C_check_fielded.Q i r := by
 refine fixO_ind (Φ := C_check_fielded.F) (Q := C_check_fielded.Q) ?_
 intro g hg i r h
 cases i with
 | k_check_fielded a0 a1 a2 => exact t_check_fielded (fun a0 a1 a2 => g (.k_check_fielded a0 a1 a2)) (fun a0 a1 a2 r hr => hg (.k_check_fielded a0 a1 a2) r hr) (fun a0 a1 a2 => g (.k_check_listed a0 a1 a2)) (fun a0 a1 a2 r hr => hg (.k_check_listed a0 a1 a2) r hr) (fun a0 a1 a2 => g (.k_check_is a0 a1 a2)) (fun a0 a1 a2 r hr => hg (.k_check_is a0 a1 a2) r hr) a0 a1 a2 r h
 | k_check_listed a0 a1 a2 => exact t_check_listed (fun a0 a1 a2 => g (.k_check_fielded a0 a1 a2)) (fun a0 a1 a2 r hr => hg (.k_check_fielded a0 a1 a2) r hr) (fun a0 a1 a2 => g (.k_check_listed a0 a1 a2)) (fun a0 a1 a2 r hr => hg (.k_check_listed a0 a1 a2) r hr) (fun a0 a1 a2 => g (.k_check_is a0 a1 a2)) (fun a0 a1 a2 r hr => hg (.k_check_is a0 a1 a2) r hr) a0 a1 a2 r h
 | k_check_is a0 a1 a2 => exact t_check_is (fun a0 a1 a2 => g (.k_check_fielded a0 a1 a2)) (fun a0 a1 a2 r hr => hg (.k_check_fielded a0 a1 a2) r hr) (fun a0 a1 a2 => g (.k_check_listed a0 a1 a2)) (fun a0 a1 a2 r hr => hg (.k_check_listed a0 a1 a2) r hr) (fun a0 a1 a2 => g (.k_check_is a0 a1 a2)) (fun a0 a1 a2 r hr => hg (.k_check_is a0 a1 a2) r hr) a0 a1 a2 r h
theorem s_check_fielded (a0 : (List (Str × V))) (a1 : Typ) (a2 : Int) (r : (Bool × Int)) (h : p_check_fielded a0 a1 a2 = some r) : PCalls Try.prog 56 [(PV.sl none 2 (List.map ofFld a0)), (ofTypX a1), (I64 a2)] (PV.tup [(BO r.1), (I64 r.2)]) := C_check_fielded.sound (.k_check_fielded a0 a1 a2) r h
theorem s_check_listed (a0 : (List V)) (a1 : Typ) (a2 : Int) (r : (Bool × Int)) (h : p_check_listed a0 a1 a2 = some r) : PCalls Try.prog 55 [(PV.sl none 1 (List.map ofV a0)), (ofTypX a1), (I64 a2)] (PV.tup [(BO r.1), (I64 r.2)]) := C_check_fielded.sound (.k_check_listed a0 a1 a2) r h
theorem s_check_is (a0 : V) (a1 : Typ) (a2 : Int) (r : (Bool × Int)) (h : p_check_is a0 a1 a2 = some r) : PCalls Try.prog 31 [(ofV a0), (ofTypX a1), (I64 a2)] (PV.tup [(BO r.1), (I64 r.2)]) := C_check_fielded.sound (.k_check_is a0 a1 a2) r h
noncomputable def p_check_Is (a0 : V) (a1 : Typ) : Option (Bool × Int × Int) :=
 Option.bind (p_check_can a0 a1) fun x1 =>
 bif (x1 != 0) then (
  some (false, 0, x1)
 ) else (
  Option.bind (p_check_is a0 a1 0) fun x3 =>
  some (x3.1, x3.2, 0)
 )
theorem s_check_Is (a0 : V) (a1 : Typ) (r : (Bool × Int × Int)) (h : p_check_Is a0 a1 = some r) : PCalls Try.prog 10 [(ofV a0), (ofTypX a1)] (PV.tup [(BO r.1), (I64 r.2.1), (I64 r.2.2)]) := by
 unfold p_check_Is at h
 refine acalls_of Try.func10 rfl Try.ntmps10 Try.results10 rfl (aw_of_bw ?_)
 change BW _ _ _ ⟨[(0, (ofV a0)), (1, (ofTypX a1))], [], _⟩ _
 refine bR ?_
 refine sS rfl rfl rfl (op1_box rfl rfl rfl) ?_
 refine sA rfl rfl rfl rfl rfl ?_
 refine sA rfl rfl rfl rfl rfl ?_
 refine sA rfl rfl rfl rfl rfl (ao_nil ?_)
 change BW _ _ _ _ _
 refine bw_seq ?_
 refine bR ?_
 refine sM rfl rfl rfl rfl rfl ?_
 refine sS rfl rfl rfl ((op1_ldRA inf_34 Try.underlying34 rfl rfl rfl rfl rfl rfl)) ?_
 obtain ⟨x1, hx1, h⟩ := obind h
 refine sS rfl rfl rfl (op1_pcall rfl en_30 rfl (.cons (Wk.refl _) (.cons (Wk.refl _) .nil)) ⟨(ids_V a0), ⟨(ids_TypX a1), trivial⟩⟩ (s_check_can a0 a1 x1 hx1) rfl) ?_
 refine sA rfl rfl rfl rfl rfl (ao_nil ?_)
 change BW _ _ _ _ _
 refine bR ?_
 refine sM rfl rfl rfl rfl rfl ?_
 refine sS rfl rfl rfl ((op1_cmp rfl rfl rfl rfl).cast (y := (BO ((x1 != 0)))) rfl rfl) (ao_nil ?_)
 change BW _ _ _ _ _
 refine bw_cond rfl ?_ ?_
 ·intro hc2; replace h := ocond_t hc2 h
  refine bR ?_
  refine sM rfl rfl rfl rfl rfl ?_
  refine sA rfl rfl rfl rfl rfl ?_
  refine sA rfl rfl rfl rfl rfl ?_
  refine sA rfl rfl rfl rfl rfl (ao_nil ?_)
  change BW _ _ _ _ _
  refine bw_ret ?_
  change ∃ xs, _ = some xs ∧ EndOk _ _ _ _
  obtain rfl := Option.some.inj h
  exact ⟨_, rfl, endOk0 (y := (PV.tup [(BO false), (I64 0), (I64 x1)])) (Wk.refl _) (ids_tup_cons rfl (ids_tup_cons rfl (ids_tup_cons rfl ids_tup_nil))) ⟨rfl, rfl⟩⟩
 ·intro hc2; replace h := ocond_f hc2 h
  refine bw_skip ?_
  change BW _ _ _ _ _
  refine bR ?_
  refine sM rfl rfl rfl rfl rfl ?_
  refine sS rfl rfl rfl ((op1_ldRA inf_34 Try.underlying34 rfl rfl rfl rfl rfl rfl)) ?_
  obtain ⟨x3, hx3, h⟩ := obind h
  refine sS rfl rfl rfl (op1_pcall rfl en_31 rfl (.cons (Wk.refl _) (.cons (Wk.refl _) (.cons (Wk.refl _) .nil))) ⟨(ids_V a0), ⟨(ids_TypX a1), ⟨rfl, trivial⟩⟩⟩ (s_check_is a0 a1 0 x3 hx3) (ids_tup_cons rfl (ids_tup_cons rfl ids_tup_nil))) ?_
  refine sM rfl rfl rfl rfl rfl ?_
  refine sS rfl rfl rfl (op1_ext rfl rfl rfl) ?_
  refine sS rfl rfl rfl (op1_ext rfl rfl rfl) ?_
  refine sA rfl rfl rfl rfl rfl ?_
  refine sA rfl rfl rfl rfl rfl (ao_nil ?_)
  change BW _ _ _ _ _
  refine bR ?_
  refine sM rfl rfl rfl rfl rfl ?_
  refine sM rfl rfl rfl rfl rfl ?_
  refine sA rfl rfl rfl rfl rfl ?_
  refine sA rfl rfl rfl rfl rfl ?_
  refine sA rfl rfl rfl rfl rfl (ao_nil ?_)
  change BW _ _ _ _ _
  refine bw_ret ?_
  change ∃ xs, _ = some xs ∧ EndOk _ _ _ _
  obtain rfl := Option.some.inj h
  exact ⟨_, rfl, endOk0 (y := (PV.tup [(BO x3.1), (I64 x3.2), (I64 0)])) (Wk.refl _) (ids_tup_cons rfl (ids_tup_cons rfl (ids_tup_cons rfl ids_tup_nil))) ⟨rfl, rfl⟩⟩
end Go.Proofs.Ytiapdjdhaclmnaa
