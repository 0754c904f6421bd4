/- Pure functions, and that calls answer as they say. Written by gen.py. -/
import Derived.Test.YtiapdjdhaclmnaaG7
namespace Go.Proofs.Ytiapdjdhaclmnaa
open Go Aw
set_option linter.unusedVariables false
set_option linter.unusedSimpArgs false
set_option maxRecDepth 20000
set_option maxHeartbeats 2000000
noncomputable def ref07_dict_j3 (g1 : Int → Int → Int → Option (Bool × Int)) (a0 : Term) (s1 : Int) (s3 : Int) (s10 : Int) : Option (Bool × Int) :=
 Option.bind (idxI a0.fields s3) fun x11 =>
 Option.bind (p_ref07_parts (x11.2)) fun x12 =>
 g1 (IntKind.i64.wrap (s1 + x12)) s10 (IntKind.i64.wrap (s3 + 1))
theorem ref07_dict_j3_cm {ι : Type} {ρ : ι → Type} (g1 : (∀ i, Option (ρ i)) → Int → Int → Int → Option (Bool × Int)) (h_g1 : ∀ y0 y1 y2, CM (fun G => g1 G y0 y1 y2)) (a0 : Term) (s1 : Int) (s3 : Int) (s10 : Int) : CM (fun G : (∀ i, Option (ρ i)) => ref07_dict_j3 (g1 G) a0 s1 s3 s10) := by
 simp only [ref07_dict_j3]
 repeat (first | exact cm_const | exact h_g1 _ _ _ | refine cm_cond ?_ ?_ | refine cm_bind ?_ (fun _ => ?_))
noncomputable def ref07_dict_j4 (r_ref07_is : Term → Typ → Int → Option (Bool × Int)) (g1 : Int → Int → Int → Option (Bool × Int)) (a0 : Term) (a1 : Typ) (a2 : Int) (s1 : Int) (s2 : Int) (s3 : Int) (s13 : Bool) : Option (Bool × Int) :=
 bif s13 then (
  bif (!a1.opn) then (
   some (false, a2)
  ) else (
   ref07_dict_j3 g1 a0 s1 s3 s2
  )
 ) else (
  Option.bind (idxI a0.fields s3) fun x16 =>
  Option.bind (idxI a1.parts s2) fun x17 =>
  Option.bind (r_ref07_is (x16.2) x17 s1) fun x18 =>
  bif (!x18.1) then (
   some (false, x18.2)
  ) else (
   ref07_dict_j3 g1 a0 s1 s3 (IntKind.i64.wrap (s2 + 1))
  )
 )
theorem ref07_dict_j4_cm {ι : Type} {ρ : ι → Type} (r_ref07_is : (∀ i, Option (ρ i)) → Term → Typ → Int → Option (Bool × Int)) (h_r_ref07_is : ∀ y0 y1 y2, CM (fun G => r_ref07_is G y0 y1 y2)) (g1 : (∀ i, Option (ρ i)) → Int → Int → Int → Option (Bool × Int)) (h_g1 : ∀ y0 y1 y2, CM (fun G => g1 G y0 y1 y2)) (a0 : Term) (a1 : Typ) (a2 : Int) (s1 : Int) (s2 : Int) (s3 : Int) (s13 : Bool) : CM (fun G : (∀ i, Option (ρ i)) => ref07_dict_j4 (r_ref07_is G) (g1 G) a0 a1 a2 s1 s2 s3 s13) := by
 simp only [ref07_dict_j4]
 repeat (first | exact cm_const | exact h_r_ref07_is _ _ _ | exact h_g1 _ _ _ | apply ref07_dict_j3_cm | refine cm_cond ?_ ?_ | refine cm_bind ?_ (fun _ => ?_) | intro _ | assumption)
noncomputable def ref07_dict_j2 (r_ref07_is : Term → Typ → Int → Option (Bool × Int)) (g1 : Int → Int → Int → Option (Bool × Int)) (a0 : Term) (a1 : Typ) (a2 : Int) (s1 : Int) (s2 : Int) (s3 : Int) (s6 : Bool) : Option (Bool × Int) :=
 bif s6 then (
  Option.bind (idxI a1.lacks s2) fun x8 =>
  bif (!x8) then (
   some (false, a2)
  ) else (
   g1 s1 (IntKind.i64.wrap (s2 + 1)) s3
  )
 ) else (
  bif (s2 == (((a1.names).length : Nat) : Int)) then (
   ref07_dict_j4 r_ref07_is g1 a0 a1 a2 s1 s2 s3 true
  ) else (
   Option.bind (idxI a1.names s2) fun x21 =>
   Option.bind (idxI a0.fields s3) fun x22 =>
   ref07_dict_j4 r_ref07_is g1 a0 a1 a2 s1 s2 s3 (!(Op.bytesLess x21 x22.1 || x21 == x22.1))
  )
 )
theorem ref07_dict_j2_cm {ι : Type} {ρ : ι → Type} (r_ref07_is : (∀ i, Option (ρ i)) → Term → Typ → Int → Option (Bool × Int)) (h_r_ref07_is : ∀ y0 y1 y2, CM (fun G => r_ref07_is G y0 y1 y2)) (g1 : (∀ i, Option (ρ i)) → Int → Int → Int → Option (Bool × Int)) (h_g1 : ∀ y0 y1 y2, CM (fun G => g1 G y0 y1 y2)) (a0 : Term) (a1 : Typ) (a2 : Int) (s1 : Int) (s2 : Int) (s3 : Int) (s6 : Bool) : CM (fun G : (∀ i, Option (ρ i)) => ref07_dict_j2 (r_ref07_is G) (g1 G) a0 a1 a2 s1 s2 s3 s6) := by
 simp only [ref07_dict_j2]
 repeat (first | exact cm_const | exact h_r_ref07_is _ _ _ | exact h_g1 _ _ _ | apply ref07_dict_j4_cm | refine cm_cond ?_ ?_ | refine cm_bind ?_ (fun _ => ?_) | intro _ | assumption)
noncomputable def ref07_dict_j1 (r_ref07_is : Term → Typ → Int → Option (Bool × Int)) (g1 : Int → Int → Int → Option (Bool × Int)) (a0 : Term) (a1 : Typ) (a2 : Int) (s1 : Int) (s2 : Int) (s3 : Int) (s4 : Bool) : Option (Bool × Int) :=
 bif s4 then (
  bif (decide (s2 < (((a1.names).length : Nat) : Int))) then (
   bif (s3 == (((a0.fields).length : Nat) : Int)) then (
    ref07_dict_j2 r_ref07_is g1 a0 a1 a2 s1 s2 s3 true
   ) else (
    Option.bind (idxI a1.names s2) fun x25 =>
    Option.bind (idxI a0.fields s3) fun x26 =>
    ref07_dict_j2 r_ref07_is g1 a0 a1 a2 s1 s2 s3 (Op.bytesLess x25 x26.1)
   )
  ) else (
   ref07_dict_j2 r_ref07_is g1 a0 a1 a2 s1 s2 s3 false
  )
 ) else (
  some (true, 0)
 )
theorem ref07_dict_j1_cm {ι : Type} {ρ : ι → Type} (r_ref07_is : (∀ i, Option (ρ i)) → Term → Typ → Int → Option (Bool × Int)) (h_r_ref07_is : ∀ y0 y1 y2, CM (fun G => r_ref07_is G y0 y1 y2)) (g1 : (∀ i, Option (ρ i)) → Int → Int → Int → Option (Bool × Int)) (h_g1 : ∀ y0 y1 y2, CM (fun G => g1 G y0 y1 y2)) (a0 : Term) (a1 : Typ) (a2 : Int) (s1 : Int) (s2 : Int) (s3 : Int) (s4 : Bool) : CM (fun G : (∀ i, Option (ρ i)) => ref07_dict_j1 (r_ref07_is G) (g1 G) a0 a1 a2 s1 s2 s3 s4) := by
 simp only [ref07_dict_j1]
 repeat (first | exact cm_const | exact h_r_ref07_is _ _ _ | exact h_g1 _ _ _ | apply ref07_dict_j2_cm | refine cm_cond ?_ ?_ | refine cm_bind ?_ (fun _ => ?_) | intro _ | assumption)
noncomputable def ref07_dict_l1b (r_ref07_is : Term → Typ → Int → Option (Bool × Int)) (a0 : Term) (a1 : Typ) (a2 : Int) (g1 : Int → Int → Int → Option (Bool × Int)) (s1 : Int) (s2 : Int) (s3 : Int) : Option (Bool × Int) :=
 bif (decide (s3 < (((a0.fields).length : Nat) : Int))) then (
  ref07_dict_j1 r_ref07_is g1 a0 a1 a2 s1 s2 s3 true
 ) else (
  ref07_dict_j1 r_ref07_is g1 a0 a1 a2 s1 s2 s3 (decide (s2 < (((a1.names).length : Nat) : Int)))
 )
theorem ref07_dict_l1b_cm {ι : Type} {ρ : ι → Type} (r_ref07_is : (∀ i, Option (ρ i)) → Term → Typ → Int → Option (Bool × Int)) (h_r_ref07_is : ∀ y0 y1 y2, CM (fun G => r_ref07_is G y0 y1 y2)) (g1 : (∀ i, Option (ρ i)) → Int → Int → Int → Option (Bool × Int)) (h_g1 : ∀ y0 y1 y2, CM (fun G => g1 G y0 y1 y2)) (a0 : Term) (a1 : Typ) (a2 : Int) (s1 : Int) (s2 : Int) (s3 : Int) : CM (fun G : (∀ i, Option (ρ i)) => ref07_dict_l1b (r_ref07_is G) a0 a1 a2 (g1 G) s1 s2 s3) := by
 simp only [ref07_dict_l1b]
 repeat (first | exact cm_const | exact h_r_ref07_is _ _ _ | exact h_g1 _ _ _ | apply ref07_dict_j1_cm | refine cm_cond ?_ ?_ | refine cm_bind ?_ (fun _ => ?_) | intro _ | assumption)
noncomputable def ref07_dict_l1 (r_ref07_is : Term → Typ → Int → Option (Bool × Int)) (a0 : Term) (a1 : Typ) (a2 : Int) (s1 : Int) (s2 : Int) (s3 : Int) : Option (Bool × Int) :=
 fixO (ι := (Int × Int × Int)) (ρ := fun _ => (Bool × Int)) (fun g i => ref07_dict_l1b r_ref07_is a0 a1 a2 (fun s1 s2 s3 => g (s1, s2, s3)) i.1 i.2.1 i.2.2) (s1, s2, s3)
theorem ref07_dict_l1_eq (r_ref07_is : Term → Typ → Int → Option (Bool × Int)) (a0 : Term) (a1 : Typ) (a2 : Int) (s1 : Int) (s2 : Int) (s3 : Int) : ref07_dict_l1 r_ref07_is a0 a1 a2 s1 s2 s3 = ref07_dict_l1b r_ref07_is a0 a1 a2 (ref07_dict_l1 r_ref07_is a0 a1 a2) s1 s2 s3 :=
 fixO_eq (ι := (Int × Int × Int)) (ρ := fun _ => (Bool × Int)) (Φ := fun g i => ref07_dict_l1b r_ref07_is a0 a1 a2 (fun s1 s2 s3 => g (s1, s2, s3)) i.1 i.2.1 i.2.2) (fun i => ref07_dict_l1b_cm (ι := (Int × Int × Int)) (ρ := fun _ => (Bool × Int)) (fun _ => r_ref07_is) (fun _ _ _ => cm_const) (fun g => (fun s1 s2 s3 => g (s1, s2, s3))) (fun _ _ _ => cm_app) a0 a1 a2 i.1 i.2.1 i.2.2) (s1, s2, s3)
theorem ref07_dict_l1_cm {ι : Type} {ρ : ι → Type} (r_ref07_is : (∀ i, Option (ρ i)) → Term → Typ → Int → Option (Bool × Int)) (h_r_ref07_is : ∀ y0 y1 y2, CM (fun G => r_ref07_is G y0 y1 y2)) (a0 : Term) (a1 : Typ) (a2 : Int) (s1 : Int) (s2 : Int) (s3 : Int) : CM (fun G : (∀ i, Option (ρ i)) => ref07_dict_l1 (r_ref07_is G) a0 a1 a2 s1 s2 s3) :=
 cm_fix (κ := (Int × Int × Int)) (τ := fun _ => (Bool × Int)) (Φ := fun G g i => ref07_dict_l1b (r_ref07_is G) a0 a1 a2 (fun s1 s2 s3 => g (s1, s2, s3)) i.1 i.2.1 i.2.2) (fun g i => ref07_dict_l1b_cm r_ref07_is h_r_ref07_is (fun _ => (fun s1 s2 s3 => g (s1, s2, s3))) (fun _ _ _ => cm_const) a0 a1 a2 i.1 i.2.1 i.2.2) (fun G i => ref07_dict_l1b_cm (ι := (Int × Int × Int)) (ρ := fun _ => (Bool × Int)) (fun _ => r_ref07_is G) (fun _ _ _ => cm_const) (fun g => (fun s1 s2 s3 => g (s1, s2, s3))) (fun _ _ _ => cm_app) a0 a1 a2 i.1 i.2.1 i.2.2) (s1, s2, s3)
noncomputable def b_ref07_dict (r_ref07_dict : Term → Typ → Int → Option (Bool × Int)) (r_ref07_list : Term → Typ → Int → Option (Bool × Int)) (r_ref07_is : Term → Typ → Int → Option (Bool × Int)) (a0 : Term) (a1 : Typ) (a2 : Int) : Option (Bool × Int) :=
 ref07_dict_l1 r_ref07_is a0 a1 a2 (IntKind.i64.wrap (a2 + 1)) 0 0
theorem b_ref07_dict_cm {ι : Type} {ρ : ι → Type} (r_ref07_dict : (∀ i, Option (ρ i)) → Term → Typ → Int → Option (Bool × Int)) (h_r_ref07_dict : ∀ y0 y1 y2, CM (fun G => r_ref07_dict G y0 y1 y2)) (r_ref07_list : (∀ i, Option (ρ i)) → Term → Typ → Int → Option (Bool × Int)) (h_r_ref07_list : ∀ y0 y1 y2, CM (fun G => r_ref07_list G y0 y1 y2)) (r_ref07_is : (∀ i, Option (ρ i)) → Term → Typ → Int → Option (Bool × Int)) (h_r_ref07_is : ∀ y0 y1 y2, CM (fun G => r_ref07_is G y0 y1 y2)) (a0 : Term) (a1 : Typ) (a2 : Int) : CM (fun G : (∀ i, Option (ρ i)) => b_ref07_dict (r_ref07_dict G) (r_ref07_list G) (r_ref07_is G) a0 a1 a2) := by
 simp only [b_ref07_dict]
 repeat (first | exact cm_const | exact h_r_ref07_dict _ _ _ | exact h_r_ref07_list _ _ _ | exact h_r_ref07_is _ _ _ | apply ref07_dict_l1_cm | refine cm_cond ?_ ?_ | refine cm_bind ?_ (fun _ => ?_) | intro _ | assumption)
noncomputable def ref07_list_l1b (r_ref07_is : Term → Typ → Int → Option (Bool × Int)) (a0 : Term) (a1 : Typ) (g1 : Int → Nat → Option (Bool × Int)) (s1 : Int) (s2 : Nat) : Option (Bool × Int) :=
 bif (decide (((s2 : Nat) : Int) < (((a0.list).length : Nat) : Int))) then (
  Option.bind ((a0.list)[s2]?) fun x5 =>
  Option.bind ((a1.parts)[0]?) fun x6 =>
  Option.bind (r_ref07_is x5 x6 s1) fun x7 =>
  bif (!x7.1) then (
   some (false, x7.2)
  ) else (
   Option.bind ((a0.list)[s2]?) fun x9 =>
   Option.bind (p_ref07_parts x9) fun x10 =>
   g1 (IntKind.i64.wrap (s1 + x10)) (s2 + 1)
  )
 ) else (
  some (true, 0)
 )
theorem ref07_list_l1b_cm {ι : Type} {ρ : ι → Type} (r_ref07_is : (∀ i, Option (ρ i)) → Term → Typ → Int → Option (Bool × Int)) (h_r_ref07_is : ∀ y0 y1 y2, CM (fun G => r_ref07_is G y0 y1 y2)) (g1 : (∀ i, Option (ρ i)) → Int → Nat → Option (Bool × Int)) (h_g1 : ∀ y0 y1, CM (fun G => g1 G y0 y1)) (a0 : Term) (a1 : Typ) (s1 : Int) (s2 : Nat) : CM (fun G : (∀ i, Option (ρ i)) => ref07_list_l1b (r_ref07_is G) a0 a1 (g1 G) s1 s2) := by
 simp only [ref07_list_l1b]
 repeat (first | exact cm_const | exact h_r_ref07_is _ _ _ | exact h_g1 _ _ | refine cm_cond ?_ ?_ | refine cm_bind ?_ (fun _ => ?_))
noncomputable def ref07_list_l1 (r_ref07_is : Term → Typ → Int → Option (Bool × Int)) (a0 : Term) (a1 : Typ) (s1 : Int) (s2 : Nat) : Option (Bool × Int) :=
 fixO (ι := (Int × Nat)) (ρ := fun _ => (Bool × Int)) (fun g i => ref07_list_l1b r_ref07_is a0 a1 (fun s1 s2 => g (s1, s2)) i.1 i.2) (s1, s2)
theorem ref07_list_l1_eq (r_ref07_is : Term → Typ → Int → Option (Bool × Int)) (a0 : Term) (a1 : Typ) (s1 : Int) (s2 : Nat) : ref07_list_l1 r_ref07_is a0 a1 s1 s2 = ref07_list_l1b r_ref07_is a0 a1 (ref07_list_l1 r_ref07_is a0 a1) s1 s2 :=
 fixO_eq (ι := (Int × Nat)) (ρ := fun _ => (Bool × Int)) (Φ := fun g i => ref07_list_l1b r_ref07_is a0 a1 (fun s1 s2 => g (s1, s2)) i.1 i.2) (fun i => ref07_list_l1b_cm (ι := (Int × Nat)) (ρ := fun _ => (Bool × Int)) (fun _ => r_ref07_is) (fun _ _ _ => cm_const) (fun g => (fun s1 s2 => g (s1, s2))) (fun _ _ => cm_app) a0 a1 i.1 i.2) (s1, s2)
theorem ref07_list_l1_cm {ι : Type} {ρ : ι → Type} (r_ref07_is : (∀ i, Option (ρ i)) → Term → Typ → Int → Option (Bool × Int)) (h_r_ref07_is : ∀ y0 y1 y2, CM (fun G => r_ref07_is G y0 y1 y2)) (a0 : Term) (a1 : Typ) (s1 : Int) (s2 : Nat) : CM (fun G : (∀ i, Option (ρ i)) => ref07_list_l1 (r_ref07_is G) a0 a1 s1 s2) :=
 cm_fix (κ := (Int × Nat)) (τ := fun _ => (Bool × Int)) (Φ := fun G g i => ref07_list_l1b (r_ref07_is G) a0 a1 (fun s1 s2 => g (s1, s2)) i.1 i.2) (fun g i => ref07_list_l1b_cm r_ref07_is h_r_ref07_is (fun _ => (fun s1 s2 => g (s1, s2))) (fun _ _ => cm_const) a0 a1 i.1 i.2) (fun G i => ref07_list_l1b_cm (ι := (Int × Nat)) (ρ := fun _ => (Bool × Int)) (fun _ => r_ref07_is G) (fun _ _ _ => cm_const) (fun g => (fun s1 s2 => g (s1, s2))) (fun _ _ => cm_app) a0 a1 i.1 i.2) (s1, s2)
noncomputable def b_ref07_list (r_ref07_dict : Term → Typ → Int → Option (Bool × Int)) (r_ref07_list : Term → Typ → Int → Option (Bool × Int)) (r_ref07_is : Term → Typ → Int → Option (Bool × Int)) (a0 : Term) (a1 : Typ) (a2 : Int) : Option (Bool × Int) :=
 ref07_list_l1 r_ref07_is a0 a1 (IntKind.i64.wrap (a2 + 1)) 0
theorem b_ref07_list_cm {ι : Type} {ρ : ι → Type} (r_ref07_dict : (∀ i, Option (ρ i)) → Term → Typ → Int → Option (Bool × Int)) (h_r_ref07_dict : ∀ y0 y1 y2, CM (fun G => r_ref07_dict G y0 y1 y2)) (r_ref07_list : (∀ i, Option (ρ i)) → Term → Typ → Int → Option (Bool × Int)) (h_r_ref07_list : ∀ y0 y1 y2, CM (fun G => r_ref07_list G y0 y1 y2)) (r_ref07_is : (∀ i, Option (ρ i)) → Term → Typ → Int → Option (Bool × Int)) (h_r_ref07_is : ∀ y0 y1 y2, CM (fun G => r_ref07_is G y0 y1 y2)) (a0 : Term) (a1 : Typ) (a2 : Int) : CM (fun G : (∀ i, Option (ρ i)) => b_ref07_list (r_ref07_dict G) (r_ref07_list G) (r_ref07_is G) a0 a1 a2) := by
 simp only [b_ref07_list]
 repeat (first | exact cm_const | exact h_r_ref07_dict _ _ _ | exact h_r_ref07_list _ _ _ | exact h_r_ref07_is _ _ _ | apply ref07_list_l1_cm | refine cm_cond ?_ ?_ | refine cm_bind ?_ (fun _ => ?_) | intro _ | assumption)
noncomputable def ref07_is_j1 (a2 : Int) (s1 : Bool) : Option (Bool × Int) :=
 bif s1 then (
  some (true, 0)
 ) else (
  some (false, a2)
 )
noncomputable def ref07_is_j2 (g1 : Bool → Nat → Option (Bool × Int)) (s11 : Nat) (s14 : Bool) : Option (Bool × Int) :=
 g1 s14 (s11 + 1)
theorem ref07_is_j2_cm {ι : Type} {ρ : ι → Type} (g1 : (∀ i, Option (ρ i)) → Bool → Nat → Option (Bool × Int)) (h_g1 : ∀ y0 y1, CM (fun G => g1 G y0 y1)) (s11 : Nat) (s14 : Bool) : CM (fun G : (∀ i, Option (ρ i)) => ref07_is_j2 (g1 G) s11 s14) := by
 simp only [ref07_is_j2]
 repeat (first | exact cm_const | exact h_g1 _ _ | refine cm_cond ?_ ?_ | refine cm_bind ?_ (fun _ => ?_))
noncomputable def ref07_is_l1b (r_ref07_is : Term → Typ → Int → Option (Bool × Int)) (a0 : Term) (a1 : Typ) (a2 : Int) (g1 : Bool → Nat → Option (Bool × Int)) (s10 : Bool) (s11 : Nat) : Option (Bool × Int) :=
 bif (decide (((s11 : Nat) : Int) < (((a1.parts).length : Nat) : Int))) then (
  Option.bind ((a1.parts)[s11]?) fun x15 =>
  Option.bind (r_ref07_is a0 x15 a2) fun x16 =>
  bif s10 then (
   ref07_is_j2 g1 s11 true
  ) else (
   ref07_is_j2 g1 s11 x16.1
  )
 ) else (
  ref07_is_j1 a2 s10
 )
theorem ref07_is_l1b_cm {ι : Type} {ρ : ι → Type} (r_ref07_is : (∀ i, Option (ρ i)) → Term → Typ → Int → Option (Bool × Int)) (h_r_ref07_is : ∀ y0 y1 y2, CM (fun G => r_ref07_is G y0 y1 y2)) (g1 : (∀ i, Option (ρ i)) → Bool → Nat → Option (Bool × Int)) (h_g1 : ∀ y0 y1, CM (fun G => g1 G y0 y1)) (a0 : Term) (a1 : Typ) (a2 : Int) (s10 : Bool) (s11 : Nat) : CM (fun G : (∀ i, Option (ρ i)) => ref07_is_l1b (r_ref07_is G) a0 a1 a2 (g1 G) s10 s11) := by
 simp only [ref07_is_l1b]
 repeat (first | exact cm_const | exact h_r_ref07_is _ _ _ | exact h_g1 _ _ | apply ref07_is_j1_cm | apply ref07_is_j2_cm | refine cm_cond ?_ ?_ | refine cm_bind ?_ (fun _ => ?_) | intro _ | assumption)
noncomputable def ref07_is_l1 (r_ref07_is : Term → Typ → Int → Option (Bool × Int)) (a0 : Term) (a1 : Typ) (a2 : Int) (s10 : Bool) (s11 : Nat) : Option (Bool × Int) :=
 fixO (ι := (Bool × Nat)) (ρ := fun _ => (Bool × Int)) (fun g i => ref07_is_l1b r_ref07_is a0 a1 a2 (fun s10 s11 => g (s10, s11)) i.1 i.2) (s10, s11)
theorem ref07_is_l1_eq (r_ref07_is : Term → Typ → Int → Option (Bool × Int)) (a0 : Term) (a1 : Typ) (a2 : Int) (s10 : Bool) (s11 : Nat) : ref07_is_l1 r_ref07_is a0 a1 a2 s10 s11 = ref07_is_l1b r_ref07_is a0 a1 a2 (ref07_is_l1 r_ref07_is a0 a1 a2) s10 s11 :=
 fixO_eq (ι := (Bool × Nat)) (ρ := fun _ => (Bool × Int)) (Φ := fun g i => ref07_is_l1b r_ref07_is a0 a1 a2 (fun s10 s11 => g (s10, s11)) i.1 i.2) (fun i => ref07_is_l1b_cm (ι := (Bool × Nat)) (ρ := fun _ => (Bool × Int)) (fun _ => r_ref07_is) (fun _ _ _ => cm_const) (fun g => (fun s10 s11 => g (s10, s11))) (fun _ _ => cm_app) a0 a1 a2 i.1 i.2) (s10, s11)
theorem ref07_is_l1_cm {ι : Type} {ρ : ι → Type} (r_ref07_is : (∀ i, Option (ρ i)) → Term → Typ → Int → Option (Bool × Int)) (h_r_ref07_is : ∀ y0 y1 y2, CM (fun G => r_ref07_is G y0 y1 y2)) (a0 : Term) (a1 : Typ) (a2 : Int) (s10 : Bool) (s11 : Nat) : CM (fun G : (∀ i, Option (ρ i)) => ref07_is_l1 (r_ref07_is G) a0 a1 a2 s10 s11) :=
 cm_fix (κ := (Bool × Nat)) (τ := fun _ => (Bool × Int)) (Φ := fun G g i => ref07_is_l1b (r_ref07_is G) a0 a1 a2 (fun s10 s11 => g (s10, s11)) i.1 i.2) (fun g i => ref07_is_l1b_cm r_ref07_is h_r_ref07_is (fun _ => (fun s10 s11 => g (s10, s11))) (fun _ _ => cm_const) a0 a1 a2 i.1 i.2) (fun G i => ref07_is_l1b_cm (ι := (Bool × Nat)) (ρ := fun _ => (Bool × Int)) (fun _ => r_ref07_is G) (fun _ _ _ => cm_const) (fun g => (fun s10 s11 => g (s10, s11))) (fun _ _ => cm_app) a0 a1 a2 i.1 i.2) (s10, s11)
noncomputable def b_ref07_is (r_ref07_dict : Term → Typ → Int → Option (Bool × Int)) (r_ref07_list : Term → Typ → Int → Option (Bool × Int)) (r_ref07_is : Term → Typ → Int → Option (Bool × Int)) (a0 : Term) (a1 : Typ) (a2 : Int) : Option (Bool × Int) :=
 bif (a1.kind == 1) then (
  ref07_is_j1 a2 true
 ) else (
  bif (a1.kind == 3) then (
   ref07_is_j1 a2 (a0.kind == a1.of)
  ) else (
   bif (a1.kind == 4) then (
    Option.bind (p_ref01_Compare a0 (a1.only)) fun x6 =>
    ref07_is_j1 a2 (x6 == 0)
   ) else (
    bif (a1.kind == 8) then (
     bif (a0.kind == 10) then (
      ref07_is_j1 a2 (a0.cls == a1.cls)
     ) else (
      ref07_is_j1 a2 false
     )
    ) else (
     bif (a1.kind == 7) then (
      ref07_is_l1 r_ref07_is a0 a1 a2 false 0
     ) else (
      bif (a1.kind == 5) then (
       bif (a0.kind == 8) then (
        Option.bind (r_ref07_list a0 (Typ.mk a1.kind a1.of (a1.only) a1.parts a1.names a1.lacks a1.opn a1.cls) a2) fun x20 =>
        some (x20.1, x20.2)
       ) else (
        ref07_is_j1 a2 false
       )
      ) else (
       bif (a1.kind == 6) then (
        bif (a0.kind == 9) then (
         Option.bind (r_ref07_dict a0 (Typ.mk a1.kind a1.of (a1.only) a1.parts a1.names a1.lacks a1.opn a1.cls) a2) fun x23 =>
         some (x23.1, x23.2)
        ) else (
         ref07_is_j1 a2 false
        )
       ) else (
        ref07_is_j1 a2 false
       )
      )
     )
    )
   )
  )
 )
theorem b_ref07_is_cm {ι : Type} {ρ : ι → Type} (r_ref07_dict : (∀ i, Option (ρ i)) → Term → Typ → Int → Option (Bool × Int)) (h_r_ref07_dict : ∀ y0 y1 y2, CM (fun G => r_ref07_dict G y0 y1 y2)) (r_ref07_list : (∀ i, Option (ρ i)) → Term → Typ → Int → Option (Bool × Int)) (h_r_ref07_list : ∀ y0 y1 y2, CM (fun G => r_ref07_list G y0 y1 y2)) (r_ref07_is : (∀ i, Option (ρ i)) → Term → Typ → Int → Option (Bool × Int)) (h_r_ref07_is : ∀ y0 y1 y2, CM (fun G => r_ref07_is G y0 y1 y2)) (a0 : Term) (a1 : Typ) (a2 : Int) : CM (fun G : (∀ i, Option (ρ i)) => b_ref07_is (r_ref07_dict G) (r_ref07_list G) (r_ref07_is G) a0 a1 a2) := by
 simp only [b_ref07_is]
 repeat (first | exact cm_const | exact h_r_ref07_dict _ _ _ | exact h_r_ref07_list _ _ _ | exact h_r_ref07_is _ _ _ | apply ref07_is_j1_cm | apply ref07_is_l1_cm | refine cm_cond ?_ ?_ | refine cm_bind ?_ (fun _ => ?_) | intro _ | assumption)
inductive C_ref07_dict where
 | k_ref07_dict (a0 : Term) (a1 : Typ) (a2 : Int)
 | k_ref07_list (a0 : Term) (a1 : Typ) (a2 : Int)
 | k_ref07_is (a0 : Term) (a1 : Typ) (a2 : Int)
def C_ref07_dict.R : C_ref07_dict → Type
 | .k_ref07_dict _ _ _ => (Bool × Int)
 | .k_ref07_list _ _ _ => (Bool × Int)
 | .k_ref07_is _ _ _ => (Bool × Int)
noncomputable def C_ref07_dict.F (g : ∀ i : C_ref07_dict, Option i.R) : ∀ i : C_ref07_dict, Option i.R
 | .k_ref07_dict a0 a1 a2 => b_ref07_dict (fun a0 a1 a2 => g (.k_ref07_dict a0 a1 a2)) (fun a0 a1 a2 => g (.k_ref07_list a0 a1 a2)) (fun a0 a1 a2 => g (.k_ref07_is a0 a1 a2)) a0 a1 a2
 | .k_ref07_list a0 a1 a2 => b_ref07_list (fun a0 a1 a2 => g (.k_ref07_dict a0 a1 a2)) (fun a0 a1 a2 => g (.k_ref07_list a0 a1 a2)) (fun a0 a1 a2 => g (.k_ref07_is a0 a1 a2)) a0 a1 a2
 | .k_ref07_is a0 a1 a2 => b_ref07_is (fun a0 a1 a2 => g (.k_ref07_dict a0 a1 a2)) (fun a0 a1 a2 => g (.k_ref07_list a0 a1 a2)) (fun a0 a1 a2 => g (.k_ref07_is a0 a1 a2)) a0 a1 a2
noncomputable def p_ref07_dict (a0 : Term) (a1 : Typ) (a2 : Int) : Option (Bool × Int) := fixO C_ref07_dict.F (.k_ref07_dict a0 a1 a2)
noncomputable def p_ref07_list (a0 : Term) (a1 : Typ) (a2 : Int) : Option (Bool × Int) := fixO C_ref07_dict.F (.k_ref07_list a0 a1 a2)
noncomputable def p_ref07_is (a0 : Term) (a1 : Typ) (a2 : Int) : Option (Bool × Int) := fixO C_ref07_dict.F (.k_ref07_is a0 a1 a2)
theorem C_ref07_dict.cm (i : C_ref07_dict) : CM (fun g : (∀ i : C_ref07_dict, Option i.R) => C_ref07_dict.F g i) := by
 cases i with
 | k_ref07_dict a0 a1 a2 => exact b_ref07_dict_cm (fun (g : ∀ i : C_ref07_dict, Option i.R) a0 a1 a2 => g (.k_ref07_dict a0 a1 a2)) (fun a0 a1 a2 => cm_app (i := C_ref07_dict.k_ref07_dict a0 a1 a2)) (fun (g : ∀ i : C_ref07_dict, Option i.R) a0 a1 a2 => g (.k_ref07_list a0 a1 a2)) (fun a0 a1 a2 => cm_app (i := C_ref07_dict.k_ref07_list a0 a1 a2)) (fun (g : ∀ i : C_ref07_dict, Option i.R) a0 a1 a2 => g (.k_ref07_is a0 a1 a2)) (fun a0 a1 a2 => cm_app (i := C_ref07_dict.k_ref07_is a0 a1 a2)) a0 a1 a2
 | k_ref07_list a0 a1 a2 => exact b_ref07_list_cm (fun (g : ∀ i : C_ref07_dict, Option i.R) a0 a1 a2 => g (.k_ref07_dict a0 a1 a2)) (fun a0 a1 a2 => cm_app (i := C_ref07_dict.k_ref07_dict a0 a1 a2)) (fun (g : ∀ i : C_ref07_dict, Option i.R) a0 a1 a2 => g (.k_ref07_list a0 a1 a2)) (fun a0 a1 a2 => cm_app (i := C_ref07_dict.k_ref07_list a0 a1 a2)) (fun (g : ∀ i : C_ref07_dict, Option i.R) a0 a1 a2 => g (.k_ref07_is a0 a1 a2)) (fun a0 a1 a2 => cm_app (i := C_ref07_dict.k_ref07_is a0 a1 a2)) a0 a1 a2
 | k_ref07_is a0 a1 a2 => exact b_ref07_is_cm (fun (g : ∀ i : C_ref07_dict, Option i.R) a0 a1 a2 => g (.k_ref07_dict a0 a1 a2)) (fun a0 a1 a2 => cm_app (i := C_ref07_dict.k_ref07_dict a0 a1 a2)) (fun (g : ∀ i : C_ref07_dict, Option i.R) a0 a1 a2 => g (.k_ref07_list a0 a1 a2)) (fun a0 a1 a2 => cm_app (i := C_ref07_dict.k_ref07_list a0 a1 a2)) (fun (g : ∀ i : C_ref07_dict, Option i.R) a0 a1 a2 => g (.k_ref07_is a0 a1 a2)) (fun a0 a1 a2 => cm_app (i := C_ref07_dict.k_ref07_is a0 a1 a2)) a0 a1 a2
theorem e_ref07_dict (a0 : Term) (a1 : Typ) (a2 : Int) : p_ref07_dict a0 a1 a2 = b_ref07_dict p_ref07_dict p_ref07_list p_ref07_is a0 a1 a2 := fixO_eq C_ref07_dict.cm (.k_ref07_dict a0 a1 a2)
theorem e_ref07_list (a0 : Term) (a1 : Typ) (a2 : Int) : p_ref07_list a0 a1 a2 = b_ref07_list p_ref07_dict p_ref07_list p_ref07_is a0 a1 a2 := fixO_eq C_ref07_dict.cm (.k_ref07_list a0 a1 a2)
theorem e_ref07_is (a0 : Term) (a1 : Typ) (a2 : Int) : p_ref07_is a0 a1 a2 = b_ref07_is p_ref07_dict p_ref07_list p_ref07_is a0 a1 a2 := fixO_eq C_ref07_dict.cm (.k_ref07_is a0 a1 a2)
def C_ref07_dict.Q : ∀ i : C_ref07_dict, i.R → Prop
 | .k_ref07_dict a0 a1 a2 => fun (r : (Bool × Int)) => PCalls Try.prog 58 [(ofTermX a0), (ofTypX a1), (I64 a2)] (PV.tup [(BO r.1), (I64 r.2)])
 | .k_ref07_list a0 a1 a2 => fun (r : (Bool × Int)) => PCalls Try.prog 57 [(ofTermX a0), (ofTypX a1), (I64 a2)] (PV.tup [(BO r.1), (I64 r.2)])
 | .k_ref07_is a0 a1 a2 => fun (r : (Bool × Int)) => PCalls Try.prog 32 [(ofTermX a0), (ofTypX a1), (I64 a2)] (PV.tup [(BO r.1), (I64 r.2)])
theorem t_ref07_dict (r_ref07_dict : Term → Typ → Int → Option (Bool × Int)) (c_ref07_dict : ∀ (a0 : Term) (a1 : Typ) (a2 : Int) r, r_ref07_dict a0 a1 a2 = some r → PCalls Try.prog 58 [(ofTermX a0), (ofTypX a1), (I64 a2)] (PV.tup [(BO r.1), (I64 r.2)])) (r_ref07_list : Term → Typ → Int → Option (Bool × Int)) (c_ref07_list : ∀ (a0 : Term) (a1 : Typ) (a2 : Int) r, r_ref07_list a0 a1 a2 = some r → PCalls Try.prog 57 [(ofTermX a0), (ofTypX a1), (I64 a2)] (PV.tup [(BO r.1), (I64 r.2)])) (r_ref07_is : Term → Typ → Int → Option (Bool × Int)) (c_ref07_is : ∀ (a0 : Term) (a1 : Typ) (a2 : Int) r, r_ref07_is a0 a1 a2 = some r → PCalls Try.prog 32 [(ofTermX a0), (ofTypX a1), (I64 a2)] (PV.tup [(BO r.1), (I64 r.2)])) (a0 : Term) (a1 : Typ) (a2 : Int) (r : (Bool × Int)) (h : b_ref07_dict r_ref07_dict r_ref07_list r_ref07_is a0 a1 a2 = some r) : PCalls Try.prog 58 [(ofTermX a0), (ofTypX a1), (I64 a2)] (PV.tup [(BO r.1), (I64 r.2)]) := by
 unfold b_ref07_dict at h
 refine acalls_of Try.func58 rfl Try.ntmps58 Try.results58 rfl (aw_of_bw ?_)
 change BW _ _ _ ⟨[(0, (ofTermX a0)), (1, (ofTypX a1)), (2, (I64 a2))], [], _⟩ _
 refine bR ?_
 refine sS rfl rfl rfl (op1_box rfl rfl rfl) ?_
 refine sS rfl rfl rfl (op1_box rfl rfl rfl) ?_
 refine sA rfl rfl rfl rfl rfl ?_
 refine sA rfl rfl rfl rfl rfl (ao_nil ?_)
 change BW _ _ _ _ _
 refine bR ?_
 refine sM rfl rfl rfl rfl rfl ?_
 refine sS rfl rfl rfl (op1_addW rfl rfl rfl) ?_
 refine sA rfl rfl rfl rfl rfl ?_
 refine sA rfl rfl rfl rfl rfl (ao_nil ?_)
 change BW _ _ _ _ _
 refine bw_seq ?_
 refine bR ?_
 refine sA rfl rfl rfl rfl rfl (ao_nil ?_)
 change BW _ _ _ _ _
 refine bw_block ?_
 change BW _ _ _ _ _
 unfold ref07_dict_l1 at h
 refine bw_loop (σ := (Int × Int × Int)) (fun i => [(2, (I64 a2)), (3, (PV.rf 0 0)), (4, (PV.rf 1 0)), (8, (I64 i.1)), (9, (I64 i.2.1)), (10, (I64 i.2.2))]) (fun i => [.box 29 [(I64 a0.kind), (BO a0.bool), (I64 a0.int), (PV.v (.float .f64 a0.float)), (ofStr a0.text), (PV.sl none 1 (List.map ofB a0.bytes)), (PV.v (.int .u64 a0.ref)), (PV.sl none 11 (List.map ofTerm a0.list)), (PV.sl none 12 (List.map ofEntry a0.fields)), (ofStr a0.cls), (I64 a0.ver)], .box 34 [(I64 a1.kind), (I64 a1.of), (I64 ((a1.only).kind)), (BO ((a1.only).bool)), (I64 ((a1.only).int)), (PV.v (.float .f64 (a1.only).float)), (ofStr (a1.only).text), (PV.sl none 1 (List.map ofB (a1.only).bytes)), (PV.v (.int .u64 (a1.only).ref)), (PV.sl none 11 (List.map ofTerm (a1.only).list)), (PV.sl none 12 (List.map ofEntry (a1.only).fields)), (ofStr (a1.only).cls), (I64 ((a1.only).ver)), (PV.sl none 18 (List.map ofTyp a1.parts)), (PV.sl none 1 (List.map ofStr a1.names)), (PV.sl none 1 (List.map ofBool a1.lacks)), (BO a1.opn), (ofStr a1.cls)]]) ((IntKind.i64.wrap (a2 + 1)), 0, 0) h ?_ ?_ ?_
 ·intro i; exact ⟨Nat.le_of_ble_eq_true rfl, ⟨(il_nil rfl), ⟨(il_rf rfl), ⟨(il_rf rfl), ⟨(il_nil rfl), ⟨(il_nil rfl), ⟨(il_nil rfl), trivial⟩⟩⟩⟩⟩⟩, ⟨⟨(il_nil rfl), ⟨(il_nil rfl), ⟨(il_nil rfl), ⟨(il_nil rfl), ⟨(il_nil rfl), ⟨(il_nil (ids_slM (fun _ => rfl) _)), ⟨(il_nil rfl), ⟨(il_nil (ids_slM ids_Term _)), ⟨(il_nil (ids_slM ids_Entry _)), ⟨(il_nil rfl), ⟨(il_nil rfl), trivial⟩⟩⟩⟩⟩⟩⟩⟩⟩⟩⟩, ⟨⟨(il_nil rfl), ⟨(il_nil rfl), ⟨(il_nil rfl), ⟨(il_nil rfl), ⟨(il_nil rfl), ⟨(il_nil rfl), ⟨(il_nil rfl), ⟨(il_nil (ids_slM (fun _ => rfl) _)), ⟨(il_nil rfl), ⟨(il_nil (ids_slM ids_Term _)), ⟨(il_nil (ids_slM ids_Entry _)), ⟨(il_nil rfl), ⟨(il_nil rfl), ⟨(il_nil (ids_slM ids_Typ _)), ⟨(il_nil (ids_slM (fun _ => rfl) _)), ⟨(il_nil (ids_slM (fun _ => rfl) _)), ⟨(il_nil rfl), ⟨(il_nil rfl), trivial⟩⟩⟩⟩⟩⟩⟩⟩⟩⟩⟩⟩⟩⟩⟩⟩⟩⟩, trivial⟩⟩⟩
 ·exact ⟨(.cons .same (.cons .same .nil)), (sC rfl (sC rfl (sC rfl (sC rfl (sC rfl (sC rfl sub_nil))))))⟩
 ·rintro g1_f ⟨s1, s2, s3⟩ h; replace h : ref07_dict_l1b r_ref07_is a0 a1 a2 (fun y0 y1 y2 => g1_f (y0, y1, y2)) s1 s2 s3 = some r := h; unfold ref07_dict_l1b at h
  change BW _ _ _ ⟨[(2, (I64 a2)), (3, (PV.rf 0 0)), (4, (PV.rf 1 0)), (8, (I64 s1)), (9, (I64 s2)), (10, (I64 s3))], [.box 29 [(I64 a0.kind), (BO a0.bool), (I64 a0.int), (PV.v (.float .f64 a0.float)), (ofStr a0.text), (PV.sl none 1 (List.map ofB a0.bytes)), (PV.v (.int .u64 a0.ref)), (PV.sl none 11 (List.map ofTerm a0.list)), (PV.sl none 12 (List.map ofEntry a0.fields)), (ofStr a0.cls), (I64 a0.ver)], .box 34 [(I64 a1.kind), (I64 a1.of), (I64 ((a1.only).kind)), (BO ((a1.only).bool)), (I64 ((a1.only).int)), (PV.v (.float .f64 (a1.only).float)), (ofStr (a1.only).text), (PV.sl none 1 (List.map ofB (a1.only).bytes)), (PV.v (.int .u64 (a1.only).ref)), (PV.sl none 11 (List.map ofTerm (a1.only).list)), (PV.sl none 12 (List.map ofEntry (a1.only).fields)), (ofStr (a1.only).cls), (I64 ((a1.only).ver)), (PV.sl none 18 (List.map ofTyp a1.parts)), (PV.sl none 1 (List.map ofStr a1.names)), (PV.sl none 1 (List.map ofBool a1.lacks)), (BO a1.opn), (ofStr a1.cls)]], _⟩ _
  refine bw_seq ?_
  refine bw_seqJ (ι := Bool) (fun i => ref07_dict_j1 r_ref07_is (fun y0 y1 y2 => g1_f (y0, y1, y2)) a0 a1 a2 s1 s2 s3 i = some r) (fun i => [(2, (I64 a2)), (3, (PV.rf 0 0)), (4, (PV.rf 1 0)), (8, (I64 s1)), (9, (I64 s2)), (10, (I64 s3)), (26, (BO i))]) (fun i => [.box 29 [(I64 a0.kind), (BO a0.bool), (I64 a0.int), (PV.v (.float .f64 a0.float)), (ofStr a0.text), (PV.sl none 1 (List.map ofB a0.bytes)), (PV.v (.int .u64 a0.ref)), (PV.sl none 11 (List.map ofTerm a0.list)), (PV.sl none 12 (List.map ofEntry a0.fields)), (ofStr a0.cls), (I64 a0.ver)], .box 34 [(I64 a1.kind), (I64 a1.of), (I64 ((a1.only).kind)), (BO ((a1.only).bool)), (I64 ((a1.only).int)), (PV.v (.float .f64 (a1.only).float)), (ofStr (a1.only).text), (PV.sl none 1 (List.map ofB (a1.only).bytes)), (PV.v (.int .u64 (a1.only).ref)), (PV.sl none 11 (List.map ofTerm (a1.only).list)), (PV.sl none 12 (List.map ofEntry (a1.only).fields)), (ofStr (a1.only).cls), (I64 ((a1.only).ver)), (PV.sl none 18 (List.map ofTyp a1.parts)), (PV.sl none 1 (List.map ofStr a1.names)), (PV.sl none 1 (List.map ofBool a1.lacks)), (BO a1.opn), (ofStr a1.cls)]]) ?_ ?_ ?_
  ·intro i; exact ⟨Nat.le_of_ble_eq_true rfl, ⟨(il_nil rfl), ⟨(il_rf rfl), ⟨(il_rf rfl), ⟨(il_nil rfl), ⟨(il_nil rfl), ⟨(il_nil rfl), ⟨(il_nil rfl), trivial⟩⟩⟩⟩⟩⟩⟩, ⟨⟨(il_nil rfl), ⟨(il_nil rfl), ⟨(il_nil rfl), ⟨(il_nil rfl), ⟨(il_nil rfl), ⟨(il_nil (ids_slM (fun _ => rfl) _)), ⟨(il_nil rfl), ⟨(il_nil (ids_slM ids_Term _)), ⟨(il_nil (ids_slM ids_Entry _)), ⟨(il_nil rfl), ⟨(il_nil rfl), trivial⟩⟩⟩⟩⟩⟩⟩⟩⟩⟩⟩, ⟨⟨(il_nil rfl), ⟨(il_nil rfl), ⟨(il_nil rfl), ⟨(il_nil rfl), ⟨(il_nil rfl), ⟨(il_nil rfl), ⟨(il_nil rfl), ⟨(il_nil (ids_slM (fun _ => rfl) _)), ⟨(il_nil rfl), ⟨(il_nil (ids_slM ids_Term _)), ⟨(il_nil (ids_slM ids_Entry _)), ⟨(il_nil rfl), ⟨(il_nil rfl), ⟨(il_nil (ids_slM ids_Typ _)), ⟨(il_nil (ids_slM (fun _ => rfl) _)), ⟨(il_nil (ids_slM (fun _ => rfl) _)), ⟨(il_nil rfl), ⟨(il_nil rfl), trivial⟩⟩⟩⟩⟩⟩⟩⟩⟩⟩⟩⟩⟩⟩⟩⟩⟩⟩, trivial⟩⟩⟩
  ·rintro s4 h; replace h : ref07_dict_j1 r_ref07_is (fun y0 y1 y2 => g1_f (y0, y1, y2)) a0 a1 a2 s1 s2 s3 s4 = some r := h; unfold ref07_dict_j1 at h
   change BW _ _ _ ⟨[(2, (I64 a2)), (3, (PV.rf 0 0)), (4, (PV.rf 1 0)), (8, (I64 s1)), (9, (I64 s2)), (10, (I64 s3)), (26, (BO s4))], [.box 29 [(I64 a0.kind), (BO a0.bool), (I64 a0.int), (PV.v (.float .f64 a0.float)), (ofStr a0.text), (PV.sl none 1 (List.map ofB a0.bytes)), (PV.v (.int .u64 a0.ref)), (PV.sl none 11 (List.map ofTerm a0.list)), (PV.sl none 12 (List.map ofEntry a0.fields)), (ofStr a0.cls), (I64 a0.ver)], .box 34 [(I64 a1.kind), (I64 a1.of), (I64 ((a1.only).kind)), (BO ((a1.only).bool)), (I64 ((a1.only).int)), (PV.v (.float .f64 (a1.only).float)), (ofStr (a1.only).text), (PV.sl none 1 (List.map ofB (a1.only).bytes)), (PV.v (.int .u64 (a1.only).ref)), (PV.sl none 11 (List.map ofTerm (a1.only).list)), (PV.sl none 12 (List.map ofEntry (a1.only).fields)), (ofStr (a1.only).cls), (I64 ((a1.only).ver)), (PV.sl none 18 (List.map ofTyp a1.parts)), (PV.sl none 1 (List.map ofStr a1.names)), (PV.sl none 1 (List.map ofBool a1.lacks)), (BO a1.opn), (ofStr a1.cls)]], _⟩ _
   refine bw_cond rfl ?_ ?_
   ·intro hc5; replace h := ocond_t hc5 h
    refine bw_skip ?_
    change BW _ _ _ _ _
    refine bw_block ?_
    change BW _ _ _ _ _
    refine bw_seq ?_
    refine bw_seqJ (ι := Bool) (fun i => ref07_dict_j2 r_ref07_is (fun y0 y1 y2 => g1_f (y0, y1, y2)) a0 a1 a2 s1 s2 s3 i = some r) (fun i => [(2, (I64 a2)), (3, (PV.rf 0 0)), (4, (PV.rf 1 0)), (8, (I64 s1)), (9, (I64 s2)), (10, (I64 s3)), (52, (BO i))]) (fun i => [.box 29 [(I64 a0.kind), (BO a0.bool), (I64 a0.int), (PV.v (.float .f64 a0.float)), (ofStr a0.text), (PV.sl none 1 (List.map ofB a0.bytes)), (PV.v (.int .u64 a0.ref)), (PV.sl none 11 (List.map ofTerm a0.list)), (PV.sl none 12 (List.map ofEntry a0.fields)), (ofStr a0.cls), (I64 a0.ver)], .box 34 [(I64 a1.kind), (I64 a1.of), (I64 ((a1.only).kind)), (BO ((a1.only).bool)), (I64 ((a1.only).int)), (PV.v (.float .f64 (a1.only).float)), (ofStr (a1.only).text), (PV.sl none 1 (List.map ofB (a1.only).bytes)), (PV.v (.int .u64 (a1.only).ref)), (PV.sl none 11 (List.map ofTerm (a1.only).list)), (PV.sl none 12 (List.map ofEntry (a1.only).fields)), (ofStr (a1.only).cls), (I64 ((a1.only).ver)), (PV.sl none 18 (List.map ofTyp a1.parts)), (PV.sl none 1 (List.map ofStr a1.names)), (PV.sl none 1 (List.map ofBool a1.lacks)), (BO a1.opn), (ofStr a1.cls)]]) ?_ ?_ ?_
    ·intro i; exact ⟨Nat.le_of_ble_eq_true rfl, ⟨(il_nil rfl), ⟨(il_rf rfl), ⟨(il_rf rfl), ⟨(il_nil rfl), ⟨(il_nil rfl), ⟨(il_nil rfl), ⟨(il_nil rfl), trivial⟩⟩⟩⟩⟩⟩⟩, ⟨⟨(il_nil rfl), ⟨(il_nil rfl), ⟨(il_nil rfl), ⟨(il_nil rfl), ⟨(il_nil rfl), ⟨(il_nil (ids_slM (fun _ => rfl) _)), ⟨(il_nil rfl), ⟨(il_nil (ids_slM ids_Term _)), ⟨(il_nil (ids_slM ids_Entry _)), ⟨(il_nil rfl), ⟨(il_nil rfl), trivial⟩⟩⟩⟩⟩⟩⟩⟩⟩⟩⟩, ⟨⟨(il_nil rfl), ⟨(il_nil rfl), ⟨(il_nil rfl), ⟨(il_nil rfl), ⟨(il_nil rfl), ⟨(il_nil rfl), ⟨(il_nil rfl), ⟨(il_nil (ids_slM (fun _ => rfl) _)), ⟨(il_nil rfl), ⟨(il_nil (ids_slM ids_Term _)), ⟨(il_nil (ids_slM ids_Entry _)), ⟨(il_nil rfl), ⟨(il_nil rfl), ⟨(il_nil (ids_slM ids_Typ _)), ⟨(il_nil (ids_slM (fun _ => rfl) _)), ⟨(il_nil (ids_slM (fun _ => rfl) _)), ⟨(il_nil rfl), ⟨(il_nil rfl), trivial⟩⟩⟩⟩⟩⟩⟩⟩⟩⟩⟩⟩⟩⟩⟩⟩⟩⟩, trivial⟩⟩⟩
    ·rintro s6 h; replace h : ref07_dict_j2 r_ref07_is (fun y0 y1 y2 => g1_f (y0, y1, y2)) a0 a1 a2 s1 s2 s3 s6 = some r := h; unfold ref07_dict_j2 at h
     change BW _ _ _ ⟨[(2, (I64 a2)), (3, (PV.rf 0 0)), (4, (PV.rf 1 0)), (8, (I64 s1)), (9, (I64 s2)), (10, (I64 s3)), (52, (BO s6))], [.box 29 [(I64 a0.kind), (BO a0.bool), (I64 a0.int), (PV.v (.float .f64 a0.float)), (ofStr a0.text), (PV.sl none 1 (List.map ofB a0.bytes)), (PV.v (.int .u64 a0.ref)), (PV.sl none 11 (List.map ofTerm a0.list)), (PV.sl none 12 (List.map ofEntry a0.fields)), (ofStr a0.cls), (I64 a0.ver)], .box 34 [(I64 a1.kind), (I64 a1.of), (I64 ((a1.only).kind)), (BO ((a1.only).bool)), (I64 ((a1.only).int)), (PV.v (.float .f64 (a1.only).float)), (ofStr (a1.only).text), (PV.sl none 1 (List.map ofB (a1.only).bytes)), (PV.v (.int .u64 (a1.only).ref)), (PV.sl none 11 (List.map ofTerm (a1.only).list)), (PV.sl none 12 (List.map ofEntry (a1.only).fields)), (ofStr (a1.only).cls), (I64 ((a1.only).ver)), (PV.sl none 18 (List.map ofTyp a1.parts)), (PV.sl none 1 (List.map ofStr a1.names)), (PV.sl none 1 (List.map ofBool a1.lacks)), (BO a1.opn), (ofStr a1.cls)]], _⟩ _
     refine bw_cond rfl ?_ ?_
     ·intro hc7; replace h := ocond_t hc7 h
      refine bw_seq ?_
      refine bR ?_
      refine sS rfl rfl rfl (op1_faR st_34 (i := 5) rfl rfl rfl) ?_
      refine sS rfl rfl rfl ((op1_ldR Try.underlying32 rfl rfl rfl rfl rfl)) ?_
      refine sM rfl rfl rfl rfl rfl ?_
      obtain ⟨x8, hx8, h⟩ := obind h
      refine sS rfl rfl rfl (op1_idxM Try.underlying32 inf_4 rfl rfl rfl hx8 rfl) ?_
      refine sS rfl rfl rfl (op1_ldP (y := (BO x8)) Try.underlying4 rfl rfl rfl rfl) ?_
      refine sS rfl rfl rfl (op1_not rfl rfl) (ao_nil ?_)
      change BW _ _ _ _ _
      refine bw_cond rfl ?_ ?_
      ·intro hc9; replace h := ocond_t hc9 h
       refine bR ?_
       refine sM rfl rfl rfl rfl rfl ?_
       refine sA rfl rfl rfl rfl rfl ?_
       refine sA rfl rfl rfl rfl rfl (ao_nil ?_)
       change BW _ _ _ _ _
       refine bw_ret ?_
       change ∃ xs, _ = some xs ∧ EndOk _ _ _ _
       obtain rfl := Option.some.inj h
       exact ⟨_, rfl, endOk0 (y := (PV.tup [(BO false), (I64 a2)])) (Wk.refl _) (ids_tup_cons rfl (ids_tup_cons rfl ids_tup_nil)) ⟨rfl, rfl⟩⟩
      ·intro hc9; replace h := ocond_f hc9 h
       refine bw_skip ?_
       change BW _ _ _ _ _
       refine bR ?_
       refine sM rfl rfl rfl rfl rfl ?_
       refine sS rfl rfl rfl (op1_addW rfl rfl rfl) ?_
       refine sA rfl rfl rfl rfl rfl (ao_nil ?_)
       change BW _ _ _ _ _
       refine bw_exit ?_
       exact ⟨rfl, (s1, (IntKind.i64.wrap (s2 + 1)), s3), h, ⟨(.cons .same (.cons .same .nil)), (sC rfl (sC rfl (sC rfl (sC rfl (sC rfl (sC rfl sub_nil))))))⟩⟩
     ·intro hc7; replace h := ocond_f hc7 h
      refine bw_skip ?_
      change BW _ _ _ _ _
      refine bw_seqJ (ι := Int) (fun i => ref07_dict_j3 (fun y0 y1 y2 => g1_f (y0, y1, y2)) a0 s1 s3 i = some r) (fun i => [(2, (I64 a2)), (3, (PV.rf 0 0)), (4, (PV.rf 1 0)), (8, (I64 s1)), (9, (I64 i)), (10, (I64 s3))]) (fun i => [.box 29 [(I64 a0.kind), (BO a0.bool), (I64 a0.int), (PV.v (.float .f64 a0.float)), (ofStr a0.text), (PV.sl none 1 (List.map ofB a0.bytes)), (PV.v (.int .u64 a0.ref)), (PV.sl none 11 (List.map ofTerm a0.list)), (PV.sl none 12 (List.map ofEntry a0.fields)), (ofStr a0.cls), (I64 a0.ver)], .box 34 [(I64 a1.kind), (I64 a1.of), (I64 ((a1.only).kind)), (BO ((a1.only).bool)), (I64 ((a1.only).int)), (PV.v (.float .f64 (a1.only).float)), (ofStr (a1.only).text), (PV.sl none 1 (List.map ofB (a1.only).bytes)), (PV.v (.int .u64 (a1.only).ref)), (PV.sl none 11 (List.map ofTerm (a1.only).list)), (PV.sl none 12 (List.map ofEntry (a1.only).fields)), (ofStr (a1.only).cls), (I64 ((a1.only).ver)), (PV.sl none 18 (List.map ofTyp a1.parts)), (PV.sl none 1 (List.map ofStr a1.names)), (PV.sl none 1 (List.map ofBool a1.lacks)), (BO a1.opn), (ofStr a1.cls)]]) ?_ ?_ ?_
      ·intro i; exact ⟨Nat.le_of_ble_eq_true rfl, ⟨(il_nil rfl), ⟨(il_rf rfl), ⟨(il_rf rfl), ⟨(il_nil rfl), ⟨(il_nil rfl), ⟨(il_nil rfl), trivial⟩⟩⟩⟩⟩⟩, ⟨⟨(il_nil rfl), ⟨(il_nil rfl), ⟨(il_nil rfl), ⟨(il_nil rfl), ⟨(il_nil rfl), ⟨(il_nil (ids_slM (fun _ => rfl) _)), ⟨(il_nil rfl), ⟨(il_nil (ids_slM ids_Term _)), ⟨(il_nil (ids_slM ids_Entry _)), ⟨(il_nil rfl), ⟨(il_nil rfl), trivial⟩⟩⟩⟩⟩⟩⟩⟩⟩⟩⟩, ⟨⟨(il_nil rfl), ⟨(il_nil rfl), ⟨(il_nil rfl), ⟨(il_nil rfl), ⟨(il_nil rfl), ⟨(il_nil rfl), ⟨(il_nil rfl), ⟨(il_nil (ids_slM (fun _ => rfl) _)), ⟨(il_nil rfl), ⟨(il_nil (ids_slM ids_Term _)), ⟨(il_nil (ids_slM ids_Entry _)), ⟨(il_nil rfl), ⟨(il_nil rfl), ⟨(il_nil (ids_slM ids_Typ _)), ⟨(il_nil (ids_slM (fun _ => rfl) _)), ⟨(il_nil (ids_slM (fun _ => rfl) _)), ⟨(il_nil rfl), ⟨(il_nil rfl), trivial⟩⟩⟩⟩⟩⟩⟩⟩⟩⟩⟩⟩⟩⟩⟩⟩⟩⟩, trivial⟩⟩⟩
      ·rintro s10 h; replace h : ref07_dict_j3 (fun y0 y1 y2 => g1_f (y0, y1, y2)) a0 s1 s3 s10 = some r := h; unfold ref07_dict_j3 at h
       change BW _ _ _ ⟨[(2, (I64 a2)), (3, (PV.rf 0 0)), (4, (PV.rf 1 0)), (8, (I64 s1)), (9, (I64 s10)), (10, (I64 s3))], [.box 29 [(I64 a0.kind), (BO a0.bool), (I64 a0.int), (PV.v (.float .f64 a0.float)), (ofStr a0.text), (PV.sl none 1 (List.map ofB a0.bytes)), (PV.v (.int .u64 a0.ref)), (PV.sl none 11 (List.map ofTerm a0.list)), (PV.sl none 12 (List.map ofEntry a0.fields)), (ofStr a0.cls), (I64 a0.ver)], .box 34 [(I64 a1.kind), (I64 a1.of), (I64 ((a1.only).kind)), (BO ((a1.only).bool)), (I64 ((a1.only).int)), (PV.v (.float .f64 (a1.only).float)), (ofStr (a1.only).text), (PV.sl none 1 (List.map ofB (a1.only).bytes)), (PV.v (.int .u64 (a1.only).ref)), (PV.sl none 11 (List.map ofTerm (a1.only).list)), (PV.sl none 12 (List.map ofEntry (a1.only).fields)), (ofStr (a1.only).cls), (I64 ((a1.only).ver)), (PV.sl none 18 (List.map ofTyp a1.parts)), (PV.sl none 1 (List.map ofStr a1.names)), (PV.sl none 1 (List.map ofBool a1.lacks)), (BO a1.opn), (ofStr a1.cls)]], _⟩ _
       refine bR ?_
       refine sM rfl rfl rfl rfl rfl ?_
       refine sS rfl rfl rfl (op1_faR st_29 (i := 8) rfl rfl rfl) ?_
       refine sS rfl rfl rfl ((op1_ldR Try.underlying27 rfl rfl rfl rfl rfl)) ?_
       refine sM rfl rfl rfl rfl rfl ?_
       obtain ⟨x11, hx11, h⟩ := obind h
       refine sS rfl rfl rfl (op1_idxM Try.underlying27 inf_101 rfl rfl rfl hx11 (ofEntry_eq _)) ?_
       refine sS rfl rfl rfl (op1_faP st_101 (i := 1) rfl rfl rfl) ?_
       refine sS rfl rfl rfl ((op1_ldPA inf_29 Try.underlying29 rfl rfl rfl rfl rfl)) ?_
       obtain ⟨x12, hx12, h⟩ := obind h
       refine sS rfl rfl rfl (op1_pcall rfl en_90 rfl (.cons (Wk.refl _) .nil) ⟨(ids_TermX (x11.2)), trivial⟩ (s_ref07_parts (x11.2) x12 hx12) rfl) ?_
       refine sS rfl rfl rfl (op1_addW rfl rfl rfl) ?_
       refine sA rfl rfl rfl rfl rfl (ao_nil ?_)
       change BW _ _ _ _ _
       refine bw_region ?_
       refine sM rfl rfl rfl rfl rfl ?_
       refine sS rfl rfl rfl (op1_addW rfl rfl rfl) ?_
       refine sA rfl rfl rfl rfl rfl (ao_nil ?_)
       exact ⟨rfl, ((IntKind.i64.wrap (s1 + x12)), s10, (IntKind.i64.wrap (s3 + 1))), h, ⟨(.cons .same (.cons .same .nil)), (sC rfl (sC rfl (sC rfl (sC rfl (sC rfl (sC rfl sub_nil))))))⟩⟩
      ·refine bw_seqJ (ι := Bool) (fun i => ref07_dict_j4 r_ref07_is (fun y0 y1 y2 => g1_f (y0, y1, y2)) a0 a1 a2 s1 s2 s3 i = some r) (fun i => [(2, (I64 a2)), (3, (PV.rf 0 0)), (4, (PV.rf 1 0)), (8, (I64 s1)), (9, (I64 s2)), (10, (I64 s3)), (80, (BO i))]) (fun i => [.box 29 [(I64 a0.kind), (BO a0.bool), (I64 a0.int), (PV.v (.float .f64 a0.float)), (ofStr a0.text), (PV.sl none 1 (List.map ofB a0.bytes)), (PV.v (.int .u64 a0.ref)), (PV.sl none 11 (List.map ofTerm a0.list)), (PV.sl none 12 (List.map ofEntry a0.fields)), (ofStr a0.cls), (I64 a0.ver)], .box 34 [(I64 a1.kind), (I64 a1.of), (I64 ((a1.only).kind)), (BO ((a1.only).bool)), (I64 ((a1.only).int)), (PV.v (.float .f64 (a1.only).float)), (ofStr (a1.only).text), (PV.sl none 1 (List.map ofB (a1.only).bytes)), (PV.v (.int .u64 (a1.only).ref)), (PV.sl none 11 (List.map ofTerm (a1.only).list)), (PV.sl none 12 (List.map ofEntry (a1.only).fields)), (ofStr (a1.only).cls), (I64 ((a1.only).ver)), (PV.sl none 18 (List.map ofTyp a1.parts)), (PV.sl none 1 (List.map ofStr a1.names)), (PV.sl none 1 (List.map ofBool a1.lacks)), (BO a1.opn), (ofStr a1.cls)]]) ?_ ?_ ?_
       ·intro i; exact ⟨Nat.le_of_ble_eq_true rfl, ⟨(il_nil rfl), ⟨(il_rf rfl), ⟨(il_rf rfl), ⟨(il_nil rfl), ⟨(il_nil rfl), ⟨(il_nil rfl), ⟨(il_nil rfl), trivial⟩⟩⟩⟩⟩⟩⟩, ⟨⟨(il_nil rfl), ⟨(il_nil rfl), ⟨(il_nil rfl), ⟨(il_nil rfl), ⟨(il_nil rfl), ⟨(il_nil (ids_slM (fun _ => rfl) _)), ⟨(il_nil rfl), ⟨(il_nil (ids_slM ids_Term _)), ⟨(il_nil (ids_slM ids_Entry _)), ⟨(il_nil rfl), ⟨(il_nil rfl), trivial⟩⟩⟩⟩⟩⟩⟩⟩⟩⟩⟩, ⟨⟨(il_nil rfl), ⟨(il_nil rfl), ⟨(il_nil rfl), ⟨(il_nil rfl), ⟨(il_nil rfl), ⟨(il_nil rfl), ⟨(il_nil rfl), ⟨(il_nil (ids_slM (fun _ => rfl) _)), ⟨(il_nil rfl), ⟨(il_nil (ids_slM ids_Term _)), ⟨(il_nil (ids_slM ids_Entry _)), ⟨(il_nil rfl), ⟨(il_nil rfl), ⟨(il_nil (ids_slM ids_Typ _)), ⟨(il_nil (ids_slM (fun _ => rfl) _)), ⟨(il_nil (ids_slM (fun _ => rfl) _)), ⟨(il_nil rfl), ⟨(il_nil rfl), trivial⟩⟩⟩⟩⟩⟩⟩⟩⟩⟩⟩⟩⟩⟩⟩⟩⟩⟩, trivial⟩⟩⟩
       ·rintro s13 h; replace h : ref07_dict_j4 r_ref07_is (fun y0 y1 y2 => g1_f (y0, y1, y2)) a0 a1 a2 s1 s2 s3 s13 = some r := h; unfold ref07_dict_j4 at h
        change BW _ _ _ ⟨[(2, (I64 a2)), (3, (PV.rf 0 0)), (4, (PV.rf 1 0)), (8, (I64 s1)), (9, (I64 s2)), (10, (I64 s3)), (80, (BO s13))], [.box 29 [(I64 a0.kind), (BO a0.bool), (I64 a0.int), (PV.v (.float .f64 a0.float)), (ofStr a0.text), (PV.sl none 1 (List.map ofB a0.bytes)), (PV.v (.int .u64 a0.ref)), (PV.sl none 11 (List.map ofTerm a0.list)), (PV.sl none 12 (List.map ofEntry a0.fields)), (ofStr a0.cls), (I64 a0.ver)], .box 34 [(I64 a1.kind), (I64 a1.of), (I64 ((a1.only).kind)), (BO ((a1.only).bool)), (I64 ((a1.only).int)), (PV.v (.float .f64 (a1.only).float)), (ofStr (a1.only).text), (PV.sl none 1 (List.map ofB (a1.only).bytes)), (PV.v (.int .u64 (a1.only).ref)), (PV.sl none 11 (List.map ofTerm (a1.only).list)), (PV.sl none 12 (List.map ofEntry (a1.only).fields)), (ofStr (a1.only).cls), (I64 ((a1.only).ver)), (PV.sl none 18 (List.map ofTyp a1.parts)), (PV.sl none 1 (List.map ofStr a1.names)), (PV.sl none 1 (List.map ofBool a1.lacks)), (BO a1.opn), (ofStr a1.cls)]], _⟩ _
        refine bw_cond rfl ?_ ?_
        ·intro hc14; replace h := ocond_t hc14 h
         refine bR ?_
         refine sS rfl rfl rfl (op1_faR st_34 (i := 6) rfl rfl rfl) ?_
         refine sS rfl rfl rfl ((op1_ldR Try.underlying4 rfl rfl rfl rfl rfl)) ?_
         refine sS rfl rfl rfl (op1_not rfl rfl) (ao_nil ?_)
         change BW _ _ _ _ _
         refine bw_cond rfl ?_ ?_
         ·intro hc15; replace h := ocond_t hc15 h
          refine bR ?_
          refine sM rfl rfl rfl rfl rfl ?_
          refine sA rfl rfl rfl rfl rfl ?_
          refine sA rfl rfl rfl rfl rfl (ao_nil ?_)
          change BW _ _ _ _ _
          refine bw_ret ?_
          change ∃ xs, _ = some xs ∧ EndOk _ _ _ _
          obtain rfl := Option.some.inj h
          exact ⟨_, rfl, endOk0 (y := (PV.tup [(BO false), (I64 a2)])) (Wk.refl _) (ids_tup_cons rfl (ids_tup_cons rfl ids_tup_nil)) ⟨rfl, rfl⟩⟩
         ·intro hc15; replace h := ocond_f hc15 h
          refine bw_skip ?_
          exact ⟨rfl, s2, h, ⟨(.cons .same (.cons .same .nil)), (sC rfl (sC rfl (sC rfl (sC rfl (sC rfl (sC rfl sub_nil))))))⟩⟩
        ·intro hc14; replace h := ocond_f hc14 h
         refine bw_seq ?_
         refine bw_seq (bw_tail 17 [] [0, 1] mo (by kernel_rfl) ?_)
         refine ac_go rfl rfl rfl rfl (fun H hp => op1_faR st_29 (i := 8) rfl rfl rfl) ?_
         refine ac_go rfl rfl rfl rfl (fun H hp => (op1_ldR Try.underlying27 rfl rfl rfl (hp.at rfl rfl) rfl)) ?_
         refine ac_go rfl rfl rfl rfl (fun H hp => op1_move rfl rfl) ?_
         obtain ⟨x16, hx16, h⟩ := obind h
         refine ac_go rfl rfl rfl rfl (fun H hp => op1_idxM Try.underlying27 inf_101 rfl rfl rfl hx16 (ofEntry_eq _)) ?_
         refine ac_go rfl rfl rfl rfl (fun H hp => op1_faP st_101 (i := 1) rfl rfl rfl) ?_
         refine ac_go rfl rfl rfl rfl (fun H hp => (op1_ldPA inf_29 Try.underlying29 rfl rfl rfl rfl rfl)) ?_
         refine ac_go rfl rfl rfl rfl (fun H hp => op1_faR st_34 (i := 3) rfl rfl rfl) ?_
         refine ac_go rfl rfl rfl rfl (fun H hp => (op1_ldR Try.underlying30 rfl rfl rfl (hp.at rfl rfl) rfl)) ?_
         refine ac_go rfl rfl rfl rfl (fun H hp => op1_move rfl rfl) ?_
         obtain ⟨x17, hx17, h⟩ := obind h
         refine ac_go rfl rfl rfl rfl (fun H hp => op1_idxM Try.underlying30 inf_34 rfl rfl rfl hx17 (ofTyp_eq _)) ?_
         refine ac_go rfl rfl rfl rfl (fun H hp => op1_ldPW inf_34 Try.underlying34 rfl rfl rfl rfl rfl) ?_
         refine ac_go rfl rfl rfl rfl (fun H hp => op1_move rfl rfl) ?_
         obtain ⟨x18, hx18, h⟩ := obind h
         refine ac_go rfl rfl rfl rfl (fun H hp => op1_pcall rfl en_32 rfl (.cons (Wk.refl _) (.cons (Wk.refl _) (.cons (Wk.refl _) .nil))) ⟨(ids_TermX (x16.2)), ⟨(ids_TypX x17), ⟨rfl, trivial⟩⟩⟩ (c_ref07_is (x16.2) x17 s1 x18 hx18) (ids_tup_cons rfl (ids_tup_cons rfl ids_tup_nil))) ?_
         refine ac_go rfl rfl rfl rfl (fun H hp => op1_move rfl rfl) ?_
         refine ac_go rfl rfl rfl rfl (fun H hp => op1_ext rfl rfl rfl) ?_
         refine ac_go rfl rfl rfl rfl (fun H hp => op1_ext rfl rfl rfl) ?_
         refine ac_go rfl rfl rfl rfl (fun H hp => op1_assign rfl rfl) ?_
         refine ac_nil ?_
         change AO _ _ _ _ _
         refine sA rfl rfl rfl rfl rfl (ao_nil ?_)
         change BW _ _ _ _ _
         refine bR ?_
         refine sM rfl rfl rfl rfl rfl ?_
         refine sS rfl rfl rfl (op1_not rfl rfl) (ao_nil ?_)
         change BW _ _ _ _ _
         refine bw_cond rfl ?_ ?_
         ·intro hc19; replace h := ocond_t hc19 h
          refine bR ?_
          refine sM rfl rfl rfl rfl rfl ?_
          refine sA rfl rfl rfl rfl rfl ?_
          refine sA rfl rfl rfl rfl rfl (ao_nil ?_)
          change BW _ _ _ _ _
          refine bw_ret ?_
          change ∃ xs, _ = some xs ∧ EndOk _ _ _ _
          obtain rfl := Option.some.inj h
          exact ⟨_, rfl, endOk0 (y := (PV.tup [(BO false), (I64 x18.2)])) (Wk.refl _) (ids_tup_cons rfl (ids_tup_cons rfl ids_tup_nil)) ⟨rfl, rfl⟩⟩
         ·intro hc19; replace h := ocond_f hc19 h
          refine bw_skip ?_
          change BW _ _ _ _ _
          refine bw_region ?_
          refine sM rfl rfl rfl rfl rfl ?_
          refine sS rfl rfl rfl (op1_addW rfl rfl rfl) ?_
          refine sA rfl rfl rfl rfl rfl (ao_nil ?_)
          exact ⟨rfl, (IntKind.i64.wrap (s2 + 1)), h, ⟨(.cons .same (.cons .same .nil)), (sC rfl (sC rfl (sC rfl (sC rfl (sC rfl (sC rfl sub_nil))))))⟩⟩
       ·refine bw_tail 17 [] [0, 1] mo (by kernel_rfl) ?_
        refine ac_go rfl rfl rfl rfl (fun H hp => op1_move rfl rfl) ?_
        refine ac_go rfl rfl rfl rfl (fun H hp => op1_faR st_34 (i := 4) rfl rfl rfl) ?_
        refine ac_go rfl rfl rfl rfl (fun H hp => (op1_ldR Try.underlying31 rfl rfl rfl (hp.at rfl rfl) rfl)) ?_
        refine ac_go rfl rfl rfl rfl (fun H hp => op1_lenM Try.underlying31 rfl rfl) ?_
        refine ac_go rfl rfl rfl rfl (fun H hp => (op1_cmp rfl rfl rfl rfl).cast (y := (BO ((s2 == (((a1.names).length : Nat) : Int))))) rfl rfl) ?_
        refine ac_go rfl rfl rfl rfl (fun H hp => op1_move rfl rfl) ?_
        refine ac_cases 67 rfl ?_ ?_
        ·intro hb20; replace h := ocond_t hb20 h
         refine ac_no rfl rfl rfl rfl rfl rfl rfl ?_
         refine ac_no rfl rfl rfl rfl rfl rfl rfl ?_
         refine ac_no rfl rfl rfl rfl rfl rfl rfl ?_
         refine ac_no rfl rfl rfl rfl rfl rfl rfl ?_
         refine ac_no rfl rfl rfl rfl rfl rfl rfl ?_
         refine ac_no rfl rfl rfl rfl rfl rfl rfl ?_
         refine ac_no rfl rfl rfl rfl rfl rfl rfl ?_
         refine ac_no rfl rfl rfl rfl rfl rfl rfl ?_
         refine ac_no rfl rfl rfl rfl rfl rfl rfl ?_
         refine ac_no rfl rfl rfl rfl rfl rfl rfl ?_
         refine ac_no rfl rfl rfl rfl rfl rfl rfl ?_
         refine ac_nil ?_
         change AO _ _ _ _ _
         refine ao_no rfl rfl rfl rfl rfl rfl ?_
         refine sS rfl rfl rfl (op1_pickT rfl rfl rfl) (ao_nil ?_)
         exact ⟨rfl, true, h, ⟨(.cons .same (.cons .same .nil)), (sC rfl (sC rfl (sC rfl (sC rfl (sC rfl (sC rfl (sC rfl sub_nil)))))))⟩⟩
        ·intro hb20; replace h := ocond_f hb20 h
         refine ac_yes rfl rfl rfl rfl rfl rfl rfl (fun H hp => op1_faR st_34 (i := 4) rfl rfl rfl) ?_
         refine ac_yes rfl rfl rfl rfl rfl rfl rfl (fun H hp => (op1_ldR Try.underlying31 rfl rfl rfl (hp.at rfl rfl) rfl)) ?_
         refine ac_yes rfl rfl rfl rfl rfl rfl rfl (fun H hp => op1_move rfl rfl) ?_
         obtain ⟨x21, hx21, h⟩ := obind h
         refine ac_yes rfl rfl rfl rfl rfl rfl rfl (fun H hp => op1_idxM Try.underlying31 inf_9 rfl rfl rfl hx21 rfl) ?_
         refine ac_yes rfl rfl rfl rfl rfl rfl rfl (fun H hp => op1_ldP (y := (ofStr x21)) Try.underlying9 rfl rfl rfl rfl) ?_
         refine ac_yes rfl rfl rfl rfl rfl rfl rfl (fun H hp => op1_faR st_29 (i := 8) rfl rfl rfl) ?_
         refine ac_yes rfl rfl rfl rfl rfl rfl rfl (fun H hp => (op1_ldR Try.underlying27 rfl rfl rfl (hp.at rfl rfl) rfl)) ?_
         refine ac_yes rfl rfl rfl rfl rfl rfl rfl (fun H hp => op1_move rfl rfl) ?_
         obtain ⟨x22, hx22, h⟩ := obind h
         refine ac_yes rfl rfl rfl rfl rfl rfl rfl (fun H hp => op1_idxM Try.underlying27 inf_101 rfl rfl rfl hx22 (ofEntry_eq _)) ?_
         refine ac_yes rfl rfl rfl rfl rfl rfl rfl (fun H hp => op1_faP st_101 (i := 0) rfl rfl rfl) ?_
         refine ac_yes rfl rfl rfl rfl rfl rfl rfl (fun H hp => op1_ldP (y := (ofStr x22.1)) Try.underlying9 rfl rfl rfl rfl) ?_
         refine ac_nil ?_
         change AO _ _ _ _ _
         refine ao_yes rfl rfl rfl rfl rfl rfl ((op1_cmpT (a := x21) (b := x22.1) rfl rfl rfl rfl).cast (y := (BO ((!(Op.bytesLess x21 x22.1 || x21 == x22.1))))) rfl rfl) ?_
         refine sS rfl rfl rfl (op1_pickF rfl rfl rfl) (ao_nil ?_)
         exact ⟨rfl, (!(Op.bytesLess x21 x22.1 || x21 == x22.1)), h, ⟨(.cons .same (.cons .same .nil)), (sC rfl (sC rfl (sC rfl (sC rfl (sC rfl (sC rfl (sC rfl sub_nil)))))))⟩⟩
    ·refine bw_tail 23 [] [0, 1] mo (by kernel_rfl) ?_
     refine ac_go rfl rfl rfl rfl (fun H hp => op1_move rfl rfl) ?_
     refine ac_go rfl rfl rfl rfl (fun H hp => op1_faR st_34 (i := 4) rfl rfl rfl) ?_
     refine ac_go rfl rfl rfl rfl (fun H hp => (op1_ldR Try.underlying31 rfl rfl rfl (hp.at rfl rfl) rfl)) ?_
     refine ac_go rfl rfl rfl rfl (fun H hp => op1_lenM Try.underlying31 rfl rfl) ?_
     refine ac_go rfl rfl rfl rfl (fun H hp => (op1_cmp rfl rfl rfl rfl).cast (y := (BO ((decide (s2 < (((a1.names).length : Nat) : Int)))))) rfl rfl) ?_
     refine ac_go rfl rfl rfl rfl (fun H hp => op1_move rfl rfl) ?_
     refine ac_cases 32 rfl ?_ ?_
     ·intro hb23; replace h := ocond_t hb23 h
      refine ac_yes rfl rfl rfl rfl rfl rfl rfl (fun H hp => op1_move rfl rfl) ?_
      refine ac_yes rfl rfl rfl rfl rfl rfl rfl (fun H hp => op1_faR st_29 (i := 8) rfl rfl rfl) ?_
      refine ac_yes rfl rfl rfl rfl rfl rfl rfl (fun H hp => (op1_ldR Try.underlying27 rfl rfl rfl (hp.at rfl rfl) rfl)) ?_
      refine ac_yes rfl rfl rfl rfl rfl rfl rfl (fun H hp => op1_lenM Try.underlying27 rfl rfl) ?_
      refine ac_yes rfl rfl rfl rfl rfl rfl rfl (fun H hp => (op1_cmp rfl rfl rfl rfl).cast (y := (BO ((s3 == (((a0.fields).length : Nat) : Int))))) rfl rfl) ?_
      refine ac_yes rfl rfl rfl rfl rfl rfl rfl (fun H hp => op1_move rfl rfl) ?_
      refine ac_cases 38 rfl ?_ ?_
      ·intro hb24; replace h := ocond_t hb24 h
       refine ac_no rfl rfl rfl rfl rfl rfl rfl ?_
       refine ac_no rfl rfl rfl rfl rfl rfl rfl ?_
       refine ac_no rfl rfl rfl rfl rfl rfl rfl ?_
       refine ac_no rfl rfl rfl rfl rfl rfl rfl ?_
       refine ac_no rfl rfl rfl rfl rfl rfl rfl ?_
       refine ac_no rfl rfl rfl rfl rfl rfl rfl ?_
       refine ac_no rfl rfl rfl rfl rfl rfl rfl ?_
       refine ac_no rfl rfl rfl rfl rfl rfl rfl ?_
       refine ac_no rfl rfl rfl rfl rfl rfl rfl ?_
       refine ac_no rfl rfl rfl rfl rfl rfl rfl ?_
       refine ac_no rfl rfl rfl rfl rfl rfl rfl ?_
       refine ac_nil ?_
       change AO _ _ _ _ _
       refine ao_no rfl rfl rfl rfl rfl rfl ?_
       refine ao_yes rfl rfl rfl rfl rfl rfl (op1_pickT rfl rfl rfl) ?_
       refine sS rfl rfl rfl (op1_pickT rfl rfl rfl) (ao_nil ?_)
       exact ⟨rfl, true, h, ⟨(.cons .same (.cons .same .nil)), (sC rfl (sC rfl (sC rfl (sC rfl (sC rfl (sC rfl (sC rfl sub_nil)))))))⟩⟩
      ·intro hb24; replace h := ocond_f hb24 h
       refine ac_yes rfl rfl rfl rfl rfl rfl rfl (fun H hp => op1_faR st_34 (i := 4) rfl rfl rfl) ?_
       refine ac_yes rfl rfl rfl rfl rfl rfl rfl (fun H hp => (op1_ldR Try.underlying31 rfl rfl rfl (hp.at rfl rfl) rfl)) ?_
       refine ac_yes rfl rfl rfl rfl rfl rfl rfl (fun H hp => op1_move rfl rfl) ?_
       obtain ⟨x25, hx25, h⟩ := obind h
       refine ac_yes rfl rfl rfl rfl rfl rfl rfl (fun H hp => op1_idxM Try.underlying31 inf_9 rfl rfl rfl hx25 rfl) ?_
       refine ac_yes rfl rfl rfl rfl rfl rfl rfl (fun H hp => op1_ldP (y := (ofStr x25)) Try.underlying9 rfl rfl rfl rfl) ?_
       refine ac_yes rfl rfl rfl rfl rfl rfl rfl (fun H hp => op1_faR st_29 (i := 8) rfl rfl rfl) ?_
       refine ac_yes rfl rfl rfl rfl rfl rfl rfl (fun H hp => (op1_ldR Try.underlying27 rfl rfl rfl (hp.at rfl rfl) rfl)) ?_
       refine ac_yes rfl rfl rfl rfl rfl rfl rfl (fun H hp => op1_move rfl rfl) ?_
       obtain ⟨x26, hx26, h⟩ := obind h
       refine ac_yes rfl rfl rfl rfl rfl rfl rfl (fun H hp => op1_idxM Try.underlying27 inf_101 rfl rfl rfl hx26 (ofEntry_eq _)) ?_
       refine ac_yes rfl rfl rfl rfl rfl rfl rfl (fun H hp => op1_faP st_101 (i := 0) rfl rfl rfl) ?_
       refine ac_yes rfl rfl rfl rfl rfl rfl rfl (fun H hp => op1_ldP (y := (ofStr x26.1)) Try.underlying9 rfl rfl rfl rfl) ?_
       refine ac_nil ?_
       change AO _ _ _ _ _
       refine ao_yes rfl rfl rfl rfl rfl rfl ((op1_cmpT (a := x25) (b := x26.1) rfl rfl rfl rfl).cast (y := (BO ((Op.bytesLess x25 x26.1)))) rfl rfl) ?_
       refine ao_yes rfl rfl rfl rfl rfl rfl (op1_pickF rfl rfl rfl) ?_
       refine sS rfl rfl rfl (op1_pickT rfl rfl rfl) (ao_nil ?_)
       exact ⟨rfl, (Op.bytesLess x25 x26.1), h, ⟨(.cons .same (.cons .same .nil)), (sC rfl (sC rfl (sC rfl (sC rfl (sC rfl (sC rfl (sC rfl sub_nil)))))))⟩⟩
     ·intro hb23; replace h := ocond_f hb23 h
      refine ac_no rfl rfl rfl rfl rfl rfl rfl ?_
      refine ac_no rfl rfl rfl rfl rfl rfl rfl ?_
      refine ac_no rfl rfl rfl rfl rfl rfl rfl ?_
      refine ac_no rfl rfl rfl rfl rfl rfl rfl ?_
      refine ac_no rfl rfl rfl rfl rfl rfl rfl ?_
      refine ac_no rfl rfl rfl rfl rfl rfl rfl ?_
      refine ac_no rfl rfl rfl rfl rfl rfl rfl ?_
      refine ac_no rfl rfl rfl rfl rfl rfl rfl ?_
      refine ac_no rfl rfl rfl rfl rfl rfl rfl ?_
      refine ac_no rfl rfl rfl rfl rfl rfl rfl ?_
      refine ac_no rfl rfl rfl rfl rfl rfl rfl ?_
      refine ac_no rfl rfl rfl rfl rfl rfl rfl ?_
      refine ac_no rfl rfl rfl rfl rfl rfl rfl ?_
      refine ac_no rfl rfl rfl rfl rfl rfl rfl ?_
      refine ac_no rfl rfl rfl rfl rfl rfl rfl ?_
      refine ac_no rfl rfl rfl rfl rfl rfl rfl ?_
      refine ac_no rfl rfl rfl rfl rfl rfl rfl ?_
      refine ac_nil ?_
      change AO _ _ _ _ _
      refine ao_no rfl rfl rfl rfl rfl rfl ?_
      refine ao_no rfl rfl rfl rfl rfl rfl ?_
      refine sS rfl rfl rfl (op1_pickF rfl rfl rfl) (ao_nil ?_)
      exact ⟨rfl, false, h, ⟨(.cons .same (.cons .same .nil)), (sC rfl (sC rfl (sC rfl (sC rfl (sC rfl (sC rfl (sC rfl sub_nil)))))))⟩⟩
   ·intro hc5; replace h := ocond_f hc5 h
    refine bw_exit ?_
    change BW _ _ _ _ _
    refine bR ?_
    refine sA rfl rfl rfl rfl rfl ?_
    refine sA rfl rfl rfl rfl rfl (ao_nil ?_)
    change BW _ _ _ _ _
    refine bw_ret ?_
    change ∃ xs, _ = some xs ∧ EndOk _ _ _ _
    obtain rfl := Option.some.inj h
    exact ⟨_, rfl, endOk0 (y := (PV.tup [(BO true), (I64 0)])) (Wk.refl _) (ids_tup_cons rfl (ids_tup_cons rfl ids_tup_nil)) ⟨rfl, rfl⟩⟩
  ·refine bw_region ?_
   refine sM rfl rfl rfl rfl rfl ?_
   refine sS rfl rfl rfl (op1_faR st_29 (i := 8) rfl rfl rfl) ?_
   refine sS rfl rfl rfl ((op1_ldR Try.underlying27 rfl rfl rfl rfl rfl)) ?_
   refine sS rfl rfl rfl (op1_lenM Try.underlying27 rfl rfl) ?_
   refine sS rfl rfl rfl ((op1_cmp rfl rfl rfl rfl).cast (y := (BO ((decide (s3 < (((a0.fields).length : Nat) : Int)))))) rfl rfl) ?_
   refine sM rfl rfl rfl rfl rfl ?_
   refine ao_cases (t := 20) rfl ?_ ?_
   ·intro hb27; replace h := ocond_t hb27 h
    refine ao_no rfl rfl rfl rfl rfl rfl ?_
    refine ao_no rfl rfl rfl rfl rfl rfl ?_
    refine ao_no rfl rfl rfl rfl rfl rfl ?_
    refine ao_no rfl rfl rfl rfl rfl rfl ?_
    refine ao_no rfl rfl rfl rfl rfl rfl ?_
    refine sS rfl rfl rfl (op1_pickT rfl rfl rfl) (ao_nil ?_)
    exact ⟨rfl, true, h, ⟨(.cons .same (.cons .same .nil)), (sC rfl (sC rfl (sC rfl (sC rfl (sC rfl (sC rfl (sC rfl sub_nil)))))))⟩⟩
   ·intro hb27; replace h := ocond_f hb27 h
    refine ao_yes rfl rfl rfl rfl rfl rfl (op1_move rfl rfl) ?_
    refine ao_yes rfl rfl rfl rfl rfl rfl (op1_faR st_34 (i := 4) rfl rfl rfl) ?_
    refine ao_yes rfl rfl rfl rfl rfl rfl ((op1_ldR Try.underlying31 rfl rfl rfl rfl rfl)) ?_
    refine ao_yes rfl rfl rfl rfl rfl rfl (op1_lenM Try.underlying31 rfl rfl) ?_
    refine ao_yes rfl rfl rfl rfl rfl rfl ((op1_cmp rfl rfl rfl rfl).cast (y := (BO ((decide (s2 < (((a1.names).length : Nat) : Int)))))) rfl rfl) ?_
    refine sS rfl rfl rfl (op1_pickF rfl rfl rfl) (ao_nil ?_)
    exact ⟨rfl, (decide (s2 < (((a1.names).length : Nat) : Int))), h, ⟨(.cons .same (.cons .same .nil)), (sC rfl (sC rfl (sC rfl (sC rfl (sC rfl (sC rfl (sC rfl sub_nil)))))))⟩⟩
theorem t_ref07_list (r_ref07_dict : Term → Typ → Int → Option (Bool × Int)) (c_ref07_dict : ∀ (a0 : Term) (a1 : Typ) (a2 : Int) r, r_ref07_dict a0 a1 a2 = some r → PCalls Try.prog 58 [(ofTermX a0), (ofTypX a1), (I64 a2)] (PV.tup [(BO r.1), (I64 r.2)])) (r_ref07_list : Term → Typ → Int → Option (Bool × Int)) (c_ref07_list : ∀ (a0 : Term) (a1 : Typ) (a2 : Int) r, r_ref07_list a0 a1 a2 = some r → PCalls Try.prog 57 [(ofTermX a0), (ofTypX a1), (I64 a2)] (PV.tup [(BO r.1), (I64 r.2)])) (r_ref07_is : Term → Typ → Int → Option (Bool × Int)) (c_ref07_is : ∀ (a0 : Term) (a1 : Typ) (a2 : Int) r, r_ref07_is a0 a1 a2 = some r → PCalls Try.prog 32 [(ofTermX a0), (ofTypX a1), (I64 a2)] (PV.tup [(BO r.1), (I64 r.2)])) (a0 : Term) (a1 : Typ) (a2 : Int) (r : (Bool × Int)) (h : b_ref07_list r_ref07_dict r_ref07_list r_ref07_is a0 a1 a2 = some r) : PCalls Try.prog 57 [(ofTermX a0), (ofTypX a1), (I64 a2)] (PV.tup [(BO r.1), (I64 r.2)]) := by
 unfold b_ref07_list at h
 refine acalls_of Try.func57 rfl Try.ntmps57 Try.results57 rfl (aw_of_bw ?_)
 change BW _ _ _ ⟨[(0, (ofTermX a0)), (1, (ofTypX a1)), (2, (I64 a2))], [], _⟩ _
 refine bR ?_
 refine sS rfl rfl rfl (op1_box rfl rfl rfl) ?_
 refine sS rfl rfl rfl (op1_box rfl rfl rfl) ?_
 refine sA rfl rfl rfl rfl rfl ?_
 refine sA rfl rfl rfl rfl rfl (ao_nil ?_)
 change BW _ _ _ _ _
 refine bR ?_
 refine sM rfl rfl rfl rfl rfl ?_
 refine sS rfl rfl rfl (op1_addW rfl rfl rfl) ?_
 refine sA rfl rfl rfl rfl rfl (ao_nil ?_)
 change BW _ _ _ _ _
 refine bw_seq ?_
 refine bR ?_
 refine sA rfl rfl rfl rfl rfl (ao_nil ?_)
 change BW _ _ _ _ _
 refine bw_block ?_
 change BW _ _ _ _ _
 unfold ref07_list_l1 at h
 refine bw_loop (σ := (Int × Nat)) (fun i => [(3, (PV.rf 0 0)), (4, (PV.rf 1 0)), (8, (I64 i.1)), (9, (I64 (((i.2 : Nat) : Int))))]) (fun i => [.box 29 [(I64 a0.kind), (BO a0.bool), (I64 a0.int), (PV.v (.float .f64 a0.float)), (ofStr a0.text), (PV.sl none 1 (List.map ofB a0.bytes)), (PV.v (.int .u64 a0.ref)), (PV.sl none 11 (List.map ofTerm a0.list)), (PV.sl none 12 (List.map ofEntry a0.fields)), (ofStr a0.cls), (I64 a0.ver)], .box 34 [(I64 a1.kind), (I64 a1.of), (I64 ((a1.only).kind)), (BO ((a1.only).bool)), (I64 ((a1.only).int)), (PV.v (.float .f64 (a1.only).float)), (ofStr (a1.only).text), (PV.sl none 1 (List.map ofB (a1.only).bytes)), (PV.v (.int .u64 (a1.only).ref)), (PV.sl none 11 (List.map ofTerm (a1.only).list)), (PV.sl none 12 (List.map ofEntry (a1.only).fields)), (ofStr (a1.only).cls), (I64 ((a1.only).ver)), (PV.sl none 18 (List.map ofTyp a1.parts)), (PV.sl none 1 (List.map ofStr a1.names)), (PV.sl none 1 (List.map ofBool a1.lacks)), (BO a1.opn), (ofStr a1.cls)]]) ((IntKind.i64.wrap (a2 + 1)), 0) h ?_ ?_ ?_
 ·intro i; exact ⟨Nat.le_of_ble_eq_true rfl, ⟨(il_rf rfl), ⟨(il_rf rfl), ⟨(il_nil rfl), ⟨(il_nil rfl), trivial⟩⟩⟩⟩, ⟨⟨(il_nil rfl), ⟨(il_nil rfl), ⟨(il_nil rfl), ⟨(il_nil rfl), ⟨(il_nil rfl), ⟨(il_nil (ids_slM (fun _ => rfl) _)), ⟨(il_nil rfl), ⟨(il_nil (ids_slM ids_Term _)), ⟨(il_nil (ids_slM ids_Entry _)), ⟨(il_nil rfl), ⟨(il_nil rfl), trivial⟩⟩⟩⟩⟩⟩⟩⟩⟩⟩⟩, ⟨⟨(il_nil rfl), ⟨(il_nil rfl), ⟨(il_nil rfl), ⟨(il_nil rfl), ⟨(il_nil rfl), ⟨(il_nil rfl), ⟨(il_nil rfl), ⟨(il_nil (ids_slM (fun _ => rfl) _)), ⟨(il_nil rfl), ⟨(il_nil (ids_slM ids_Term _)), ⟨(il_nil (ids_slM ids_Entry _)), ⟨(il_nil rfl), ⟨(il_nil rfl), ⟨(il_nil (ids_slM ids_Typ _)), ⟨(il_nil (ids_slM (fun _ => rfl) _)), ⟨(il_nil (ids_slM (fun _ => rfl) _)), ⟨(il_nil rfl), ⟨(il_nil rfl), trivial⟩⟩⟩⟩⟩⟩⟩⟩⟩⟩⟩⟩⟩⟩⟩⟩⟩⟩, trivial⟩⟩⟩
 ·exact ⟨(.cons .same (.cons .same .nil)), (sC rfl (sC rfl (sC rfl (sC rfl sub_nil))))⟩
 ·rintro g1_f ⟨s1, s2⟩ h; replace h : ref07_list_l1b r_ref07_is a0 a1 (fun y0 y1 => g1_f (y0, y1)) s1 s2 = some r := h; unfold ref07_list_l1b at h
  change BW _ _ _ ⟨[(3, (PV.rf 0 0)), (4, (PV.rf 1 0)), (8, (I64 s1)), (9, (I64 (((s2 : Nat) : Int))))], [.box 29 [(I64 a0.kind), (BO a0.bool), (I64 a0.int), (PV.v (.float .f64 a0.float)), (ofStr a0.text), (PV.sl none 1 (List.map ofB a0.bytes)), (PV.v (.int .u64 a0.ref)), (PV.sl none 11 (List.map ofTerm a0.list)), (PV.sl none 12 (List.map ofEntry a0.fields)), (ofStr a0.cls), (I64 a0.ver)], .box 34 [(I64 a1.kind), (I64 a1.of), (I64 ((a1.only).kind)), (BO ((a1.only).bool)), (I64 ((a1.only).int)), (PV.v (.float .f64 (a1.only).float)), (ofStr (a1.only).text), (PV.sl none 1 (List.map ofB (a1.only).bytes)), (PV.v (.int .u64 (a1.only).ref)), (PV.sl none 11 (List.map ofTerm (a1.only).list)), (PV.sl none 12 (List.map ofEntry (a1.only).fields)), (ofStr (a1.only).cls), (I64 ((a1.only).ver)), (PV.sl none 18 (List.map ofTyp a1.parts)), (PV.sl none 1 (List.map ofStr a1.names)), (PV.sl none 1 (List.map ofBool a1.lacks)), (BO a1.opn), (ofStr a1.cls)]], _⟩ _
  refine bw_seq ?_
  refine bR ?_
  refine sM rfl rfl rfl rfl rfl ?_
  refine sS rfl rfl rfl (op1_faR st_29 (i := 7) rfl rfl rfl) ?_
  refine sS rfl rfl rfl ((op1_ldR Try.underlying26 rfl rfl rfl rfl rfl)) ?_
  refine sS rfl rfl rfl (op1_lenM Try.underlying26 rfl rfl) ?_
  refine sS rfl rfl rfl ((op1_cmp rfl rfl rfl rfl).cast (y := (BO ((decide (((s2 : Nat) : Int) < (((a0.list).length : Nat) : Int)))))) rfl rfl) (ao_nil ?_)
  change BW _ _ _ _ _
  refine bw_len (t := 16) rfl fun hb4 => ?_
  try rw [List.length_map] at hb4
  refine bw_cond rfl ?_ ?_
  ·intro hc3; replace h := ocond_t hc3 h
   have hc3_ := of_decide_eq_true hc3
   refine bw_skip ?_
   change BW _ _ _ _ _
   refine bw_seq ?_
   refine bw_block ?_
   change BW _ _ _ _ _
   refine bw_seq ?_
   refine bw_seq (bw_tail 15 [] [0, 1] mo (by kernel_rfl) ?_)
   refine ac_go rfl rfl rfl rfl (fun H hp => op1_faR st_29 (i := 7) rfl rfl rfl) ?_
   refine ac_go rfl rfl rfl rfl (fun H hp => (op1_ldR Try.underlying26 rfl rfl rfl (hp.at rfl rfl) rfl)) ?_
   refine ac_go rfl rfl rfl rfl (fun H hp => op1_move rfl rfl) ?_
   obtain ⟨x5, hx5, h⟩ := obind h
   refine ac_go rfl rfl rfl rfl (fun H hp => op1_idxN (i := s2) Try.underlying26 inf_29 rfl rfl rfl hx5 (ofTerm_eq _)) ?_
   refine ac_go rfl rfl rfl rfl (fun H hp => op1_ldPW inf_29 Try.underlying29 rfl rfl rfl rfl rfl) ?_
   refine ac_go rfl rfl rfl rfl (fun H hp => op1_faR st_34 (i := 3) rfl rfl rfl) ?_
   refine ac_go rfl rfl rfl rfl (fun H hp => (op1_ldR Try.underlying30 rfl rfl rfl (hp.at rfl rfl) rfl)) ?_
   obtain ⟨x6, hx6, h⟩ := obind h
   refine ac_go rfl rfl rfl rfl (fun H hp => op1_idxN (i := 0) Try.underlying30 inf_34 rfl rfl rfl hx6 (ofTyp_eq _)) ?_
   refine ac_go rfl rfl rfl rfl (fun H hp => op1_ldPW inf_34 Try.underlying34 rfl rfl rfl rfl rfl) ?_
   refine ac_go rfl rfl rfl rfl (fun H hp => op1_move rfl rfl) ?_
   obtain ⟨x7, hx7, h⟩ := obind h
   refine ac_go rfl rfl rfl rfl (fun H hp => op1_pcall rfl en_32 rfl (.cons (Wk.refl _) (.cons (Wk.refl _) (.cons (Wk.refl _) .nil))) ⟨(ids_TermX x5), ⟨(ids_TypX x6), ⟨rfl, trivial⟩⟩⟩ (c_ref07_is x5 x6 s1 x7 hx7) (ids_tup_cons rfl (ids_tup_cons rfl ids_tup_nil))) ?_
   refine ac_go rfl rfl rfl rfl (fun H hp => op1_move rfl rfl) ?_
   refine ac_go rfl rfl rfl rfl (fun H hp => op1_ext rfl rfl rfl) ?_
   refine ac_go rfl rfl rfl rfl (fun H hp => op1_ext rfl rfl rfl) ?_
   refine ac_go rfl rfl rfl rfl (fun H hp => op1_assign rfl rfl) ?_
   refine ac_nil ?_
   change AO _ _ _ _ _
   refine sA rfl rfl rfl rfl rfl (ao_nil ?_)
   change BW _ _ _ _ _
   refine bR ?_
   refine sM rfl rfl rfl rfl rfl ?_
   refine sS rfl rfl rfl (op1_not rfl rfl) (ao_nil ?_)
   change BW _ _ _ _ _
   refine bw_cond rfl ?_ ?_
   ·intro hc8; replace h := ocond_t hc8 h
    refine bR ?_
    refine sM rfl rfl rfl rfl rfl ?_
    refine sA rfl rfl rfl rfl rfl ?_
    refine sA rfl rfl rfl rfl rfl (ao_nil ?_)
    change BW _ _ _ _ _
    refine bw_ret ?_
    change ∃ xs, _ = some xs ∧ EndOk _ _ _ _
    obtain rfl := Option.some.inj h
    exact ⟨_, rfl, endOk0 (y := (PV.tup [(BO false), (I64 x7.2)])) (Wk.refl _) (ids_tup_cons rfl (ids_tup_cons rfl ids_tup_nil)) ⟨rfl, rfl⟩⟩
   ·intro hc8; replace h := ocond_f hc8 h
    refine bw_skip ?_
    change BW _ _ _ _ _
    refine bw_region ?_
    refine sM rfl rfl rfl rfl rfl ?_
    refine sS rfl rfl rfl (op1_faR st_29 (i := 7) rfl rfl rfl) ?_
    refine sS rfl rfl rfl ((op1_ldR Try.underlying26 rfl rfl rfl rfl rfl)) ?_
    refine sM rfl rfl rfl rfl rfl ?_
    obtain ⟨x9, hx9, h⟩ := obind h
    refine sS rfl rfl rfl (op1_idxN (i := s2) Try.underlying26 inf_29 rfl rfl rfl hx9 (ofTerm_eq _)) ?_
    refine sS rfl rfl rfl (op1_ldPW inf_29 Try.underlying29 rfl rfl rfl rfl rfl) ?_
    obtain ⟨x10, hx10, h⟩ := obind h
    refine sS rfl rfl rfl (op1_pcall rfl en_90 rfl (.cons (Wk.refl _) .nil) ⟨(ids_TermX x9), trivial⟩ (s_ref07_parts x9 x10 hx10) rfl) ?_
    refine sS rfl rfl rfl (op1_addW rfl rfl rfl) ?_
    refine sA rfl rfl rfl rfl rfl (ao_nil ?_)
    change BW _ _ _ _ _
    refine bw_region ?_
    refine sM rfl rfl rfl rfl rfl ?_
    refine sS rfl rfl rfl (op1_incN (k := s2) (c := 1) rfl rfl rfl (by omega)) ?_
    refine sA rfl rfl rfl rfl rfl (ao_nil ?_)
    exact ⟨rfl, ((IntKind.i64.wrap (s1 + x10)), (s2 + 1)), h, ⟨(.cons .same (.cons .same .nil)), (sC rfl (sC rfl (sC rfl (sC rfl sub_nil))))⟩⟩
  ·intro hc3; replace h := ocond_f hc3 h
   refine bw_exit ?_
   change BW _ _ _ _ _
   refine bR ?_
   refine sA rfl rfl rfl rfl rfl ?_
   refine sA rfl rfl rfl rfl rfl (ao_nil ?_)
   change BW _ _ _ _ _
   refine bw_ret ?_
   change ∃ xs, _ = some xs ∧ EndOk _ _ _ _
   obtain rfl := Option.some.inj h
   exact ⟨_, rfl, endOk0 (y := (PV.tup [(BO true), (I64 0)])) (Wk.refl _) (ids_tup_cons rfl (ids_tup_cons rfl ids_tup_nil)) ⟨rfl, rfl⟩⟩
theorem t_ref07_is (r_ref07_dict : Term → Typ → Int → Option (Bool × Int)) (c_ref07_dict : ∀ (a0 : Term) (a1 : Typ) (a2 : Int) r, r_ref07_dict a0 a1 a2 = some r → PCalls Try.prog 58 [(ofTermX a0), (ofTypX a1), (I64 a2)] (PV.tup [(BO r.1), (I64 r.2)])) (r_ref07_list : Term → Typ → Int → Option (Bool × Int)) (c_ref07_list : ∀ (a0 : Term) (a1 : Typ) (a2 : Int) r, r_ref07_list a0 a1 a2 = some r → PCalls Try.prog 57 [(ofTermX a0), (ofTypX a1), (I64 a2)] (PV.tup [(BO r.1), (I64 r.2)])) (r_ref07_is : Term → Typ → Int → Option (Bool × Int)) (c_ref07_is : ∀ (a0 : Term) (a1 : Typ) (a2 : Int) r, r_ref07_is a0 a1 a2 = some r → PCalls Try.prog 32 [(ofTermX a0), (ofTypX a1), (I64 a2)] (PV.tup [(BO r.1), (I64 r.2)])) (a0 : Term) (a1 : Typ) (a2 : Int) (r : (Bool × Int)) (h : b_ref07_is r_ref07_dict r_ref07_list r_ref07_is a0 a1 a2 = some r) : PCalls Try.prog 32 [(ofTermX a0), (ofTypX a1), (I64 a2)] (PV.tup [(BO r.1), (I64 r.2)]) := by
 unfold b_ref07_is at h
 refine acalls_of Try.func32 rfl Try.ntmps32 Try.results32 rfl (aw_of_bw ?_)
 change BW _ _ _ ⟨[(0, (ofTermX a0)), (1, (ofTypX a1)), (2, (I64 a2))], [], _⟩ _
 refine bR ?_
 refine sS rfl rfl rfl (op1_box rfl rfl rfl) ?_
 refine sS rfl rfl rfl (op1_box rfl rfl rfl) ?_
 refine sA rfl rfl rfl rfl rfl ?_
 refine sA rfl rfl rfl rfl rfl (ao_nil ?_)
 change BW _ _ _ _ _
 refine bR ?_
 refine sA rfl rfl rfl rfl rfl (ao_nil ?_)
 change BW _ _ _ _ _
 refine bw_seqJ (ι := Bool) (fun i => ref07_is_j1 a2 i = some r) (fun i => [(2, (I64 a2)), (8, (BO i))]) (fun i => []) ?_ ?_ ?_
 ·intro i; exact ⟨Nat.le_of_ble_eq_true rfl, ⟨(il_nil rfl), ⟨(il_nil rfl), trivial⟩⟩, trivial⟩
 ·rintro s1 h; replace h : ref07_is_j1 a2 s1 = some r := h; unfold ref07_is_j1 at h
  change BW _ _ _ ⟨[(2, (I64 a2)), (8, (BO s1))], [], _⟩ _
  refine bw_seq ?_
  refine bR ?_
  refine sM rfl rfl rfl rfl rfl (ao_nil ?_)
  change BW _ _ _ _ _
  refine bw_cond rfl ?_ ?_
  ·intro hc2; replace h := ocond_t hc2 h
   refine bR ?_
   refine sA rfl rfl rfl rfl rfl ?_
   refine sA rfl rfl rfl rfl rfl (ao_nil ?_)
   change BW _ _ _ _ _
   refine bw_ret ?_
   change ∃ xs, _ = some xs ∧ EndOk _ _ _ _
   obtain rfl := Option.some.inj h
   exact ⟨_, rfl, endOk0 (y := (PV.tup [(BO true), (I64 0)])) (Wk.refl _) (ids_tup_cons rfl (ids_tup_cons rfl ids_tup_nil)) ⟨rfl, rfl⟩⟩
  ·intro hc2; replace h := ocond_f hc2 h
   refine bw_skip ?_
   change BW _ _ _ _ _
   refine bR ?_
   refine sM rfl rfl rfl rfl rfl ?_
   refine sA rfl rfl rfl rfl rfl ?_
   refine sA rfl rfl rfl rfl rfl (ao_nil ?_)
   change BW _ _ _ _ _
   refine bw_ret ?_
   change ∃ xs, _ = some xs ∧ EndOk _ _ _ _
   obtain rfl := Option.some.inj h
   exact ⟨_, rfl, endOk0 (y := (PV.tup [(BO false), (I64 a2)])) (Wk.refl _) (ids_tup_cons rfl (ids_tup_cons rfl ids_tup_nil)) ⟨rfl, rfl⟩⟩
 ·refine bR ?_
  refine sS rfl rfl rfl (op1_faR st_34 (i := 0) rfl rfl rfl) ?_
  refine sS rfl rfl rfl ((op1_ldR Try.underlying3 rfl rfl rfl rfl rfl)) (ao_nil ?_)
  change BW _ _ _ _ _
  refine bw_block ?_
  change BW _ _ _ _ _
  refine bR ?_
  refine sS rfl rfl rfl ((op1_cmp rfl rfl rfl rfl).cast (y := (BO ((a1.kind == 1)))) rfl rfl) ?_
  refine sA rfl rfl rfl rfl rfl (ao_nil ?_)
  change BW _ _ _ _ _
  refine bw_cond rfl ?_ ?_
  ·intro hc3; replace h := ocond_t hc3 h
   refine bw_region ?_
   refine sA rfl rfl rfl rfl rfl (ao_nil ?_)
   exact ⟨rfl, true, h, ⟨.nil, (sC rfl (sC rfl sub_nil))⟩⟩
  ·intro hc3; replace h := ocond_f hc3 h
   refine bR ?_
   refine sS rfl rfl rfl ((op1_cmp rfl rfl rfl rfl).cast (y := (BO ((a1.kind == 3)))) rfl rfl) ?_
   refine sA rfl rfl rfl rfl rfl (ao_nil ?_)
   change BW _ _ _ _ _
   refine bw_cond rfl ?_ ?_
   ·intro hc4; replace h := ocond_t hc4 h
    refine bw_region ?_
    refine sS rfl rfl rfl (op1_faR st_29 (i := 0) rfl rfl rfl) ?_
    refine sS rfl rfl rfl ((op1_ldR Try.underlying3 rfl rfl rfl rfl rfl)) ?_
    refine sS rfl rfl rfl (op1_faR st_34 (i := 1) rfl rfl rfl) ?_
    refine sS rfl rfl rfl ((op1_ldR Try.underlying3 rfl rfl rfl rfl rfl)) ?_
    refine sS rfl rfl rfl ((op1_cmp rfl rfl rfl rfl).cast (y := (BO ((a0.kind == a1.of)))) rfl rfl) ?_
    refine sA rfl rfl rfl rfl rfl (ao_nil ?_)
    exact ⟨rfl, (a0.kind == a1.of), h, ⟨.nil, (sC rfl (sC rfl sub_nil))⟩⟩
   ·intro hc4; replace h := ocond_f hc4 h
    refine bR ?_
    refine sS rfl rfl rfl ((op1_cmp rfl rfl rfl rfl).cast (y := (BO ((a1.kind == 4)))) rfl rfl) ?_
    refine sA rfl rfl rfl rfl rfl (ao_nil ?_)
    change BW _ _ _ _ _
    refine bw_cond rfl ?_ ?_
    ·intro hc5; replace h := ocond_t hc5 h
     refine bw_region ?_
     refine sS rfl rfl rfl ((op1_ldRA inf_29 Try.underlying29 rfl rfl rfl rfl rfl rfl)) ?_
     refine sS rfl rfl rfl (op1_faR st_34 (i := 2) rfl rfl rfl) ?_
     refine sS rfl rfl rfl ((op1_ldRA inf_29 Try.underlying29 rfl rfl rfl rfl rfl rfl)) ?_
     obtain ⟨x6, hx6, h⟩ := obind h
     refine sS rfl rfl rfl (op1_pcall rfl en_46 rfl (.cons (Wk.refl _) (.cons (Wk.refl _) .nil)) ⟨(ids_TermX a0), ⟨(ids_TermX (a1.only)), trivial⟩⟩ (s_ref01_Compare a0 (a1.only) x6 hx6) rfl) ?_
     refine sS rfl rfl rfl ((op1_cmp rfl rfl rfl rfl).cast (y := (BO ((x6 == 0)))) rfl rfl) ?_
     refine sA rfl rfl rfl rfl rfl (ao_nil ?_)
     exact ⟨rfl, (x6 == 0), h, ⟨.nil, (sC rfl (sC rfl sub_nil))⟩⟩
    ·intro hc5; replace h := ocond_f hc5 h
     refine bR ?_
     refine sS rfl rfl rfl ((op1_cmp rfl rfl rfl rfl).cast (y := (BO ((a1.kind == 8)))) rfl rfl) ?_
     refine sA rfl rfl rfl rfl rfl (ao_nil ?_)
     change BW _ _ _ _ _
     refine bw_cond rfl ?_ ?_
     ·intro hc7; replace h := ocond_t hc7 h
      refine bw_region ?_
      refine sS rfl rfl rfl (op1_faR st_29 (i := 0) rfl rfl rfl) ?_
      refine sS rfl rfl rfl ((op1_ldR Try.underlying3 rfl rfl rfl rfl rfl)) ?_
      refine sS rfl rfl rfl ((op1_cmp rfl rfl rfl rfl).cast (y := (BO ((a0.kind == 10)))) rfl rfl) ?_
      refine sM rfl rfl rfl rfl rfl ?_
      refine ao_cases (t := 35) rfl ?_ ?_
      ·intro hb8; replace h := ocond_t hb8 h
       refine ao_yes rfl rfl rfl rfl rfl rfl (op1_faR st_29 (i := 9) rfl rfl rfl) ?_
       refine ao_yes rfl rfl rfl rfl rfl rfl ((op1_ldR Try.underlying9 rfl rfl rfl rfl rfl)) ?_
       refine ao_yes rfl rfl rfl rfl rfl rfl (op1_faR st_34 (i := 7) rfl rfl rfl) ?_
       refine ao_yes rfl rfl rfl rfl rfl rfl ((op1_ldR Try.underlying9 rfl rfl rfl rfl rfl)) ?_
       refine ao_yes rfl rfl rfl rfl rfl rfl ((op1_cmpT (a := a0.cls) (b := a1.cls) rfl rfl rfl rfl).cast (y := (BO ((a0.cls == a1.cls)))) rfl rfl) ?_
       refine sS rfl rfl rfl (op1_pickT rfl rfl rfl) ?_
       refine sA rfl rfl rfl rfl rfl (ao_nil ?_)
       exact ⟨rfl, (a0.cls == a1.cls), h, ⟨.nil, (sC rfl (sC rfl sub_nil))⟩⟩
      ·intro hb8; replace h := ocond_f hb8 h
       refine ao_no rfl rfl rfl rfl rfl rfl ?_
       refine ao_no rfl rfl rfl rfl rfl rfl ?_
       refine ao_no rfl rfl rfl rfl rfl rfl ?_
       refine ao_no rfl rfl rfl rfl rfl rfl ?_
       refine ao_no rfl rfl rfl rfl rfl rfl ?_
       refine sS rfl rfl rfl (op1_pickF rfl rfl rfl) ?_
       refine sA rfl rfl rfl rfl rfl (ao_nil ?_)
       exact ⟨rfl, false, h, ⟨.nil, (sC rfl (sC rfl sub_nil))⟩⟩
     ·intro hc7; replace h := ocond_f hc7 h
      refine bR ?_
      refine sS rfl rfl rfl ((op1_cmp rfl rfl rfl rfl).cast (y := (BO ((a1.kind == 7)))) rfl rfl) ?_
      refine sA rfl rfl rfl rfl rfl (ao_nil ?_)
      change BW _ _ _ _ _
      refine bw_cond rfl ?_ ?_
      ·intro hc9; replace h := ocond_t hc9 h
       refine bR ?_
       refine sA rfl rfl rfl rfl rfl (ao_nil ?_)
       change BW _ _ _ _ _
       refine bw_block ?_
       change BW _ _ _ _ _
       unfold ref07_is_l1 at h
       refine bw_loop (σ := (Bool × Nat)) (fun i => [(2, (I64 a2)), (3, (PV.rf 0 0)), (4, (PV.rf 1 0)), (8, (BO i.1)), (9, (I64 (((i.2 : Nat) : Int))))]) (fun i => [.box 29 [(I64 a0.kind), (BO a0.bool), (I64 a0.int), (PV.v (.float .f64 a0.float)), (ofStr a0.text), (PV.sl none 1 (List.map ofB a0.bytes)), (PV.v (.int .u64 a0.ref)), (PV.sl none 11 (List.map ofTerm a0.list)), (PV.sl none 12 (List.map ofEntry a0.fields)), (ofStr a0.cls), (I64 a0.ver)], .box 34 [(I64 a1.kind), (I64 a1.of), (I64 ((a1.only).kind)), (BO ((a1.only).bool)), (I64 ((a1.only).int)), (PV.v (.float .f64 (a1.only).float)), (ofStr (a1.only).text), (PV.sl none 1 (List.map ofB (a1.only).bytes)), (PV.v (.int .u64 (a1.only).ref)), (PV.sl none 11 (List.map ofTerm (a1.only).list)), (PV.sl none 12 (List.map ofEntry (a1.only).fields)), (ofStr (a1.only).cls), (I64 ((a1.only).ver)), (PV.sl none 18 (List.map ofTyp a1.parts)), (PV.sl none 1 (List.map ofStr a1.names)), (PV.sl none 1 (List.map ofBool a1.lacks)), (BO a1.opn), (ofStr a1.cls)]]) (false, 0) h ?_ ?_ ?_
       ·intro i; exact ⟨Nat.le_of_ble_eq_true rfl, ⟨(il_nil rfl), ⟨(il_rf rfl), ⟨(il_rf rfl), ⟨(il_nil rfl), ⟨(il_nil rfl), trivial⟩⟩⟩⟩⟩, ⟨⟨(il_nil rfl), ⟨(il_nil rfl), ⟨(il_nil rfl), ⟨(il_nil rfl), ⟨(il_nil rfl), ⟨(il_nil (ids_slM (fun _ => rfl) _)), ⟨(il_nil rfl), ⟨(il_nil (ids_slM ids_Term _)), ⟨(il_nil (ids_slM ids_Entry _)), ⟨(il_nil rfl), ⟨(il_nil rfl), trivial⟩⟩⟩⟩⟩⟩⟩⟩⟩⟩⟩, ⟨⟨(il_nil rfl), ⟨(il_nil rfl), ⟨(il_nil rfl), ⟨(il_nil rfl), ⟨(il_nil rfl), ⟨(il_nil rfl), ⟨(il_nil rfl), ⟨(il_nil (ids_slM (fun _ => rfl) _)), ⟨(il_nil rfl), ⟨(il_nil (ids_slM ids_Term _)), ⟨(il_nil (ids_slM ids_Entry _)), ⟨(il_nil rfl), ⟨(il_nil rfl), ⟨(il_nil (ids_slM ids_Typ _)), ⟨(il_nil (ids_slM (fun _ => rfl) _)), ⟨(il_nil (ids_slM (fun _ => rfl) _)), ⟨(il_nil rfl), ⟨(il_nil rfl), trivial⟩⟩⟩⟩⟩⟩⟩⟩⟩⟩⟩⟩⟩⟩⟩⟩⟩⟩, trivial⟩⟩⟩
       ·exact ⟨(.cons .same (.cons .same .nil)), (sC rfl (sC rfl (sC rfl (sC rfl (sC rfl sub_nil)))))⟩
       ·rintro g1_f ⟨s10, s11⟩ h; replace h : ref07_is_l1b r_ref07_is a0 a1 a2 (fun y0 y1 => g1_f (y0, y1)) s10 s11 = some r := h; unfold ref07_is_l1b at h
        change BW _ _ _ ⟨[(2, (I64 a2)), (3, (PV.rf 0 0)), (4, (PV.rf 1 0)), (8, (BO s10)), (9, (I64 (((s11 : Nat) : Int))))], [.box 29 [(I64 a0.kind), (BO a0.bool), (I64 a0.int), (PV.v (.float .f64 a0.float)), (ofStr a0.text), (PV.sl none 1 (List.map ofB a0.bytes)), (PV.v (.int .u64 a0.ref)), (PV.sl none 11 (List.map ofTerm a0.list)), (PV.sl none 12 (List.map ofEntry a0.fields)), (ofStr a0.cls), (I64 a0.ver)], .box 34 [(I64 a1.kind), (I64 a1.of), (I64 ((a1.only).kind)), (BO ((a1.only).bool)), (I64 ((a1.only).int)), (PV.v (.float .f64 (a1.only).float)), (ofStr (a1.only).text), (PV.sl none 1 (List.map ofB (a1.only).bytes)), (PV.v (.int .u64 (a1.only).ref)), (PV.sl none 11 (List.map ofTerm (a1.only).list)), (PV.sl none 12 (List.map ofEntry (a1.only).fields)), (ofStr (a1.only).cls), (I64 ((a1.only).ver)), (PV.sl none 18 (List.map ofTyp a1.parts)), (PV.sl none 1 (List.map ofStr a1.names)), (PV.sl none 1 (List.map ofBool a1.lacks)), (BO a1.opn), (ofStr a1.cls)]], _⟩ _
        refine bw_seq ?_
        refine bR ?_
        refine sM rfl rfl rfl rfl rfl ?_
        refine sS rfl rfl rfl (op1_faR st_34 (i := 3) rfl rfl rfl) ?_
        refine sS rfl rfl rfl ((op1_ldR Try.underlying30 rfl rfl rfl rfl rfl)) ?_
        refine sS rfl rfl rfl (op1_lenM Try.underlying30 rfl rfl) ?_
        refine sS rfl rfl rfl ((op1_cmp rfl rfl rfl rfl).cast (y := (BO ((decide (((s11 : Nat) : Int) < (((a1.parts).length : Nat) : Int)))))) rfl rfl) (ao_nil ?_)
        change BW _ _ _ _ _
        refine bw_len (t := 46) rfl fun hb13 => ?_
        try rw [List.length_map] at hb13
        refine bw_cond rfl ?_ ?_
        ·intro hc12; replace h := ocond_t hc12 h
         have hc12_ := of_decide_eq_true hc12
         refine bw_skip ?_
         change BW _ _ _ _ _
         refine bw_seqJ (ι := Bool) (fun i => ref07_is_j2 (fun y0 y1 => g1_f (y0, y1)) s11 i = some r) (fun i => [(2, (I64 a2)), (3, (PV.rf 0 0)), (4, (PV.rf 1 0)), (8, (BO i)), (9, (I64 (((s11 : Nat) : Int))))]) (fun i => [.box 29 [(I64 a0.kind), (BO a0.bool), (I64 a0.int), (PV.v (.float .f64 a0.float)), (ofStr a0.text), (PV.sl none 1 (List.map ofB a0.bytes)), (PV.v (.int .u64 a0.ref)), (PV.sl none 11 (List.map ofTerm a0.list)), (PV.sl none 12 (List.map ofEntry a0.fields)), (ofStr a0.cls), (I64 a0.ver)], .box 34 [(I64 a1.kind), (I64 a1.of), (I64 ((a1.only).kind)), (BO ((a1.only).bool)), (I64 ((a1.only).int)), (PV.v (.float .f64 (a1.only).float)), (ofStr (a1.only).text), (PV.sl none 1 (List.map ofB (a1.only).bytes)), (PV.v (.int .u64 (a1.only).ref)), (PV.sl none 11 (List.map ofTerm (a1.only).list)), (PV.sl none 12 (List.map ofEntry (a1.only).fields)), (ofStr (a1.only).cls), (I64 ((a1.only).ver)), (PV.sl none 18 (List.map ofTyp a1.parts)), (PV.sl none 1 (List.map ofStr a1.names)), (PV.sl none 1 (List.map ofBool a1.lacks)), (BO a1.opn), (ofStr a1.cls)]]) ?_ ?_ ?_
         ·intro i; exact ⟨Nat.le_of_ble_eq_true rfl, ⟨(il_nil rfl), ⟨(il_rf rfl), ⟨(il_rf rfl), ⟨(il_nil rfl), ⟨(il_nil rfl), trivial⟩⟩⟩⟩⟩, ⟨⟨(il_nil rfl), ⟨(il_nil rfl), ⟨(il_nil rfl), ⟨(il_nil rfl), ⟨(il_nil rfl), ⟨(il_nil (ids_slM (fun _ => rfl) _)), ⟨(il_nil rfl), ⟨(il_nil (ids_slM ids_Term _)), ⟨(il_nil (ids_slM ids_Entry _)), ⟨(il_nil rfl), ⟨(il_nil rfl), trivial⟩⟩⟩⟩⟩⟩⟩⟩⟩⟩⟩, ⟨⟨(il_nil rfl), ⟨(il_nil rfl), ⟨(il_nil rfl), ⟨(il_nil rfl), ⟨(il_nil rfl), ⟨(il_nil rfl), ⟨(il_nil rfl), ⟨(il_nil (ids_slM (fun _ => rfl) _)), ⟨(il_nil rfl), ⟨(il_nil (ids_slM ids_Term _)), ⟨(il_nil (ids_slM ids_Entry _)), ⟨(il_nil rfl), ⟨(il_nil rfl), ⟨(il_nil (ids_slM ids_Typ _)), ⟨(il_nil (ids_slM (fun _ => rfl) _)), ⟨(il_nil (ids_slM (fun _ => rfl) _)), ⟨(il_nil rfl), ⟨(il_nil rfl), trivial⟩⟩⟩⟩⟩⟩⟩⟩⟩⟩⟩⟩⟩⟩⟩⟩⟩⟩, trivial⟩⟩⟩
         ·rintro s14 h; replace h : ref07_is_j2 (fun y0 y1 => g1_f (y0, y1)) s11 s14 = some r := h; unfold ref07_is_j2 at h
          change BW _ _ _ ⟨[(2, (I64 a2)), (3, (PV.rf 0 0)), (4, (PV.rf 1 0)), (8, (BO s14)), (9, (I64 (((s11 : Nat) : Int))))], [.box 29 [(I64 a0.kind), (BO a0.bool), (I64 a0.int), (PV.v (.float .f64 a0.float)), (ofStr a0.text), (PV.sl none 1 (List.map ofB a0.bytes)), (PV.v (.int .u64 a0.ref)), (PV.sl none 11 (List.map ofTerm a0.list)), (PV.sl none 12 (List.map ofEntry a0.fields)), (ofStr a0.cls), (I64 a0.ver)], .box 34 [(I64 a1.kind), (I64 a1.of), (I64 ((a1.only).kind)), (BO ((a1.only).bool)), (I64 ((a1.only).int)), (PV.v (.float .f64 (a1.only).float)), (ofStr (a1.only).text), (PV.sl none 1 (List.map ofB (a1.only).bytes)), (PV.v (.int .u64 (a1.only).ref)), (PV.sl none 11 (List.map ofTerm (a1.only).list)), (PV.sl none 12 (List.map ofEntry (a1.only).fields)), (ofStr (a1.only).cls), (I64 ((a1.only).ver)), (PV.sl none 18 (List.map ofTyp a1.parts)), (PV.sl none 1 (List.map ofStr a1.names)), (PV.sl none 1 (List.map ofBool a1.lacks)), (BO a1.opn), (ofStr a1.cls)]], _⟩ _
          refine bw_region ?_
          refine sM rfl rfl rfl rfl rfl ?_
          refine sS rfl rfl rfl (op1_incN (k := s11) (c := 1) rfl rfl rfl (by omega)) ?_
          refine sA rfl rfl rfl rfl rfl (ao_nil ?_)
          exact ⟨rfl, (s14, (s11 + 1)), h, ⟨(.cons .same (.cons .same .nil)), (sC rfl (sC rfl (sC rfl (sC rfl (sC rfl sub_nil)))))⟩⟩
         ·refine bw_block ?_
          change BW _ _ _ _ _
          refine bw_seq (bw_tail 12 [] [0, 1] mo (by kernel_rfl) ?_)
          refine ac_go rfl rfl rfl rfl (fun H hp => (op1_ldRA inf_29 Try.underlying29 rfl rfl rfl (hp.at rfl rfl) rfl rfl)) ?_
          refine ac_go rfl rfl rfl rfl (fun H hp => op1_faR st_34 (i := 3) rfl rfl rfl) ?_
          refine ac_go rfl rfl rfl rfl (fun H hp => (op1_ldR Try.underlying30 rfl rfl rfl (hp.at rfl rfl) rfl)) ?_
          refine ac_go rfl rfl rfl rfl (fun H hp => op1_move rfl rfl) ?_
          obtain ⟨x15, hx15, h⟩ := obind h
          refine ac_go rfl rfl rfl rfl (fun H hp => op1_idxN (i := s11) Try.underlying30 inf_34 rfl rfl rfl hx15 (ofTyp_eq _)) ?_
          refine ac_go rfl rfl rfl rfl (fun H hp => op1_ldPW inf_34 Try.underlying34 rfl rfl rfl rfl rfl) ?_
          refine ac_go rfl rfl rfl rfl (fun H hp => op1_move rfl rfl) ?_
          obtain ⟨x16, hx16, h⟩ := obind h
          refine ac_go rfl rfl rfl rfl (fun H hp => op1_pcall rfl en_32 rfl (.cons (Wk.refl _) (.cons (Wk.refl _) (.cons (Wk.refl _) .nil))) ⟨(ids_TermX a0), ⟨(ids_TypX x15), ⟨rfl, trivial⟩⟩⟩ (c_ref07_is a0 x15 a2 x16 hx16) (ids_tup_cons rfl (ids_tup_cons rfl ids_tup_nil))) ?_
          refine ac_go rfl rfl rfl rfl (fun H hp => op1_move rfl rfl) ?_
          refine ac_go rfl rfl rfl rfl (fun H hp => op1_ext rfl rfl rfl) ?_
          refine ac_go rfl rfl rfl rfl (fun H hp => op1_ext rfl rfl rfl) ?_
          refine ac_go rfl rfl rfl rfl (fun H hp => op1_assign rfl rfl) ?_
          refine ac_nil ?_
          change AO _ _ _ _ _
          refine sA rfl rfl rfl rfl rfl (ao_nil ?_)
          change BW _ _ _ _ _
          refine bw_region ?_
          refine sM rfl rfl rfl rfl rfl ?_
          refine sM rfl rfl rfl rfl rfl ?_
          refine ao_cases (t := 63) rfl ?_ ?_
          ·intro hb17; replace h := ocond_t hb17 h
           refine ao_no rfl rfl rfl rfl rfl rfl ?_
           refine sS rfl rfl rfl (op1_pickT rfl rfl rfl) ?_
           refine sA rfl rfl rfl rfl rfl (ao_nil ?_)
           exact ⟨rfl, true, h, ⟨(.cons .same (.cons .same .nil)), (sC rfl (sC rfl (sC rfl (sC rfl (sC rfl sub_nil)))))⟩⟩
          ·intro hb17; replace h := ocond_f hb17 h
           refine ao_yes rfl rfl rfl rfl rfl rfl (op1_move rfl rfl) ?_
           refine sS rfl rfl rfl (op1_pickF rfl rfl rfl) ?_
           refine sA rfl rfl rfl rfl rfl (ao_nil ?_)
           exact ⟨rfl, x16.1, h, ⟨(.cons .same (.cons .same .nil)), (sC rfl (sC rfl (sC rfl (sC rfl (sC rfl sub_nil)))))⟩⟩
        ·intro hc12; replace h := ocond_f hc12 h
         refine bw_exit ?_
         exact ⟨rfl, s10, h, ⟨.nil, (sC rfl (sC rfl sub_nil))⟩⟩
      ·intro hc9; replace h := ocond_f hc9 h
       refine bR ?_
       refine sS rfl rfl rfl ((op1_cmp rfl rfl rfl rfl).cast (y := (BO ((a1.kind == 5)))) rfl rfl) ?_
       refine sA rfl rfl rfl rfl rfl (ao_nil ?_)
       change BW _ _ _ _ _
       refine bw_cond rfl ?_ ?_
       ·intro hc18; replace h := ocond_t hc18 h
        refine bR ?_
        refine sS rfl rfl rfl (op1_faR st_29 (i := 0) rfl rfl rfl) ?_
        refine sS rfl rfl rfl ((op1_ldR Try.underlying3 rfl rfl rfl rfl rfl)) ?_
        refine sS rfl rfl rfl ((op1_cmp rfl rfl rfl rfl).cast (y := (BO ((a0.kind == 8)))) rfl rfl) (ao_nil ?_)
        change BW _ _ _ _ _
        refine bw_cond rfl ?_ ?_
        ·intro hc19; replace h := ocond_t hc19 h
         refine bR ?_
         refine sS rfl rfl rfl ((op1_ldRA inf_29 Try.underlying29 rfl rfl rfl rfl rfl rfl)) ?_
         refine sS rfl rfl rfl ((op1_ldRA inf_34 Try.underlying34 rfl rfl rfl rfl rfl rfl)) ?_
         refine sM rfl rfl rfl rfl rfl ?_
         obtain ⟨x20, hx20, h⟩ := obind h
         refine sS rfl rfl rfl (op1_pcall rfl en_57 rfl (.cons (Wk.refl _) (.cons (Wk.refl _) (.cons (Wk.refl _) .nil))) ⟨(ids_TermX a0), ⟨(ids_TypX (Typ.mk a1.kind a1.of (a1.only) a1.parts a1.names a1.lacks a1.opn a1.cls)), ⟨rfl, trivial⟩⟩⟩ (c_ref07_list a0 (Typ.mk a1.kind a1.of (a1.only) a1.parts a1.names a1.lacks a1.opn a1.cls) a2 x20 hx20) (ids_tup_cons rfl (ids_tup_cons rfl ids_tup_nil))) ?_
         refine sS rfl rfl rfl (op1_ext rfl rfl rfl) ?_
         refine sS rfl rfl rfl (op1_ext rfl rfl rfl) ?_
         refine sA rfl rfl rfl rfl rfl ?_
         refine sA rfl rfl rfl rfl rfl (ao_nil ?_)
         change BW _ _ _ _ _
         refine bw_ret ?_
         change ∃ xs, _ = some xs ∧ EndOk _ _ _ _
         obtain rfl := Option.some.inj h
         exact ⟨_, rfl, endOk0 (y := (PV.tup [(BO x20.1), (I64 x20.2)])) (Wk.refl _) (ids_tup_cons rfl (ids_tup_cons rfl ids_tup_nil)) ⟨rfl, rfl⟩⟩
        ·intro hc19; replace h := ocond_f hc19 h
         refine bw_skip ?_
         exact ⟨rfl, false, h, ⟨.nil, (sC rfl (sC rfl sub_nil))⟩⟩
       ·intro hc18; replace h := ocond_f hc18 h
        refine bR ?_
        refine sS rfl rfl rfl ((op1_cmp rfl rfl rfl rfl).cast (y := (BO ((a1.kind == 6)))) rfl rfl) ?_
        refine sA rfl rfl rfl rfl rfl (ao_nil ?_)
        change BW _ _ _ _ _
        refine bw_cond rfl ?_ ?_
        ·intro hc21; replace h := ocond_t hc21 h
         refine bR ?_
         refine sS rfl rfl rfl (op1_faR st_29 (i := 0) rfl rfl rfl) ?_
         refine sS rfl rfl rfl ((op1_ldR Try.underlying3 rfl rfl rfl rfl rfl)) ?_
         refine sS rfl rfl rfl ((op1_cmp rfl rfl rfl rfl).cast (y := (BO ((a0.kind == 9)))) rfl rfl) (ao_nil ?_)
         change BW _ _ _ _ _
         refine bw_cond rfl ?_ ?_
         ·intro hc22; replace h := ocond_t hc22 h
          refine bR ?_
          refine sS rfl rfl rfl ((op1_ldRA inf_29 Try.underlying29 rfl rfl rfl rfl rfl rfl)) ?_
          refine sS rfl rfl rfl ((op1_ldRA inf_34 Try.underlying34 rfl rfl rfl rfl rfl rfl)) ?_
          refine sM rfl rfl rfl rfl rfl ?_
          obtain ⟨x23, hx23, h⟩ := obind h
          refine sS rfl rfl rfl (op1_pcall rfl en_58 rfl (.cons (Wk.refl _) (.cons (Wk.refl _) (.cons (Wk.refl _) .nil))) ⟨(ids_TermX a0), ⟨(ids_TypX (Typ.mk a1.kind a1.of (a1.only) a1.parts a1.names a1.lacks a1.opn a1.cls)), ⟨rfl, trivial⟩⟩⟩ (c_ref07_dict a0 (Typ.mk a1.kind a1.of (a1.only) a1.parts a1.names a1.lacks a1.opn a1.cls) a2 x23 hx23) (ids_tup_cons rfl (ids_tup_cons rfl ids_tup_nil))) ?_
          refine sS rfl rfl rfl (op1_ext rfl rfl rfl) ?_
          refine sS rfl rfl rfl (op1_ext rfl rfl rfl) ?_
          refine sA rfl rfl rfl rfl rfl ?_
          refine sA rfl rfl rfl rfl rfl (ao_nil ?_)
          change BW _ _ _ _ _
          refine bw_ret ?_
          change ∃ xs, _ = some xs ∧ EndOk _ _ _ _
          obtain rfl := Option.some.inj h
          exact ⟨_, rfl, endOk0 (y := (PV.tup [(BO x23.1), (I64 x23.2)])) (Wk.refl _) (ids_tup_cons rfl (ids_tup_cons rfl ids_tup_nil)) ⟨rfl, rfl⟩⟩
         ·intro hc22; replace h := ocond_f hc22 h
          refine bw_skip ?_
          exact ⟨rfl, false, h, ⟨.nil, (sC rfl (sC rfl sub_nil))⟩⟩
        ·intro hc21; replace h := ocond_f hc21 h
         refine bw_skip ?_
         exact ⟨rfl, false, h, ⟨.nil, (sC rfl (sC rfl sub_nil))⟩⟩
theorem C_ref07_dict.sound : ∀ (i : C_ref07_dict) (r : i.R), fixO C_ref07_dict.F i = some r → C_ref07_dict.Q i r := by
 refine fixO_ind (Φ := C_ref07_dict.F) (Q := C_ref07_dict.Q) ?_
 intro g hg i r h
 cases i with
 | k_ref07_dict a0 a1 a2 => exact t_ref07_dict (fun a0 a1 a2 => g (.k_ref07_dict a0 a1 a2)) (fun a0 a1 a2 r hr => hg (.k_ref07_dict a0 a1 a2) r hr) (fun a0 a1 a2 => g (.k_ref07_list a0 a1 a2)) (fun a0 a1 a2 r hr => hg (.k_ref07_list a0 a1 a2) r hr) (fun a0 a1 a2 => g (.k_ref07_is a0 a1 a2)) (fun a0 a1 a2 r hr => hg (.k_ref07_is a0 a1 a2) r hr) a0 a1 a2 r h
 | k_ref07_list a0 a1 a2 => exact t_ref07_list (fun a0 a1 a2 => g (.k_ref07_dict a0 a1 a2)) (fun a0 a1 a2 r hr => hg (.k_ref07_dict a0 a1 a2) r hr) (fun a0 a1 a2 => g (.k_ref07_list a0 a1 a2)) (fun a0 a1 a2 r hr => hg (.k_ref07_list a0 a1 a2) r hr) (fun a0 a1 a2 => g (.k_ref07_is a0 a1 a2)) (fun a0 a1 a2 r hr => hg (.k_ref07_is a0 a1 a2) r hr) a0 a1 a2 r h
 | k_ref07_is a0 a1 a2 => exact t_ref07_is (fun a0 a1 a2 => g (.k_ref07_dict a0 a1 a2)) (fun a0 a1 a2 r hr => hg (.k_ref07_dict a0 a1 a2) r hr) (fun a0 a1 a2 => g (.k_ref07_list a0 a1 a2)) (fun a0 a1 a2 r hr => hg (.k_ref07_list a0 a1 a2) r hr) (fun a0 a1 a2 => g (.k_ref07_is a0 a1 a2)) (fun a0 a1 a2 r hr => hg (.k_ref07_is a0 a1 a2) r hr) a0 a1 a2 r h
theorem s_ref07_dict (a0 : Term) (a1 : Typ) (a2 : Int) (r : (Bool × Int)) (h : p_ref07_dict a0 a1 a2 = some r) : PCalls Try.prog 58 [(ofTermX a0), (ofTypX a1), (I64 a2)] (PV.tup [(BO r.1), (I64 r.2)]) := C_ref07_dict.sound (.k_ref07_dict a0 a1 a2) r h
theorem s_ref07_list (a0 : Term) (a1 : Typ) (a2 : Int) (r : (Bool × Int)) (h : p_ref07_list a0 a1 a2 = some r) : PCalls Try.prog 57 [(ofTermX a0), (ofTypX a1), (I64 a2)] (PV.tup [(BO r.1), (I64 r.2)]) := C_ref07_dict.sound (.k_ref07_list a0 a1 a2) r h
theorem s_ref07_is (a0 : Term) (a1 : Typ) (a2 : Int) (r : (Bool × Int)) (h : p_ref07_is a0 a1 a2 = some r) : PCalls Try.prog 32 [(ofTermX a0), (ofTypX a1), (I64 a2)] (PV.tup [(BO r.1), (I64 r.2)]) := C_ref07_dict.sound (.k_ref07_is a0 a1 a2) r h
end Go.Proofs.Ytiapdjdhaclmnaa
