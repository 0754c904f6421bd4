/- Pure functions, and that calls answer as they say. Written by gen.py. -/
import Derived.Test.YtiapdjdhaclmnaaG4
namespace Go.Proofs.Ytiapdjdhaclmnaa
open Go Aw
set_option linter.unusedVariables false
set_option linter.unusedSimpArgs false
set_option maxRecDepth 20000
set_option maxHeartbeats 2000000
noncomputable def check_dicts_j2 (g1 : Nat → Option Bool) (s1 : Nat) : Option Bool :=
 g1 (s1 + 1)
theorem check_dicts_j2_cm {ι : Type} {ρ : ι → Type} (g1 : (∀ i, Option (ρ i)) → Nat → Option Bool) (h_g1 : ∀ y0, CM (fun G => g1 G y0)) (s1 : Nat) : CM (fun G : (∀ i, Option (ρ i)) => check_dicts_j2 (g1 G) s1) := by
 simp only [check_dicts_j2]
 repeat (first | exact cm_const | exact h_g1 _ | refine cm_cond ?_ ?_ | refine cm_bind ?_ (fun _ => ?_))
noncomputable def check_dicts_j3 (g1 : Nat → Option Bool) (s1 : Nat) (s7 : Bool) : Option Bool :=
 bif s7 then (
  some false
 ) else (
  check_dicts_j2 g1 s1
 )
theorem check_dicts_j3_cm {ι : Type} {ρ : ι → Type} (g1 : (∀ i, Option (ρ i)) → Nat → Option Bool) (h_g1 : ∀ y0, CM (fun G => g1 G y0)) (s1 : Nat) (s7 : Bool) : CM (fun G : (∀ i, Option (ρ i)) => check_dicts_j3 (g1 G) s1 s7) := by
 simp only [check_dicts_j3]
 repeat (first | exact cm_const | exact h_g1 _ | apply check_dicts_j2_cm | refine cm_cond ?_ ?_ | refine cm_bind ?_ (fun _ => ?_) | intro _ | assumption)
noncomputable def check_dicts_j4 (g1 : Nat → Option Bool) (s1 : Nat) (s11 : Bool) : Option Bool :=
 bif s11 then (
  some false
 ) else (
  check_dicts_j2 g1 s1
 )
theorem check_dicts_j4_cm {ι : Type} {ρ : ι → Type} (g1 : (∀ i, Option (ρ i)) → Nat → Option Bool) (h_g1 : ∀ y0, CM (fun G => g1 G y0)) (s1 : Nat) (s11 : Bool) : CM (fun G : (∀ i, Option (ρ i)) => check_dicts_j4 (g1 G) s1 s11) := by
 simp only [check_dicts_j4]
 repeat (first | exact cm_const | exact h_g1 _ | apply check_dicts_j2_cm | refine cm_cond ?_ ?_ | refine cm_bind ?_ (fun _ => ?_) | intro _ | assumption)
noncomputable def check_dicts_l1b (r_check_sub : Typ → Typ → Option Bool) (a0 : Typ) (a1 : Typ) (g1 : Nat → Option Bool) (s1 : Nat) : Option Bool :=
 bif (decide (((s1 : Nat) : Int) < (((a1.names).length : Nat) : Int))) then (
  Option.bind ((a1.names)[s1]?) fun x4 =>
  Option.bind (p_slices_Index_string_string a0.names x4) fun x5 =>
  bif (decide (x5 < 0)) then (
   Option.bind ((a1.lacks)[s1]?) fun x9 =>
   bif (!x9) then (
    check_dicts_j3 g1 s1 true
   ) else (
    check_dicts_j3 g1 s1 a0.opn
   )
  ) else (
   Option.bind (idxI a0.parts x5) fun x13 =>
   Option.bind ((a1.parts)[s1]?) fun x14 =>
   Option.bind (r_check_sub x13 x14) fun x15 =>
   bif (!x15) then (
    check_dicts_j4 g1 s1 true
   ) else (
    Option.bind (idxI a0.lacks x5) fun x17 =>
    bif x17 then (
     Option.bind ((a1.lacks)[s1]?) fun x19 =>
     check_dicts_j4 g1 s1 (!x19)
    ) else (
     check_dicts_j4 g1 s1 false
    )
   )
  )
 ) else (
  some true
 )
theorem check_dicts_l1b_cm {ι : Type} {ρ : ι → Type} (r_check_sub : (∀ i, Option (ρ i)) → Typ → Typ → Option Bool) (h_r_check_sub : ∀ y0 y1, CM (fun G => r_check_sub G y0 y1)) (g1 : (∀ i, Option (ρ i)) → Nat → Option Bool) (h_g1 : ∀ y0, CM (fun G => g1 G y0)) (a0 : Typ) (a1 : Typ) (s1 : Nat) : CM (fun G : (∀ i, Option (ρ i)) => check_dicts_l1b (r_check_sub G) a0 a1 (g1 G) s1) := by
 simp only [check_dicts_l1b]
 repeat (first | exact cm_const | exact h_r_check_sub _ _ | exact h_g1 _ | apply check_dicts_j3_cm | apply check_dicts_j4_cm | refine cm_cond ?_ ?_ | refine cm_bind ?_ (fun _ => ?_) | intro _ | assumption)
noncomputable def check_dicts_l1 (r_check_sub : Typ → Typ → Option Bool) (a0 : Typ) (a1 : Typ) (s1 : Nat) : Option Bool :=
 fixO (ι := Nat) (ρ := fun _ => Bool) (fun g i => check_dicts_l1b r_check_sub a0 a1 (fun s1 => g s1) i) s1
theorem check_dicts_l1_eq (r_check_sub : Typ → Typ → Option Bool) (a0 : Typ) (a1 : Typ) (s1 : Nat) : check_dicts_l1 r_check_sub a0 a1 s1 = check_dicts_l1b r_check_sub a0 a1 (check_dicts_l1 r_check_sub a0 a1) s1 :=
 fixO_eq (ι := Nat) (ρ := fun _ => Bool) (Φ := fun g i => check_dicts_l1b r_check_sub a0 a1 (fun s1 => g s1) i) (fun i => check_dicts_l1b_cm (ι := Nat) (ρ := fun _ => Bool) (fun _ => r_check_sub) (fun _ _ => cm_const) (fun g => (fun s1 => g s1)) (fun _ => cm_app) a0 a1 i) s1
theorem check_dicts_l1_cm {ι : Type} {ρ : ι → Type} (r_check_sub : (∀ i, Option (ρ i)) → Typ → Typ → Option Bool) (h_r_check_sub : ∀ y0 y1, CM (fun G => r_check_sub G y0 y1)) (a0 : Typ) (a1 : Typ) (s1 : Nat) : CM (fun G : (∀ i, Option (ρ i)) => check_dicts_l1 (r_check_sub G) a0 a1 s1) :=
 cm_fix (κ := Nat) (τ := fun _ => Bool) (Φ := fun G g i => check_dicts_l1b (r_check_sub G) a0 a1 (fun s1 => g s1) i) (fun g i => check_dicts_l1b_cm r_check_sub h_r_check_sub (fun _ => (fun s1 => g s1)) (fun _ => cm_const) a0 a1 i) (fun G i => check_dicts_l1b_cm (ι := Nat) (ρ := fun _ => Bool) (fun _ => r_check_sub G) (fun _ _ => cm_const) (fun g => (fun s1 => g s1)) (fun _ => cm_app) a0 a1 i) s1
noncomputable def check_dicts_j1 (r_check_sub : Typ → Typ → Option Bool) (a0 : Typ) (a1 : Typ) : Option Bool :=
 check_dicts_l1 r_check_sub a0 a1 0
theorem check_dicts_j1_cm {ι : Type} {ρ : ι → Type} (r_check_sub : (∀ i, Option (ρ i)) → Typ → Typ → Option Bool) (h_r_check_sub : ∀ y0 y1, CM (fun G => r_check_sub G y0 y1)) (a0 : Typ) (a1 : Typ) : CM (fun G : (∀ i, Option (ρ i)) => check_dicts_j1 (r_check_sub G) a0 a1) := by
 simp only [check_dicts_j1]
 repeat (first | exact cm_const | exact h_r_check_sub _ _ | apply check_dicts_l1_cm | refine cm_cond ?_ ?_ | refine cm_bind ?_ (fun _ => ?_) | intro _ | assumption)
noncomputable def check_dicts_j5 (r_check_sub : Typ → Typ → Option Bool) (a0 : Typ) (a1 : Typ) (s21 : Bool) : Option Bool :=
 bif s21 then (
  some false
 ) else (
  check_dicts_j1 r_check_sub a0 a1
 )
theorem check_dicts_j5_cm {ι : Type} {ρ : ι → Type} (r_check_sub : (∀ i, Option (ρ i)) → Typ → Typ → Option Bool) (h_r_check_sub : ∀ y0 y1, CM (fun G => r_check_sub G y0 y1)) (a0 : Typ) (a1 : Typ) (s21 : Bool) : CM (fun G : (∀ i, Option (ρ i)) => check_dicts_j5 (r_check_sub G) a0 a1 s21) := by
 simp only [check_dicts_j5]
 repeat (first | exact cm_const | exact h_r_check_sub _ _ | apply check_dicts_j1_cm | refine cm_cond ?_ ?_ | refine cm_bind ?_ (fun _ => ?_) | intro _ | assumption)
noncomputable def b_check_dicts (r_check_dicts : Typ → Typ → Option Bool) (r_check_sub_1_1 : Typ → Typ → Option Bool) (r_check_sub_3 : Typ → Typ → Option Bool) (r_slices_IndexFunc_api_Type_api_Type_check_sub_3 : (List Typ) → Typ → Option Int) (r_slices_ContainsFunc_api_Type_api_Type_check_sub_3 : (List Typ) → Typ → Option Bool) (r_check_sub_2 : Typ → Typ → Option Bool) (r_slices_IndexFunc_api_Type_api_Type_check_sub_2 : (List Typ) → Typ → Option Int) (r_slices_ContainsFunc_api_Type_api_Type_check_sub_2 : (List Typ) → Typ → Option Bool) (r_check_sub : Typ → Typ → Option Bool) (a0 : Typ) (a1 : Typ) : Option Bool :=
 bif (!a1.opn) then (
  bif a0.opn then (
   check_dicts_j5 r_check_sub a0 a1 true
  ) else (
   Option.bind (p_slices_ContainsFunc_string_string_check_dicts_1 a0.names a1) fun x24 =>
   check_dicts_j5 r_check_sub a0 a1 x24
  )
 ) else (
  check_dicts_j1 r_check_sub a0 a1
 )
theorem b_check_dicts_cm {ι : Type} {ρ : ι → Type} (r_check_dicts : (∀ i, Option (ρ i)) → Typ → Typ → Option Bool) (h_r_check_dicts : ∀ y0 y1, CM (fun G => r_check_dicts G y0 y1)) (r_check_sub_1_1 : (∀ i, Option (ρ i)) → Typ → Typ → Option Bool) (h_r_check_sub_1_1 : ∀ y0 y1, CM (fun G => r_check_sub_1_1 G y0 y1)) (r_check_sub_3 : (∀ i, Option (ρ i)) → Typ → Typ → Option Bool) (h_r_check_sub_3 : ∀ y0 y1, CM (fun G => r_check_sub_3 G y0 y1)) (r_slices_IndexFunc_api_Type_api_Type_check_sub_3 : (∀ i, Option (ρ i)) → (List Typ) → Typ → Option Int) (h_r_slices_IndexFunc_api_Type_api_Type_check_sub_3 : ∀ y0 y1, CM (fun G => r_slices_IndexFunc_api_Type_api_Type_check_sub_3 G y0 y1)) (r_slices_ContainsFunc_api_Type_api_Type_check_sub_3 : (∀ i, Option (ρ i)) → (List Typ) → Typ → Option Bool) (h_r_slices_ContainsFunc_api_Type_api_Type_check_sub_3 : ∀ y0 y1, CM (fun G => r_slices_ContainsFunc_api_Type_api_Type_check_sub_3 G y0 y1)) (r_check_sub_2 : (∀ i, Option (ρ i)) → Typ → Typ → Option Bool) (h_r_check_sub_2 : ∀ y0 y1, CM (fun G => r_check_sub_2 G y0 y1)) (r_slices_IndexFunc_api_Type_api_Type_check_sub_2 : (∀ i, Option (ρ i)) → (List Typ) → Typ → Option Int) (h_r_slices_IndexFunc_api_Type_api_Type_check_sub_2 : ∀ y0 y1, CM (fun G => r_slices_IndexFunc_api_Type_api_Type_check_sub_2 G y0 y1)) (r_slices_ContainsFunc_api_Type_api_Type_check_sub_2 : (∀ i, Option (ρ i)) → (List Typ) → Typ → Option Bool) (h_r_slices_ContainsFunc_api_Type_api_Type_check_sub_2 : ∀ y0 y1, CM (fun G => r_slices_ContainsFunc_api_Type_api_Type_check_sub_2 G y0 y1)) (r_check_sub : (∀ i, Option (ρ i)) → Typ → Typ → Option Bool) (h_r_check_sub : ∀ y0 y1, CM (fun G => r_check_sub G y0 y1)) (a0 : Typ) (a1 : Typ) : CM (fun G : (∀ i, Option (ρ i)) => b_check_dicts (r_check_dicts G) (r_check_sub_1_1 G) (r_check_sub_3 G) (r_slices_IndexFunc_api_Type_api_Type_check_sub_3 G) (r_slices_ContainsFunc_api_Type_api_Type_check_sub_3 G) (r_check_sub_2 G) (r_slices_IndexFunc_api_Type_api_Type_check_sub_2 G) (r_slices_ContainsFunc_api_Type_api_Type_check_sub_2 G) (r_check_sub G) a0 a1) := by
 simp only [b_check_dicts]
 repeat (first | exact cm_const | exact h_r_check_dicts _ _ | exact h_r_check_sub_1_1 _ _ | exact h_r_check_sub_3 _ _ | exact h_r_slices_IndexFunc_api_Type_api_Type_check_sub_3 _ _ | exact h_r_slices_ContainsFunc_api_Type_api_Type_check_sub_3 _ _ | exact h_r_check_sub_2 _ _ | exact h_r_slices_IndexFunc_api_Type_api_Type_check_sub_2 _ _ | exact h_r_slices_ContainsFunc_api_Type_api_Type_check_sub_2 _ _ | exact h_r_check_sub _ _ | apply check_dicts_j1_cm | apply check_dicts_j5_cm | refine cm_cond ?_ ?_ | refine cm_bind ?_ (fun _ => ?_) | intro _ | assumption)
noncomputable def b_check_sub_1_1 (r_check_dicts : Typ → Typ → Option Bool) (r_check_sub_1_1 : Typ → Typ → Option Bool) (r_check_sub_3 : Typ → Typ → Option Bool) (r_slices_IndexFunc_api_Type_api_Type_check_sub_3 : (List Typ) → Typ → Option Int) (r_slices_ContainsFunc_api_Type_api_Type_check_sub_3 : (List Typ) → Typ → Option Bool) (r_check_sub_2 : Typ → Typ → Option Bool) (r_slices_IndexFunc_api_Type_api_Type_check_sub_2 : (List Typ) → Typ → Option Int) (r_slices_ContainsFunc_api_Type_api_Type_check_sub_2 : (List Typ) → Typ → Option Bool) (r_check_sub : Typ → Typ → Option Bool) (a0 : Typ) (a1 : Typ) : Option Bool :=
 Option.bind (r_check_sub a0 a1) fun x1 =>
 some x1
theorem b_check_sub_1_1_cm {ι : Type} {ρ : ι → Type} (r_check_dicts : (∀ i, Option (ρ i)) → Typ → Typ → Option Bool) (h_r_check_dicts : ∀ y0 y1, CM (fun G => r_check_dicts G y0 y1)) (r_check_sub_1_1 : (∀ i, Option (ρ i)) → Typ → Typ → Option Bool) (h_r_check_sub_1_1 : ∀ y0 y1, CM (fun G => r_check_sub_1_1 G y0 y1)) (r_check_sub_3 : (∀ i, Option (ρ i)) → Typ → Typ → Option Bool) (h_r_check_sub_3 : ∀ y0 y1, CM (fun G => r_check_sub_3 G y0 y1)) (r_slices_IndexFunc_api_Type_api_Type_check_sub_3 : (∀ i, Option (ρ i)) → (List Typ) → Typ → Option Int) (h_r_slices_IndexFunc_api_Type_api_Type_check_sub_3 : ∀ y0 y1, CM (fun G => r_slices_IndexFunc_api_Type_api_Type_check_sub_3 G y0 y1)) (r_slices_ContainsFunc_api_Type_api_Type_check_sub_3 : (∀ i, Option (ρ i)) → (List Typ) → Typ → Option Bool) (h_r_slices_ContainsFunc_api_Type_api_Type_check_sub_3 : ∀ y0 y1, CM (fun G => r_slices_ContainsFunc_api_Type_api_Type_check_sub_3 G y0 y1)) (r_check_sub_2 : (∀ i, Option (ρ i)) → Typ → Typ → Option Bool) (h_r_check_sub_2 : ∀ y0 y1, CM (fun G => r_check_sub_2 G y0 y1)) (r_slices_IndexFunc_api_Type_api_Type_check_sub_2 : (∀ i, Option (ρ i)) → (List Typ) → Typ → Option Int) (h_r_slices_IndexFunc_api_Type_api_Type_check_sub_2 : ∀ y0 y1, CM (fun G => r_slices_IndexFunc_api_Type_api_Type_check_sub_2 G y0 y1)) (r_slices_ContainsFunc_api_Type_api_Type_check_sub_2 : (∀ i, Option (ρ i)) → (List Typ) → Typ → Option Bool) (h_r_slices_ContainsFunc_api_Type_api_Type_check_sub_2 : ∀ y0 y1, CM (fun G => r_slices_ContainsFunc_api_Type_api_Type_check_sub_2 G y0 y1)) (r_check_sub : (∀ i, Option (ρ i)) → Typ → Typ → Option Bool) (h_r_check_sub : ∀ y0 y1, CM (fun G => r_check_sub G y0 y1)) (a0 : Typ) (a1 : Typ) : CM (fun G : (∀ i, Option (ρ i)) => b_check_sub_1_1 (r_check_dicts G) (r_check_sub_1_1 G) (r_check_sub_3 G) (r_slices_IndexFunc_api_Type_api_Type_check_sub_3 G) (r_slices_ContainsFunc_api_Type_api_Type_check_sub_3 G) (r_check_sub_2 G) (r_slices_IndexFunc_api_Type_api_Type_check_sub_2 G) (r_slices_ContainsFunc_api_Type_api_Type_check_sub_2 G) (r_check_sub G) a0 a1) := by
 simp only [b_check_sub_1_1]
 repeat (first | exact cm_const | exact h_r_check_dicts _ _ | exact h_r_check_sub_1_1 _ _ | exact h_r_check_sub_3 _ _ | exact h_r_slices_IndexFunc_api_Type_api_Type_check_sub_3 _ _ | exact h_r_slices_ContainsFunc_api_Type_api_Type_check_sub_3 _ _ | exact h_r_check_sub_2 _ _ | exact h_r_slices_IndexFunc_api_Type_api_Type_check_sub_2 _ _ | exact h_r_slices_ContainsFunc_api_Type_api_Type_check_sub_2 _ _ | exact h_r_check_sub _ _ | refine cm_cond ?_ ?_ | refine cm_bind ?_ (fun _ => ?_))
noncomputable def b_check_sub_3 (r_check_dicts : Typ → Typ → Option Bool) (r_check_sub_1_1 : Typ → Typ → Option Bool) (r_check_sub_3 : Typ → Typ → Option Bool) (r_slices_IndexFunc_api_Type_api_Type_check_sub_3 : (List Typ) → Typ → Option Int) (r_slices_ContainsFunc_api_Type_api_Type_check_sub_3 : (List Typ) → Typ → Option Bool) (r_check_sub_2 : Typ → Typ → Option Bool) (r_slices_IndexFunc_api_Type_api_Type_check_sub_2 : (List Typ) → Typ → Option Int) (r_slices_ContainsFunc_api_Type_api_Type_check_sub_2 : (List Typ) → Typ → Option Bool) (r_check_sub : Typ → Typ → Option Bool) (a0 : Typ) (a1 : Typ) : Option Bool :=
 Option.bind (r_check_sub a1 a0) fun x1 =>
 some x1
theorem b_check_sub_3_cm {ι : Type} {ρ : ι → Type} (r_check_dicts : (∀ i, Option (ρ i)) → Typ → Typ → Option Bool) (h_r_check_dicts : ∀ y0 y1, CM (fun G => r_check_dicts G y0 y1)) (r_check_sub_1_1 : (∀ i, Option (ρ i)) → Typ → Typ → Option Bool) (h_r_check_sub_1_1 : ∀ y0 y1, CM (fun G => r_check_sub_1_1 G y0 y1)) (r_check_sub_3 : (∀ i, Option (ρ i)) → Typ → Typ → Option Bool) (h_r_check_sub_3 : ∀ y0 y1, CM (fun G => r_check_sub_3 G y0 y1)) (r_slices_IndexFunc_api_Type_api_Type_check_sub_3 : (∀ i, Option (ρ i)) → (List Typ) → Typ → Option Int) (h_r_slices_IndexFunc_api_Type_api_Type_check_sub_3 : ∀ y0 y1, CM (fun G => r_slices_IndexFunc_api_Type_api_Type_check_sub_3 G y0 y1)) (r_slices_ContainsFunc_api_Type_api_Type_check_sub_3 : (∀ i, Option (ρ i)) → (List Typ) → Typ → Option Bool) (h_r_slices_ContainsFunc_api_Type_api_Type_check_sub_3 : ∀ y0 y1, CM (fun G => r_slices_ContainsFunc_api_Type_api_Type_check_sub_3 G y0 y1)) (r_check_sub_2 : (∀ i, Option (ρ i)) → Typ → Typ → Option Bool) (h_r_check_sub_2 : ∀ y0 y1, CM (fun G => r_check_sub_2 G y0 y1)) (r_slices_IndexFunc_api_Type_api_Type_check_sub_2 : (∀ i, Option (ρ i)) → (List Typ) → Typ → Option Int) (h_r_slices_IndexFunc_api_Type_api_Type_check_sub_2 : ∀ y0 y1, CM (fun G => r_slices_IndexFunc_api_Type_api_Type_check_sub_2 G y0 y1)) (r_slices_ContainsFunc_api_Type_api_Type_check_sub_2 : (∀ i, Option (ρ i)) → (List Typ) → Typ → Option Bool) (h_r_slices_ContainsFunc_api_Type_api_Type_check_sub_2 : ∀ y0 y1, CM (fun G => r_slices_ContainsFunc_api_Type_api_Type_check_sub_2 G y0 y1)) (r_check_sub : (∀ i, Option (ρ i)) → Typ → Typ → Option Bool) (h_r_check_sub : ∀ y0 y1, CM (fun G => r_check_sub G y0 y1)) (a0 : Typ) (a1 : Typ) : CM (fun G : (∀ i, Option (ρ i)) => b_check_sub_3 (r_check_dicts G) (r_check_sub_1_1 G) (r_check_sub_3 G) (r_slices_IndexFunc_api_Type_api_Type_check_sub_3 G) (r_slices_ContainsFunc_api_Type_api_Type_check_sub_3 G) (r_check_sub_2 G) (r_slices_IndexFunc_api_Type_api_Type_check_sub_2 G) (r_slices_ContainsFunc_api_Type_api_Type_check_sub_2 G) (r_check_sub G) a0 a1) := by
 simp only [b_check_sub_3]
 repeat (first | exact cm_const | exact h_r_check_dicts _ _ | exact h_r_check_sub_1_1 _ _ | exact h_r_check_sub_3 _ _ | exact h_r_slices_IndexFunc_api_Type_api_Type_check_sub_3 _ _ | exact h_r_slices_ContainsFunc_api_Type_api_Type_check_sub_3 _ _ | exact h_r_check_sub_2 _ _ | exact h_r_slices_IndexFunc_api_Type_api_Type_check_sub_2 _ _ | exact h_r_slices_ContainsFunc_api_Type_api_Type_check_sub_2 _ _ | exact h_r_check_sub _ _ | refine cm_cond ?_ ?_ | refine cm_bind ?_ (fun _ => ?_))
noncomputable def slices_IndexFunc_api_Type_api_Type_check_sub_3_l1b (r_check_sub_3 : Typ → Typ → Option Bool) (a0 : (List Typ)) (a1c0 : Typ) (g1 : Nat → Option Int) (s1 : Nat) : Option Int :=
 bif (decide (((s1 : Nat) : Int) < (((a0).length : Nat) : Int))) then (
  Option.bind ((a0)[s1]?) fun x4 =>
  Option.bind (r_check_sub_3 x4 a1c0) fun x5 =>
  bif x5 then (
   some ((s1 : Nat) : Int)
  ) else (
   g1 (s1 + 1)
  )
 ) else (
  some (-1)
 )
theorem slices_IndexFunc_api_Type_api_Type_check_sub_3_l1b_cm {ι : Type} {ρ : ι → Type} (r_check_sub_3 : (∀ i, Option (ρ i)) → Typ → Typ → Option Bool) (h_r_check_sub_3 : ∀ y0 y1, CM (fun G => r_check_sub_3 G y0 y1)) (g1 : (∀ i, Option (ρ i)) → Nat → Option Int) (h_g1 : ∀ y0, CM (fun G => g1 G y0)) (a0 : (List Typ)) (a1c0 : Typ) (s1 : Nat) : CM (fun G : (∀ i, Option (ρ i)) => slices_IndexFunc_api_Type_api_Type_check_sub_3_l1b (r_check_sub_3 G) a0 a1c0 (g1 G) s1) := by
 simp only [slices_IndexFunc_api_Type_api_Type_check_sub_3_l1b]
 repeat (first | exact cm_const | exact h_r_check_sub_3 _ _ | exact h_g1 _ | refine cm_cond ?_ ?_ | refine cm_bind ?_ (fun _ => ?_))
noncomputable def slices_IndexFunc_api_Type_api_Type_check_sub_3_l1 (r_check_sub_3 : Typ → Typ → Option Bool) (a0 : (List Typ)) (a1c0 : Typ) (s1 : Nat) : Option Int :=
 fixO (ι := Nat) (ρ := fun _ => Int) (fun g i => slices_IndexFunc_api_Type_api_Type_check_sub_3_l1b r_check_sub_3 a0 a1c0 (fun s1 => g s1) i) s1
theorem slices_IndexFunc_api_Type_api_Type_check_sub_3_l1_eq (r_check_sub_3 : Typ → Typ → Option Bool) (a0 : (List Typ)) (a1c0 : Typ) (s1 : Nat) : slices_IndexFunc_api_Type_api_Type_check_sub_3_l1 r_check_sub_3 a0 a1c0 s1 = slices_IndexFunc_api_Type_api_Type_check_sub_3_l1b r_check_sub_3 a0 a1c0 (slices_IndexFunc_api_Type_api_Type_check_sub_3_l1 r_check_sub_3 a0 a1c0) s1 :=
 fixO_eq (ι := Nat) (ρ := fun _ => Int) (Φ := fun g i => slices_IndexFunc_api_Type_api_Type_check_sub_3_l1b r_check_sub_3 a0 a1c0 (fun s1 => g s1) i) (fun i => slices_IndexFunc_api_Type_api_Type_check_sub_3_l1b_cm (ι := Nat) (ρ := fun _ => Int) (fun _ => r_check_sub_3) (fun _ _ => cm_const) (fun g => (fun s1 => g s1)) (fun _ => cm_app) a0 a1c0 i) s1
theorem slices_IndexFunc_api_Type_api_Type_check_sub_3_l1_cm {ι : Type} {ρ : ι → Type} (r_check_sub_3 : (∀ i, Option (ρ i)) → Typ → Typ → Option Bool) (h_r_check_sub_3 : ∀ y0 y1, CM (fun G => r_check_sub_3 G y0 y1)) (a0 : (List Typ)) (a1c0 : Typ) (s1 : Nat) : CM (fun G : (∀ i, Option (ρ i)) => slices_IndexFunc_api_Type_api_Type_check_sub_3_l1 (r_check_sub_3 G) a0 a1c0 s1) :=
 cm_fix (κ := Nat) (τ := fun _ => Int) (Φ := fun G g i => slices_IndexFunc_api_Type_api_Type_check_sub_3_l1b (r_check_sub_3 G) a0 a1c0 (fun s1 => g s1) i) (fun g i => slices_IndexFunc_api_Type_api_Type_check_sub_3_l1b_cm r_check_sub_3 h_r_check_sub_3 (fun _ => (fun s1 => g s1)) (fun _ => cm_const) a0 a1c0 i) (fun G i => slices_IndexFunc_api_Type_api_Type_check_sub_3_l1b_cm (ι := Nat) (ρ := fun _ => Int) (fun _ => r_check_sub_3 G) (fun _ _ => cm_const) (fun g => (fun s1 => g s1)) (fun _ => cm_app) a0 a1c0 i) s1
noncomputable def b_slices_IndexFunc_api_Type_api_Type_check_sub_3 (r_check_dicts : Typ → Typ → Option Bool) (r_check_sub_1_1 : Typ → Typ → Option Bool) (r_check_sub_3 : Typ → Typ → Option Bool) (r_slices_IndexFunc_api_Type_api_Type_check_sub_3 : (List Typ) → Typ → Option Int) (r_slices_ContainsFunc_api_Type_api_Type_check_sub_3 : (List Typ) → Typ → Option Bool) (r_check_sub_2 : Typ → Typ → Option Bool) (r_slices_IndexFunc_api_Type_api_Type_check_sub_2 : (List Typ) → Typ → Option Int) (r_slices_ContainsFunc_api_Type_api_Type_check_sub_2 : (List Typ) → Typ → Option Bool) (r_check_sub : Typ → Typ → Option Bool) (a0 : (List Typ)) (a1c0 : Typ) : Option Int :=
 slices_IndexFunc_api_Type_api_Type_check_sub_3_l1 r_check_sub_3 a0 a1c0 0
theorem b_slices_IndexFunc_api_Type_api_Type_check_sub_3_cm {ι : Type} {ρ : ι → Type} (r_check_dicts : (∀ i, Option (ρ i)) → Typ → Typ → Option Bool) (h_r_check_dicts : ∀ y0 y1, CM (fun G => r_check_dicts G y0 y1)) (r_check_sub_1_1 : (∀ i, Option (ρ i)) → Typ → Typ → Option Bool) (h_r_check_sub_1_1 : ∀ y0 y1, CM (fun G => r_check_sub_1_1 G y0 y1)) (r_check_sub_3 : (∀ i, Option (ρ i)) → Typ → Typ → Option Bool) (h_r_check_sub_3 : ∀ y0 y1, CM (fun G => r_check_sub_3 G y0 y1)) (r_slices_IndexFunc_api_Type_api_Type_check_sub_3 : (∀ i, Option (ρ i)) → (List Typ) → Typ → Option Int) (h_r_slices_IndexFunc_api_Type_api_Type_check_sub_3 : ∀ y0 y1, CM (fun G => r_slices_IndexFunc_api_Type_api_Type_check_sub_3 G y0 y1)) (r_slices_ContainsFunc_api_Type_api_Type_check_sub_3 : (∀ i, Option (ρ i)) → (List Typ) → Typ → Option Bool) (h_r_slices_ContainsFunc_api_Type_api_Type_check_sub_3 : ∀ y0 y1, CM (fun G => r_slices_ContainsFunc_api_Type_api_Type_check_sub_3 G y0 y1)) (r_check_sub_2 : (∀ i, Option (ρ i)) → Typ → Typ → Option Bool) (h_r_check_sub_2 : ∀ y0 y1, CM (fun G => r_check_sub_2 G y0 y1)) (r_slices_IndexFunc_api_Type_api_Type_check_sub_2 : (∀ i, Option (ρ i)) → (List Typ) → Typ → Option Int) (h_r_slices_IndexFunc_api_Type_api_Type_check_sub_2 : ∀ y0 y1, CM (fun G => r_slices_IndexFunc_api_Type_api_Type_check_sub_2 G y0 y1)) (r_slices_ContainsFunc_api_Type_api_Type_check_sub_2 : (∀ i, Option (ρ i)) → (List Typ) → Typ → Option Bool) (h_r_slices_ContainsFunc_api_Type_api_Type_check_sub_2 : ∀ y0 y1, CM (fun G => r_slices_ContainsFunc_api_Type_api_Type_check_sub_2 G y0 y1)) (r_check_sub : (∀ i, Option (ρ i)) → Typ → Typ → Option Bool) (h_r_check_sub : ∀ y0 y1, CM (fun G => r_check_sub G y0 y1)) (a0 : (List Typ)) (a1c0 : Typ) : CM (fun G : (∀ i, Option (ρ i)) => b_slices_IndexFunc_api_Type_api_Type_check_sub_3 (r_check_dicts G) (r_check_sub_1_1 G) (r_check_sub_3 G) (r_slices_IndexFunc_api_Type_api_Type_check_sub_3 G) (r_slices_ContainsFunc_api_Type_api_Type_check_sub_3 G) (r_check_sub_2 G) (r_slices_IndexFunc_api_Type_api_Type_check_sub_2 G) (r_slices_ContainsFunc_api_Type_api_Type_check_sub_2 G) (r_check_sub G) a0 a1c0) := by
 simp only [b_slices_IndexFunc_api_Type_api_Type_check_sub_3]
 repeat (first | exact cm_const | exact h_r_check_dicts _ _ | exact h_r_check_sub_1_1 _ _ | exact h_r_check_sub_3 _ _ | exact h_r_slices_IndexFunc_api_Type_api_Type_check_sub_3 _ _ | exact h_r_slices_ContainsFunc_api_Type_api_Type_check_sub_3 _ _ | exact h_r_check_sub_2 _ _ | exact h_r_slices_IndexFunc_api_Type_api_Type_check_sub_2 _ _ | exact h_r_slices_ContainsFunc_api_Type_api_Type_check_sub_2 _ _ | exact h_r_check_sub _ _ | apply slices_IndexFunc_api_Type_api_Type_check_sub_3_l1_cm | refine cm_cond ?_ ?_ | refine cm_bind ?_ (fun _ => ?_) | intro _ | assumption)
noncomputable def b_slices_ContainsFunc_api_Type_api_Type_check_sub_3 (r_check_dicts : Typ → Typ → Option Bool) (r_check_sub_1_1 : Typ → Typ → Option Bool) (r_check_sub_3 : Typ → Typ → Option Bool) (r_slices_IndexFunc_api_Type_api_Type_check_sub_3 : (List Typ) → Typ → Option Int) (r_slices_ContainsFunc_api_Type_api_Type_check_sub_3 : (List Typ) → Typ → Option Bool) (r_check_sub_2 : Typ → Typ → Option Bool) (r_slices_IndexFunc_api_Type_api_Type_check_sub_2 : (List Typ) → Typ → Option Int) (r_slices_ContainsFunc_api_Type_api_Type_check_sub_2 : (List Typ) → Typ → Option Bool) (r_check_sub : Typ → Typ → Option Bool) (a0 : (List Typ)) (a1c0 : Typ) : Option Bool :=
 Option.bind (r_slices_IndexFunc_api_Type_api_Type_check_sub_3 a0 a1c0) fun x1 =>
 some (decide (x1 ≥ 0))
theorem b_slices_ContainsFunc_api_Type_api_Type_check_sub_3_cm {ι : Type} {ρ : ι → Type} (r_check_dicts : (∀ i, Option (ρ i)) → Typ → Typ → Option Bool) (h_r_check_dicts : ∀ y0 y1, CM (fun G => r_check_dicts G y0 y1)) (r_check_sub_1_1 : (∀ i, Option (ρ i)) → Typ → Typ → Option Bool) (h_r_check_sub_1_1 : ∀ y0 y1, CM (fun G => r_check_sub_1_1 G y0 y1)) (r_check_sub_3 : (∀ i, Option (ρ i)) → Typ → Typ → Option Bool) (h_r_check_sub_3 : ∀ y0 y1, CM (fun G => r_check_sub_3 G y0 y1)) (r_slices_IndexFunc_api_Type_api_Type_check_sub_3 : (∀ i, Option (ρ i)) → (List Typ) → Typ → Option Int) (h_r_slices_IndexFunc_api_Type_api_Type_check_sub_3 : ∀ y0 y1, CM (fun G => r_slices_IndexFunc_api_Type_api_Type_check_sub_3 G y0 y1)) (r_slices_ContainsFunc_api_Type_api_Type_check_sub_3 : (∀ i, Option (ρ i)) → (List Typ) → Typ → Option Bool) (h_r_slices_ContainsFunc_api_Type_api_Type_check_sub_3 : ∀ y0 y1, CM (fun G => r_slices_ContainsFunc_api_Type_api_Type_check_sub_3 G y0 y1)) (r_check_sub_2 : (∀ i, Option (ρ i)) → Typ → Typ → Option Bool) (h_r_check_sub_2 : ∀ y0 y1, CM (fun G => r_check_sub_2 G y0 y1)) (r_slices_IndexFunc_api_Type_api_Type_check_sub_2 : (∀ i, Option (ρ i)) → (List Typ) → Typ → Option Int) (h_r_slices_IndexFunc_api_Type_api_Type_check_sub_2 : ∀ y0 y1, CM (fun G => r_slices_IndexFunc_api_Type_api_Type_check_sub_2 G y0 y1)) (r_slices_ContainsFunc_api_Type_api_Type_check_sub_2 : (∀ i, Option (ρ i)) → (List Typ) → Typ → Option Bool) (h_r_slices_ContainsFunc_api_Type_api_Type_check_sub_2 : ∀ y0 y1, CM (fun G => r_slices_ContainsFunc_api_Type_api_Type_check_sub_2 G y0 y1)) (r_check_sub : (∀ i, Option (ρ i)) → Typ → Typ → Option Bool) (h_r_check_sub : ∀ y0 y1, CM (fun G => r_check_sub G y0 y1)) (a0 : (List Typ)) (a1c0 : Typ) : CM (fun G : (∀ i, Option (ρ i)) => b_slices_ContainsFunc_api_Type_api_Type_check_sub_3 (r_check_dicts G) (r_check_sub_1_1 G) (r_check_sub_3 G) (r_slices_IndexFunc_api_Type_api_Type_check_sub_3 G) (r_slices_ContainsFunc_api_Type_api_Type_check_sub_3 G) (r_check_sub_2 G) (r_slices_IndexFunc_api_Type_api_Type_check_sub_2 G) (r_slices_ContainsFunc_api_Type_api_Type_check_sub_2 G) (r_check_sub G) a0 a1c0) := by
 simp only [b_slices_ContainsFunc_api_Type_api_Type_check_sub_3]
 repeat (first | exact cm_const | exact h_r_check_dicts _ _ | exact h_r_check_sub_1_1 _ _ | exact h_r_check_sub_3 _ _ | exact h_r_slices_IndexFunc_api_Type_api_Type_check_sub_3 _ _ | exact h_r_slices_ContainsFunc_api_Type_api_Type_check_sub_3 _ _ | exact h_r_check_sub_2 _ _ | exact h_r_slices_IndexFunc_api_Type_api_Type_check_sub_2 _ _ | exact h_r_slices_ContainsFunc_api_Type_api_Type_check_sub_2 _ _ | exact h_r_check_sub _ _ | refine cm_cond ?_ ?_ | refine cm_bind ?_ (fun _ => ?_))
noncomputable def b_check_sub_2 (r_check_dicts : Typ → Typ → Option Bool) (r_check_sub_1_1 : Typ → Typ → Option Bool) (r_check_sub_3 : Typ → Typ → Option Bool) (r_slices_IndexFunc_api_Type_api_Type_check_sub_3 : (List Typ) → Typ → Option Int) (r_slices_ContainsFunc_api_Type_api_Type_check_sub_3 : (List Typ) → Typ → Option Bool) (r_check_sub_2 : Typ → Typ → Option Bool) (r_slices_IndexFunc_api_Type_api_Type_check_sub_2 : (List Typ) → Typ → Option Int) (r_slices_ContainsFunc_api_Type_api_Type_check_sub_2 : (List Typ) → Typ → Option Bool) (r_check_sub : Typ → Typ → Option Bool) (a0 : Typ) (a1 : Typ) : Option Bool :=
 Option.bind (r_check_sub a0 a1) fun x1 =>
 some (!x1)
theorem b_check_sub_2_cm {ι : Type} {ρ : ι → Type} (r_check_dicts : (∀ i, Option (ρ i)) → Typ → Typ → Option Bool) (h_r_check_dicts : ∀ y0 y1, CM (fun G => r_check_dicts G y0 y1)) (r_check_sub_1_1 : (∀ i, Option (ρ i)) → Typ → Typ → Option Bool) (h_r_check_sub_1_1 : ∀ y0 y1, CM (fun G => r_check_sub_1_1 G y0 y1)) (r_check_sub_3 : (∀ i, Option (ρ i)) → Typ → Typ → Option Bool) (h_r_check_sub_3 : ∀ y0 y1, CM (fun G => r_check_sub_3 G y0 y1)) (r_slices_IndexFunc_api_Type_api_Type_check_sub_3 : (∀ i, Option (ρ i)) → (List Typ) → Typ → Option Int) (h_r_slices_IndexFunc_api_Type_api_Type_check_sub_3 : ∀ y0 y1, CM (fun G => r_slices_IndexFunc_api_Type_api_Type_check_sub_3 G y0 y1)) (r_slices_ContainsFunc_api_Type_api_Type_check_sub_3 : (∀ i, Option (ρ i)) → (List Typ) → Typ → Option Bool) (h_r_slices_ContainsFunc_api_Type_api_Type_check_sub_3 : ∀ y0 y1, CM (fun G => r_slices_ContainsFunc_api_Type_api_Type_check_sub_3 G y0 y1)) (r_check_sub_2 : (∀ i, Option (ρ i)) → Typ → Typ → Option Bool) (h_r_check_sub_2 : ∀ y0 y1, CM (fun G => r_check_sub_2 G y0 y1)) (r_slices_IndexFunc_api_Type_api_Type_check_sub_2 : (∀ i, Option (ρ i)) → (List Typ) → Typ → Option Int) (h_r_slices_IndexFunc_api_Type_api_Type_check_sub_2 : ∀ y0 y1, CM (fun G => r_slices_IndexFunc_api_Type_api_Type_check_sub_2 G y0 y1)) (r_slices_ContainsFunc_api_Type_api_Type_check_sub_2 : (∀ i, Option (ρ i)) → (List Typ) → Typ → Option Bool) (h_r_slices_ContainsFunc_api_Type_api_Type_check_sub_2 : ∀ y0 y1, CM (fun G => r_slices_ContainsFunc_api_Type_api_Type_check_sub_2 G y0 y1)) (r_check_sub : (∀ i, Option (ρ i)) → Typ → Typ → Option Bool) (h_r_check_sub : ∀ y0 y1, CM (fun G => r_check_sub G y0 y1)) (a0 : Typ) (a1 : Typ) : CM (fun G : (∀ i, Option (ρ i)) => b_check_sub_2 (r_check_dicts G) (r_check_sub_1_1 G) (r_check_sub_3 G) (r_slices_IndexFunc_api_Type_api_Type_check_sub_3 G) (r_slices_ContainsFunc_api_Type_api_Type_check_sub_3 G) (r_check_sub_2 G) (r_slices_IndexFunc_api_Type_api_Type_check_sub_2 G) (r_slices_ContainsFunc_api_Type_api_Type_check_sub_2 G) (r_check_sub G) a0 a1) := by
 simp only [b_check_sub_2]
 repeat (first | exact cm_const | exact h_r_check_dicts _ _ | exact h_r_check_sub_1_1 _ _ | exact h_r_check_sub_3 _ _ | exact h_r_slices_IndexFunc_api_Type_api_Type_check_sub_3 _ _ | exact h_r_slices_ContainsFunc_api_Type_api_Type_check_sub_3 _ _ | exact h_r_check_sub_2 _ _ | exact h_r_slices_IndexFunc_api_Type_api_Type_check_sub_2 _ _ | exact h_r_slices_ContainsFunc_api_Type_api_Type_check_sub_2 _ _ | exact h_r_check_sub _ _ | refine cm_cond ?_ ?_ | refine cm_bind ?_ (fun _ => ?_))
noncomputable def slices_IndexFunc_api_Type_api_Type_check_sub_2_l1b (r_check_sub_2 : Typ → Typ → Option Bool) (a0 : (List Typ)) (a1c0 : Typ) (g1 : Nat → Option Int) (s1 : Nat) : Option Int :=
 bif (decide (((s1 : Nat) : Int) < (((a0).length : Nat) : Int))) then (
  Option.bind ((a0)[s1]?) fun x4 =>
  Option.bind (r_check_sub_2 x4 a1c0) fun x5 =>
  bif x5 then (
   some ((s1 : Nat) : Int)
  ) else (
   g1 (s1 + 1)
  )
 ) else (
  some (-1)
 )
theorem slices_IndexFunc_api_Type_api_Type_check_sub_2_l1b_cm {ι : Type} {ρ : ι → Type} (r_check_sub_2 : (∀ i, Option (ρ i)) → Typ → Typ → Option Bool) (h_r_check_sub_2 : ∀ y0 y1, CM (fun G => r_check_sub_2 G y0 y1)) (g1 : (∀ i, Option (ρ i)) → Nat → Option Int) (h_g1 : ∀ y0, CM (fun G => g1 G y0)) (a0 : (List Typ)) (a1c0 : Typ) (s1 : Nat) : CM (fun G : (∀ i, Option (ρ i)) => slices_IndexFunc_api_Type_api_Type_check_sub_2_l1b (r_check_sub_2 G) a0 a1c0 (g1 G) s1) := by
 simp only [slices_IndexFunc_api_Type_api_Type_check_sub_2_l1b]
 repeat (first | exact cm_const | exact h_r_check_sub_2 _ _ | exact h_g1 _ | refine cm_cond ?_ ?_ | refine cm_bind ?_ (fun _ => ?_))
noncomputable def slices_IndexFunc_api_Type_api_Type_check_sub_2_l1 (r_check_sub_2 : Typ → Typ → Option Bool) (a0 : (List Typ)) (a1c0 : Typ) (s1 : Nat) : Option Int :=
 fixO (ι := Nat) (ρ := fun _ => Int) (fun g i => slices_IndexFunc_api_Type_api_Type_check_sub_2_l1b r_check_sub_2 a0 a1c0 (fun s1 => g s1) i) s1
theorem slices_IndexFunc_api_Type_api_Type_check_sub_2_l1_eq (r_check_sub_2 : Typ → Typ → Option Bool) (a0 : (List Typ)) (a1c0 : Typ) (s1 : Nat) : slices_IndexFunc_api_Type_api_Type_check_sub_2_l1 r_check_sub_2 a0 a1c0 s1 = slices_IndexFunc_api_Type_api_Type_check_sub_2_l1b r_check_sub_2 a0 a1c0 (slices_IndexFunc_api_Type_api_Type_check_sub_2_l1 r_check_sub_2 a0 a1c0) s1 :=
 fixO_eq (ι := Nat) (ρ := fun _ => Int) (Φ := fun g i => slices_IndexFunc_api_Type_api_Type_check_sub_2_l1b r_check_sub_2 a0 a1c0 (fun s1 => g s1) i) (fun i => slices_IndexFunc_api_Type_api_Type_check_sub_2_l1b_cm (ι := Nat) (ρ := fun _ => Int) (fun _ => r_check_sub_2) (fun _ _ => cm_const) (fun g => (fun s1 => g s1)) (fun _ => cm_app) a0 a1c0 i) s1
theorem slices_IndexFunc_api_Type_api_Type_check_sub_2_l1_cm {ι : Type} {ρ : ι → Type} (r_check_sub_2 : (∀ i, Option (ρ i)) → Typ → Typ → Option Bool) (h_r_check_sub_2 : ∀ y0 y1, CM (fun G => r_check_sub_2 G y0 y1)) (a0 : (List Typ)) (a1c0 : Typ) (s1 : Nat) : CM (fun G : (∀ i, Option (ρ i)) => slices_IndexFunc_api_Type_api_Type_check_sub_2_l1 (r_check_sub_2 G) a0 a1c0 s1) :=
 cm_fix (κ := Nat) (τ := fun _ => Int) (Φ := fun G g i => slices_IndexFunc_api_Type_api_Type_check_sub_2_l1b (r_check_sub_2 G) a0 a1c0 (fun s1 => g s1) i) (fun g i => slices_IndexFunc_api_Type_api_Type_check_sub_2_l1b_cm r_check_sub_2 h_r_check_sub_2 (fun _ => (fun s1 => g s1)) (fun _ => cm_const) a0 a1c0 i) (fun G i => slices_IndexFunc_api_Type_api_Type_check_sub_2_l1b_cm (ι := Nat) (ρ := fun _ => Int) (fun _ => r_check_sub_2 G) (fun _ _ => cm_const) (fun g => (fun s1 => g s1)) (fun _ => cm_app) a0 a1c0 i) s1
noncomputable def b_slices_IndexFunc_api_Type_api_Type_check_sub_2 (r_check_dicts : Typ → Typ → Option Bool) (r_check_sub_1_1 : Typ → Typ → Option Bool) (r_check_sub_3 : Typ → Typ → Option Bool) (r_slices_IndexFunc_api_Type_api_Type_check_sub_3 : (List Typ) → Typ → Option Int) (r_slices_ContainsFunc_api_Type_api_Type_check_sub_3 : (List Typ) → Typ → Option Bool) (r_check_sub_2 : Typ → Typ → Option Bool) (r_slices_IndexFunc_api_Type_api_Type_check_sub_2 : (List Typ) → Typ → Option Int) (r_slices_ContainsFunc_api_Type_api_Type_check_sub_2 : (List Typ) → Typ → Option Bool) (r_check_sub : Typ → Typ → Option Bool) (a0 : (List Typ)) (a1c0 : Typ) : Option Int :=
 slices_IndexFunc_api_Type_api_Type_check_sub_2_l1 r_check_sub_2 a0 a1c0 0
theorem b_slices_IndexFunc_api_Type_api_Type_check_sub_2_cm {ι : Type} {ρ : ι → Type} (r_check_dicts : (∀ i, Option (ρ i)) → Typ → Typ → Option Bool) (h_r_check_dicts : ∀ y0 y1, CM (fun G => r_check_dicts G y0 y1)) (r_check_sub_1_1 : (∀ i, Option (ρ i)) → Typ → Typ → Option Bool) (h_r_check_sub_1_1 : ∀ y0 y1, CM (fun G => r_check_sub_1_1 G y0 y1)) (r_check_sub_3 : (∀ i, Option (ρ i)) → Typ → Typ → Option Bool) (h_r_check_sub_3 : ∀ y0 y1, CM (fun G => r_check_sub_3 G y0 y1)) (r_slices_IndexFunc_api_Type_api_Type_check_sub_3 : (∀ i, Option (ρ i)) → (List Typ) → Typ → Option Int) (h_r_slices_IndexFunc_api_Type_api_Type_check_sub_3 : ∀ y0 y1, CM (fun G => r_slices_IndexFunc_api_Type_api_Type_check_sub_3 G y0 y1)) (r_slices_ContainsFunc_api_Type_api_Type_check_sub_3 : (∀ i, Option (ρ i)) → (List Typ) → Typ → Option Bool) (h_r_slices_ContainsFunc_api_Type_api_Type_check_sub_3 : ∀ y0 y1, CM (fun G => r_slices_ContainsFunc_api_Type_api_Type_check_sub_3 G y0 y1)) (r_check_sub_2 : (∀ i, Option (ρ i)) → Typ → Typ → Option Bool) (h_r_check_sub_2 : ∀ y0 y1, CM (fun G => r_check_sub_2 G y0 y1)) (r_slices_IndexFunc_api_Type_api_Type_check_sub_2 : (∀ i, Option (ρ i)) → (List Typ) → Typ → Option Int) (h_r_slices_IndexFunc_api_Type_api_Type_check_sub_2 : ∀ y0 y1, CM (fun G => r_slices_IndexFunc_api_Type_api_Type_check_sub_2 G y0 y1)) (r_slices_ContainsFunc_api_Type_api_Type_check_sub_2 : (∀ i, Option (ρ i)) → (List Typ) → Typ → Option Bool) (h_r_slices_ContainsFunc_api_Type_api_Type_check_sub_2 : ∀ y0 y1, CM (fun G => r_slices_ContainsFunc_api_Type_api_Type_check_sub_2 G y0 y1)) (r_check_sub : (∀ i, Option (ρ i)) → Typ → Typ → Option Bool) (h_r_check_sub : ∀ y0 y1, CM (fun G => r_check_sub G y0 y1)) (a0 : (List Typ)) (a1c0 : Typ) : CM (fun G : (∀ i, Option (ρ i)) => b_slices_IndexFunc_api_Type_api_Type_check_sub_2 (r_check_dicts G) (r_check_sub_1_1 G) (r_check_sub_3 G) (r_slices_IndexFunc_api_Type_api_Type_check_sub_3 G) (r_slices_ContainsFunc_api_Type_api_Type_check_sub_3 G) (r_check_sub_2 G) (r_slices_IndexFunc_api_Type_api_Type_check_sub_2 G) (r_slices_ContainsFunc_api_Type_api_Type_check_sub_2 G) (r_check_sub G) a0 a1c0) := by
 simp only [b_slices_IndexFunc_api_Type_api_Type_check_sub_2]
 repeat (first | exact cm_const | exact h_r_check_dicts _ _ | exact h_r_check_sub_1_1 _ _ | exact h_r_check_sub_3 _ _ | exact h_r_slices_IndexFunc_api_Type_api_Type_check_sub_3 _ _ | exact h_r_slices_ContainsFunc_api_Type_api_Type_check_sub_3 _ _ | exact h_r_check_sub_2 _ _ | exact h_r_slices_IndexFunc_api_Type_api_Type_check_sub_2 _ _ | exact h_r_slices_ContainsFunc_api_Type_api_Type_check_sub_2 _ _ | exact h_r_check_sub _ _ | apply slices_IndexFunc_api_Type_api_Type_check_sub_2_l1_cm | refine cm_cond ?_ ?_ | refine cm_bind ?_ (fun _ => ?_) | intro _ | assumption)
noncomputable def b_slices_ContainsFunc_api_Type_api_Type_check_sub_2 (r_check_dicts : Typ → Typ → Option Bool) (r_check_sub_1_1 : Typ → Typ → Option Bool) (r_check_sub_3 : Typ → Typ → Option Bool) (r_slices_IndexFunc_api_Type_api_Type_check_sub_3 : (List Typ) → Typ → Option Int) (r_slices_ContainsFunc_api_Type_api_Type_check_sub_3 : (List Typ) → Typ → Option Bool) (r_check_sub_2 : Typ → Typ → Option Bool) (r_slices_IndexFunc_api_Type_api_Type_check_sub_2 : (List Typ) → Typ → Option Int) (r_slices_ContainsFunc_api_Type_api_Type_check_sub_2 : (List Typ) → Typ → Option Bool) (r_check_sub : Typ → Typ → Option Bool) (a0 : (List Typ)) (a1c0 : Typ) : Option Bool :=
 Option.bind (r_slices_IndexFunc_api_Type_api_Type_check_sub_2 a0 a1c0) fun x1 =>
 some (decide (x1 ≥ 0))
theorem b_slices_ContainsFunc_api_Type_api_Type_check_sub_2_cm {ι : Type} {ρ : ι → Type} (r_check_dicts : (∀ i, Option (ρ i)) → Typ → Typ → Option Bool) (h_r_check_dicts : ∀ y0 y1, CM (fun G => r_check_dicts G y0 y1)) (r_check_sub_1_1 : (∀ i, Option (ρ i)) → Typ → Typ → Option Bool) (h_r_check_sub_1_1 : ∀ y0 y1, CM (fun G => r_check_sub_1_1 G y0 y1)) (r_check_sub_3 : (∀ i, Option (ρ i)) → Typ → Typ → Option Bool) (h_r_check_sub_3 : ∀ y0 y1, CM (fun G => r_check_sub_3 G y0 y1)) (r_slices_IndexFunc_api_Type_api_Type_check_sub_3 : (∀ i, Option (ρ i)) → (List Typ) → Typ → Option Int) (h_r_slices_IndexFunc_api_Type_api_Type_check_sub_3 : ∀ y0 y1, CM (fun G => r_slices_IndexFunc_api_Type_api_Type_check_sub_3 G y0 y1)) (r_slices_ContainsFunc_api_Type_api_Type_check_sub_3 : (∀ i, Option (ρ i)) → (List Typ) → Typ → Option Bool) (h_r_slices_ContainsFunc_api_Type_api_Type_check_sub_3 : ∀ y0 y1, CM (fun G => r_slices_ContainsFunc_api_Type_api_Type_check_sub_3 G y0 y1)) (r_check_sub_2 : (∀ i, Option (ρ i)) → Typ → Typ → Option Bool) (h_r_check_sub_2 : ∀ y0 y1, CM (fun G => r_check_sub_2 G y0 y1)) (r_slices_IndexFunc_api_Type_api_Type_check_sub_2 : (∀ i, Option (ρ i)) → (List Typ) → Typ → Option Int) (h_r_slices_IndexFunc_api_Type_api_Type_check_sub_2 : ∀ y0 y1, CM (fun G => r_slices_IndexFunc_api_Type_api_Type_check_sub_2 G y0 y1)) (r_slices_ContainsFunc_api_Type_api_Type_check_sub_2 : (∀ i, Option (ρ i)) → (List Typ) → Typ → Option Bool) (h_r_slices_ContainsFunc_api_Type_api_Type_check_sub_2 : ∀ y0 y1, CM (fun G => r_slices_ContainsFunc_api_Type_api_Type_check_sub_2 G y0 y1)) (r_check_sub : (∀ i, Option (ρ i)) → Typ → Typ → Option Bool) (h_r_check_sub : ∀ y0 y1, CM (fun G => r_check_sub G y0 y1)) (a0 : (List Typ)) (a1c0 : Typ) : CM (fun G : (∀ i, Option (ρ i)) => b_slices_ContainsFunc_api_Type_api_Type_check_sub_2 (r_check_dicts G) (r_check_sub_1_1 G) (r_check_sub_3 G) (r_slices_IndexFunc_api_Type_api_Type_check_sub_3 G) (r_slices_ContainsFunc_api_Type_api_Type_check_sub_3 G) (r_check_sub_2 G) (r_slices_IndexFunc_api_Type_api_Type_check_sub_2 G) (r_slices_ContainsFunc_api_Type_api_Type_check_sub_2 G) (r_check_sub G) a0 a1c0) := by
 simp only [b_slices_ContainsFunc_api_Type_api_Type_check_sub_2]
 repeat (first | exact cm_const | exact h_r_check_dicts _ _ | exact h_r_check_sub_1_1 _ _ | exact h_r_check_sub_3 _ _ | exact h_r_slices_IndexFunc_api_Type_api_Type_check_sub_3 _ _ | exact h_r_slices_ContainsFunc_api_Type_api_Type_check_sub_3 _ _ | exact h_r_check_sub_2 _ _ | exact h_r_slices_IndexFunc_api_Type_api_Type_check_sub_2 _ _ | exact h_r_slices_ContainsFunc_api_Type_api_Type_check_sub_2 _ _ | exact h_r_check_sub _ _ | refine cm_cond ?_ ?_ | refine cm_bind ?_ (fun _ => ?_))
noncomputable def check_sub_j1 (r_check_dicts : Typ → Typ → Option Bool) (r_check_sub_1_1 : Typ → Typ → Option Bool) (r_slices_ContainsFunc_api_Type_api_Type_check_sub_3 : (List Typ) → Typ → Option Bool) (r_slices_ContainsFunc_api_Type_api_Type_check_sub_2 : (List Typ) → Typ → Option Bool) (a0 : Typ) (a1 : Typ) (s1 : Bool) : Option Bool :=
 bif s1 then (
  some true
 ) else (
  bif (a0.kind == 7) then (
   Option.bind (r_slices_ContainsFunc_api_Type_api_Type_check_sub_2 a0.parts a1) fun x4 =>
   some (!x4)
  ) else (
   bif (a1.kind == 7) then (
    Option.bind (r_slices_ContainsFunc_api_Type_api_Type_check_sub_3 a1.parts a0) fun x6 =>
    some x6
   ) else (
    bif (a1.kind == 2) then (
     some false
    ) else (
     bif (a0.kind == 4) then (
      Option.bind (p_value_Of (a0.only)) fun x9 =>
      Option.bind (p_check_is x9.1 a1 0) fun x10 =>
      some x10.1
     ) else (
      bif (a0.kind == 1) then (
       some false
      ) else (
       bif (a0.kind == 3) then (
        bif (a1.kind == 3) then (
         some (a0.of == a1.of)
        ) else (
         some false
        )
       ) else (
        bif (a0.kind == 5) then (
         bif (a1.kind == 3) then (
          bif (a1.of == 8) then (
           some true
          ) else (
           bif (a1.kind == 5) then (
            Option.bind ((a1.parts)[0]?) fun x18 =>
            Option.bind (p_check_sub_1 x18) fun x19 =>
            Option.bind ((a0.parts)[0]?) fun x20 =>
            Option.bind (r_check_sub_1_1 x20 x19) fun x21 =>
            some x21
           ) else (
            some false
           )
          )
         ) else (
          bif (a1.kind == 5) then (
           Option.bind ((a1.parts)[0]?) fun x23 =>
           Option.bind (p_check_sub_1 x23) fun x24 =>
           Option.bind ((a0.parts)[0]?) fun x25 =>
           Option.bind (r_check_sub_1_1 x25 x24) fun x26 =>
           some x26
          ) else (
           some false
          )
         )
        ) else (
         bif (a0.kind == 8) then (
          bif (a1.kind == 3) then (
           bif (a1.of == 10) then (
            some true
           ) else (
            bif (a1.kind == 8) then (
             some (a0.cls == a1.cls)
            ) else (
             some false
            )
           )
          ) else (
           bif (a1.kind == 8) then (
            some (a0.cls == a1.cls)
           ) else (
            some false
           )
          )
         ) else (
          bif (a0.kind == 6) then (
           bif (a1.kind == 3) then (
            bif (a1.of == 9) then (
             some true
            ) else (
             bif (a1.kind == 6) then (
              Option.bind (r_check_dicts a0 a1) fun x36 =>
              some x36
             ) else (
              some false
             )
            )
           ) else (
            bif (a1.kind == 6) then (
             Option.bind (r_check_dicts a0 a1) fun x38 =>
             some x38
            ) else (
             some false
            )
           )
          ) else (
           some false
          )
         )
        )
       )
      )
     )
    )
   )
  )
 )
theorem check_sub_j1_cm {ι : Type} {ρ : ι → Type} (r_check_dicts : (∀ i, Option (ρ i)) → Typ → Typ → Option Bool) (h_r_check_dicts : ∀ y0 y1, CM (fun G => r_check_dicts G y0 y1)) (r_check_sub_1_1 : (∀ i, Option (ρ i)) → Typ → Typ → Option Bool) (h_r_check_sub_1_1 : ∀ y0 y1, CM (fun G => r_check_sub_1_1 G y0 y1)) (r_slices_ContainsFunc_api_Type_api_Type_check_sub_3 : (∀ i, Option (ρ i)) → (List Typ) → Typ → Option Bool) (h_r_slices_ContainsFunc_api_Type_api_Type_check_sub_3 : ∀ y0 y1, CM (fun G => r_slices_ContainsFunc_api_Type_api_Type_check_sub_3 G y0 y1)) (r_slices_ContainsFunc_api_Type_api_Type_check_sub_2 : (∀ i, Option (ρ i)) → (List Typ) → Typ → Option Bool) (h_r_slices_ContainsFunc_api_Type_api_Type_check_sub_2 : ∀ y0 y1, CM (fun G => r_slices_ContainsFunc_api_Type_api_Type_check_sub_2 G y0 y1)) (a0 : Typ) (a1 : Typ) (s1 : Bool) : CM (fun G : (∀ i, Option (ρ i)) => check_sub_j1 (r_check_dicts G) (r_check_sub_1_1 G) (r_slices_ContainsFunc_api_Type_api_Type_check_sub_3 G) (r_slices_ContainsFunc_api_Type_api_Type_check_sub_2 G) a0 a1 s1) := by
 simp only [check_sub_j1]
 repeat (first | exact cm_const | exact h_r_check_dicts _ _ | exact h_r_check_sub_1_1 _ _ | exact h_r_slices_ContainsFunc_api_Type_api_Type_check_sub_3 _ _ | exact h_r_slices_ContainsFunc_api_Type_api_Type_check_sub_2 _ _ | refine cm_cond ?_ ?_ | refine cm_bind ?_ (fun _ => ?_))
noncomputable def b_check_sub (r_check_dicts : Typ → Typ → Option Bool) (r_check_sub_1_1 : Typ → Typ → Option Bool) (r_check_sub_3 : Typ → Typ → Option Bool) (r_slices_IndexFunc_api_Type_api_Type_check_sub_3 : (List Typ) → Typ → Option Int) (r_slices_ContainsFunc_api_Type_api_Type_check_sub_3 : (List Typ) → Typ → Option Bool) (r_check_sub_2 : Typ → Typ → Option Bool) (r_slices_IndexFunc_api_Type_api_Type_check_sub_2 : (List Typ) → Typ → Option Int) (r_slices_ContainsFunc_api_Type_api_Type_check_sub_2 : (List Typ) → Typ → Option Bool) (r_check_sub : Typ → Typ → Option Bool) (a0 : Typ) (a1 : Typ) : Option Bool :=
 bif (a1.kind == 1) then (
  check_sub_j1 r_check_dicts r_check_sub_1_1 r_slices_ContainsFunc_api_Type_api_Type_check_sub_3 r_slices_ContainsFunc_api_Type_api_Type_check_sub_2 a0 a1 true
 ) else (
  check_sub_j1 r_check_dicts r_check_sub_1_1 r_slices_ContainsFunc_api_Type_api_Type_check_sub_3 r_slices_ContainsFunc_api_Type_api_Type_check_sub_2 a0 a1 (a0.kind == 2)
 )
theorem b_check_sub_cm {ι : Type} {ρ : ι → Type} (r_check_dicts : (∀ i, Option (ρ i)) → Typ → Typ → Option Bool) (h_r_check_dicts : ∀ y0 y1, CM (fun G => r_check_dicts G y0 y1)) (r_check_sub_1_1 : (∀ i, Option (ρ i)) → Typ → Typ → Option Bool) (h_r_check_sub_1_1 : ∀ y0 y1, CM (fun G => r_check_sub_1_1 G y0 y1)) (r_check_sub_3 : (∀ i, Option (ρ i)) → Typ → Typ → Option Bool) (h_r_check_sub_3 : ∀ y0 y1, CM (fun G => r_check_sub_3 G y0 y1)) (r_slices_IndexFunc_api_Type_api_Type_check_sub_3 : (∀ i, Option (ρ i)) → (List Typ) → Typ → Option Int) (h_r_slices_IndexFunc_api_Type_api_Type_check_sub_3 : ∀ y0 y1, CM (fun G => r_slices_IndexFunc_api_Type_api_Type_check_sub_3 G y0 y1)) (r_slices_ContainsFunc_api_Type_api_Type_check_sub_3 : (∀ i, Option (ρ i)) → (List Typ) → Typ → Option Bool) (h_r_slices_ContainsFunc_api_Type_api_Type_check_sub_3 : ∀ y0 y1, CM (fun G => r_slices_ContainsFunc_api_Type_api_Type_check_sub_3 G y0 y1)) (r_check_sub_2 : (∀ i, Option (ρ i)) → Typ → Typ → Option Bool) (h_r_check_sub_2 : ∀ y0 y1, CM (fun G => r_check_sub_2 G y0 y1)) (r_slices_IndexFunc_api_Type_api_Type_check_sub_2 : (∀ i, Option (ρ i)) → (List Typ) → Typ → Option Int) (h_r_slices_IndexFunc_api_Type_api_Type_check_sub_2 : ∀ y0 y1, CM (fun G => r_slices_IndexFunc_api_Type_api_Type_check_sub_2 G y0 y1)) (r_slices_ContainsFunc_api_Type_api_Type_check_sub_2 : (∀ i, Option (ρ i)) → (List Typ) → Typ → Option Bool) (h_r_slices_ContainsFunc_api_Type_api_Type_check_sub_2 : ∀ y0 y1, CM (fun G => r_slices_ContainsFunc_api_Type_api_Type_check_sub_2 G y0 y1)) (r_check_sub : (∀ i, Option (ρ i)) → Typ → Typ → Option Bool) (h_r_check_sub : ∀ y0 y1, CM (fun G => r_check_sub G y0 y1)) (a0 : Typ) (a1 : Typ) : CM (fun G : (∀ i, Option (ρ i)) => b_check_sub (r_check_dicts G) (r_check_sub_1_1 G) (r_check_sub_3 G) (r_slices_IndexFunc_api_Type_api_Type_check_sub_3 G) (r_slices_ContainsFunc_api_Type_api_Type_check_sub_3 G) (r_check_sub_2 G) (r_slices_IndexFunc_api_Type_api_Type_check_sub_2 G) (r_slices_ContainsFunc_api_Type_api_Type_check_sub_2 G) (r_check_sub G) a0 a1) := by
 simp only [b_check_sub]
 repeat (first | exact cm_const | exact h_r_check_dicts _ _ | exact h_r_check_sub_1_1 _ _ | exact h_r_check_sub_3 _ _ | exact h_r_slices_IndexFunc_api_Type_api_Type_check_sub_3 _ _ | exact h_r_slices_ContainsFunc_api_Type_api_Type_check_sub_3 _ _ | exact h_r_check_sub_2 _ _ | exact h_r_slices_IndexFunc_api_Type_api_Type_check_sub_2 _ _ | exact h_r_slices_ContainsFunc_api_Type_api_Type_check_sub_2 _ _ | exact h_r_check_sub _ _ | apply check_sub_j1_cm | refine cm_cond ?_ ?_ | refine cm_bind ?_ (fun _ => ?_) | intro _ | assumption)
inductive C_check_dicts where
 | k_check_dicts (a0 : Typ) (a1 : Typ)
 | k_check_sub_1_1 (a0 : Typ) (a1 : Typ)
 | k_check_sub_3 (a0 : Typ) (a1 : Typ)
 | k_slices_IndexFunc_api_Type_api_Type_check_sub_3 (a0 : (List Typ)) (a1c0 : Typ)
 | k_slices_ContainsFunc_api_Type_api_Type_check_sub_3 (a0 : (List Typ)) (a1c0 : Typ)
 | k_check_sub_2 (a0 : Typ) (a1 : Typ)
 | k_slices_IndexFunc_api_Type_api_Type_check_sub_2 (a0 : (List Typ)) (a1c0 : Typ)
 | k_slices_ContainsFunc_api_Type_api_Type_check_sub_2 (a0 : (List Typ)) (a1c0 : Typ)
 | k_check_sub (a0 : Typ) (a1 : Typ)
def C_check_dicts.R : C_check_dicts → Type
 | .k_check_dicts _ _ => Bool
 | .k_check_sub_1_1 _ _ => Bool
 | .k_check_sub_3 _ _ => Bool
 | .k_slices_IndexFunc_api_Type_api_Type_check_sub_3 _ _ => Int
 | .k_slices_ContainsFunc_api_Type_api_Type_check_sub_3 _ _ => Bool
 | .k_check_sub_2 _ _ => Bool
 | .k_slices_IndexFunc_api_Type_api_Type_check_sub_2 _ _ => Int
 | .k_slices_ContainsFunc_api_Type_api_Type_check_sub_2 _ _ => Bool
 | .k_check_sub _ _ => Bool
noncomputable def C_check_dicts.F (g : ∀ i : C_check_dicts, Option i.R) : ∀ i : C_check_dicts, Option i.R
 | .k_check_dicts a0 a1 => b_check_dicts (fun a0 a1 => g (.k_check_dicts a0 a1)) (fun a0 a1 => g (.k_check_sub_1_1 a0 a1)) (fun a0 a1 => g (.k_check_sub_3 a0 a1)) (fun a0 a1c0 => g (.k_slices_IndexFunc_api_Type_api_Type_check_sub_3 a0 a1c0)) (fun a0 a1c0 => g (.k_slices_ContainsFunc_api_Type_api_Type_check_sub_3 a0 a1c0)) (fun a0 a1 => g (.k_check_sub_2 a0 a1)) (fun a0 a1c0 => g (.k_slices_IndexFunc_api_Type_api_Type_check_sub_2 a0 a1c0)) (fun a0 a1c0 => g (.k_slices_ContainsFunc_api_Type_api_Type_check_sub_2 a0 a1c0)) (fun a0 a1 => g (.k_check_sub a0 a1)) a0 a1
 | .k_check_sub_1_1 a0 a1 => b_check_sub_1_1 (fun a0 a1 => g (.k_check_dicts a0 a1)) (fun a0 a1 => g (.k_check_sub_1_1 a0 a1)) (fun a0 a1 => g (.k_check_sub_3 a0 a1)) (fun a0 a1c0 => g (.k_slices_IndexFunc_api_Type_api_Type_check_sub_3 a0 a1c0)) (fun a0 a1c0 => g (.k_slices_ContainsFunc_api_Type_api_Type_check_sub_3 a0 a1c0)) (fun a0 a1 => g (.k_check_sub_2 a0 a1)) (fun a0 a1c0 => g (.k_slices_IndexFunc_api_Type_api_Type_check_sub_2 a0 a1c0)) (fun a0 a1c0 => g (.k_slices_ContainsFunc_api_Type_api_Type_check_sub_2 a0 a1c0)) (fun a0 a1 => g (.k_check_sub a0 a1)) a0 a1
 | .k_check_sub_3 a0 a1 => b_check_sub_3 (fun a0 a1 => g (.k_check_dicts a0 a1)) (fun a0 a1 => g (.k_check_sub_1_1 a0 a1)) (fun a0 a1 => g (.k_check_sub_3 a0 a1)) (fun a0 a1c0 => g (.k_slices_IndexFunc_api_Type_api_Type_check_sub_3 a0 a1c0)) (fun a0 a1c0 => g (.k_slices_ContainsFunc_api_Type_api_Type_check_sub_3 a0 a1c0)) (fun a0 a1 => g (.k_check_sub_2 a0 a1)) (fun a0 a1c0 => g (.k_slices_IndexFunc_api_Type_api_Type_check_sub_2 a0 a1c0)) (fun a0 a1c0 => g (.k_slices_ContainsFunc_api_Type_api_Type_check_sub_2 a0 a1c0)) (fun a0 a1 => g (.k_check_sub a0 a1)) a0 a1
 | .k_slices_IndexFunc_api_Type_api_Type_check_sub_3 a0 a1c0 => b_slices_IndexFunc_api_Type_api_Type_check_sub_3 (fun a0 a1 => g (.k_check_dicts a0 a1)) (fun a0 a1 => g (.k_check_sub_1_1 a0 a1)) (fun a0 a1 => g (.k_check_sub_3 a0 a1)) (fun a0 a1c0 => g (.k_slices_IndexFunc_api_Type_api_Type_check_sub_3 a0 a1c0)) (fun a0 a1c0 => g (.k_slices_ContainsFunc_api_Type_api_Type_check_sub_3 a0 a1c0)) (fun a0 a1 => g (.k_check_sub_2 a0 a1)) (fun a0 a1c0 => g (.k_slices_IndexFunc_api_Type_api_Type_check_sub_2 a0 a1c0)) (fun a0 a1c0 => g (.k_slices_ContainsFunc_api_Type_api_Type_check_sub_2 a0 a1c0)) (fun a0 a1 => g (.k_check_sub a0 a1)) a0 a1c0
 | .k_slices_ContainsFunc_api_Type_api_Type_check_sub_3 a0 a1c0 => b_slices_ContainsFunc_api_Type_api_Type_check_sub_3 (fun a0 a1 => g (.k_check_dicts a0 a1)) (fun a0 a1 => g (.k_check_sub_1_1 a0 a1)) (fun a0 a1 => g (.k_check_sub_3 a0 a1)) (fun a0 a1c0 => g (.k_slices_IndexFunc_api_Type_api_Type_check_sub_3 a0 a1c0)) (fun a0 a1c0 => g (.k_slices_ContainsFunc_api_Type_api_Type_check_sub_3 a0 a1c0)) (fun a0 a1 => g (.k_check_sub_2 a0 a1)) (fun a0 a1c0 => g (.k_slices_IndexFunc_api_Type_api_Type_check_sub_2 a0 a1c0)) (fun a0 a1c0 => g (.k_slices_ContainsFunc_api_Type_api_Type_check_sub_2 a0 a1c0)) (fun a0 a1 => g (.k_check_sub a0 a1)) a0 a1c0
 | .k_check_sub_2 a0 a1 => b_check_sub_2 (fun a0 a1 => g (.k_check_dicts a0 a1)) (fun a0 a1 => g (.k_check_sub_1_1 a0 a1)) (fun a0 a1 => g (.k_check_sub_3 a0 a1)) (fun a0 a1c0 => g (.k_slices_IndexFunc_api_Type_api_Type_check_sub_3 a0 a1c0)) (fun a0 a1c0 => g (.k_slices_ContainsFunc_api_Type_api_Type_check_sub_3 a0 a1c0)) (fun a0 a1 => g (.k_check_sub_2 a0 a1)) (fun a0 a1c0 => g (.k_slices_IndexFunc_api_Type_api_Type_check_sub_2 a0 a1c0)) (fun a0 a1c0 => g (.k_slices_ContainsFunc_api_Type_api_Type_check_sub_2 a0 a1c0)) (fun a0 a1 => g (.k_check_sub a0 a1)) a0 a1
 | .k_slices_IndexFunc_api_Type_api_Type_check_sub_2 a0 a1c0 => b_slices_IndexFunc_api_Type_api_Type_check_sub_2 (fun a0 a1 => g (.k_check_dicts a0 a1)) (fun a0 a1 => g (.k_check_sub_1_1 a0 a1)) (fun a0 a1 => g (.k_check_sub_3 a0 a1)) (fun a0 a1c0 => g (.k_slices_IndexFunc_api_Type_api_Type_check_sub_3 a0 a1c0)) (fun a0 a1c0 => g (.k_slices_ContainsFunc_api_Type_api_Type_check_sub_3 a0 a1c0)) (fun a0 a1 => g (.k_check_sub_2 a0 a1)) (fun a0 a1c0 => g (.k_slices_IndexFunc_api_Type_api_Type_check_sub_2 a0 a1c0)) (fun a0 a1c0 => g (.k_slices_ContainsFunc_api_Type_api_Type_check_sub_2 a0 a1c0)) (fun a0 a1 => g (.k_check_sub a0 a1)) a0 a1c0
 | .k_slices_ContainsFunc_api_Type_api_Type_check_sub_2 a0 a1c0 => b_slices_ContainsFunc_api_Type_api_Type_check_sub_2 (fun a0 a1 => g (.k_check_dicts a0 a1)) (fun a0 a1 => g (.k_check_sub_1_1 a0 a1)) (fun a0 a1 => g (.k_check_sub_3 a0 a1)) (fun a0 a1c0 => g (.k_slices_IndexFunc_api_Type_api_Type_check_sub_3 a0 a1c0)) (fun a0 a1c0 => g (.k_slices_ContainsFunc_api_Type_api_Type_check_sub_3 a0 a1c0)) (fun a0 a1 => g (.k_check_sub_2 a0 a1)) (fun a0 a1c0 => g (.k_slices_IndexFunc_api_Type_api_Type_check_sub_2 a0 a1c0)) (fun a0 a1c0 => g (.k_slices_ContainsFunc_api_Type_api_Type_check_sub_2 a0 a1c0)) (fun a0 a1 => g (.k_check_sub a0 a1)) a0 a1c0
 | .k_check_sub a0 a1 => b_check_sub (fun a0 a1 => g (.k_check_dicts a0 a1)) (fun a0 a1 => g (.k_check_sub_1_1 a0 a1)) (fun a0 a1 => g (.k_check_sub_3 a0 a1)) (fun a0 a1c0 => g (.k_slices_IndexFunc_api_Type_api_Type_check_sub_3 a0 a1c0)) (fun a0 a1c0 => g (.k_slices_ContainsFunc_api_Type_api_Type_check_sub_3 a0 a1c0)) (fun a0 a1 => g (.k_check_sub_2 a0 a1)) (fun a0 a1c0 => g (.k_slices_IndexFunc_api_Type_api_Type_check_sub_2 a0 a1c0)) (fun a0 a1c0 => g (.k_slices_ContainsFunc_api_Type_api_Type_check_sub_2 a0 a1c0)) (fun a0 a1 => g (.k_check_sub a0 a1)) a0 a1
noncomputable def p_check_dicts (a0 : Typ) (a1 : Typ) : Option Bool := fixO C_check_dicts.F (.k_check_dicts a0 a1)
noncomputable def p_check_sub_1_1 (a0 : Typ) (a1 : Typ) : Option Bool := fixO C_check_dicts.F (.k_check_sub_1_1 a0 a1)
noncomputable def p_check_sub_3 (a0 : Typ) (a1 : Typ) : Option Bool := fixO C_check_dicts.F (.k_check_sub_3 a0 a1)
noncomputable def p_slices_IndexFunc_api_Type_api_Type_check_sub_3 (a0 : (List Typ)) (a1c0 : Typ) : Option Int := fixO C_check_dicts.F (.k_slices_IndexFunc_api_Type_api_Type_check_sub_3 a0 a1c0)
noncomputable def p_slices_ContainsFunc_api_Type_api_Type_check_sub_3 (a0 : (List Typ)) (a1c0 : Typ) : Option Bool := fixO C_check_dicts.F (.k_slices_ContainsFunc_api_Type_api_Type_check_sub_3 a0 a1c0)
noncomputable def p_check_sub_2 (a0 : Typ) (a1 : Typ) : Option Bool := fixO C_check_dicts.F (.k_check_sub_2 a0 a1)
noncomputable def p_slices_IndexFunc_api_Type_api_Type_check_sub_2 (a0 : (List Typ)) (a1c0 : Typ) : Option Int := fixO C_check_dicts.F (.k_slices_IndexFunc_api_Type_api_Type_check_sub_2 a0 a1c0)
noncomputable def p_slices_ContainsFunc_api_Type_api_Type_check_sub_2 (a0 : (List Typ)) (a1c0 : Typ) : Option Bool := fixO C_check_dicts.F (.k_slices_ContainsFunc_api_Type_api_Type_check_sub_2 a0 a1c0)
noncomputable def p_check_sub (a0 : Typ) (a1 : Typ) : Option Bool := fixO C_check_dicts.F (.k_check_sub a0 a1)
theorem C_check_dicts.cm (i : C_check_dicts) : CM (fun g : (∀ i : C_check_dicts, Option i.R) => C_check_dicts.F g i) := by
 cases i with
 | k_check_dicts a0 a1 => exact b_check_dicts_cm (fun (g : ∀ i : C_check_dicts, Option i.R) a0 a1 => g (.k_check_dicts a0 a1)) (fun a0 a1 => cm_app (i := C_check_dicts.k_check_dicts a0 a1)) (fun (g : ∀ i : C_check_dicts, Option i.R) a0 a1 => g (.k_check_sub_1_1 a0 a1)) (fun a0 a1 => cm_app (i := C_check_dicts.k_check_sub_1_1 a0 a1)) (fun (g : ∀ i : C_check_dicts, Option i.R) a0 a1 => g (.k_check_sub_3 a0 a1)) (fun a0 a1 => cm_app (i := C_check_dicts.k_check_sub_3 a0 a1)) (fun (g : ∀ i : C_check_dicts, Option i.R) a0 a1c0 => g (.k_slices_IndexFunc_api_Type_api_Type_check_sub_3 a0 a1c0)) (fun a0 a1c0 => cm_app (i := C_check_dicts.k_slices_IndexFunc_api_Type_api_Type_check_sub_3 a0 a1c0)) (fun (g : ∀ i : C_check_dicts, Option i.R) a0 a1c0 => g (.k_slices_ContainsFunc_api_Type_api_Type_check_sub_3 a0 a1c0)) (fun a0 a1c0 => cm_app (i := C_check_dicts.k_slices_ContainsFunc_api_Type_api_Type_check_sub_3 a0 a1c0)) (fun (g : ∀ i : C_check_dicts, Option i.R) a0 a1 => g (.k_check_sub_2 a0 a1)) (fun a0 a1 => cm_app (i := C_check_dicts.k_check_sub_2 a0 a1)) (fun (g : ∀ i : C_check_dicts, Option i.R) a0 a1c0 => g (.k_slices_IndexFunc_api_Type_api_Type_check_sub_2 a0 a1c0)) (fun a0 a1c0 => cm_app (i := C_check_dicts.k_slices_IndexFunc_api_Type_api_Type_check_sub_2 a0 a1c0)) (fun (g : ∀ i : C_check_dicts, Option i.R) a0 a1c0 => g (.k_slices_ContainsFunc_api_Type_api_Type_check_sub_2 a0 a1c0)) (fun a0 a1c0 => cm_app (i := C_check_dicts.k_slices_ContainsFunc_api_Type_api_Type_check_sub_2 a0 a1c0)) (fun (g : ∀ i : C_check_dicts, Option i.R) a0 a1 => g (.k_check_sub a0 a1)) (fun a0 a1 => cm_app (i := C_check_dicts.k_check_sub a0 a1)) a0 a1
 | k_check_sub_1_1 a0 a1 => exact b_check_sub_1_1_cm (fun (g : ∀ i : C_check_dicts, Option i.R) a0 a1 => g (.k_check_dicts a0 a1)) (fun a0 a1 => cm_app (i := C_check_dicts.k_check_dicts a0 a1)) (fun (g : ∀ i : C_check_dicts, Option i.R) a0 a1 => g (.k_check_sub_1_1 a0 a1)) (fun a0 a1 => cm_app (i := C_check_dicts.k_check_sub_1_1 a0 a1)) (fun (g : ∀ i : C_check_dicts, Option i.R) a0 a1 => g (.k_check_sub_3 a0 a1)) (fun a0 a1 => cm_app (i := C_check_dicts.k_check_sub_3 a0 a1)) (fun (g : ∀ i : C_check_dicts, Option i.R) a0 a1c0 => g (.k_slices_IndexFunc_api_Type_api_Type_check_sub_3 a0 a1c0)) (fun a0 a1c0 => cm_app (i := C_check_dicts.k_slices_IndexFunc_api_Type_api_Type_check_sub_3 a0 a1c0)) (fun (g : ∀ i : C_check_dicts, Option i.R) a0 a1c0 => g (.k_slices_ContainsFunc_api_Type_api_Type_check_sub_3 a0 a1c0)) (fun a0 a1c0 => cm_app (i := C_check_dicts.k_slices_ContainsFunc_api_Type_api_Type_check_sub_3 a0 a1c0)) (fun (g : ∀ i : C_check_dicts, Option i.R) a0 a1 => g (.k_check_sub_2 a0 a1)) (fun a0 a1 => cm_app (i := C_check_dicts.k_check_sub_2 a0 a1)) (fun (g : ∀ i : C_check_dicts, Option i.R) a0 a1c0 => g (.k_slices_IndexFunc_api_Type_api_Type_check_sub_2 a0 a1c0)) (fun a0 a1c0 => cm_app (i := C_check_dicts.k_slices_IndexFunc_api_Type_api_Type_check_sub_2 a0 a1c0)) (fun (g : ∀ i : C_check_dicts, Option i.R) a0 a1c0 => g (.k_slices_ContainsFunc_api_Type_api_Type_check_sub_2 a0 a1c0)) (fun a0 a1c0 => cm_app (i := C_check_dicts.k_slices_ContainsFunc_api_Type_api_Type_check_sub_2 a0 a1c0)) (fun (g : ∀ i : C_check_dicts, Option i.R) a0 a1 => g (.k_check_sub a0 a1)) (fun a0 a1 => cm_app (i := C_check_dicts.k_check_sub a0 a1)) a0 a1
 | k_check_sub_3 a0 a1 => exact b_check_sub_3_cm (fun (g : ∀ i : C_check_dicts, Option i.R) a0 a1 => g (.k_check_dicts a0 a1)) (fun a0 a1 => cm_app (i := C_check_dicts.k_check_dicts a0 a1)) (fun (g : ∀ i : C_check_dicts, Option i.R) a0 a1 => g (.k_check_sub_1_1 a0 a1)) (fun a0 a1 => cm_app (i := C_check_dicts.k_check_sub_1_1 a0 a1)) (fun (g : ∀ i : C_check_dicts, Option i.R) a0 a1 => g (.k_check_sub_3 a0 a1)) (fun a0 a1 => cm_app (i := C_check_dicts.k_check_sub_3 a0 a1)) (fun (g : ∀ i : C_check_dicts, Option i.R) a0 a1c0 => g (.k_slices_IndexFunc_api_Type_api_Type_check_sub_3 a0 a1c0)) (fun a0 a1c0 => cm_app (i := C_check_dicts.k_slices_IndexFunc_api_Type_api_Type_check_sub_3 a0 a1c0)) (fun (g : ∀ i : C_check_dicts, Option i.R) a0 a1c0 => g (.k_slices_ContainsFunc_api_Type_api_Type_check_sub_3 a0 a1c0)) (fun a0 a1c0 => cm_app (i := C_check_dicts.k_slices_ContainsFunc_api_Type_api_Type_check_sub_3 a0 a1c0)) (fun (g : ∀ i : C_check_dicts, Option i.R) a0 a1 => g (.k_check_sub_2 a0 a1)) (fun a0 a1 => cm_app (i := C_check_dicts.k_check_sub_2 a0 a1)) (fun (g : ∀ i : C_check_dicts, Option i.R) a0 a1c0 => g (.k_slices_IndexFunc_api_Type_api_Type_check_sub_2 a0 a1c0)) (fun a0 a1c0 => cm_app (i := C_check_dicts.k_slices_IndexFunc_api_Type_api_Type_check_sub_2 a0 a1c0)) (fun (g : ∀ i : C_check_dicts, Option i.R) a0 a1c0 => g (.k_slices_ContainsFunc_api_Type_api_Type_check_sub_2 a0 a1c0)) (fun a0 a1c0 => cm_app (i := C_check_dicts.k_slices_ContainsFunc_api_Type_api_Type_check_sub_2 a0 a1c0)) (fun (g : ∀ i : C_check_dicts, Option i.R) a0 a1 => g (.k_check_sub a0 a1)) (fun a0 a1 => cm_app (i := C_check_dicts.k_check_sub a0 a1)) a0 a1
 | k_slices_IndexFunc_api_Type_api_Type_check_sub_3 a0 a1c0 => exact b_slices_IndexFunc_api_Type_api_Type_check_sub_3_cm (fun (g : ∀ i : C_check_dicts, Option i.R) a0 a1 => g (.k_check_dicts a0 a1)) (fun a0 a1 => cm_app (i := C_check_dicts.k_check_dicts a0 a1)) (fun (g : ∀ i : C_check_dicts, Option i.R) a0 a1 => g (.k_check_sub_1_1 a0 a1)) (fun a0 a1 => cm_app (i := C_check_dicts.k_check_sub_1_1 a0 a1)) (fun (g : ∀ i : C_check_dicts, Option i.R) a0 a1 => g (.k_check_sub_3 a0 a1)) (fun a0 a1 => cm_app (i := C_check_dicts.k_check_sub_3 a0 a1)) (fun (g : ∀ i : C_check_dicts, Option i.R) a0 a1c0 => g (.k_slices_IndexFunc_api_Type_api_Type_check_sub_3 a0 a1c0)) (fun a0 a1c0 => cm_app (i := C_check_dicts.k_slices_IndexFunc_api_Type_api_Type_check_sub_3 a0 a1c0)) (fun (g : ∀ i : C_check_dicts, Option i.R) a0 a1c0 => g (.k_slices_ContainsFunc_api_Type_api_Type_check_sub_3 a0 a1c0)) (fun a0 a1c0 => cm_app (i := C_check_dicts.k_slices_ContainsFunc_api_Type_api_Type_check_sub_3 a0 a1c0)) (fun (g : ∀ i : C_check_dicts, Option i.R) a0 a1 => g (.k_check_sub_2 a0 a1)) (fun a0 a1 => cm_app (i := C_check_dicts.k_check_sub_2 a0 a1)) (fun (g : ∀ i : C_check_dicts, Option i.R) a0 a1c0 => g (.k_slices_IndexFunc_api_Type_api_Type_check_sub_2 a0 a1c0)) (fun a0 a1c0 => cm_app (i := C_check_dicts.k_slices_IndexFunc_api_Type_api_Type_check_sub_2 a0 a1c0)) (fun (g : ∀ i : C_check_dicts, Option i.R) a0 a1c0 => g (.k_slices_ContainsFunc_api_Type_api_Type_check_sub_2 a0 a1c0)) (fun a0 a1c0 => cm_app (i := C_check_dicts.k_slices_ContainsFunc_api_Type_api_Type_check_sub_2 a0 a1c0)) (fun (g : ∀ i : C_check_dicts, Option i.R) a0 a1 => g (.k_check_sub a0 a1)) (fun a0 a1 => cm_app (i := C_check_dicts.k_check_sub a0 a1)) a0 a1c0
 | k_slices_ContainsFunc_api_Type_api_Type_check_sub_3 a0 a1c0 => exact b_slices_ContainsFunc_api_Type_api_Type_check_sub_3_cm (fun (g : ∀ i : C_check_dicts, Option i.R) a0 a1 => g (.k_check_dicts a0 a1)) (fun a0 a1 => cm_app (i := C_check_dicts.k_check_dicts a0 a1)) (fun (g : ∀ i : C_check_dicts, Option i.R) a0 a1 => g (.k_check_sub_1_1 a0 a1)) (fun a0 a1 => cm_app (i := C_check_dicts.k_check_sub_1_1 a0 a1)) (fun (g : ∀ i : C_check_dicts, Option i.R) a0 a1 => g (.k_check_sub_3 a0 a1)) (fun a0 a1 => cm_app (i := C_check_dicts.k_check_sub_3 a0 a1)) (fun (g : ∀ i : C_check_dicts, Option i.R) a0 a1c0 => g (.k_slices_IndexFunc_api_Type_api_Type_check_sub_3 a0 a1c0)) (fun a0 a1c0 => cm_app (i := C_check_dicts.k_slices_IndexFunc_api_Type_api_Type_check_sub_3 a0 a1c0)) (fun (g : ∀ i : C_check_dicts, Option i.R) a0 a1c0 => g (.k_slices_ContainsFunc_api_Type_api_Type_check_sub_3 a0 a1c0)) (fun a0 a1c0 => cm_app (i := C_check_dicts.k_slices_ContainsFunc_api_Type_api_Type_check_sub_3 a0 a1c0)) (fun (g : ∀ i : C_check_dicts, Option i.R) a0 a1 => g (.k_check_sub_2 a0 a1)) (fun a0 a1 => cm_app (i := C_check_dicts.k_check_sub_2 a0 a1)) (fun (g : ∀ i : C_check_dicts, Option i.R) a0 a1c0 => g (.k_slices_IndexFunc_api_Type_api_Type_check_sub_2 a0 a1c0)) (fun a0 a1c0 => cm_app (i := C_check_dicts.k_slices_IndexFunc_api_Type_api_Type_check_sub_2 a0 a1c0)) (fun (g : ∀ i : C_check_dicts, Option i.R) a0 a1c0 => g (.k_slices_ContainsFunc_api_Type_api_Type_check_sub_2 a0 a1c0)) (fun a0 a1c0 => cm_app (i := C_check_dicts.k_slices_ContainsFunc_api_Type_api_Type_check_sub_2 a0 a1c0)) (fun (g : ∀ i : C_check_dicts, Option i.R) a0 a1 => g (.k_check_sub a0 a1)) (fun a0 a1 => cm_app (i := C_check_dicts.k_check_sub a0 a1)) a0 a1c0
 | k_check_sub_2 a0 a1 => exact b_check_sub_2_cm (fun (g : ∀ i : C_check_dicts, Option i.R) a0 a1 => g (.k_check_dicts a0 a1)) (fun a0 a1 => cm_app (i := C_check_dicts.k_check_dicts a0 a1)) (fun (g : ∀ i : C_check_dicts, Option i.R) a0 a1 => g (.k_check_sub_1_1 a0 a1)) (fun a0 a1 => cm_app (i := C_check_dicts.k_check_sub_1_1 a0 a1)) (fun (g : ∀ i : C_check_dicts, Option i.R) a0 a1 => g (.k_check_sub_3 a0 a1)) (fun a0 a1 => cm_app (i := C_check_dicts.k_check_sub_3 a0 a1)) (fun (g : ∀ i : C_check_dicts, Option i.R) a0 a1c0 => g (.k_slices_IndexFunc_api_Type_api_Type_check_sub_3 a0 a1c0)) (fun a0 a1c0 => cm_app (i := C_check_dicts.k_slices_IndexFunc_api_Type_api_Type_check_sub_3 a0 a1c0)) (fun (g : ∀ i : C_check_dicts, Option i.R) a0 a1c0 => g (.k_slices_ContainsFunc_api_Type_api_Type_check_sub_3 a0 a1c0)) (fun a0 a1c0 => cm_app (i := C_check_dicts.k_slices_ContainsFunc_api_Type_api_Type_check_sub_3 a0 a1c0)) (fun (g : ∀ i : C_check_dicts, Option i.R) a0 a1 => g (.k_check_sub_2 a0 a1)) (fun a0 a1 => cm_app (i := C_check_dicts.k_check_sub_2 a0 a1)) (fun (g : ∀ i : C_check_dicts, Option i.R) a0 a1c0 => g (.k_slices_IndexFunc_api_Type_api_Type_check_sub_2 a0 a1c0)) (fun a0 a1c0 => cm_app (i := C_check_dicts.k_slices_IndexFunc_api_Type_api_Type_check_sub_2 a0 a1c0)) (fun (g : ∀ i : C_check_dicts, Option i.R) a0 a1c0 => g (.k_slices_ContainsFunc_api_Type_api_Type_check_sub_2 a0 a1c0)) (fun a0 a1c0 => cm_app (i := C_check_dicts.k_slices_ContainsFunc_api_Type_api_Type_check_sub_2 a0 a1c0)) (fun (g : ∀ i : C_check_dicts, Option i.R) a0 a1 => g (.k_check_sub a0 a1)) (fun a0 a1 => cm_app (i := C_check_dicts.k_check_sub a0 a1)) a0 a1
 | k_slices_IndexFunc_api_Type_api_Type_check_sub_2 a0 a1c0 => exact b_slices_IndexFunc_api_Type_api_Type_check_sub_2_cm (fun (g : ∀ i : C_check_dicts, Option i.R) a0 a1 => g (.k_check_dicts a0 a1)) (fun a0 a1 => cm_app (i := C_check_dicts.k_check_dicts a0 a1)) (fun (g : ∀ i : C_check_dicts, Option i.R) a0 a1 => g (.k_check_sub_1_1 a0 a1)) (fun a0 a1 => cm_app (i := C_check_dicts.k_check_sub_1_1 a0 a1)) (fun (g : ∀ i : C_check_dicts, Option i.R) a0 a1 => g (.k_check_sub_3 a0 a1)) (fun a0 a1 => cm_app (i := C_check_dicts.k_check_sub_3 a0 a1)) (fun (g : ∀ i : C_check_dicts, Option i.R) a0 a1c0 => g (.k_slices_IndexFunc_api_Type_api_Type_check_sub_3 a0 a1c0)) (fun a0 a1c0 => cm_app (i := C_check_dicts.k_slices_IndexFunc_api_Type_api_Type_check_sub_3 a0 a1c0)) (fun (g : ∀ i : C_check_dicts, Option i.R) a0 a1c0 => g (.k_slices_ContainsFunc_api_Type_api_Type_check_sub_3 a0 a1c0)) (fun a0 a1c0 => cm_app (i := C_check_dicts.k_slices_ContainsFunc_api_Type_api_Type_check_sub_3 a0 a1c0)) (fun (g : ∀ i : C_check_dicts, Option i.R) a0 a1 => g (.k_check_sub_2 a0 a1)) (fun a0 a1 => cm_app (i := C_check_dicts.k_check_sub_2 a0 a1)) (fun (g : ∀ i : C_check_dicts, Option i.R) a0 a1c0 => g (.k_slices_IndexFunc_api_Type_api_Type_check_sub_2 a0 a1c0)) (fun a0 a1c0 => cm_app (i := C_check_dicts.k_slices_IndexFunc_api_Type_api_Type_check_sub_2 a0 a1c0)) (fun (g : ∀ i : C_check_dicts, Option i.R) a0 a1c0 => g (.k_slices_ContainsFunc_api_Type_api_Type_check_sub_2 a0 a1c0)) (fun a0 a1c0 => cm_app (i := C_check_dicts.k_slices_ContainsFunc_api_Type_api_Type_check_sub_2 a0 a1c0)) (fun (g : ∀ i : C_check_dicts, Option i.R) a0 a1 => g (.k_check_sub a0 a1)) (fun a0 a1 => cm_app (i := C_check_dicts.k_check_sub a0 a1)) a0 a1c0
 | k_slices_ContainsFunc_api_Type_api_Type_check_sub_2 a0 a1c0 => exact b_slices_ContainsFunc_api_Type_api_Type_check_sub_2_cm (fun (g : ∀ i : C_check_dicts, Option i.R) a0 a1 => g (.k_check_dicts a0 a1)) (fun a0 a1 => cm_app (i := C_check_dicts.k_check_dicts a0 a1)) (fun (g : ∀ i : C_check_dicts, Option i.R) a0 a1 => g (.k_check_sub_1_1 a0 a1)) (fun a0 a1 => cm_app (i := C_check_dicts.k_check_sub_1_1 a0 a1)) (fun (g : ∀ i : C_check_dicts, Option i.R) a0 a1 => g (.k_check_sub_3 a0 a1)) (fun a0 a1 => cm_app (i := C_check_dicts.k_check_sub_3 a0 a1)) (fun (g : ∀ i : C_check_dicts, Option i.R) a0 a1c0 => g (.k_slices_IndexFunc_api_Type_api_Type_check_sub_3 a0 a1c0)) (fun a0 a1c0 => cm_app (i := C_check_dicts.k_slices_IndexFunc_api_Type_api_Type_check_sub_3 a0 a1c0)) (fun (g : ∀ i : C_check_dicts, Option i.R) a0 a1c0 => g (.k_slices_ContainsFunc_api_Type_api_Type_check_sub_3 a0 a1c0)) (fun a0 a1c0 => cm_app (i := C_check_dicts.k_slices_ContainsFunc_api_Type_api_Type_check_sub_3 a0 a1c0)) (fun (g : ∀ i : C_check_dicts, Option i.R) a0 a1 => g (.k_check_sub_2 a0 a1)) (fun a0 a1 => cm_app (i := C_check_dicts.k_check_sub_2 a0 a1)) (fun (g : ∀ i : C_check_dicts, Option i.R) a0 a1c0 => g (.k_slices_IndexFunc_api_Type_api_Type_check_sub_2 a0 a1c0)) (fun a0 a1c0 => cm_app (i := C_check_dicts.k_slices_IndexFunc_api_Type_api_Type_check_sub_2 a0 a1c0)) (fun (g : ∀ i : C_check_dicts, Option i.R) a0 a1c0 => g (.k_slices_ContainsFunc_api_Type_api_Type_check_sub_2 a0 a1c0)) (fun a0 a1c0 => cm_app (i := C_check_dicts.k_slices_ContainsFunc_api_Type_api_Type_check_sub_2 a0 a1c0)) (fun (g : ∀ i : C_check_dicts, Option i.R) a0 a1 => g (.k_check_sub a0 a1)) (fun a0 a1 => cm_app (i := C_check_dicts.k_check_sub a0 a1)) a0 a1c0
 | k_check_sub a0 a1 => exact b_check_sub_cm (fun (g : ∀ i : C_check_dicts, Option i.R) a0 a1 => g (.k_check_dicts a0 a1)) (fun a0 a1 => cm_app (i := C_check_dicts.k_check_dicts a0 a1)) (fun (g : ∀ i : C_check_dicts, Option i.R) a0 a1 => g (.k_check_sub_1_1 a0 a1)) (fun a0 a1 => cm_app (i := C_check_dicts.k_check_sub_1_1 a0 a1)) (fun (g : ∀ i : C_check_dicts, Option i.R) a0 a1 => g (.k_check_sub_3 a0 a1)) (fun a0 a1 => cm_app (i := C_check_dicts.k_check_sub_3 a0 a1)) (fun (g : ∀ i : C_check_dicts, Option i.R) a0 a1c0 => g (.k_slices_IndexFunc_api_Type_api_Type_check_sub_3 a0 a1c0)) (fun a0 a1c0 => cm_app (i := C_check_dicts.k_slices_IndexFunc_api_Type_api_Type_check_sub_3 a0 a1c0)) (fun (g : ∀ i : C_check_dicts, Option i.R) a0 a1c0 => g (.k_slices_ContainsFunc_api_Type_api_Type_check_sub_3 a0 a1c0)) (fun a0 a1c0 => cm_app (i := C_check_dicts.k_slices_ContainsFunc_api_Type_api_Type_check_sub_3 a0 a1c0)) (fun (g : ∀ i : C_check_dicts, Option i.R) a0 a1 => g (.k_check_sub_2 a0 a1)) (fun a0 a1 => cm_app (i := C_check_dicts.k_check_sub_2 a0 a1)) (fun (g : ∀ i : C_check_dicts, Option i.R) a0 a1c0 => g (.k_slices_IndexFunc_api_Type_api_Type_check_sub_2 a0 a1c0)) (fun a0 a1c0 => cm_app (i := C_check_dicts.k_slices_IndexFunc_api_Type_api_Type_check_sub_2 a0 a1c0)) (fun (g : ∀ i : C_check_dicts, Option i.R) a0 a1c0 => g (.k_slices_ContainsFunc_api_Type_api_Type_check_sub_2 a0 a1c0)) (fun a0 a1c0 => cm_app (i := C_check_dicts.k_slices_ContainsFunc_api_Type_api_Type_check_sub_2 a0 a1c0)) (fun (g : ∀ i : C_check_dicts, Option i.R) a0 a1 => g (.k_check_sub a0 a1)) (fun a0 a1 => cm_app (i := C_check_dicts.k_check_sub a0 a1)) a0 a1
theorem e_check_dicts (a0 : Typ) (a1 : Typ) : p_check_dicts a0 a1 = b_check_dicts p_check_dicts p_check_sub_1_1 p_check_sub_3 p_slices_IndexFunc_api_Type_api_Type_check_sub_3 p_slices_ContainsFunc_api_Type_api_Type_check_sub_3 p_check_sub_2 p_slices_IndexFunc_api_Type_api_Type_check_sub_2 p_slices_ContainsFunc_api_Type_api_Type_check_sub_2 p_check_sub a0 a1 := fixO_eq C_check_dicts.cm (.k_check_dicts a0 a1)
theorem e_check_sub_1_1 (a0 : Typ) (a1 : Typ) : p_check_sub_1_1 a0 a1 = b_check_sub_1_1 p_check_dicts p_check_sub_1_1 p_check_sub_3 p_slices_IndexFunc_api_Type_api_Type_check_sub_3 p_slices_ContainsFunc_api_Type_api_Type_check_sub_3 p_check_sub_2 p_slices_IndexFunc_api_Type_api_Type_check_sub_2 p_slices_ContainsFunc_api_Type_api_Type_check_sub_2 p_check_sub a0 a1 := fixO_eq C_check_dicts.cm (.k_check_sub_1_1 a0 a1)
theorem e_check_sub_3 (a0 : Typ) (a1 : Typ) : p_check_sub_3 a0 a1 = b_check_sub_3 p_check_dicts p_check_sub_1_1 p_check_sub_3 p_slices_IndexFunc_api_Type_api_Type_check_sub_3 p_slices_ContainsFunc_api_Type_api_Type_check_sub_3 p_check_sub_2 p_slices_IndexFunc_api_Type_api_Type_check_sub_2 p_slices_ContainsFunc_api_Type_api_Type_check_sub_2 p_check_sub a0 a1 := fixO_eq C_check_dicts.cm (.k_check_sub_3 a0 a1)
theorem e_slices_IndexFunc_api_Type_api_Type_check_sub_3 (a0 : (List Typ)) (a1c0 : Typ) : p_slices_IndexFunc_api_Type_api_Type_check_sub_3 a0 a1c0 = b_slices_IndexFunc_api_Type_api_Type_check_sub_3 p_check_dicts p_check_sub_1_1 p_check_sub_3 p_slices_IndexFunc_api_Type_api_Type_check_sub_3 p_slices_ContainsFunc_api_Type_api_Type_check_sub_3 p_check_sub_2 p_slices_IndexFunc_api_Type_api_Type_check_sub_2 p_slices_ContainsFunc_api_Type_api_Type_check_sub_2 p_check_sub a0 a1c0 := fixO_eq C_check_dicts.cm (.k_slices_IndexFunc_api_Type_api_Type_check_sub_3 a0 a1c0)
theorem e_slices_ContainsFunc_api_Type_api_Type_check_sub_3 (a0 : (List Typ)) (a1c0 : Typ) : p_slices_ContainsFunc_api_Type_api_Type_check_sub_3 a0 a1c0 = b_slices_ContainsFunc_api_Type_api_Type_check_sub_3 p_check_dicts p_check_sub_1_1 p_check_sub_3 p_slices_IndexFunc_api_Type_api_Type_check_sub_3 p_slices_ContainsFunc_api_Type_api_Type_check_sub_3 p_check_sub_2 p_slices_IndexFunc_api_Type_api_Type_check_sub_2 p_slices_ContainsFunc_api_Type_api_Type_check_sub_2 p_check_sub a0 a1c0 := fixO_eq C_check_dicts.cm (.k_slices_ContainsFunc_api_Type_api_Type_check_sub_3 a0 a1c0)
theorem e_check_sub_2 (a0 : Typ) (a1 : Typ) : p_check_sub_2 a0 a1 = b_check_sub_2 p_check_dicts p_check_sub_1_1 p_check_sub_3 p_slices_IndexFunc_api_Type_api_Type_check_sub_3 p_slices_ContainsFunc_api_Type_api_Type_check_sub_3 p_check_sub_2 p_slices_IndexFunc_api_Type_api_Type_check_sub_2 p_slices_ContainsFunc_api_Type_api_Type_check_sub_2 p_check_sub a0 a1 := fixO_eq C_check_dicts.cm (.k_check_sub_2 a0 a1)
theorem e_slices_IndexFunc_api_Type_api_Type_check_sub_2 (a0 : (List Typ)) (a1c0 : Typ) : p_slices_IndexFunc_api_Type_api_Type_check_sub_2 a0 a1c0 = b_slices_IndexFunc_api_Type_api_Type_check_sub_2 p_check_dicts p_check_sub_1_1 p_check_sub_3 p_slices_IndexFunc_api_Type_api_Type_check_sub_3 p_slices_ContainsFunc_api_Type_api_Type_check_sub_3 p_check_sub_2 p_slices_IndexFunc_api_Type_api_Type_check_sub_2 p_slices_ContainsFunc_api_Type_api_Type_check_sub_2 p_check_sub a0 a1c0 := fixO_eq C_check_dicts.cm (.k_slices_IndexFunc_api_Type_api_Type_check_sub_2 a0 a1c0)
theorem e_slices_ContainsFunc_api_Type_api_Type_check_sub_2 (a0 : (List Typ)) (a1c0 : Typ) : p_slices_ContainsFunc_api_Type_api_Type_check_sub_2 a0 a1c0 = b_slices_ContainsFunc_api_Type_api_Type_check_sub_2 p_check_dicts p_check_sub_1_1 p_check_sub_3 p_slices_IndexFunc_api_Type_api_Type_check_sub_3 p_slices_ContainsFunc_api_Type_api_Type_check_sub_3 p_check_sub_2 p_slices_IndexFunc_api_Type_api_Type_check_sub_2 p_slices_ContainsFunc_api_Type_api_Type_check_sub_2 p_check_sub a0 a1c0 := fixO_eq C_check_dicts.cm (.k_slices_ContainsFunc_api_Type_api_Type_check_sub_2 a0 a1c0)
theorem e_check_sub (a0 : Typ) (a1 : Typ) : p_check_sub a0 a1 = b_check_sub p_check_dicts p_check_sub_1_1 p_check_sub_3 p_slices_IndexFunc_api_Type_api_Type_check_sub_3 p_slices_ContainsFunc_api_Type_api_Type_check_sub_3 p_check_sub_2 p_slices_IndexFunc_api_Type_api_Type_check_sub_2 p_slices_ContainsFunc_api_Type_api_Type_check_sub_2 p_check_sub a0 a1 := fixO_eq C_check_dicts.cm (.k_check_sub a0 a1)
def C_check_dicts.Q : ∀ i : C_check_dicts, i.R → Prop
 | .k_check_dicts a0 a1 => fun (r : Bool) => PCalls Try.prog 66 [(ofTypX a0), (ofTypX a1)] (BO r)
 | .k_check_sub_1_1 a0 a1 => fun (r : Bool) => PCalls Try.prog 62 [(ofTypX a0), (PV.pt (ofTypX a1) 0)] (BO r)
 | .k_check_sub_3 a0 a1 => fun (r : Bool) => PCalls Try.prog 65 [(ofTypX a0), (PV.pt (ofTypX a1) 0)] (BO r)
 | .k_slices_IndexFunc_api_Type_api_Type_check_sub_3 a0 a1c0 => fun (r : Int) => PCalls Try.prog 93 [(PV.sl none 18 (List.map ofTyp a0)), (PV.fn (.func 65) [] [(PV.pt (ofTypX a1c0) 0)])] (I64 r)
 | .k_slices_ContainsFunc_api_Type_api_Type_check_sub_3 a0 a1c0 => fun (r : Bool) => PCalls Try.prog 63 [(PV.sl none 18 (List.map ofTyp a0)), (PV.fn (.func 65) [] [(PV.pt (ofTypX a1c0) 0)])] (BO r)
 | .k_check_sub_2 a0 a1 => fun (r : Bool) => PCalls Try.prog 64 [(ofTypX a0), (PV.pt (ofTypX a1) 0)] (BO r)
 | .k_slices_IndexFunc_api_Type_api_Type_check_sub_2 a0 a1c0 => fun (r : Int) => PCalls Try.prog 93 [(PV.sl none 18 (List.map ofTyp a0)), (PV.fn (.func 64) [] [(PV.pt (ofTypX a1c0) 0)])] (I64 r)
 | .k_slices_ContainsFunc_api_Type_api_Type_check_sub_2 a0 a1c0 => fun (r : Bool) => PCalls Try.prog 63 [(PV.sl none 18 (List.map ofTyp a0)), (PV.fn (.func 64) [] [(PV.pt (ofTypX a1c0) 0)])] (BO r)
 | .k_check_sub a0 a1 => fun (r : Bool) => PCalls Try.prog 35 [(ofTypX a0), (ofTypX a1)] (BO r)
theorem t_check_dicts (r_check_dicts : Typ → Typ → Option Bool) (c_check_dicts : ∀ (a0 : Typ) (a1 : Typ) r, r_check_dicts a0 a1 = some r → PCalls Try.prog 66 [(ofTypX a0), (ofTypX a1)] (BO r)) (r_check_sub_1_1 : Typ → Typ → Option Bool) (c_check_sub_1_1 : ∀ (a0 : Typ) (a1 : Typ) r, r_check_sub_1_1 a0 a1 = some r → PCalls Try.prog 62 [(ofTypX a0), (PV.pt (ofTypX a1) 0)] (BO r)) (r_check_sub_3 : Typ → Typ → Option Bool) (c_check_sub_3 : ∀ (a0 : Typ) (a1 : Typ) r, r_check_sub_3 a0 a1 = some r → PCalls Try.prog 65 [(ofTypX a0), (PV.pt (ofTypX a1) 0)] (BO r)) (r_slices_IndexFunc_api_Type_api_Type_check_sub_3 : (List Typ) → Typ → Option Int) (c_slices_IndexFunc_api_Type_api_Type_check_sub_3 : ∀ (a0 : (List Typ)) (a1c0 : Typ) r, r_slices_IndexFunc_api_Type_api_Type_check_sub_3 a0 a1c0 = some r → PCalls Try.prog 93 [(PV.sl none 18 (List.map ofTyp a0)), (PV.fn (.func 65) [] [(PV.pt (ofTypX a1c0) 0)])] (I64 r)) (r_slices_ContainsFunc_api_Type_api_Type_check_sub_3 : (List Typ) → Typ → Option Bool) (c_slices_ContainsFunc_api_Type_api_Type_check_sub_3 : ∀ (a0 : (List Typ)) (a1c0 : Typ) r, r_slices_ContainsFunc_api_Type_api_Type_check_sub_3 a0 a1c0 = some r → PCalls Try.prog 63 [(PV.sl none 18 (List.map ofTyp a0)), (PV.fn (.func 65) [] [(PV.pt (ofTypX a1c0) 0)])] (BO r)) (r_check_sub_2 : Typ → Typ → Option Bool) (c_check_sub_2 : ∀ (a0 : Typ) (a1 : Typ) r, r_check_sub_2 a0 a1 = some r → PCalls Try.prog 64 [(ofTypX a0), (PV.pt (ofTypX a1) 0)] (BO r)) (r_slices_IndexFunc_api_Type_api_Type_check_sub_2 : (List Typ) → Typ → Option Int) (c_slices_IndexFunc_api_Type_api_Type_check_sub_2 : ∀ (a0 : (List Typ)) (a1c0 : Typ) r, r_slices_IndexFunc_api_Type_api_Type_check_sub_2 a0 a1c0 = some r → PCalls Try.prog 93 [(PV.sl none 18 (List.map ofTyp a0)), (PV.fn (.func 64) [] [(PV.pt (ofTypX a1c0) 0)])] (I64 r)) (r_slices_ContainsFunc_api_Type_api_Type_check_sub_2 : (List Typ) → Typ → Option Bool) (c_slices_ContainsFunc_api_Type_api_Type_check_sub_2 : ∀ (a0 : (List Typ)) (a1c0 : Typ) r, r_slices_ContainsFunc_api_Type_api_Type_check_sub_2 a0 a1c0 = some r → PCalls Try.prog 63 [(PV.sl none 18 (List.map ofTyp a0)), (PV.fn (.func 64) [] [(PV.pt (ofTypX a1c0) 0)])] (BO r)) (r_check_sub : Typ → Typ → Option Bool) (c_check_sub : ∀ (a0 : Typ) (a1 : Typ) r, r_check_sub a0 a1 = some r → PCalls Try.prog 35 [(ofTypX a0), (ofTypX a1)] (BO r)) (a0 : Typ) (a1 : Typ) (r : Bool) (h : b_check_dicts r_check_dicts r_check_sub_1_1 r_check_sub_3 r_slices_IndexFunc_api_Type_api_Type_check_sub_3 r_slices_ContainsFunc_api_Type_api_Type_check_sub_3 r_check_sub_2 r_slices_IndexFunc_api_Type_api_Type_check_sub_2 r_slices_ContainsFunc_api_Type_api_Type_check_sub_2 r_check_sub a0 a1 = some r) : PCalls Try.prog 66 [(ofTypX a0), (ofTypX a1)] (BO r) := by
 unfold b_check_dicts at h
 refine acalls_of Try.func66 rfl Try.ntmps66 Try.results66 rfl (aw_of_bw ?_)
 change BW _ _ _ ⟨[(0, (ofTypX a0)), (1, (ofTypX a1))], [], _⟩ _
 refine bR ?_
 refine sS rfl rfl rfl (op1_box rfl rfl rfl) ?_
 refine sS rfl rfl rfl (op1_box rfl rfl rfl) ?_
 refine sA rfl rfl rfl rfl rfl (ao_nil ?_)
 change BW _ _ _ _ _
 refine bw_seqJ (ι := Unit) (fun i => check_dicts_j1 r_check_sub a0 a1 = some r) (fun i => [(2, (PV.rf 0 0)), (3, (PV.pt (ofTypX a1) 0))]) (fun i => [.box 34 [(I64 a0.kind), (I64 a0.of), (I64 ((a0.only).kind)), (BO ((a0.only).bool)), (I64 ((a0.only).int)), (PV.v (.float .f64 (a0.only).float)), (ofStr (a0.only).text), (PV.sl none 1 (List.map ofB (a0.only).bytes)), (PV.v (.int .u64 (a0.only).ref)), (PV.sl none 11 (List.map ofTerm (a0.only).list)), (PV.sl none 12 (List.map ofEntry (a0.only).fields)), (ofStr (a0.only).cls), (I64 ((a0.only).ver)), (PV.sl none 18 (List.map ofTyp a0.parts)), (PV.sl none 1 (List.map ofStr a0.names)), (PV.sl none 1 (List.map ofBool a0.lacks)), (BO a0.opn), (ofStr a0.cls)]]) ?_ ?_ ?_
 ·intro i; exact ⟨Nat.le_of_ble_eq_true rfl, ⟨(il_rf rfl), ⟨(il_nil (ids_TypX _)), trivial⟩⟩, ⟨⟨(il_nil rfl), ⟨(il_nil rfl), ⟨(il_nil rfl), ⟨(il_nil rfl), ⟨(il_nil rfl), ⟨(il_nil rfl), ⟨(il_nil rfl), ⟨(il_nil (ids_slM (fun _ => rfl) _)), ⟨(il_nil rfl), ⟨(il_nil (ids_slM ids_Term _)), ⟨(il_nil (ids_slM ids_Entry _)), ⟨(il_nil rfl), ⟨(il_nil rfl), ⟨(il_nil (ids_slM ids_Typ _)), ⟨(il_nil (ids_slM (fun _ => rfl) _)), ⟨(il_nil (ids_slM (fun _ => rfl) _)), ⟨(il_nil rfl), ⟨(il_nil rfl), trivial⟩⟩⟩⟩⟩⟩⟩⟩⟩⟩⟩⟩⟩⟩⟩⟩⟩⟩, trivial⟩⟩
 ·rintro ⟨⟩ h; replace h : check_dicts_j1 r_check_sub a0 a1 = some r := h; unfold check_dicts_j1 at h
  change BW _ _ _ ⟨[(2, (PV.rf 0 0)), (3, (PV.pt (ofTypX a1) 0))], [.box 34 [(I64 a0.kind), (I64 a0.of), (I64 ((a0.only).kind)), (BO ((a0.only).bool)), (I64 ((a0.only).int)), (PV.v (.float .f64 (a0.only).float)), (ofStr (a0.only).text), (PV.sl none 1 (List.map ofB (a0.only).bytes)), (PV.v (.int .u64 (a0.only).ref)), (PV.sl none 11 (List.map ofTerm (a0.only).list)), (PV.sl none 12 (List.map ofEntry (a0.only).fields)), (ofStr (a0.only).cls), (I64 ((a0.only).ver)), (PV.sl none 18 (List.map ofTyp a0.parts)), (PV.sl none 1 (List.map ofStr a0.names)), (PV.sl none 1 (List.map ofBool a0.lacks)), (BO a0.opn), (ofStr a0.cls)]], _⟩ _
  refine bw_seq ?_
  refine bR ?_
  refine sS rfl rfl rfl (op1_faP st_34 (i := 4) rfl rfl rfl) ?_
  refine sS rfl rfl rfl (op1_ldP (y := (PV.sl none 1 (List.map ofStr a1.names))) Try.underlying31 rfl rfl rfl rfl) ?_
  refine sS rfl rfl rfl (op1_lenM Try.underlying31 rfl rfl) ?_
  refine sM rfl rfl rfl rfl rfl (ao_nil ?_)
  change BW _ _ _ _ _
  refine bw_block ?_
  change BW _ _ _ _ _
  unfold check_dicts_l1 at h
  refine bw_loop (σ := Nat) (fun i => [(2, (PV.rf 0 0)), (3, (PV.pt (ofTypX a1) 0)), (20, (PV.sl none 1 (List.map ofStr a1.names))), (21, (I64 ((((a1.names).length : Nat) : Int)))), (22, (I64 (((i : Nat) : Int))))]) (fun i => [.box 34 [(I64 a0.kind), (I64 a0.of), (I64 ((a0.only).kind)), (BO ((a0.only).bool)), (I64 ((a0.only).int)), (PV.v (.float .f64 (a0.only).float)), (ofStr (a0.only).text), (PV.sl none 1 (List.map ofB (a0.only).bytes)), (PV.v (.int .u64 (a0.only).ref)), (PV.sl none 11 (List.map ofTerm (a0.only).list)), (PV.sl none 12 (List.map ofEntry (a0.only).fields)), (ofStr (a0.only).cls), (I64 ((a0.only).ver)), (PV.sl none 18 (List.map ofTyp a0.parts)), (PV.sl none 1 (List.map ofStr a0.names)), (PV.sl none 1 (List.map ofBool a0.lacks)), (BO a0.opn), (ofStr a0.cls)]]) 0 h ?_ ?_ ?_
  ·intro i; exact ⟨Nat.le_of_ble_eq_true rfl, ⟨(il_rf rfl), ⟨(il_nil (ids_TypX _)), ⟨(il_nil (ids_slM (fun _ => rfl) _)), ⟨(il_nil rfl), ⟨(il_nil rfl), trivial⟩⟩⟩⟩⟩, ⟨⟨(il_nil rfl), ⟨(il_nil rfl), ⟨(il_nil rfl), ⟨(il_nil rfl), ⟨(il_nil rfl), ⟨(il_nil rfl), ⟨(il_nil rfl), ⟨(il_nil (ids_slM (fun _ => rfl) _)), ⟨(il_nil rfl), ⟨(il_nil (ids_slM ids_Term _)), ⟨(il_nil (ids_slM ids_Entry _)), ⟨(il_nil rfl), ⟨(il_nil rfl), ⟨(il_nil (ids_slM ids_Typ _)), ⟨(il_nil (ids_slM (fun _ => rfl) _)), ⟨(il_nil (ids_slM (fun _ => rfl) _)), ⟨(il_nil rfl), ⟨(il_nil rfl), trivial⟩⟩⟩⟩⟩⟩⟩⟩⟩⟩⟩⟩⟩⟩⟩⟩⟩⟩, trivial⟩⟩
  ·exact ⟨(.cons .same .nil), (sC rfl (sC rfl (sC rfl (sC rfl (sC rfl sub_nil)))))⟩
  ·rintro g1_f s1 h; replace h : check_dicts_l1b r_check_sub a0 a1 (fun y0 => g1_f y0) s1 = some r := h; unfold check_dicts_l1b at h
   change BW _ _ _ ⟨[(2, (PV.rf 0 0)), (3, (PV.pt (ofTypX a1) 0)), (20, (PV.sl none 1 (List.map ofStr a1.names))), (21, (I64 ((((a1.names).length : Nat) : Int)))), (22, (I64 (((s1 : Nat) : Int))))], [.box 34 [(I64 a0.kind), (I64 a0.of), (I64 ((a0.only).kind)), (BO ((a0.only).bool)), (I64 ((a0.only).int)), (PV.v (.float .f64 (a0.only).float)), (ofStr (a0.only).text), (PV.sl none 1 (List.map ofB (a0.only).bytes)), (PV.v (.int .u64 (a0.only).ref)), (PV.sl none 11 (List.map ofTerm (a0.only).list)), (PV.sl none 12 (List.map ofEntry (a0.only).fields)), (ofStr (a0.only).cls), (I64 ((a0.only).ver)), (PV.sl none 18 (List.map ofTyp a0.parts)), (PV.sl none 1 (List.map ofStr a0.names)), (PV.sl none 1 (List.map ofBool a0.lacks)), (BO a0.opn), (ofStr a0.cls)]], _⟩ _
   refine bR ?_
   refine sS rfl rfl rfl ((op1_cmp rfl rfl rfl rfl).cast (y := (BO ((decide (((s1 : Nat) : Int) < (((a1.names).length : Nat) : Int)))))) rfl rfl) (ao_nil ?_)
   change BW _ _ _ _ _
   refine bw_seq ?_
   refine bw_len (t := 20) rfl fun hb3 => ?_
   try rw [List.length_map] at hb3
   refine bw_cond rfl ?_ ?_
   ·intro hc2; replace h := ocond_t hc2 h
    have hc2_ := of_decide_eq_true hc2
    refine bw_skip ?_
    change BW _ _ _ _ _
    refine bw_seqJ (ι := Unit) (fun i => check_dicts_j2 (fun y0 => g1_f y0) s1 = some r) (fun i => [(2, (PV.rf 0 0)), (3, (PV.pt (ofTypX a1) 0)), (20, (PV.sl none 1 (List.map ofStr a1.names))), (21, (I64 ((((a1.names).length : Nat) : Int)))), (22, (I64 (((s1 : Nat) : Int))))]) (fun i => [.box 34 [(I64 a0.kind), (I64 a0.of), (I64 ((a0.only).kind)), (BO ((a0.only).bool)), (I64 ((a0.only).int)), (PV.v (.float .f64 (a0.only).float)), (ofStr (a0.only).text), (PV.sl none 1 (List.map ofB (a0.only).bytes)), (PV.v (.int .u64 (a0.only).ref)), (PV.sl none 11 (List.map ofTerm (a0.only).list)), (PV.sl none 12 (List.map ofEntry (a0.only).fields)), (ofStr (a0.only).cls), (I64 ((a0.only).ver)), (PV.sl none 18 (List.map ofTyp a0.parts)), (PV.sl none 1 (List.map ofStr a0.names)), (PV.sl none 1 (List.map ofBool a0.lacks)), (BO a0.opn), (ofStr a0.cls)]]) ?_ ?_ ?_
    ·intro i; exact ⟨Nat.le_of_ble_eq_true rfl, ⟨(il_rf rfl), ⟨(il_nil (ids_TypX _)), ⟨(il_nil (ids_slM (fun _ => rfl) _)), ⟨(il_nil rfl), ⟨(il_nil rfl), trivial⟩⟩⟩⟩⟩, ⟨⟨(il_nil rfl), ⟨(il_nil rfl), ⟨(il_nil rfl), ⟨(il_nil rfl), ⟨(il_nil rfl), ⟨(il_nil rfl), ⟨(il_nil rfl), ⟨(il_nil (ids_slM (fun _ => rfl) _)), ⟨(il_nil rfl), ⟨(il_nil (ids_slM ids_Term _)), ⟨(il_nil (ids_slM ids_Entry _)), ⟨(il_nil rfl), ⟨(il_nil rfl), ⟨(il_nil (ids_slM ids_Typ _)), ⟨(il_nil (ids_slM (fun _ => rfl) _)), ⟨(il_nil (ids_slM (fun _ => rfl) _)), ⟨(il_nil rfl), ⟨(il_nil rfl), trivial⟩⟩⟩⟩⟩⟩⟩⟩⟩⟩⟩⟩⟩⟩⟩⟩⟩⟩, trivial⟩⟩
    ·rintro ⟨⟩ h; replace h : check_dicts_j2 (fun y0 => g1_f y0) s1 = some r := h; unfold check_dicts_j2 at h
     change BW _ _ _ ⟨[(2, (PV.rf 0 0)), (3, (PV.pt (ofTypX a1) 0)), (20, (PV.sl none 1 (List.map ofStr a1.names))), (21, (I64 ((((a1.names).length : Nat) : Int)))), (22, (I64 (((s1 : Nat) : Int))))], [.box 34 [(I64 a0.kind), (I64 a0.of), (I64 ((a0.only).kind)), (BO ((a0.only).bool)), (I64 ((a0.only).int)), (PV.v (.float .f64 (a0.only).float)), (ofStr (a0.only).text), (PV.sl none 1 (List.map ofB (a0.only).bytes)), (PV.v (.int .u64 (a0.only).ref)), (PV.sl none 11 (List.map ofTerm (a0.only).list)), (PV.sl none 12 (List.map ofEntry (a0.only).fields)), (ofStr (a0.only).cls), (I64 ((a0.only).ver)), (PV.sl none 18 (List.map ofTyp a0.parts)), (PV.sl none 1 (List.map ofStr a0.names)), (PV.sl none 1 (List.map ofBool a0.lacks)), (BO a0.opn), (ofStr a0.cls)]], _⟩ _
     refine bw_region ?_
     refine sS rfl rfl rfl (op1_incN (k := s1) (c := 1) rfl rfl rfl (by omega)) ?_
     refine sM rfl rfl rfl rfl rfl (ao_nil ?_)
     exact ⟨rfl, (s1 + 1), h, ⟨(.cons .same .nil), (sC rfl (sC rfl (sC rfl (sC rfl (sC rfl sub_nil)))))⟩⟩
    ·refine bw_block ?_
     change BW _ _ _ _ _
     refine bR ?_
     refine sM rfl rfl rfl rfl rfl ?_
     obtain ⟨x4, hx4, h⟩ := obind h
     refine sS rfl rfl rfl (op1_idxN (i := s1) Try.underlying31 inf_9 rfl rfl rfl hx4 rfl) ?_
     refine sS rfl rfl rfl (op1_ldP (y := (ofStr x4)) Try.underlying9 rfl rfl rfl rfl) ?_
     refine sA rfl rfl rfl rfl rfl ?_
     refine sA rfl rfl rfl rfl rfl (ao_nil ?_)
     change BW _ _ _ _ _
     refine bR ?_
     refine sS rfl rfl rfl (op1_faR st_34 (i := 4) rfl rfl rfl) ?_
     refine sS rfl rfl rfl ((op1_ldR Try.underlying31 rfl rfl rfl rfl rfl)) ?_
     refine sM rfl rfl rfl rfl rfl ?_
     obtain ⟨x5, hx5, h⟩ := obind h
     refine sS rfl rfl rfl (op1_pcall rfl en_97 rfl (.cons (Wk.refl _) (.cons (Wk.refl _) .nil)) ⟨(ids_slM (fun _ => rfl) a0.names), ⟨rfl, trivial⟩⟩ (s_slices_Index_string_string a0.names x4 x5 hx5) rfl) ?_
     refine sA rfl rfl rfl rfl rfl (ao_nil ?_)
     change BW _ _ _ _ _
     refine bw_seq ?_
     refine bR ?_
     refine sM rfl rfl rfl rfl rfl ?_
     refine sS rfl rfl rfl ((op1_cmp rfl rfl rfl rfl).cast (y := (BO ((decide (x5 < 0))))) rfl rfl) (ao_nil ?_)
     change BW _ _ _ _ _
     refine bw_cond rfl ?_ ?_
     ·intro hc6; replace h := ocond_t hc6 h
      refine bw_seq ?_
      refine bw_seqJ (ι := Bool) (fun i => check_dicts_j3 (fun y0 => g1_f y0) s1 i = some r) (fun i => [(2, (PV.rf 0 0)), (3, (PV.pt (ofTypX a1) 0)), (20, (PV.sl none 1 (List.map ofStr a1.names))), (21, (I64 ((((a1.names).length : Nat) : Int)))), (22, (I64 (((s1 : Nat) : Int)))), (42, (BO i))]) (fun i => [.box 34 [(I64 a0.kind), (I64 a0.of), (I64 ((a0.only).kind)), (BO ((a0.only).bool)), (I64 ((a0.only).int)), (PV.v (.float .f64 (a0.only).float)), (ofStr (a0.only).text), (PV.sl none 1 (List.map ofB (a0.only).bytes)), (PV.v (.int .u64 (a0.only).ref)), (PV.sl none 11 (List.map ofTerm (a0.only).list)), (PV.sl none 12 (List.map ofEntry (a0.only).fields)), (ofStr (a0.only).cls), (I64 ((a0.only).ver)), (PV.sl none 18 (List.map ofTyp a0.parts)), (PV.sl none 1 (List.map ofStr a0.names)), (PV.sl none 1 (List.map ofBool a0.lacks)), (BO a0.opn), (ofStr a0.cls)]]) ?_ ?_ ?_
      ·intro i; exact ⟨Nat.le_of_ble_eq_true rfl, ⟨(il_rf rfl), ⟨(il_nil (ids_TypX _)), ⟨(il_nil (ids_slM (fun _ => rfl) _)), ⟨(il_nil rfl), ⟨(il_nil rfl), ⟨(il_nil rfl), trivial⟩⟩⟩⟩⟩⟩, ⟨⟨(il_nil rfl), ⟨(il_nil rfl), ⟨(il_nil rfl), ⟨(il_nil rfl), ⟨(il_nil rfl), ⟨(il_nil rfl), ⟨(il_nil rfl), ⟨(il_nil (ids_slM (fun _ => rfl) _)), ⟨(il_nil rfl), ⟨(il_nil (ids_slM ids_Term _)), ⟨(il_nil (ids_slM ids_Entry _)), ⟨(il_nil rfl), ⟨(il_nil rfl), ⟨(il_nil (ids_slM ids_Typ _)), ⟨(il_nil (ids_slM (fun _ => rfl) _)), ⟨(il_nil (ids_slM (fun _ => rfl) _)), ⟨(il_nil rfl), ⟨(il_nil rfl), trivial⟩⟩⟩⟩⟩⟩⟩⟩⟩⟩⟩⟩⟩⟩⟩⟩⟩⟩, trivial⟩⟩
      ·rintro s7 h; replace h : check_dicts_j3 (fun y0 => g1_f y0) s1 s7 = some r := h; unfold check_dicts_j3 at h
       change BW _ _ _ ⟨[(2, (PV.rf 0 0)), (3, (PV.pt (ofTypX a1) 0)), (20, (PV.sl none 1 (List.map ofStr a1.names))), (21, (I64 ((((a1.names).length : Nat) : Int)))), (22, (I64 (((s1 : Nat) : Int)))), (42, (BO s7))], [.box 34 [(I64 a0.kind), (I64 a0.of), (I64 ((a0.only).kind)), (BO ((a0.only).bool)), (I64 ((a0.only).int)), (PV.v (.float .f64 (a0.only).float)), (ofStr (a0.only).text), (PV.sl none 1 (List.map ofB (a0.only).bytes)), (PV.v (.int .u64 (a0.only).ref)), (PV.sl none 11 (List.map ofTerm (a0.only).list)), (PV.sl none 12 (List.map ofEntry (a0.only).fields)), (ofStr (a0.only).cls), (I64 ((a0.only).ver)), (PV.sl none 18 (List.map ofTyp a0.parts)), (PV.sl none 1 (List.map ofStr a0.names)), (PV.sl none 1 (List.map ofBool a0.lacks)), (BO a0.opn), (ofStr a0.cls)]], _⟩ _
       refine bw_cond rfl ?_ ?_
       ·intro hc8; replace h := ocond_t hc8 h
        refine bR ?_
        refine sA rfl rfl rfl rfl rfl (ao_nil ?_)
        change BW _ _ _ _ _
        refine bw_ret ?_
        change ∃ xs, _ = some xs ∧ EndOk _ _ _ _
        obtain rfl := Option.some.inj h
        exact ⟨_, rfl, endOk0 (y := (BO false)) (Wk.refl _) rfl ⟨rfl, rfl⟩⟩
       ·intro hc8; replace h := ocond_f hc8 h
        refine bw_skip ?_
        change BW _ _ _ _ _
        refine bw_exit ?_
        exact ⟨rfl, (), h, ⟨(.cons .same .nil), (sC rfl (sC rfl (sC rfl (sC rfl (sC rfl sub_nil)))))⟩⟩
      ·refine bw_region ?_
       refine sS rfl rfl rfl (op1_faP st_34 (i := 5) rfl rfl rfl) ?_
       refine sS rfl rfl rfl (op1_ldP (y := (PV.sl none 1 (List.map ofBool a1.lacks))) Try.underlying32 rfl rfl rfl rfl) ?_
       refine sM rfl rfl rfl rfl rfl ?_
       obtain ⟨x9, hx9, h⟩ := obind h
       refine sS rfl rfl rfl (op1_idxN (i := s1) Try.underlying32 inf_4 rfl rfl rfl hx9 rfl) ?_
       refine sS rfl rfl rfl (op1_ldP (y := (BO x9)) Try.underlying4 rfl rfl rfl rfl) ?_
       refine sS rfl rfl rfl (op1_not rfl rfl) ?_
       refine sM rfl rfl rfl rfl rfl ?_
       refine ao_cases (t := 39) rfl ?_ ?_
       ·intro hb10; replace h := ocond_t hb10 h
        refine ao_no rfl rfl rfl rfl rfl rfl ?_
        refine ao_no rfl rfl rfl rfl rfl rfl ?_
        refine sS rfl rfl rfl (op1_pickT rfl rfl rfl) (ao_nil ?_)
        exact ⟨rfl, true, h, ⟨(.cons .same .nil), (sC rfl (sC rfl (sC rfl (sC rfl (sC rfl (sC rfl sub_nil))))))⟩⟩
       ·intro hb10; replace h := ocond_f hb10 h
        refine ao_yes rfl rfl rfl rfl rfl rfl (op1_faR st_34 (i := 6) rfl rfl rfl) ?_
        refine ao_yes rfl rfl rfl rfl rfl rfl ((op1_ldR Try.underlying4 rfl rfl rfl rfl rfl)) ?_
        refine sS rfl rfl rfl (op1_pickF rfl rfl rfl) (ao_nil ?_)
        exact ⟨rfl, a0.opn, h, ⟨(.cons .same .nil), (sC rfl (sC rfl (sC rfl (sC rfl (sC rfl (sC rfl sub_nil))))))⟩⟩
     ·intro hc6; replace h := ocond_f hc6 h
      refine bw_skip ?_
      change BW _ _ _ _ _
      refine bw_seqJ (ι := Bool) (fun i => check_dicts_j4 (fun y0 => g1_f y0) s1 i = some r) (fun i => [(2, (PV.rf 0 0)), (3, (PV.pt (ofTypX a1) 0)), (20, (PV.sl none 1 (List.map ofStr a1.names))), (21, (I64 ((((a1.names).length : Nat) : Int)))), (22, (I64 (((s1 : Nat) : Int)))), (69, (BO i))]) (fun i => [.box 34 [(I64 a0.kind), (I64 a0.of), (I64 ((a0.only).kind)), (BO ((a0.only).bool)), (I64 ((a0.only).int)), (PV.v (.float .f64 (a0.only).float)), (ofStr (a0.only).text), (PV.sl none 1 (List.map ofB (a0.only).bytes)), (PV.v (.int .u64 (a0.only).ref)), (PV.sl none 11 (List.map ofTerm (a0.only).list)), (PV.sl none 12 (List.map ofEntry (a0.only).fields)), (ofStr (a0.only).cls), (I64 ((a0.only).ver)), (PV.sl none 18 (List.map ofTyp a0.parts)), (PV.sl none 1 (List.map ofStr a0.names)), (PV.sl none 1 (List.map ofBool a0.lacks)), (BO a0.opn), (ofStr a0.cls)]]) ?_ ?_ ?_
      ·intro i; exact ⟨Nat.le_of_ble_eq_true rfl, ⟨(il_rf rfl), ⟨(il_nil (ids_TypX _)), ⟨(il_nil (ids_slM (fun _ => rfl) _)), ⟨(il_nil rfl), ⟨(il_nil rfl), ⟨(il_nil rfl), trivial⟩⟩⟩⟩⟩⟩, ⟨⟨(il_nil rfl), ⟨(il_nil rfl), ⟨(il_nil rfl), ⟨(il_nil rfl), ⟨(il_nil rfl), ⟨(il_nil rfl), ⟨(il_nil rfl), ⟨(il_nil (ids_slM (fun _ => rfl) _)), ⟨(il_nil rfl), ⟨(il_nil (ids_slM ids_Term _)), ⟨(il_nil (ids_slM ids_Entry _)), ⟨(il_nil rfl), ⟨(il_nil rfl), ⟨(il_nil (ids_slM ids_Typ _)), ⟨(il_nil (ids_slM (fun _ => rfl) _)), ⟨(il_nil (ids_slM (fun _ => rfl) _)), ⟨(il_nil rfl), ⟨(il_nil rfl), trivial⟩⟩⟩⟩⟩⟩⟩⟩⟩⟩⟩⟩⟩⟩⟩⟩⟩⟩, trivial⟩⟩
      ·rintro s11 h; replace h : check_dicts_j4 (fun y0 => g1_f y0) s1 s11 = some r := h; unfold check_dicts_j4 at h
       change BW _ _ _ ⟨[(2, (PV.rf 0 0)), (3, (PV.pt (ofTypX a1) 0)), (20, (PV.sl none 1 (List.map ofStr a1.names))), (21, (I64 ((((a1.names).length : Nat) : Int)))), (22, (I64 (((s1 : Nat) : Int)))), (69, (BO s11))], [.box 34 [(I64 a0.kind), (I64 a0.of), (I64 ((a0.only).kind)), (BO ((a0.only).bool)), (I64 ((a0.only).int)), (PV.v (.float .f64 (a0.only).float)), (ofStr (a0.only).text), (PV.sl none 1 (List.map ofB (a0.only).bytes)), (PV.v (.int .u64 (a0.only).ref)), (PV.sl none 11 (List.map ofTerm (a0.only).list)), (PV.sl none 12 (List.map ofEntry (a0.only).fields)), (ofStr (a0.only).cls), (I64 ((a0.only).ver)), (PV.sl none 18 (List.map ofTyp a0.parts)), (PV.sl none 1 (List.map ofStr a0.names)), (PV.sl none 1 (List.map ofBool a0.lacks)), (BO a0.opn), (ofStr a0.cls)]], _⟩ _
       refine bw_cond rfl ?_ ?_
       ·intro hc12; replace h := ocond_t hc12 h
        refine bR ?_
        refine sA rfl rfl rfl rfl rfl (ao_nil ?_)
        change BW _ _ _ _ _
        refine bw_ret ?_
        change ∃ xs, _ = some xs ∧ EndOk _ _ _ _
        obtain rfl := Option.some.inj h
        exact ⟨_, rfl, endOk0 (y := (BO false)) (Wk.refl _) rfl ⟨rfl, rfl⟩⟩
       ·intro hc12; replace h := ocond_f hc12 h
        refine bw_skip ?_
        exact ⟨rfl, (), h, ⟨(.cons .same .nil), (sC rfl (sC rfl (sC rfl (sC rfl (sC rfl sub_nil)))))⟩⟩
      ·refine bw_tail 22 [] [0] mo (by kernel_rfl) ?_
       refine ac_go rfl rfl rfl rfl (fun H hp => op1_faR st_34 (i := 3) rfl rfl rfl) ?_
       refine ac_go rfl rfl rfl rfl (fun H hp => (op1_ldR Try.underlying30 rfl rfl rfl (hp.at rfl rfl) rfl)) ?_
       refine ac_go rfl rfl rfl rfl (fun H hp => op1_move rfl rfl) ?_
       obtain ⟨x13, hx13, h⟩ := obind h
       refine ac_go rfl rfl rfl rfl (fun H hp => op1_idxM Try.underlying30 inf_34 rfl rfl rfl hx13 (ofTyp_eq _)) ?_
       refine ac_go rfl rfl rfl rfl (fun H hp => op1_ldPW inf_34 Try.underlying34 rfl rfl rfl rfl rfl) ?_
       refine ac_go rfl rfl rfl rfl (fun H hp => op1_faP st_34 (i := 3) rfl rfl rfl) ?_
       refine ac_go rfl rfl rfl rfl (fun H hp => op1_ldP (y := (PV.sl none 18 (List.map ofTyp a1.parts))) Try.underlying30 rfl rfl rfl rfl) ?_
       refine ac_go rfl rfl rfl rfl (fun H hp => op1_move rfl rfl) ?_
       obtain ⟨x14, hx14, h⟩ := obind h
       refine ac_go rfl rfl rfl rfl (fun H hp => op1_idxN (i := s1) Try.underlying30 inf_34 rfl rfl rfl hx14 (ofTyp_eq _)) ?_
       refine ac_go rfl rfl rfl rfl (fun H hp => op1_ldPW inf_34 Try.underlying34 rfl rfl rfl rfl rfl) ?_
       obtain ⟨x15, hx15, h⟩ := obind h
       refine ac_go rfl rfl rfl rfl (fun H hp => op1_pcall rfl en_35 rfl (.cons (Wk.refl _) (.cons (Wk.refl _) .nil)) ⟨(ids_TypX x13), ⟨(ids_TypX x14), trivial⟩⟩ (c_check_sub x13 x14 x15 hx15) rfl) ?_
       refine ac_go rfl rfl rfl rfl (fun H hp => op1_not rfl rfl) ?_
       refine ac_go rfl rfl rfl rfl (fun H hp => op1_move rfl rfl) ?_
       refine ac_cases 55 rfl ?_ ?_
       ·intro hb16; replace h := ocond_t hb16 h
        refine ac_no rfl rfl rfl rfl rfl rfl rfl ?_
        refine ac_no rfl rfl rfl rfl rfl rfl rfl ?_
        refine ac_no rfl rfl rfl rfl rfl rfl rfl ?_
        refine ac_no rfl rfl rfl rfl rfl rfl rfl ?_
        refine ac_no rfl rfl rfl rfl rfl rfl rfl ?_
        refine ac_no rfl rfl rfl rfl rfl rfl rfl ?_
        refine ac_no rfl rfl rfl rfl rfl rfl rfl ?_
        refine ac_no rfl rfl rfl rfl rfl rfl rfl ?_
        refine ac_no rfl rfl rfl rfl rfl rfl rfl ?_
        refine ac_nil ?_
        change AO _ _ _ _ _
        refine ao_no rfl rfl rfl rfl rfl rfl ?_
        refine ao_no rfl rfl rfl rfl rfl rfl ?_
        refine ao_no rfl rfl rfl rfl rfl rfl ?_
        refine ao_no rfl rfl rfl rfl rfl rfl ?_
        refine sS rfl rfl rfl (op1_pickT rfl rfl rfl) (ao_nil ?_)
        exact ⟨rfl, true, h, ⟨(.cons .same .nil), (sC rfl (sC rfl (sC rfl (sC rfl (sC rfl (sC rfl sub_nil))))))⟩⟩
       ·intro hb16; replace h := ocond_f hb16 h
        refine ac_yes rfl rfl rfl rfl rfl rfl rfl (fun H hp => op1_faR st_34 (i := 5) rfl rfl rfl) ?_
        refine ac_yes rfl rfl rfl rfl rfl rfl rfl (fun H hp => (op1_ldR Try.underlying32 rfl rfl rfl (hp.at rfl rfl) rfl)) ?_
        refine ac_yes rfl rfl rfl rfl rfl rfl rfl (fun H hp => op1_move rfl rfl) ?_
        obtain ⟨x17, hx17, h⟩ := obind h
        refine ac_yes rfl rfl rfl rfl rfl rfl rfl (fun H hp => op1_idxM Try.underlying32 inf_4 rfl rfl rfl hx17 rfl) ?_
        refine ac_yes rfl rfl rfl rfl rfl rfl rfl (fun H hp => op1_ldP (y := (BO x17)) Try.underlying4 rfl rfl rfl rfl) ?_
        refine ac_yes rfl rfl rfl rfl rfl rfl rfl (fun H hp => op1_move rfl rfl) ?_
        refine ac_cases 61 rfl ?_ ?_
        ·intro hb18; replace h := ocond_t hb18 h
         refine ac_yes rfl rfl rfl rfl rfl rfl rfl (fun H hp => op1_faP st_34 (i := 5) rfl rfl rfl) ?_
         refine ac_yes rfl rfl rfl rfl rfl rfl rfl (fun H hp => op1_ldP (y := (PV.sl none 1 (List.map ofBool a1.lacks))) Try.underlying32 rfl rfl rfl rfl) ?_
         refine ac_yes rfl rfl rfl rfl rfl rfl rfl (fun H hp => op1_move rfl rfl) ?_
         refine ac_nil ?_
         change AO _ _ _ _ _
         obtain ⟨x19, hx19, h⟩ := obind h
         refine ao_yes rfl rfl rfl rfl rfl rfl (op1_idxN (i := s1) Try.underlying32 inf_4 rfl rfl rfl hx19 rfl) ?_
         refine ao_yes rfl rfl rfl rfl rfl rfl (op1_ldP (y := (BO x19)) Try.underlying4 rfl rfl rfl rfl) ?_
         refine ao_yes rfl rfl rfl rfl rfl rfl (op1_not rfl rfl) ?_
         refine ao_yes rfl rfl rfl rfl rfl rfl (op1_pickT rfl rfl rfl) ?_
         refine sS rfl rfl rfl (op1_pickF rfl rfl rfl) (ao_nil ?_)
         exact ⟨rfl, (!x19), h, ⟨(.cons .same .nil), (sC rfl (sC rfl (sC rfl (sC rfl (sC rfl (sC rfl sub_nil))))))⟩⟩
        ·intro hb18; replace h := ocond_f hb18 h
         refine ac_no rfl rfl rfl rfl rfl rfl rfl ?_
         refine ac_no rfl rfl rfl rfl rfl rfl rfl ?_
         refine ac_no rfl rfl rfl rfl rfl rfl rfl ?_
         refine ac_nil ?_
         change AO _ _ _ _ _
         refine ao_no rfl rfl rfl rfl rfl rfl ?_
         refine ao_no rfl rfl rfl rfl rfl rfl ?_
         refine ao_no rfl rfl rfl rfl rfl rfl ?_
         refine ao_yes rfl rfl rfl rfl rfl rfl (op1_pickF rfl rfl rfl) ?_
         refine sS rfl rfl rfl (op1_pickF rfl rfl rfl) (ao_nil ?_)
         exact ⟨rfl, false, h, ⟨(.cons .same .nil), (sC rfl (sC rfl (sC rfl (sC rfl (sC rfl (sC rfl sub_nil))))))⟩⟩
   ·intro hc2; replace h := ocond_f hc2 h
    refine bw_exit ?_
    change BW _ _ _ _ _
    refine bR ?_
    refine sA rfl rfl rfl rfl rfl (ao_nil ?_)
    change BW _ _ _ _ _
    refine bw_ret ?_
    change ∃ xs, _ = some xs ∧ EndOk _ _ _ _
    obtain rfl := Option.some.inj h
    exact ⟨_, rfl, endOk0 (y := (BO true)) (Wk.refl _) rfl ⟨rfl, rfl⟩⟩
 ·refine bw_seq ?_
  refine bw_thaw 1 3 (y := (PV.pt (ofTypX a1) 0)) rfl rfl (Wk.pt (x := .agg [(I64 a1.kind), (I64 a1.of), (I64 ((a1.only).kind)), (BO ((a1.only).bool)), (I64 ((a1.only).int)), (PV.v (.float .f64 (a1.only).float)), (ofStr (a1.only).text), (PV.sl none 1 (List.map ofB (a1.only).bytes)), (PV.v (.int .u64 (a1.only).ref)), (PV.sl none 11 (List.map ofTerm (a1.only).list)), (PV.sl none 12 (List.map ofEntry (a1.only).fields)), (ofStr (a1.only).cls), (I64 ((a1.only).ver)), (PV.sl none 18 (List.map ofTyp a1.parts)), (PV.sl none 1 (List.map ofStr a1.names)), (PV.sl none 1 (List.map ofBool a1.lacks)), (BO a1.opn), (ofStr a1.cls)]) (y := (ofTypX a1)) (.cons (Wk.refl _) (.cons (Wk.refl _) (.cons (Wk.refl _) (.cons (Wk.refl _) (.cons (Wk.refl _) (.cons (Wk.refl _) (.cons (Wk.refl _) (.cons (Wk.refl _) (.cons (Wk.refl _) (.cons (Wk.refl _) (.cons (Wk.refl _) (.cons (Wk.refl _) (.cons (Wk.refl _) (.cons (Wk.refl _) (.cons (Wk.refl _) (.cons (Wk.refl _) (.cons (Wk.refl _) (.cons (Wk.refl _) .nil))))))))))))))))))) ?_
  refine bw_region ?_
  refine sS rfl rfl rfl (op1_faP st_34 (i := 6) rfl rfl rfl) ?_
  refine sS rfl rfl rfl (op1_ldP (y := (BO a1.opn)) Try.underlying4 rfl rfl rfl rfl) ?_
  refine sS rfl rfl rfl (op1_not rfl rfl) (ao_nil ?_)
  change BW _ _ _ _ _
  refine bw_cond rfl ?_ ?_
  ·intro hc20; replace h := ocond_t hc20 h
   refine bw_seqJ (ι := Bool) (fun i => check_dicts_j5 r_check_sub a0 a1 i = some r) (fun i => [(2, (PV.rf 0 0)), (3, (PV.pt (ofTypX a1) 0)), (18, (BO i))]) (fun i => [.box 34 [(I64 a0.kind), (I64 a0.of), (I64 ((a0.only).kind)), (BO ((a0.only).bool)), (I64 ((a0.only).int)), (PV.v (.float .f64 (a0.only).float)), (ofStr (a0.only).text), (PV.sl none 1 (List.map ofB (a0.only).bytes)), (PV.v (.int .u64 (a0.only).ref)), (PV.sl none 11 (List.map ofTerm (a0.only).list)), (PV.sl none 12 (List.map ofEntry (a0.only).fields)), (ofStr (a0.only).cls), (I64 ((a0.only).ver)), (PV.sl none 18 (List.map ofTyp a0.parts)), (PV.sl none 1 (List.map ofStr a0.names)), (PV.sl none 1 (List.map ofBool a0.lacks)), (BO a0.opn), (ofStr a0.cls)]]) ?_ ?_ ?_
   ·intro i; exact ⟨Nat.le_of_ble_eq_true rfl, ⟨(il_rf rfl), ⟨(il_nil (ids_TypX _)), ⟨(il_nil rfl), trivial⟩⟩⟩, ⟨⟨(il_nil rfl), ⟨(il_nil rfl), ⟨(il_nil rfl), ⟨(il_nil rfl), ⟨(il_nil rfl), ⟨(il_nil rfl), ⟨(il_nil rfl), ⟨(il_nil (ids_slM (fun _ => rfl) _)), ⟨(il_nil rfl), ⟨(il_nil (ids_slM ids_Term _)), ⟨(il_nil (ids_slM ids_Entry _)), ⟨(il_nil rfl), ⟨(il_nil rfl), ⟨(il_nil (ids_slM ids_Typ _)), ⟨(il_nil (ids_slM (fun _ => rfl) _)), ⟨(il_nil (ids_slM (fun _ => rfl) _)), ⟨(il_nil rfl), ⟨(il_nil rfl), trivial⟩⟩⟩⟩⟩⟩⟩⟩⟩⟩⟩⟩⟩⟩⟩⟩⟩⟩, trivial⟩⟩
   ·rintro s21 h; replace h : check_dicts_j5 r_check_sub a0 a1 s21 = some r := h; unfold check_dicts_j5 at h
    change BW _ _ _ ⟨[(2, (PV.rf 0 0)), (3, (PV.pt (ofTypX a1) 0)), (18, (BO s21))], [.box 34 [(I64 a0.kind), (I64 a0.of), (I64 ((a0.only).kind)), (BO ((a0.only).bool)), (I64 ((a0.only).int)), (PV.v (.float .f64 (a0.only).float)), (ofStr (a0.only).text), (PV.sl none 1 (List.map ofB (a0.only).bytes)), (PV.v (.int .u64 (a0.only).ref)), (PV.sl none 11 (List.map ofTerm (a0.only).list)), (PV.sl none 12 (List.map ofEntry (a0.only).fields)), (ofStr (a0.only).cls), (I64 ((a0.only).ver)), (PV.sl none 18 (List.map ofTyp a0.parts)), (PV.sl none 1 (List.map ofStr a0.names)), (PV.sl none 1 (List.map ofBool a0.lacks)), (BO a0.opn), (ofStr a0.cls)]], _⟩ _
    refine bw_cond rfl ?_ ?_
    ·intro hc22; replace h := ocond_t hc22 h
     refine bR ?_
     refine sA rfl rfl rfl rfl rfl (ao_nil ?_)
     change BW _ _ _ _ _
     refine bw_ret ?_
     change ∃ xs, _ = some xs ∧ EndOk _ _ _ _
     obtain rfl := Option.some.inj h
     exact ⟨_, rfl, endOk0 (y := (BO false)) (Wk.refl _) rfl ⟨rfl, rfl⟩⟩
    ·intro hc22; replace h := ocond_f hc22 h
     refine bw_skip ?_
     exact ⟨rfl, (), h, ⟨(.cons .same .nil), (sC rfl (sC rfl sub_nil))⟩⟩
   ·refine bw_region ?_
    refine sS rfl rfl rfl (op1_faR st_34 (i := 6) rfl rfl rfl) ?_
    refine sS rfl rfl rfl ((op1_ldR Try.underlying4 rfl rfl rfl rfl rfl)) ?_
    refine sM rfl rfl rfl rfl rfl ?_
    refine ao_cases (t := 13) rfl ?_ ?_
    ·intro hb23; replace h := ocond_t hb23 h
     refine ao_no rfl rfl rfl rfl rfl rfl ?_
     refine ao_no rfl rfl rfl rfl rfl rfl ?_
     refine ao_no rfl rfl rfl rfl rfl rfl ?_
     refine ao_no rfl rfl rfl rfl rfl rfl ?_
     refine sS rfl rfl rfl (op1_pickT rfl rfl rfl) (ao_nil ?_)
     exact ⟨rfl, true, h, ⟨(.cons .same .nil), (sC rfl (sC rfl (sC rfl sub_nil)))⟩⟩
    ·intro hb23; replace h := ocond_f hb23 h
     refine ao_yes rfl rfl rfl rfl rfl rfl (op1_faR st_34 (i := 4) rfl rfl rfl) ?_
     refine ao_yes rfl rfl rfl rfl rfl rfl ((op1_ldR Try.underlying31 rfl rfl rfl rfl rfl)) ?_
     refine ao_yes rfl rfl rfl rfl rfl rfl (op1_fn rfl rfl rfl) ?_
     obtain ⟨x24, hx24, h⟩ := obind h
     refine ao_yes rfl rfl rfl rfl rfl rfl (op1_pcall rfl en_94 rfl (.cons (Wk.refl _) (.cons (Wk.refl _) .nil)) ⟨(ids_slM (fun _ => rfl) a0.names), ⟨(ids_fnc (ids_pt1 (ids_TypX a1) rfl)), trivial⟩⟩ (s_slices_ContainsFunc_string_string_check_dicts_1 a0.names a1 x24 hx24) rfl) ?_
     refine sS rfl rfl rfl (op1_pickF rfl rfl rfl) (ao_nil ?_)
     exact ⟨rfl, x24, h, ⟨(.cons .same .nil), (sC rfl (sC rfl (sC rfl sub_nil)))⟩⟩
  ·intro hc20; replace h := ocond_f hc20 h
   refine bw_skip ?_
   exact ⟨rfl, (), h, ⟨(.cons .same .nil), (sC rfl (sC rfl sub_nil))⟩⟩
theorem t_check_sub_1_1 (r_check_dicts : Typ → Typ → Option Bool) (c_check_dicts : ∀ (a0 : Typ) (a1 : Typ) r, r_check_dicts a0 a1 = some r → PCalls Try.prog 66 [(ofTypX a0), (ofTypX a1)] (BO r)) (r_check_sub_1_1 : Typ → Typ → Option Bool) (c_check_sub_1_1 : ∀ (a0 : Typ) (a1 : Typ) r, r_check_sub_1_1 a0 a1 = some r → PCalls Try.prog 62 [(ofTypX a0), (PV.pt (ofTypX a1) 0)] (BO r)) (r_check_sub_3 : Typ → Typ → Option Bool) (c_check_sub_3 : ∀ (a0 : Typ) (a1 : Typ) r, r_check_sub_3 a0 a1 = some r → PCalls Try.prog 65 [(ofTypX a0), (PV.pt (ofTypX a1) 0)] (BO r)) (r_slices_IndexFunc_api_Type_api_Type_check_sub_3 : (List Typ) → Typ → Option Int) (c_slices_IndexFunc_api_Type_api_Type_check_sub_3 : ∀ (a0 : (List Typ)) (a1c0 : Typ) r, r_slices_IndexFunc_api_Type_api_Type_check_sub_3 a0 a1c0 = some r → PCalls Try.prog 93 [(PV.sl none 18 (List.map ofTyp a0)), (PV.fn (.func 65) [] [(PV.pt (ofTypX a1c0) 0)])] (I64 r)) (r_slices_ContainsFunc_api_Type_api_Type_check_sub_3 : (List Typ) → Typ → Option Bool) (c_slices_ContainsFunc_api_Type_api_Type_check_sub_3 : ∀ (a0 : (List Typ)) (a1c0 : Typ) r, r_slices_ContainsFunc_api_Type_api_Type_check_sub_3 a0 a1c0 = some r → PCalls Try.prog 63 [(PV.sl none 18 (List.map ofTyp a0)), (PV.fn (.func 65) [] [(PV.pt (ofTypX a1c0) 0)])] (BO r)) (r_check_sub_2 : Typ → Typ → Option Bool) (c_check_sub_2 : ∀ (a0 : Typ) (a1 : Typ) r, r_check_sub_2 a0 a1 = some r → PCalls Try.prog 64 [(ofTypX a0), (PV.pt (ofTypX a1) 0)] (BO r)) (r_slices_IndexFunc_api_Type_api_Type_check_sub_2 : (List Typ) → Typ → Option Int) (c_slices_IndexFunc_api_Type_api_Type_check_sub_2 : ∀ (a0 : (List Typ)) (a1c0 : Typ) r, r_slices_IndexFunc_api_Type_api_Type_check_sub_2 a0 a1c0 = some r → PCalls Try.prog 93 [(PV.sl none 18 (List.map ofTyp a0)), (PV.fn (.func 64) [] [(PV.pt (ofTypX a1c0) 0)])] (I64 r)) (r_slices_ContainsFunc_api_Type_api_Type_check_sub_2 : (List Typ) → Typ → Option Bool) (c_slices_ContainsFunc_api_Type_api_Type_check_sub_2 : ∀ (a0 : (List Typ)) (a1c0 : Typ) r, r_slices_ContainsFunc_api_Type_api_Type_check_sub_2 a0 a1c0 = some r → PCalls Try.prog 63 [(PV.sl none 18 (List.map ofTyp a0)), (PV.fn (.func 64) [] [(PV.pt (ofTypX a1c0) 0)])] (BO r)) (r_check_sub : Typ → Typ → Option Bool) (c_check_sub : ∀ (a0 : Typ) (a1 : Typ) r, r_check_sub a0 a1 = some r → PCalls Try.prog 35 [(ofTypX a0), (ofTypX a1)] (BO r)) (a0 : Typ) (a1 : Typ) (r : Bool) (h : b_check_sub_1_1 r_check_dicts r_check_sub_1_1 r_check_sub_3 r_slices_IndexFunc_api_Type_api_Type_check_sub_3 r_slices_ContainsFunc_api_Type_api_Type_check_sub_3 r_check_sub_2 r_slices_IndexFunc_api_Type_api_Type_check_sub_2 r_slices_ContainsFunc_api_Type_api_Type_check_sub_2 r_check_sub a0 a1 = some r) : PCalls Try.prog 62 [(ofTypX a0), (PV.pt (ofTypX a1) 0)] (BO r) := by
 unfold b_check_sub_1_1 at h
 refine acalls_of Try.func62 rfl Try.ntmps62 Try.results62 rfl (aw_of_bw ?_)
 change BW _ _ _ ⟨[(0, (ofTypX a0)), (1, (PV.pt (ofTypX a1) 0))], [], _⟩ _
 refine bR ?_
 refine sS rfl rfl rfl (op1_box rfl rfl rfl) ?_
 refine sA rfl rfl rfl rfl rfl (ao_nil ?_)
 change BW _ _ _ _ _
 refine bR ?_
 refine sS rfl rfl rfl ((op1_ldRA inf_34 Try.underlying34 rfl rfl rfl rfl rfl rfl)) ?_
 refine sS rfl rfl rfl (op1_ldPW inf_34 Try.underlying34 rfl rfl rfl rfl rfl) ?_
 obtain ⟨x1, hx1, h⟩ := obind h
 refine sS rfl rfl rfl (op1_pcall rfl en_35 rfl (.cons (Wk.refl _) (.cons (Wk.refl _) .nil)) ⟨(ids_TypX a0), ⟨(ids_TypX a1), trivial⟩⟩ (c_check_sub a0 a1 x1 hx1) rfl) ?_
 refine sA rfl rfl rfl rfl rfl (ao_nil ?_)
 change BW _ _ _ _ _
 refine bw_ret ?_
 change ∃ xs, _ = some xs ∧ EndOk _ _ _ _
 obtain rfl := Option.some.inj h
 exact ⟨_, rfl, endOk0 (y := (BO x1)) (Wk.refl _) rfl ⟨rfl, rfl⟩⟩
theorem t_check_sub_3 (r_check_dicts : Typ → Typ → Option Bool) (c_check_dicts : ∀ (a0 : Typ) (a1 : Typ) r, r_check_dicts a0 a1 = some r → PCalls Try.prog 66 [(ofTypX a0), (ofTypX a1)] (BO r)) (r_check_sub_1_1 : Typ → Typ → Option Bool) (c_check_sub_1_1 : ∀ (a0 : Typ) (a1 : Typ) r, r_check_sub_1_1 a0 a1 = some r → PCalls Try.prog 62 [(ofTypX a0), (PV.pt (ofTypX a1) 0)] (BO r)) (r_check_sub_3 : Typ → Typ → Option Bool) (c_check_sub_3 : ∀ (a0 : Typ) (a1 : Typ) r, r_check_sub_3 a0 a1 = some r → PCalls Try.prog 65 [(ofTypX a0), (PV.pt (ofTypX a1) 0)] (BO r)) (r_slices_IndexFunc_api_Type_api_Type_check_sub_3 : (List Typ) → Typ → Option Int) (c_slices_IndexFunc_api_Type_api_Type_check_sub_3 : ∀ (a0 : (List Typ)) (a1c0 : Typ) r, r_slices_IndexFunc_api_Type_api_Type_check_sub_3 a0 a1c0 = some r → PCalls Try.prog 93 [(PV.sl none 18 (List.map ofTyp a0)), (PV.fn (.func 65) [] [(PV.pt (ofTypX a1c0) 0)])] (I64 r)) (r_slices_ContainsFunc_api_Type_api_Type_check_sub_3 : (List Typ) → Typ → Option Bool) (c_slices_ContainsFunc_api_Type_api_Type_check_sub_3 : ∀ (a0 : (List Typ)) (a1c0 : Typ) r, r_slices_ContainsFunc_api_Type_api_Type_check_sub_3 a0 a1c0 = some r → PCalls Try.prog 63 [(PV.sl none 18 (List.map ofTyp a0)), (PV.fn (.func 65) [] [(PV.pt (ofTypX a1c0) 0)])] (BO r)) (r_check_sub_2 : Typ → Typ → Option Bool) (c_check_sub_2 : ∀ (a0 : Typ) (a1 : Typ) r, r_check_sub_2 a0 a1 = some r → PCalls Try.prog 64 [(ofTypX a0), (PV.pt (ofTypX a1) 0)] (BO r)) (r_slices_IndexFunc_api_Type_api_Type_check_sub_2 : (List Typ) → Typ → Option Int) (c_slices_IndexFunc_api_Type_api_Type_check_sub_2 : ∀ (a0 : (List Typ)) (a1c0 : Typ) r, r_slices_IndexFunc_api_Type_api_Type_check_sub_2 a0 a1c0 = some r → PCalls Try.prog 93 [(PV.sl none 18 (List.map ofTyp a0)), (PV.fn (.func 64) [] [(PV.pt (ofTypX a1c0) 0)])] (I64 r)) (r_slices_ContainsFunc_api_Type_api_Type_check_sub_2 : (List Typ) → Typ → Option Bool) (c_slices_ContainsFunc_api_Type_api_Type_check_sub_2 : ∀ (a0 : (List Typ)) (a1c0 : Typ) r, r_slices_ContainsFunc_api_Type_api_Type_check_sub_2 a0 a1c0 = some r → PCalls Try.prog 63 [(PV.sl none 18 (List.map ofTyp a0)), (PV.fn (.func 64) [] [(PV.pt (ofTypX a1c0) 0)])] (BO r)) (r_check_sub : Typ → Typ → Option Bool) (c_check_sub : ∀ (a0 : Typ) (a1 : Typ) r, r_check_sub a0 a1 = some r → PCalls Try.prog 35 [(ofTypX a0), (ofTypX a1)] (BO r)) (a0 : Typ) (a1 : Typ) (r : Bool) (h : b_check_sub_3 r_check_dicts r_check_sub_1_1 r_check_sub_3 r_slices_IndexFunc_api_Type_api_Type_check_sub_3 r_slices_ContainsFunc_api_Type_api_Type_check_sub_3 r_check_sub_2 r_slices_IndexFunc_api_Type_api_Type_check_sub_2 r_slices_ContainsFunc_api_Type_api_Type_check_sub_2 r_check_sub a0 a1 = some r) : PCalls Try.prog 65 [(ofTypX a0), (PV.pt (ofTypX a1) 0)] (BO r) := by
 unfold b_check_sub_3 at h
 refine acalls_of Try.func65 rfl Try.ntmps65 Try.results65 rfl (aw_of_bw ?_)
 change BW _ _ _ ⟨[(0, (ofTypX a0)), (1, (PV.pt (ofTypX a1) 0))], [], _⟩ _
 refine bR ?_
 refine sS rfl rfl rfl (op1_box rfl rfl rfl) ?_
 refine sA rfl rfl rfl rfl rfl (ao_nil ?_)
 change BW _ _ _ _ _
 refine bR ?_
 refine sS rfl rfl rfl (op1_ldPW inf_34 Try.underlying34 rfl rfl rfl rfl rfl) ?_
 refine sS rfl rfl rfl ((op1_ldRA inf_34 Try.underlying34 rfl rfl rfl rfl rfl rfl)) ?_
 obtain ⟨x1, hx1, h⟩ := obind h
 refine sS rfl rfl rfl (op1_pcall rfl en_35 rfl (.cons (Wk.refl _) (.cons (Wk.refl _) .nil)) ⟨(ids_TypX a1), ⟨(ids_TypX a0), trivial⟩⟩ (c_check_sub a1 a0 x1 hx1) rfl) ?_
 refine sA rfl rfl rfl rfl rfl (ao_nil ?_)
 change BW _ _ _ _ _
 refine bw_ret ?_
 change ∃ xs, _ = some xs ∧ EndOk _ _ _ _
 obtain rfl := Option.some.inj h
 exact ⟨_, rfl, endOk0 (y := (BO x1)) (Wk.refl _) rfl ⟨rfl, rfl⟩⟩
theorem t_slices_IndexFunc_api_Type_api_Type_check_sub_3 (r_check_dicts : Typ → Typ → Option Bool) (c_check_dicts : ∀ (a0 : Typ) (a1 : Typ) r, r_check_dicts a0 a1 = some r → PCalls Try.prog 66 [(ofTypX a0), (ofTypX a1)] (BO r)) (r_check_sub_1_1 : Typ → Typ → Option Bool) (c_check_sub_1_1 : ∀ (a0 : Typ) (a1 : Typ) r, r_check_sub_1_1 a0 a1 = some r → PCalls Try.prog 62 [(ofTypX a0), (PV.pt (ofTypX a1) 0)] (BO r)) (r_check_sub_3 : Typ → Typ → Option Bool) (c_check_sub_3 : ∀ (a0 : Typ) (a1 : Typ) r, r_check_sub_3 a0 a1 = some r → PCalls Try.prog 65 [(ofTypX a0), (PV.pt (ofTypX a1) 0)] (BO r)) (r_slices_IndexFunc_api_Type_api_Type_check_sub_3 : (List Typ) → Typ → Option Int) (c_slices_IndexFunc_api_Type_api_Type_check_sub_3 : ∀ (a0 : (List Typ)) (a1c0 : Typ) r, r_slices_IndexFunc_api_Type_api_Type_check_sub_3 a0 a1c0 = some r → PCalls Try.prog 93 [(PV.sl none 18 (List.map ofTyp a0)), (PV.fn (.func 65) [] [(PV.pt (ofTypX a1c0) 0)])] (I64 r)) (r_slices_ContainsFunc_api_Type_api_Type_check_sub_3 : (List Typ) → Typ → Option Bool) (c_slices_ContainsFunc_api_Type_api_Type_check_sub_3 : ∀ (a0 : (List Typ)) (a1c0 : Typ) r, r_slices_ContainsFunc_api_Type_api_Type_check_sub_3 a0 a1c0 = some r → PCalls Try.prog 63 [(PV.sl none 18 (List.map ofTyp a0)), (PV.fn (.func 65) [] [(PV.pt (ofTypX a1c0) 0)])] (BO r)) (r_check_sub_2 : Typ → Typ → Option Bool) (c_check_sub_2 : ∀ (a0 : Typ) (a1 : Typ) r, r_check_sub_2 a0 a1 = some r → PCalls Try.prog 64 [(ofTypX a0), (PV.pt (ofTypX a1) 0)] (BO r)) (r_slices_IndexFunc_api_Type_api_Type_check_sub_2 : (List Typ) → Typ → Option Int) (c_slices_IndexFunc_api_Type_api_Type_check_sub_2 : ∀ (a0 : (List Typ)) (a1c0 : Typ) r, r_slices_IndexFunc_api_Type_api_Type_check_sub_2 a0 a1c0 = some r → PCalls Try.prog 93 [(PV.sl none 18 (List.map ofTyp a0)), (PV.fn (.func 64) [] [(PV.pt (ofTypX a1c0) 0)])] (I64 r)) (r_slices_ContainsFunc_api_Type_api_Type_check_sub_2 : (List Typ) → Typ → Option Bool) (c_slices_ContainsFunc_api_Type_api_Type_check_sub_2 : ∀ (a0 : (List Typ)) (a1c0 : Typ) r, r_slices_ContainsFunc_api_Type_api_Type_check_sub_2 a0 a1c0 = some r → PCalls Try.prog 63 [(PV.sl none 18 (List.map ofTyp a0)), (PV.fn (.func 64) [] [(PV.pt (ofTypX a1c0) 0)])] (BO r)) (r_check_sub : Typ → Typ → Option Bool) (c_check_sub : ∀ (a0 : Typ) (a1 : Typ) r, r_check_sub a0 a1 = some r → PCalls Try.prog 35 [(ofTypX a0), (ofTypX a1)] (BO r)) (a0 : (List Typ)) (a1c0 : Typ) (r : Int) (h : b_slices_IndexFunc_api_Type_api_Type_check_sub_3 r_check_dicts r_check_sub_1_1 r_check_sub_3 r_slices_IndexFunc_api_Type_api_Type_check_sub_3 r_slices_ContainsFunc_api_Type_api_Type_check_sub_3 r_check_sub_2 r_slices_IndexFunc_api_Type_api_Type_check_sub_2 r_slices_ContainsFunc_api_Type_api_Type_check_sub_2 r_check_sub a0 a1c0 = some r) : PCalls Try.prog 93 [(PV.sl none 18 (List.map ofTyp a0)), (PV.fn (.func 65) [] [(PV.pt (ofTypX a1c0) 0)])] (I64 r) := by
 unfold b_slices_IndexFunc_api_Type_api_Type_check_sub_3 at h
 refine acalls_of Try.func93 rfl Try.ntmps93 Try.results93 rfl (aw_of_bw ?_)
 change BW _ _ _ ⟨[(0, (PV.sl none 18 (List.map ofTyp a0))), (1, (PV.fn (.func 65) [] [(PV.pt (ofTypX a1c0) 0)]))], [], _⟩ _
 refine bR ?_
 refine sA rfl rfl rfl rfl rfl (ao_nil ?_)
 change BW _ _ _ _ _
 refine bw_seq ?_
 refine bR ?_
 refine sM rfl rfl rfl rfl rfl ?_
 refine sS rfl rfl rfl (op1_lenM Try.underlying30 rfl rfl) ?_
 refine sM rfl rfl rfl rfl rfl (ao_nil ?_)
 change BW _ _ _ _ _
 refine bw_block ?_
 change BW _ _ _ _ _
 unfold slices_IndexFunc_api_Type_api_Type_check_sub_3_l1 at h
 refine bw_loop (σ := Nat) (fun i => [(0, (PV.sl none 18 (List.map ofTyp a0))), (1, (PV.fn (.func 65) [] [(PV.pt (ofTypX a1c0) 0)])), (7, (I64 ((((a0).length : Nat) : Int)))), (8, (I64 (((i : Nat) : Int))))]) (fun i => []) 0 h ?_ ?_ ?_
 ·intro i; exact ⟨Nat.le_of_ble_eq_true rfl, ⟨(il_nil (ids_slM ids_Typ _)), ⟨(il_nil (ids_fnc (ids_pt1 (ids_TypX a1c0) rfl))), ⟨(il_nil rfl), ⟨(il_nil rfl), trivial⟩⟩⟩⟩, trivial⟩
 ·exact ⟨.nil, (sC rfl (sC rfl (sC rfl (sC rfl sub_nil))))⟩
 ·rintro g1_f s1 h; replace h : slices_IndexFunc_api_Type_api_Type_check_sub_3_l1b r_check_sub_3 a0 a1c0 (fun y0 => g1_f y0) s1 = some r := h; unfold slices_IndexFunc_api_Type_api_Type_check_sub_3_l1b at h
  change BW _ _ _ ⟨[(0, (PV.sl none 18 (List.map ofTyp a0))), (1, (PV.fn (.func 65) [] [(PV.pt (ofTypX a1c0) 0)])), (7, (I64 ((((a0).length : Nat) : Int)))), (8, (I64 (((s1 : Nat) : Int))))], [], _⟩ _
  refine bR ?_
  refine sS rfl rfl rfl ((op1_cmp rfl rfl rfl rfl).cast (y := (BO ((decide (((s1 : Nat) : Int) < (((a0).length : Nat) : Int)))))) rfl rfl) (ao_nil ?_)
  change BW _ _ _ _ _
  refine bw_seq ?_
  refine bw_len (t := 0) rfl fun hb3 => ?_
  try rw [List.length_map] at hb3
  refine bw_cond rfl ?_ ?_
  ·intro hc2; replace h := ocond_t hc2 h
   have hc2_ := of_decide_eq_true hc2
   refine bw_skip ?_
   change BW _ _ _ _ _
   refine bw_seq ?_
   refine bw_block ?_
   change BW _ _ _ _ _
   refine bR ?_
   refine sM rfl rfl rfl rfl rfl ?_
   refine sA rfl rfl rfl rfl rfl (ao_nil ?_)
   change BW _ _ _ _ _
   refine bR ?_
   refine sM rfl rfl rfl rfl rfl ?_
   refine sM rfl rfl rfl rfl rfl ?_
   refine sM rfl rfl rfl rfl rfl ?_
   obtain ⟨x4, hx4, h⟩ := obind h
   refine sS rfl rfl rfl (op1_idxN (i := s1) Try.underlying30 inf_34 rfl rfl rfl hx4 (ofTyp_eq _)) ?_
   refine sS rfl rfl rfl (op1_ldPW inf_34 Try.underlying34 rfl rfl rfl rfl rfl) ?_
   obtain ⟨x5, hx5, h⟩ := obind h
   refine sS rfl rfl rfl (op1_pcallC rfl rfl en_65 rfl (.cons (Wk.refl _) (.cons (Wk.refl _) .nil)) ⟨(ids_TypX x4), ⟨(ids_TypX a1c0), trivial⟩⟩ (c_check_sub_3 x4 a1c0 x5 hx5) rfl) (ao_nil ?_)
   change BW _ _ _ _ _
   refine bw_cond rfl ?_ ?_
   ·intro hc6; replace h := ocond_t hc6 h
    refine bR ?_
    refine sM rfl rfl rfl rfl rfl ?_
    refine sA rfl rfl rfl rfl rfl (ao_nil ?_)
    change BW _ _ _ _ _
    refine bw_ret ?_
    change ∃ xs, _ = some xs ∧ EndOk _ _ _ _
    obtain rfl := Option.some.inj h
    exact ⟨_, rfl, endOk0 (y := (I64 (((s1 : Nat) : Int)))) (Wk.refl _) rfl ⟨rfl, rfl⟩⟩
   ·intro hc6; replace h := ocond_f hc6 h
    refine bw_skip ?_
    change BW _ _ _ _ _
    refine bw_region ?_
    refine sS rfl rfl rfl (op1_incN (k := s1) (c := 1) rfl rfl rfl (by omega)) ?_
    refine sM rfl rfl rfl rfl rfl (ao_nil ?_)
    exact ⟨rfl, (s1 + 1), h, ⟨.nil, (sC rfl (sC rfl (sC rfl (sC rfl sub_nil))))⟩⟩
  ·intro hc2; replace h := ocond_f hc2 h
   refine bw_exit ?_
   change BW _ _ _ _ _
   refine bR ?_
   refine sA rfl rfl rfl rfl rfl (ao_nil ?_)
   change BW _ _ _ _ _
   refine bw_ret ?_
   change ∃ xs, _ = some xs ∧ EndOk _ _ _ _
   obtain rfl := Option.some.inj h
   exact ⟨_, rfl, endOk0 (y := (I64 ((-1)))) (Wk.refl _) rfl ⟨rfl, rfl⟩⟩
theorem t_slices_ContainsFunc_api_Type_api_Type_check_sub_3 (r_check_dicts : Typ → Typ → Option Bool) (c_check_dicts : ∀ (a0 : Typ) (a1 : Typ) r, r_check_dicts a0 a1 = some r → PCalls Try.prog 66 [(ofTypX a0), (ofTypX a1)] (BO r)) (r_check_sub_1_1 : Typ → Typ → Option Bool) (c_check_sub_1_1 : ∀ (a0 : Typ) (a1 : Typ) r, r_check_sub_1_1 a0 a1 = some r → PCalls Try.prog 62 [(ofTypX a0), (PV.pt (ofTypX a1) 0)] (BO r)) (r_check_sub_3 : Typ → Typ → Option Bool) (c_check_sub_3 : ∀ (a0 : Typ) (a1 : Typ) r, r_check_sub_3 a0 a1 = some r → PCalls Try.prog 65 [(ofTypX a0), (PV.pt (ofTypX a1) 0)] (BO r)) (r_slices_IndexFunc_api_Type_api_Type_check_sub_3 : (List Typ) → Typ → Option Int) (c_slices_IndexFunc_api_Type_api_Type_check_sub_3 : ∀ (a0 : (List Typ)) (a1c0 : Typ) r, r_slices_IndexFunc_api_Type_api_Type_check_sub_3 a0 a1c0 = some r → PCalls Try.prog 93 [(PV.sl none 18 (List.map ofTyp a0)), (PV.fn (.func 65) [] [(PV.pt (ofTypX a1c0) 0)])] (I64 r)) (r_slices_ContainsFunc_api_Type_api_Type_check_sub_3 : (List Typ) → Typ → Option Bool) (c_slices_ContainsFunc_api_Type_api_Type_check_sub_3 : ∀ (a0 : (List Typ)) (a1c0 : Typ) r, r_slices_ContainsFunc_api_Type_api_Type_check_sub_3 a0 a1c0 = some r → PCalls Try.prog 63 [(PV.sl none 18 (List.map ofTyp a0)), (PV.fn (.func 65) [] [(PV.pt (ofTypX a1c0) 0)])] (BO r)) (r_check_sub_2 : Typ → Typ → Option Bool) (c_check_sub_2 : ∀ (a0 : Typ) (a1 : Typ) r, r_check_sub_2 a0 a1 = some r → PCalls Try.prog 64 [(ofTypX a0), (PV.pt (ofTypX a1) 0)] (BO r)) (r_slices_IndexFunc_api_Type_api_Type_check_sub_2 : (List Typ) → Typ → Option Int) (c_slices_IndexFunc_api_Type_api_Type_check_sub_2 : ∀ (a0 : (List Typ)) (a1c0 : Typ) r, r_slices_IndexFunc_api_Type_api_Type_check_sub_2 a0 a1c0 = some r → PCalls Try.prog 93 [(PV.sl none 18 (List.map ofTyp a0)), (PV.fn (.func 64) [] [(PV.pt (ofTypX a1c0) 0)])] (I64 r)) (r_slices_ContainsFunc_api_Type_api_Type_check_sub_2 : (List Typ) → Typ → Option Bool) (c_slices_ContainsFunc_api_Type_api_Type_check_sub_2 : ∀ (a0 : (List Typ)) (a1c0 : Typ) r, r_slices_ContainsFunc_api_Type_api_Type_check_sub_2 a0 a1c0 = some r → PCalls Try.prog 63 [(PV.sl none 18 (List.map ofTyp a0)), (PV.fn (.func 64) [] [(PV.pt (ofTypX a1c0) 0)])] (BO r)) (r_check_sub : Typ → Typ → Option Bool) (c_check_sub : ∀ (a0 : Typ) (a1 : Typ) r, r_check_sub a0 a1 = some r → PCalls Try.prog 35 [(ofTypX a0), (ofTypX a1)] (BO r)) (a0 : (List Typ)) (a1c0 : Typ) (r : Bool) (h : b_slices_ContainsFunc_api_Type_api_Type_check_sub_3 r_check_dicts r_check_sub_1_1 r_check_sub_3 r_slices_IndexFunc_api_Type_api_Type_check_sub_3 r_slices_ContainsFunc_api_Type_api_Type_check_sub_3 r_check_sub_2 r_slices_IndexFunc_api_Type_api_Type_check_sub_2 r_slices_ContainsFunc_api_Type_api_Type_check_sub_2 r_check_sub a0 a1c0 = some r) : PCalls Try.prog 63 [(PV.sl none 18 (List.map ofTyp a0)), (PV.fn (.func 65) [] [(PV.pt (ofTypX a1c0) 0)])] (BO r) := by
 unfold b_slices_ContainsFunc_api_Type_api_Type_check_sub_3 at h
 refine acalls_of Try.func63 rfl Try.ntmps63 Try.results63 rfl (aw_of_bw ?_)
 change BW _ _ _ ⟨[(0, (PV.sl none 18 (List.map ofTyp a0))), (1, (PV.fn (.func 65) [] [(PV.pt (ofTypX a1c0) 0)]))], [], _⟩ _
 refine bR ?_
 refine sA rfl rfl rfl rfl rfl (ao_nil ?_)
 change BW _ _ _ _ _
 refine bR ?_
 refine sM rfl rfl rfl rfl rfl ?_
 refine sM rfl rfl rfl rfl rfl ?_
 obtain ⟨x1, hx1, h⟩ := obind h
 refine sS rfl rfl rfl (op1_pcall rfl en_93 rfl (.cons (Wk.refl _) (.cons (Wk.refl _) .nil)) ⟨(ids_slM ids_Typ a0), ⟨(ids_fnc (ids_pt1 (ids_TypX a1c0) rfl)), trivial⟩⟩ (c_slices_IndexFunc_api_Type_api_Type_check_sub_3 a0 a1c0 x1 hx1) rfl) ?_
 refine sS rfl rfl rfl ((op1_cmp rfl rfl rfl rfl).cast (y := (BO ((decide (x1 ≥ 0))))) rfl rfl) ?_
 refine sA rfl rfl rfl rfl rfl (ao_nil ?_)
 change BW _ _ _ _ _
 refine bw_ret ?_
 change ∃ xs, _ = some xs ∧ EndOk _ _ _ _
 obtain rfl := Option.some.inj h
 exact ⟨_, rfl, endOk0 (y := (BO ((decide (x1 ≥ 0))))) (Wk.refl _) rfl ⟨rfl, rfl⟩⟩
theorem t_check_sub_2 (r_check_dicts : Typ → Typ → Option Bool) (c_check_dicts : ∀ (a0 : Typ) (a1 : Typ) r, r_check_dicts a0 a1 = some r → PCalls Try.prog 66 [(ofTypX a0), (ofTypX a1)] (BO r)) (r_check_sub_1_1 : Typ → Typ → Option Bool) (c_check_sub_1_1 : ∀ (a0 : Typ) (a1 : Typ) r, r_check_sub_1_1 a0 a1 = some r → PCalls Try.prog 62 [(ofTypX a0), (PV.pt (ofTypX a1) 0)] (BO r)) (r_check_sub_3 : Typ → Typ → Option Bool) (c_check_sub_3 : ∀ (a0 : Typ) (a1 : Typ) r, r_check_sub_3 a0 a1 = some r → PCalls Try.prog 65 [(ofTypX a0), (PV.pt (ofTypX a1) 0)] (BO r)) (r_slices_IndexFunc_api_Type_api_Type_check_sub_3 : (List Typ) → Typ → Option Int) (c_slices_IndexFunc_api_Type_api_Type_check_sub_3 : ∀ (a0 : (List Typ)) (a1c0 : Typ) r, r_slices_IndexFunc_api_Type_api_Type_check_sub_3 a0 a1c0 = some r → PCalls Try.prog 93 [(PV.sl none 18 (List.map ofTyp a0)), (PV.fn (.func 65) [] [(PV.pt (ofTypX a1c0) 0)])] (I64 r)) (r_slices_ContainsFunc_api_Type_api_Type_check_sub_3 : (List Typ) → Typ → Option Bool) (c_slices_ContainsFunc_api_Type_api_Type_check_sub_3 : ∀ (a0 : (List Typ)) (a1c0 : Typ) r, r_slices_ContainsFunc_api_Type_api_Type_check_sub_3 a0 a1c0 = some r → PCalls Try.prog 63 [(PV.sl none 18 (List.map ofTyp a0)), (PV.fn (.func 65) [] [(PV.pt (ofTypX a1c0) 0)])] (BO r)) (r_check_sub_2 : Typ → Typ → Option Bool) (c_check_sub_2 : ∀ (a0 : Typ) (a1 : Typ) r, r_check_sub_2 a0 a1 = some r → PCalls Try.prog 64 [(ofTypX a0), (PV.pt (ofTypX a1) 0)] (BO r)) (r_slices_IndexFunc_api_Type_api_Type_check_sub_2 : (List Typ) → Typ → Option Int) (c_slices_IndexFunc_api_Type_api_Type_check_sub_2 : ∀ (a0 : (List Typ)) (a1c0 : Typ) r, r_slices_IndexFunc_api_Type_api_Type_check_sub_2 a0 a1c0 = some r → PCalls Try.prog 93 [(PV.sl none 18 (List.map ofTyp a0)), (PV.fn (.func 64) [] [(PV.pt (ofTypX a1c0) 0)])] (I64 r)) (r_slices_ContainsFunc_api_Type_api_Type_check_sub_2 : (List Typ) → Typ → Option Bool) (c_slices_ContainsFunc_api_Type_api_Type_check_sub_2 : ∀ (a0 : (List Typ)) (a1c0 : Typ) r, r_slices_ContainsFunc_api_Type_api_Type_check_sub_2 a0 a1c0 = some r → PCalls Try.prog 63 [(PV.sl none 18 (List.map ofTyp a0)), (PV.fn (.func 64) [] [(PV.pt (ofTypX a1c0) 0)])] (BO r)) (r_check_sub : Typ → Typ → Option Bool) (c_check_sub : ∀ (a0 : Typ) (a1 : Typ) r, r_check_sub a0 a1 = some r → PCalls Try.prog 35 [(ofTypX a0), (ofTypX a1)] (BO r)) (a0 : Typ) (a1 : Typ) (r : Bool) (h : b_check_sub_2 r_check_dicts r_check_sub_1_1 r_check_sub_3 r_slices_IndexFunc_api_Type_api_Type_check_sub_3 r_slices_ContainsFunc_api_Type_api_Type_check_sub_3 r_check_sub_2 r_slices_IndexFunc_api_Type_api_Type_check_sub_2 r_slices_ContainsFunc_api_Type_api_Type_check_sub_2 r_check_sub a0 a1 = some r) : PCalls Try.prog 64 [(ofTypX a0), (PV.pt (ofTypX a1) 0)] (BO r) := by
 unfold b_check_sub_2 at h
 refine acalls_of Try.func64 rfl Try.ntmps64 Try.results64 rfl (aw_of_bw ?_)
 change BW _ _ _ ⟨[(0, (ofTypX a0)), (1, (PV.pt (ofTypX a1) 0))], [], _⟩ _
 refine bR ?_
 refine sS rfl rfl rfl (op1_box rfl rfl rfl) ?_
 refine sA rfl rfl rfl rfl rfl (ao_nil ?_)
 change BW _ _ _ _ _
 refine bR ?_
 refine sS rfl rfl rfl ((op1_ldRA inf_34 Try.underlying34 rfl rfl rfl rfl rfl rfl)) ?_
 refine sS rfl rfl rfl (op1_ldPW inf_34 Try.underlying34 rfl rfl rfl rfl rfl) ?_
 obtain ⟨x1, hx1, h⟩ := obind h
 refine sS rfl rfl rfl (op1_pcall rfl en_35 rfl (.cons (Wk.refl _) (.cons (Wk.refl _) .nil)) ⟨(ids_TypX a0), ⟨(ids_TypX a1), trivial⟩⟩ (c_check_sub a0 a1 x1 hx1) rfl) ?_
 refine sS rfl rfl rfl (op1_not rfl rfl) ?_
 refine sA rfl rfl rfl rfl rfl (ao_nil ?_)
 change BW _ _ _ _ _
 refine bw_ret ?_
 change ∃ xs, _ = some xs ∧ EndOk _ _ _ _
 obtain rfl := Option.some.inj h
 exact ⟨_, rfl, endOk0 (y := (BO ((!x1)))) (Wk.refl _) rfl ⟨rfl, rfl⟩⟩
theorem t_slices_IndexFunc_api_Type_api_Type_check_sub_2 (r_check_dicts : Typ → Typ → Option Bool) (c_check_dicts : ∀ (a0 : Typ) (a1 : Typ) r, r_check_dicts a0 a1 = some r → PCalls Try.prog 66 [(ofTypX a0), (ofTypX a1)] (BO r)) (r_check_sub_1_1 : Typ → Typ → Option Bool) (c_check_sub_1_1 : ∀ (a0 : Typ) (a1 : Typ) r, r_check_sub_1_1 a0 a1 = some r → PCalls Try.prog 62 [(ofTypX a0), (PV.pt (ofTypX a1) 0)] (BO r)) (r_check_sub_3 : Typ → Typ → Option Bool) (c_check_sub_3 : ∀ (a0 : Typ) (a1 : Typ) r, r_check_sub_3 a0 a1 = some r → PCalls Try.prog 65 [(ofTypX a0), (PV.pt (ofTypX a1) 0)] (BO r)) (r_slices_IndexFunc_api_Type_api_Type_check_sub_3 : (List Typ) → Typ → Option Int) (c_slices_IndexFunc_api_Type_api_Type_check_sub_3 : ∀ (a0 : (List Typ)) (a1c0 : Typ) r, r_slices_IndexFunc_api_Type_api_Type_check_sub_3 a0 a1c0 = some r → PCalls Try.prog 93 [(PV.sl none 18 (List.map ofTyp a0)), (PV.fn (.func 65) [] [(PV.pt (ofTypX a1c0) 0)])] (I64 r)) (r_slices_ContainsFunc_api_Type_api_Type_check_sub_3 : (List Typ) → Typ → Option Bool) (c_slices_ContainsFunc_api_Type_api_Type_check_sub_3 : ∀ (a0 : (List Typ)) (a1c0 : Typ) r, r_slices_ContainsFunc_api_Type_api_Type_check_sub_3 a0 a1c0 = some r → PCalls Try.prog 63 [(PV.sl none 18 (List.map ofTyp a0)), (PV.fn (.func 65) [] [(PV.pt (ofTypX a1c0) 0)])] (BO r)) (r_check_sub_2 : Typ → Typ → Option Bool) (c_check_sub_2 : ∀ (a0 : Typ) (a1 : Typ) r, r_check_sub_2 a0 a1 = some r → PCalls Try.prog 64 [(ofTypX a0), (PV.pt (ofTypX a1) 0)] (BO r)) (r_slices_IndexFunc_api_Type_api_Type_check_sub_2 : (List Typ) → Typ → Option Int) (c_slices_IndexFunc_api_Type_api_Type_check_sub_2 : ∀ (a0 : (List Typ)) (a1c0 : Typ) r, r_slices_IndexFunc_api_Type_api_Type_check_sub_2 a0 a1c0 = some r → PCalls Try.prog 93 [(PV.sl none 18 (List.map ofTyp a0)), (PV.fn (.func 64) [] [(PV.pt (ofTypX a1c0) 0)])] (I64 r)) (r_slices_ContainsFunc_api_Type_api_Type_check_sub_2 : (List Typ) → Typ → Option Bool) (c_slices_ContainsFunc_api_Type_api_Type_check_sub_2 : ∀ (a0 : (List Typ)) (a1c0 : Typ) r, r_slices_ContainsFunc_api_Type_api_Type_check_sub_2 a0 a1c0 = some r → PCalls Try.prog 63 [(PV.sl none 18 (List.map ofTyp a0)), (PV.fn (.func 64) [] [(PV.pt (ofTypX a1c0) 0)])] (BO r)) (r_check_sub : Typ → Typ → Option Bool) (c_check_sub : ∀ (a0 : Typ) (a1 : Typ) r, r_check_sub a0 a1 = some r → PCalls Try.prog 35 [(ofTypX a0), (ofTypX a1)] (BO r)) (a0 : (List Typ)) (a1c0 : Typ) (r : Int) (h : b_slices_IndexFunc_api_Type_api_Type_check_sub_2 r_check_dicts r_check_sub_1_1 r_check_sub_3 r_slices_IndexFunc_api_Type_api_Type_check_sub_3 r_slices_ContainsFunc_api_Type_api_Type_check_sub_3 r_check_sub_2 r_slices_IndexFunc_api_Type_api_Type_check_sub_2 r_slices_ContainsFunc_api_Type_api_Type_check_sub_2 r_check_sub a0 a1c0 = some r) : PCalls Try.prog 93 [(PV.sl none 18 (List.map ofTyp a0)), (PV.fn (.func 64) [] [(PV.pt (ofTypX a1c0) 0)])] (I64 r) := by
 unfold b_slices_IndexFunc_api_Type_api_Type_check_sub_2 at h
 refine acalls_of Try.func93 rfl Try.ntmps93 Try.results93 rfl (aw_of_bw ?_)
 change BW _ _ _ ⟨[(0, (PV.sl none 18 (List.map ofTyp a0))), (1, (PV.fn (.func 64) [] [(PV.pt (ofTypX a1c0) 0)]))], [], _⟩ _
 refine bR ?_
 refine sA rfl rfl rfl rfl rfl (ao_nil ?_)
 change BW _ _ _ _ _
 refine bw_seq ?_
 refine bR ?_
 refine sM rfl rfl rfl rfl rfl ?_
 refine sS rfl rfl rfl (op1_lenM Try.underlying30 rfl rfl) ?_
 refine sM rfl rfl rfl rfl rfl (ao_nil ?_)
 change BW _ _ _ _ _
 refine bw_block ?_
 change BW _ _ _ _ _
 unfold slices_IndexFunc_api_Type_api_Type_check_sub_2_l1 at h
 refine bw_loop (σ := Nat) (fun i => [(0, (PV.sl none 18 (List.map ofTyp a0))), (1, (PV.fn (.func 64) [] [(PV.pt (ofTypX a1c0) 0)])), (7, (I64 ((((a0).length : Nat) : Int)))), (8, (I64 (((i : Nat) : Int))))]) (fun i => []) 0 h ?_ ?_ ?_
 ·intro i; exact ⟨Nat.le_of_ble_eq_true rfl, ⟨(il_nil (ids_slM ids_Typ _)), ⟨(il_nil (ids_fnc (ids_pt1 (ids_TypX a1c0) rfl))), ⟨(il_nil rfl), ⟨(il_nil rfl), trivial⟩⟩⟩⟩, trivial⟩
 ·exact ⟨.nil, (sC rfl (sC rfl (sC rfl (sC rfl sub_nil))))⟩
 ·rintro g1_f s1 h; replace h : slices_IndexFunc_api_Type_api_Type_check_sub_2_l1b r_check_sub_2 a0 a1c0 (fun y0 => g1_f y0) s1 = some r := h; unfold slices_IndexFunc_api_Type_api_Type_check_sub_2_l1b at h
  change BW _ _ _ ⟨[(0, (PV.sl none 18 (List.map ofTyp a0))), (1, (PV.fn (.func 64) [] [(PV.pt (ofTypX a1c0) 0)])), (7, (I64 ((((a0).length : Nat) : Int)))), (8, (I64 (((s1 : Nat) : Int))))], [], _⟩ _
  refine bR ?_
  refine sS rfl rfl rfl ((op1_cmp rfl rfl rfl rfl).cast (y := (BO ((decide (((s1 : Nat) : Int) < (((a0).length : Nat) : Int)))))) rfl rfl) (ao_nil ?_)
  change BW _ _ _ _ _
  refine bw_seq ?_
  refine bw_len (t := 0) rfl fun hb3 => ?_
  try rw [List.length_map] at hb3
  refine bw_cond rfl ?_ ?_
  ·intro hc2; replace h := ocond_t hc2 h
   have hc2_ := of_decide_eq_true hc2
   refine bw_skip ?_
   change BW _ _ _ _ _
   refine bw_seq ?_
   refine bw_block ?_
   change BW _ _ _ _ _
   refine bR ?_
   refine sM rfl rfl rfl rfl rfl ?_
   refine sA rfl rfl rfl rfl rfl (ao_nil ?_)
   change BW _ _ _ _ _
   refine bR ?_
   refine sM rfl rfl rfl rfl rfl ?_
   refine sM rfl rfl rfl rfl rfl ?_
   refine sM rfl rfl rfl rfl rfl ?_
   obtain ⟨x4, hx4, h⟩ := obind h
   refine sS rfl rfl rfl (op1_idxN (i := s1) Try.underlying30 inf_34 rfl rfl rfl hx4 (ofTyp_eq _)) ?_
   refine sS rfl rfl rfl (op1_ldPW inf_34 Try.underlying34 rfl rfl rfl rfl rfl) ?_
   obtain ⟨x5, hx5, h⟩ := obind h
   refine sS rfl rfl rfl (op1_pcallC rfl rfl en_64 rfl (.cons (Wk.refl _) (.cons (Wk.refl _) .nil)) ⟨(ids_TypX x4), ⟨(ids_TypX a1c0), trivial⟩⟩ (c_check_sub_2 x4 a1c0 x5 hx5) rfl) (ao_nil ?_)
   change BW _ _ _ _ _
   refine bw_cond rfl ?_ ?_
   ·intro hc6; replace h := ocond_t hc6 h
    refine bR ?_
    refine sM rfl rfl rfl rfl rfl ?_
    refine sA rfl rfl rfl rfl rfl (ao_nil ?_)
    change BW _ _ _ _ _
    refine bw_ret ?_
    change ∃ xs, _ = some xs ∧ EndOk _ _ _ _
    obtain rfl := Option.some.inj h
    exact ⟨_, rfl, endOk0 (y := (I64 (((s1 : Nat) : Int)))) (Wk.refl _) rfl ⟨rfl, rfl⟩⟩
   ·intro hc6; replace h := ocond_f hc6 h
    refine bw_skip ?_
    change BW _ _ _ _ _
    refine bw_region ?_
    refine sS rfl rfl rfl (op1_incN (k := s1) (c := 1) rfl rfl rfl (by omega)) ?_
    refine sM rfl rfl rfl rfl rfl (ao_nil ?_)
    exact ⟨rfl, (s1 + 1), h, ⟨.nil, (sC rfl (sC rfl (sC rfl (sC rfl sub_nil))))⟩⟩
  ·intro hc2; replace h := ocond_f hc2 h
   refine bw_exit ?_
   change BW _ _ _ _ _
   refine bR ?_
   refine sA rfl rfl rfl rfl rfl (ao_nil ?_)
   change BW _ _ _ _ _
   refine bw_ret ?_
   change ∃ xs, _ = some xs ∧ EndOk _ _ _ _
   obtain rfl := Option.some.inj h
   exact ⟨_, rfl, endOk0 (y := (I64 ((-1)))) (Wk.refl _) rfl ⟨rfl, rfl⟩⟩
theorem t_slices_ContainsFunc_api_Type_api_Type_check_sub_2 (r_check_dicts : Typ → Typ → Option Bool) (c_check_dicts : ∀ (a0 : Typ) (a1 : Typ) r, r_check_dicts a0 a1 = some r → PCalls Try.prog 66 [(ofTypX a0), (ofTypX a1)] (BO r)) (r_check_sub_1_1 : Typ → Typ → Option Bool) (c_check_sub_1_1 : ∀ (a0 : Typ) (a1 : Typ) r, r_check_sub_1_1 a0 a1 = some r → PCalls Try.prog 62 [(ofTypX a0), (PV.pt (ofTypX a1) 0)] (BO r)) (r_check_sub_3 : Typ → Typ → Option Bool) (c_check_sub_3 : ∀ (a0 : Typ) (a1 : Typ) r, r_check_sub_3 a0 a1 = some r → PCalls Try.prog 65 [(ofTypX a0), (PV.pt (ofTypX a1) 0)] (BO r)) (r_slices_IndexFunc_api_Type_api_Type_check_sub_3 : (List Typ) → Typ → Option Int) (c_slices_IndexFunc_api_Type_api_Type_check_sub_3 : ∀ (a0 : (List Typ)) (a1c0 : Typ) r, r_slices_IndexFunc_api_Type_api_Type_check_sub_3 a0 a1c0 = some r → PCalls Try.prog 93 [(PV.sl none 18 (List.map ofTyp a0)), (PV.fn (.func 65) [] [(PV.pt (ofTypX a1c0) 0)])] (I64 r)) (r_slices_ContainsFunc_api_Type_api_Type_check_sub_3 : (List Typ) → Typ → Option Bool) (c_slices_ContainsFunc_api_Type_api_Type_check_sub_3 : ∀ (a0 : (List Typ)) (a1c0 : Typ) r, r_slices_ContainsFunc_api_Type_api_Type_check_sub_3 a0 a1c0 = some r → PCalls Try.prog 63 [(PV.sl none 18 (List.map ofTyp a0)), (PV.fn (.func 65) [] [(PV.pt (ofTypX a1c0) 0)])] (BO r)) (r_check_sub_2 : Typ → Typ → Option Bool) (c_check_sub_2 : ∀ (a0 : Typ) (a1 : Typ) r, r_check_sub_2 a0 a1 = some r → PCalls Try.prog 64 [(ofTypX a0), (PV.pt (ofTypX a1) 0)] (BO r)) (r_slices_IndexFunc_api_Type_api_Type_check_sub_2 : (List Typ) → Typ → Option Int) (c_slices_IndexFunc_api_Type_api_Type_check_sub_2 : ∀ (a0 : (List Typ)) (a1c0 : Typ) r, r_slices_IndexFunc_api_Type_api_Type_check_sub_2 a0 a1c0 = some r → PCalls Try.prog 93 [(PV.sl none 18 (List.map ofTyp a0)), (PV.fn (.func 64) [] [(PV.pt (ofTypX a1c0) 0)])] (I64 r)) (r_slices_ContainsFunc_api_Type_api_Type_check_sub_2 : (List Typ) → Typ → Option Bool) (c_slices_ContainsFunc_api_Type_api_Type_check_sub_2 : ∀ (a0 : (List Typ)) (a1c0 : Typ) r, r_slices_ContainsFunc_api_Type_api_Type_check_sub_2 a0 a1c0 = some r → PCalls Try.prog 63 [(PV.sl none 18 (List.map ofTyp a0)), (PV.fn (.func 64) [] [(PV.pt (ofTypX a1c0) 0)])] (BO r)) (r_check_sub : Typ → Typ → Option Bool) (c_check_sub : ∀ (a0 : Typ) (a1 : Typ) r, r_check_sub a0 a1 = some r → PCalls Try.prog 35 [(ofTypX a0), (ofTypX a1)] (BO r)) (a0 : (List Typ)) (a1c0 : Typ) (r : Bool) (h : b_slices_ContainsFunc_api_Type_api_Type_check_sub_2 r_check_dicts r_check_sub_1_1 r_check_sub_3 r_slices_IndexFunc_api_Type_api_Type_check_sub_3 r_slices_ContainsFunc_api_Type_api_Type_check_sub_3 r_check_sub_2 r_slices_IndexFunc_api_Type_api_Type_check_sub_2 r_slices_ContainsFunc_api_Type_api_Type_check_sub_2 r_check_sub a0 a1c0 = some r) : PCalls Try.prog 63 [(PV.sl none 18 (List.map ofTyp a0)), (PV.fn (.func 64) [] [(PV.pt (ofTypX a1c0) 0)])] (BO r) := by
 unfold b_slices_ContainsFunc_api_Type_api_Type_check_sub_2 at h
 refine acalls_of Try.func63 rfl Try.ntmps63 Try.results63 rfl (aw_of_bw ?_)
 change BW _ _ _ ⟨[(0, (PV.sl none 18 (List.map ofTyp a0))), (1, (PV.fn (.func 64) [] [(PV.pt (ofTypX a1c0) 0)]))], [], _⟩ _
 refine bR ?_
 refine sA rfl rfl rfl rfl rfl (ao_nil ?_)
 change BW _ _ _ _ _
 refine bR ?_
 refine sM rfl rfl rfl rfl rfl ?_
 refine sM rfl rfl rfl rfl rfl ?_
 obtain ⟨x1, hx1, h⟩ := obind h
 refine sS rfl rfl rfl (op1_pcall rfl en_93 rfl (.cons (Wk.refl _) (.cons (Wk.refl _) .nil)) ⟨(ids_slM ids_Typ a0), ⟨(ids_fnc (ids_pt1 (ids_TypX a1c0) rfl)), trivial⟩⟩ (c_slices_IndexFunc_api_Type_api_Type_check_sub_2 a0 a1c0 x1 hx1) rfl) ?_
 refine sS rfl rfl rfl ((op1_cmp rfl rfl rfl rfl).cast (y := (BO ((decide (x1 ≥ 0))))) rfl rfl) ?_
 refine sA rfl rfl rfl rfl rfl (ao_nil ?_)
 change BW _ _ _ _ _
 refine bw_ret ?_
 change ∃ xs, _ = some xs ∧ EndOk _ _ _ _
 obtain rfl := Option.some.inj h
 exact ⟨_, rfl, endOk0 (y := (BO ((decide (x1 ≥ 0))))) (Wk.refl _) rfl ⟨rfl, rfl⟩⟩
theorem t_check_sub (r_check_dicts : Typ → Typ → Option Bool) (c_check_dicts : ∀ (a0 : Typ) (a1 : Typ) r, r_check_dicts a0 a1 = some r → PCalls Try.prog 66 [(ofTypX a0), (ofTypX a1)] (BO r)) (r_check_sub_1_1 : Typ → Typ → Option Bool) (c_check_sub_1_1 : ∀ (a0 : Typ) (a1 : Typ) r, r_check_sub_1_1 a0 a1 = some r → PCalls Try.prog 62 [(ofTypX a0), (PV.pt (ofTypX a1) 0)] (BO r)) (r_check_sub_3 : Typ → Typ → Option Bool) (c_check_sub_3 : ∀ (a0 : Typ) (a1 : Typ) r, r_check_sub_3 a0 a1 = some r → PCalls Try.prog 65 [(ofTypX a0), (PV.pt (ofTypX a1) 0)] (BO r)) (r_slices_IndexFunc_api_Type_api_Type_check_sub_3 : (List Typ) → Typ → Option Int) (c_slices_IndexFunc_api_Type_api_Type_check_sub_3 : ∀ (a0 : (List Typ)) (a1c0 : Typ) r, r_slices_IndexFunc_api_Type_api_Type_check_sub_3 a0 a1c0 = some r → PCalls Try.prog 93 [(PV.sl none 18 (List.map ofTyp a0)), (PV.fn (.func 65) [] [(PV.pt (ofTypX a1c0) 0)])] (I64 r)) (r_slices_ContainsFunc_api_Type_api_Type_check_sub_3 : (List Typ) → Typ → Option Bool) (c_slices_ContainsFunc_api_Type_api_Type_check_sub_3 : ∀ (a0 : (List Typ)) (a1c0 : Typ) r, r_slices_ContainsFunc_api_Type_api_Type_check_sub_3 a0 a1c0 = some r → PCalls Try.prog 63 [(PV.sl none 18 (List.map ofTyp a0)), (PV.fn (.func 65) [] [(PV.pt (ofTypX a1c0) 0)])] (BO r)) (r_check_sub_2 : Typ → Typ → Option Bool) (c_check_sub_2 : ∀ (a0 : Typ) (a1 : Typ) r, r_check_sub_2 a0 a1 = some r → PCalls Try.prog 64 [(ofTypX a0), (PV.pt (ofTypX a1) 0)] (BO r)) (r_slices_IndexFunc_api_Type_api_Type_check_sub_2 : (List Typ) → Typ → Option Int) (c_slices_IndexFunc_api_Type_api_Type_check_sub_2 : ∀ (a0 : (List Typ)) (a1c0 : Typ) r, r_slices_IndexFunc_api_Type_api_Type_check_sub_2 a0 a1c0 = some r → PCalls Try.prog 93 [(PV.sl none 18 (List.map ofTyp a0)), (PV.fn (.func 64) [] [(PV.pt (ofTypX a1c0) 0)])] (I64 r)) (r_slices_ContainsFunc_api_Type_api_Type_check_sub_2 : (List Typ) → Typ → Option Bool) (c_slices_ContainsFunc_api_Type_api_Type_check_sub_2 : ∀ (a0 : (List Typ)) (a1c0 : Typ) r, r_slices_ContainsFunc_api_Type_api_Type_check_sub_2 a0 a1c0 = some r → PCalls Try.prog 63 [(PV.sl none 18 (List.map ofTyp a0)), (PV.fn (.func 64) [] [(PV.pt (ofTypX a1c0) 0)])] (BO r)) (r_check_sub : Typ → Typ → Option Bool) (c_check_sub : ∀ (a0 : Typ) (a1 : Typ) r, r_check_sub a0 a1 = some r → PCalls Try.prog 35 [(ofTypX a0), (ofTypX a1)] (BO r)) (a0 : Typ) (a1 : Typ) (r : Bool) (h : b_check_sub r_check_dicts r_check_sub_1_1 r_check_sub_3 r_slices_IndexFunc_api_Type_api_Type_check_sub_3 r_slices_ContainsFunc_api_Type_api_Type_check_sub_3 r_check_sub_2 r_slices_IndexFunc_api_Type_api_Type_check_sub_2 r_slices_ContainsFunc_api_Type_api_Type_check_sub_2 r_check_sub a0 a1 = some r) : PCalls Try.prog 35 [(ofTypX a0), (ofTypX a1)] (BO r) := by
 unfold b_check_sub at h
 refine acalls_of Try.func35 rfl Try.ntmps35 Try.results35 rfl (aw_of_bw ?_)
 change BW _ _ _ ⟨[(0, (ofTypX a0)), (1, (ofTypX a1))], [], _⟩ _
 refine bR ?_
 refine sS rfl rfl rfl (op1_box rfl rfl rfl) ?_
 refine sS rfl rfl rfl (op1_box rfl rfl rfl) ?_
 refine sA rfl rfl rfl rfl rfl (ao_nil ?_)
 change BW _ _ _ _ _
 refine bw_seq ?_
 refine bw_thaw 0 2 (y := (PV.pt (ofTypX a0) 0)) rfl rfl (Wk.pt (x := .agg [(I64 a0.kind), (I64 a0.of), (I64 ((a0.only).kind)), (BO ((a0.only).bool)), (I64 ((a0.only).int)), (PV.v (.float .f64 (a0.only).float)), (ofStr (a0.only).text), (PV.sl none 1 (List.map ofB (a0.only).bytes)), (PV.v (.int .u64 (a0.only).ref)), (PV.sl none 11 (List.map ofTerm (a0.only).list)), (PV.sl none 12 (List.map ofEntry (a0.only).fields)), (ofStr (a0.only).cls), (I64 ((a0.only).ver)), (PV.sl none 18 (List.map ofTyp a0.parts)), (PV.sl none 1 (List.map ofStr a0.names)), (PV.sl none 1 (List.map ofBool a0.lacks)), (BO a0.opn), (ofStr a0.cls)]) (y := (ofTypX a0)) (.cons (Wk.refl _) (.cons (Wk.refl _) (.cons (Wk.refl _) (.cons (Wk.refl _) (.cons (Wk.refl _) (.cons (Wk.refl _) (.cons (Wk.refl _) (.cons (Wk.refl _) (.cons (Wk.refl _) (.cons (Wk.refl _) (.cons (Wk.refl _) (.cons (Wk.refl _) (.cons (Wk.refl _) (.cons (Wk.refl _) (.cons (Wk.refl _) (.cons (Wk.refl _) (.cons (Wk.refl _) (.cons (Wk.refl _) .nil))))))))))))))))))) ?_
 refine bw_thaw 1 3 (y := (PV.pt (ofTypX a1) 0)) rfl rfl (Wk.pt (x := .agg [(I64 a1.kind), (I64 a1.of), (I64 ((a1.only).kind)), (BO ((a1.only).bool)), (I64 ((a1.only).int)), (PV.v (.float .f64 (a1.only).float)), (ofStr (a1.only).text), (PV.sl none 1 (List.map ofB (a1.only).bytes)), (PV.v (.int .u64 (a1.only).ref)), (PV.sl none 11 (List.map ofTerm (a1.only).list)), (PV.sl none 12 (List.map ofEntry (a1.only).fields)), (ofStr (a1.only).cls), (I64 ((a1.only).ver)), (PV.sl none 18 (List.map ofTyp a1.parts)), (PV.sl none 1 (List.map ofStr a1.names)), (PV.sl none 1 (List.map ofBool a1.lacks)), (BO a1.opn), (ofStr a1.cls)]) (y := (ofTypX a1)) (.cons (Wk.refl _) (.cons (Wk.refl _) (.cons (Wk.refl _) (.cons (Wk.refl _) (.cons (Wk.refl _) (.cons (Wk.refl _) (.cons (Wk.refl _) (.cons (Wk.refl _) (.cons (Wk.refl _) (.cons (Wk.refl _) (.cons (Wk.refl _) (.cons (Wk.refl _) (.cons (Wk.refl _) (.cons (Wk.refl _) (.cons (Wk.refl _) (.cons (Wk.refl _) (.cons (Wk.refl _) (.cons (Wk.refl _) .nil))))))))))))))))))) ?_
 refine bw_region ?_
 refine sA rfl rfl rfl rfl rfl (ao_nil ?_)
 change BW _ _ _ _ _
 refine bw_seq ?_
 refine bw_block ?_
 change BW _ _ _ _ _
 refine bw_seqJ (ι := Bool) (fun i => check_sub_j1 r_check_dicts r_check_sub_1_1 r_slices_ContainsFunc_api_Type_api_Type_check_sub_3 r_slices_ContainsFunc_api_Type_api_Type_check_sub_2 a0 a1 i = some r) (fun i => [(2, (PV.pt (ofTypX a0) 0)), (3, (PV.pt (ofTypX a1) 0)), (5, (PV.fn (.func 61) [] [])), (10, (BO i))]) (fun i => []) ?_ ?_ ?_
 ·intro i; exact ⟨Nat.le_of_ble_eq_true rfl, ⟨(il_nil (ids_TypX _)), ⟨(il_nil (ids_TypX _)), ⟨(il_nil rfl), ⟨(il_nil rfl), trivial⟩⟩⟩⟩, trivial⟩
 ·rintro s1 h; replace h : check_sub_j1 r_check_dicts r_check_sub_1_1 r_slices_ContainsFunc_api_Type_api_Type_check_sub_3 r_slices_ContainsFunc_api_Type_api_Type_check_sub_2 a0 a1 s1 = some r := h; unfold check_sub_j1 at h
  change BW _ _ _ ⟨[(2, (PV.pt (ofTypX a0) 0)), (3, (PV.pt (ofTypX a1) 0)), (5, (PV.fn (.func 61) [] [])), (10, (BO s1))], [], _⟩ _
  refine bw_cond rfl ?_ ?_
  ·intro hc2; replace h := ocond_t hc2 h
   refine bR ?_
   refine sA rfl rfl rfl rfl rfl (ao_nil ?_)
   change BW _ _ _ _ _
   refine bw_ret ?_
   change ∃ xs, _ = some xs ∧ EndOk _ _ _ _
   obtain rfl := Option.some.inj h
   exact ⟨_, rfl, endOk0 (y := (BO true)) (Wk.refl _) rfl ⟨rfl, rfl⟩⟩
  ·intro hc2; replace h := ocond_f hc2 h
   refine bR ?_
   refine sS rfl rfl rfl (op1_faP st_34 (i := 0) rfl rfl rfl) ?_
   refine sS rfl rfl rfl (op1_ldP (y := (I64 a0.kind)) Try.underlying3 rfl rfl rfl rfl) ?_
   refine sS rfl rfl rfl ((op1_cmp rfl rfl rfl rfl).cast (y := (BO ((a0.kind == 7)))) rfl rfl) ?_
   refine sA rfl rfl rfl rfl rfl (ao_nil ?_)
   change BW _ _ _ _ _
   refine bw_cond rfl ?_ ?_
   ·intro hc3; replace h := ocond_t hc3 h
    refine bR ?_
    refine sS rfl rfl rfl (op1_faP st_34 (i := 3) rfl rfl rfl) ?_
    refine sS rfl rfl rfl (op1_ldP (y := (PV.sl none 18 (List.map ofTyp a0.parts))) Try.underlying30 rfl rfl rfl rfl) ?_
    refine sS rfl rfl rfl (op1_fn rfl rfl rfl) ?_
    obtain ⟨x4, hx4, h⟩ := obind h
    refine sS rfl rfl rfl (op1_pcall rfl en_63 rfl (.cons (Wk.refl _) (.cons (Wk.refl _) .nil)) ⟨(ids_slM ids_Typ a0.parts), ⟨(ids_fnc (ids_pt1 (ids_TypX a1) rfl)), trivial⟩⟩ (c_slices_ContainsFunc_api_Type_api_Type_check_sub_2 a0.parts a1 x4 hx4) rfl) ?_
    refine sS rfl rfl rfl (op1_not rfl rfl) ?_
    refine sA rfl rfl rfl rfl rfl (ao_nil ?_)
    change BW _ _ _ _ _
    refine bw_ret ?_
    change ∃ xs, _ = some xs ∧ EndOk _ _ _ _
    obtain rfl := Option.some.inj h
    exact ⟨_, rfl, endOk0 (y := (BO ((!x4)))) (Wk.refl _) rfl ⟨rfl, rfl⟩⟩
   ·intro hc3; replace h := ocond_f hc3 h
    refine bR ?_
    refine sS rfl rfl rfl (op1_faP st_34 (i := 0) rfl rfl rfl) ?_
    refine sS rfl rfl rfl (op1_ldP (y := (I64 a1.kind)) Try.underlying3 rfl rfl rfl rfl) ?_
    refine sS rfl rfl rfl ((op1_cmp rfl rfl rfl rfl).cast (y := (BO ((a1.kind == 7)))) rfl rfl) ?_
    refine sA rfl rfl rfl rfl rfl (ao_nil ?_)
    change BW _ _ _ _ _
    refine bw_cond rfl ?_ ?_
    ·intro hc5; replace h := ocond_t hc5 h
     refine bR ?_
     refine sS rfl rfl rfl (op1_faP st_34 (i := 3) rfl rfl rfl) ?_
     refine sS rfl rfl rfl (op1_ldP (y := (PV.sl none 18 (List.map ofTyp a1.parts))) Try.underlying30 rfl rfl rfl rfl) ?_
     refine sS rfl rfl rfl (op1_fn rfl rfl rfl) ?_
     obtain ⟨x6, hx6, h⟩ := obind h
     refine sS rfl rfl rfl (op1_pcall rfl en_63 rfl (.cons (Wk.refl _) (.cons (Wk.refl _) .nil)) ⟨(ids_slM ids_Typ a1.parts), ⟨(ids_fnc (ids_pt1 (ids_TypX a0) rfl)), trivial⟩⟩ (c_slices_ContainsFunc_api_Type_api_Type_check_sub_3 a1.parts a0 x6 hx6) rfl) ?_
     refine sA rfl rfl rfl rfl rfl (ao_nil ?_)
     change BW _ _ _ _ _
     refine bw_ret ?_
     change ∃ xs, _ = some xs ∧ EndOk _ _ _ _
     obtain rfl := Option.some.inj h
     exact ⟨_, rfl, endOk0 (y := (BO x6)) (Wk.refl _) rfl ⟨rfl, rfl⟩⟩
    ·intro hc5; replace h := ocond_f hc5 h
     refine bR ?_
     refine sS rfl rfl rfl (op1_faP st_34 (i := 0) rfl rfl rfl) ?_
     refine sS rfl rfl rfl (op1_ldP (y := (I64 a1.kind)) Try.underlying3 rfl rfl rfl rfl) ?_
     refine sS rfl rfl rfl ((op1_cmp rfl rfl rfl rfl).cast (y := (BO ((a1.kind == 2)))) rfl rfl) ?_
     refine sA rfl rfl rfl rfl rfl (ao_nil ?_)
     change BW _ _ _ _ _
     refine bw_cond rfl ?_ ?_
     ·intro hc7; replace h := ocond_t hc7 h
      refine bR ?_
      refine sA rfl rfl rfl rfl rfl (ao_nil ?_)
      change BW _ _ _ _ _
      refine bw_ret ?_
      change ∃ xs, _ = some xs ∧ EndOk _ _ _ _
      obtain rfl := Option.some.inj h
      exact ⟨_, rfl, endOk0 (y := (BO false)) (Wk.refl _) rfl ⟨rfl, rfl⟩⟩
     ·intro hc7; replace h := ocond_f hc7 h
      refine bR ?_
      refine sS rfl rfl rfl (op1_faP st_34 (i := 0) rfl rfl rfl) ?_
      refine sS rfl rfl rfl (op1_ldP (y := (I64 a0.kind)) Try.underlying3 rfl rfl rfl rfl) ?_
      refine sS rfl rfl rfl ((op1_cmp rfl rfl rfl rfl).cast (y := (BO ((a0.kind == 4)))) rfl rfl) ?_
      refine sA rfl rfl rfl rfl rfl (ao_nil ?_)
      change BW _ _ _ _ _
      refine bw_cond rfl ?_ ?_
      ·intro hc8; replace h := ocond_t hc8 h
       refine bR ?_
       refine sS rfl rfl rfl (op1_faP st_34 (i := 2) rfl rfl rfl) ?_
       refine sS rfl rfl rfl ((op1_ldPA inf_29 Try.underlying29 rfl rfl rfl rfl rfl)) ?_
       obtain ⟨x9, hx9, h⟩ := obind h
       refine sS rfl rfl rfl (op1_pcall rfl en_53 rfl (.cons (Wk.refl _) .nil) ⟨(ids_TermX (a0.only)), trivial⟩ (s_value_Of (a0.only) x9 hx9) (ids_tup_cons (ids_V x9.1) (ids_tup_cons rfl ids_tup_nil))) ?_
       refine sM rfl rfl rfl rfl rfl ?_
       refine sS rfl rfl rfl (op1_ext rfl rfl rfl) ?_
       refine sS rfl rfl rfl (op1_ext rfl rfl rfl) ?_
       refine sA rfl rfl rfl rfl rfl ?_
       refine sA rfl rfl rfl rfl rfl (ao_nil ?_)
       change BW _ _ _ _ _
       refine bR ?_
       refine sM rfl rfl rfl rfl rfl ?_
       refine sS rfl rfl rfl (op1_ldPW inf_34 Try.underlying34 rfl rfl rfl rfl rfl) ?_
       obtain ⟨x10, hx10, h⟩ := obind h
       refine sS rfl rfl rfl (op1_pcall rfl en_31 rfl (.cons (Wk.refl _) (.cons (Wk.refl _) (.cons (Wk.refl _) .nil))) ⟨(ids_V x9.1), ⟨(ids_TypX a1), ⟨rfl, trivial⟩⟩⟩ (s_check_is x9.1 a1 0 x10 hx10) (ids_tup_cons rfl (ids_tup_cons rfl ids_tup_nil))) ?_
       refine sM rfl rfl rfl rfl rfl ?_
       refine sS rfl rfl rfl (op1_ext rfl rfl rfl) ?_
       refine sS rfl rfl rfl (op1_ext rfl rfl rfl) ?_
       refine sA rfl rfl rfl rfl rfl ?_
       refine sA rfl rfl rfl rfl rfl (ao_nil ?_)
       change BW _ _ _ _ _
       refine bR ?_
       refine sM rfl rfl rfl rfl rfl ?_
       refine sA rfl rfl rfl rfl rfl (ao_nil ?_)
       change BW _ _ _ _ _
       refine bw_ret ?_
       change ∃ xs, _ = some xs ∧ EndOk _ _ _ _
       obtain rfl := Option.some.inj h
       exact ⟨_, rfl, endOk0 (y := (BO x10.1)) (Wk.refl _) rfl ⟨rfl, rfl⟩⟩
      ·intro hc8; replace h := ocond_f hc8 h
       refine bR ?_
       refine sS rfl rfl rfl (op1_faP st_34 (i := 0) rfl rfl rfl) ?_
       refine sS rfl rfl rfl (op1_ldP (y := (I64 a0.kind)) Try.underlying3 rfl rfl rfl rfl) ?_
       refine sS rfl rfl rfl ((op1_cmp rfl rfl rfl rfl).cast (y := (BO ((a0.kind == 1)))) rfl rfl) ?_
       refine sA rfl rfl rfl rfl rfl (ao_nil ?_)
       change BW _ _ _ _ _
       refine bw_cond rfl ?_ ?_
       ·intro hc11; replace h := ocond_t hc11 h
        refine bR ?_
        refine sA rfl rfl rfl rfl rfl (ao_nil ?_)
        change BW _ _ _ _ _
        refine bw_ret ?_
        change ∃ xs, _ = some xs ∧ EndOk _ _ _ _
        obtain rfl := Option.some.inj h
        exact ⟨_, rfl, endOk0 (y := (BO false)) (Wk.refl _) rfl ⟨rfl, rfl⟩⟩
       ·intro hc11; replace h := ocond_f hc11 h
        refine bR ?_
        refine sS rfl rfl rfl (op1_faP st_34 (i := 0) rfl rfl rfl) ?_
        refine sS rfl rfl rfl (op1_ldP (y := (I64 a0.kind)) Try.underlying3 rfl rfl rfl rfl) ?_
        refine sS rfl rfl rfl ((op1_cmp rfl rfl rfl rfl).cast (y := (BO ((a0.kind == 3)))) rfl rfl) ?_
        refine sA rfl rfl rfl rfl rfl (ao_nil ?_)
        change BW _ _ _ _ _
        refine bw_cond rfl ?_ ?_
        ·intro hc12; replace h := ocond_t hc12 h
         refine bR ?_
         refine sS rfl rfl rfl (op1_faP st_34 (i := 0) rfl rfl rfl) ?_
         refine sS rfl rfl rfl (op1_ldP (y := (I64 a1.kind)) Try.underlying3 rfl rfl rfl rfl) ?_
         refine sS rfl rfl rfl ((op1_cmp rfl rfl rfl rfl).cast (y := (BO ((a1.kind == 3)))) rfl rfl) ?_
         refine sM rfl rfl rfl rfl rfl ?_
         refine ao_cases (t := 68) rfl ?_ ?_
         ·intro hb13; replace h := ocond_t hb13 h
          refine ao_yes rfl rfl rfl rfl rfl rfl (op1_faP st_34 (i := 1) rfl rfl rfl) ?_
          refine ao_yes rfl rfl rfl rfl rfl rfl (op1_ldP (y := (I64 a0.of)) Try.underlying3 rfl rfl rfl rfl) ?_
          refine ao_yes rfl rfl rfl rfl rfl rfl (op1_faP st_34 (i := 1) rfl rfl rfl) ?_
          refine ao_yes rfl rfl rfl rfl rfl rfl (op1_ldP (y := (I64 a1.of)) Try.underlying3 rfl rfl rfl rfl) ?_
          refine ao_yes rfl rfl rfl rfl rfl rfl ((op1_cmp rfl rfl rfl rfl).cast (y := (BO ((a0.of == a1.of)))) rfl rfl) ?_
          refine sS rfl rfl rfl (op1_pickT rfl rfl rfl) ?_
          refine sA rfl rfl rfl rfl rfl (ao_nil ?_)
          change BW _ _ _ _ _
          refine bw_ret ?_
          change ∃ xs, _ = some xs ∧ EndOk _ _ _ _
          obtain rfl := Option.some.inj h
          exact ⟨_, rfl, endOk0 (y := (BO ((a0.of == a1.of)))) (Wk.refl _) rfl ⟨rfl, rfl⟩⟩
         ·intro hb13; replace h := ocond_f hb13 h
          refine ao_no rfl rfl rfl rfl rfl rfl ?_
          refine ao_no rfl rfl rfl rfl rfl rfl ?_
          refine ao_no rfl rfl rfl rfl rfl rfl ?_
          refine ao_no rfl rfl rfl rfl rfl rfl ?_
          refine ao_no rfl rfl rfl rfl rfl rfl ?_
          refine sS rfl rfl rfl (op1_pickF rfl rfl rfl) ?_
          refine sA rfl rfl rfl rfl rfl (ao_nil ?_)
          change BW _ _ _ _ _
          refine bw_ret ?_
          change ∃ xs, _ = some xs ∧ EndOk _ _ _ _
          obtain rfl := Option.some.inj h
          exact ⟨_, rfl, endOk0 (y := (BO false)) (Wk.refl _) rfl ⟨rfl, rfl⟩⟩
        ·intro hc12; replace h := ocond_f hc12 h
         refine bR ?_
         refine sS rfl rfl rfl (op1_faP st_34 (i := 0) rfl rfl rfl) ?_
         refine sS rfl rfl rfl (op1_ldP (y := (I64 a0.kind)) Try.underlying3 rfl rfl rfl rfl) ?_
         refine sS rfl rfl rfl ((op1_cmp rfl rfl rfl rfl).cast (y := (BO ((a0.kind == 5)))) rfl rfl) ?_
         refine sA rfl rfl rfl rfl rfl (ao_nil ?_)
         change BW _ _ _ _ _
         refine bw_cond rfl ?_ ?_
         ·intro hc14; replace h := ocond_t hc14 h
          refine bw_seq (bw_tail 23 [] [] mo (by kernel_rfl) ?_)
          refine ac_go rfl rfl rfl rfl (fun H hp => op1_faP st_34 (i := 0) rfl rfl rfl) ?_
          refine ac_go rfl rfl rfl rfl (fun H hp => op1_ldP (y := (I64 a1.kind)) Try.underlying3 rfl rfl rfl rfl) ?_
          refine ac_go rfl rfl rfl rfl (fun H hp => (op1_cmp rfl rfl rfl rfl).cast (y := (BO ((a1.kind == 3)))) rfl rfl) ?_
          refine ac_go rfl rfl rfl rfl (fun H hp => op1_move rfl rfl) ?_
          refine ac_cases 82 rfl ?_ ?_
          ·intro hb15; replace h := ocond_t hb15 h
           refine ac_yes rfl rfl rfl rfl rfl rfl rfl (fun H hp => op1_faP st_34 (i := 1) rfl rfl rfl) ?_
           refine ac_yes rfl rfl rfl rfl rfl rfl rfl (fun H hp => op1_ldP (y := (I64 a1.of)) Try.underlying3 rfl rfl rfl rfl) ?_
           refine ac_yes rfl rfl rfl rfl rfl rfl rfl (fun H hp => (op1_cmp rfl rfl rfl rfl).cast (y := (BO ((a1.of == 8)))) rfl rfl) ?_
           refine ac_go rfl rfl rfl rfl (fun H hp => op1_pickT rfl rfl rfl) ?_
           refine ac_go rfl rfl rfl rfl (fun H hp => op1_move rfl rfl) ?_
           refine ac_cases 87 rfl ?_ ?_
           ·intro hb16; replace h := ocond_t hb16 h
            refine ac_no rfl rfl rfl rfl rfl rfl rfl ?_
            refine ac_no rfl rfl rfl rfl rfl rfl rfl ?_
            refine ac_no rfl rfl rfl rfl rfl rfl rfl ?_
            refine ac_no rfl rfl rfl rfl rfl rfl rfl ?_
            refine ac_no rfl rfl rfl rfl rfl rfl rfl ?_
            refine ac_no rfl rfl rfl rfl rfl rfl rfl ?_
            refine ac_no rfl rfl rfl rfl rfl rfl rfl ?_
            refine ac_no rfl rfl rfl rfl rfl rfl rfl ?_
            refine ac_no rfl rfl rfl rfl rfl rfl rfl ?_
            refine ac_no rfl rfl rfl rfl rfl rfl rfl ?_
            refine ac_no rfl rfl rfl rfl rfl rfl rfl ?_
            refine ac_no rfl rfl rfl rfl rfl rfl rfl ?_
            refine ac_no rfl rfl rfl rfl rfl rfl rfl ?_
            refine ac_no rfl rfl rfl rfl rfl rfl rfl ?_
            refine ac_nil ?_
            change AO _ _ _ _ _
            refine ao_no rfl rfl rfl rfl rfl rfl ?_
            refine ao_no rfl rfl rfl rfl rfl rfl ?_
            refine sS rfl rfl rfl (op1_pickT rfl rfl rfl) ?_
            refine sA rfl rfl rfl rfl rfl (ao_nil ?_)
            change BW _ _ _ _ _
            refine bw_ret ?_
            change ∃ xs, _ = some xs ∧ EndOk _ _ _ _
            obtain rfl := Option.some.inj h
            exact ⟨_, rfl, endOk0 (y := (BO true)) (Wk.refl _) rfl ⟨rfl, rfl⟩⟩
           ·intro hb16; replace h := ocond_f hb16 h
            refine ac_yes rfl rfl rfl rfl rfl rfl rfl (fun H hp => op1_faP st_34 (i := 0) rfl rfl rfl) ?_
            refine ac_yes rfl rfl rfl rfl rfl rfl rfl (fun H hp => op1_ldP (y := (I64 a1.kind)) Try.underlying3 rfl rfl rfl rfl) ?_
            refine ac_yes rfl rfl rfl rfl rfl rfl rfl (fun H hp => (op1_cmp rfl rfl rfl rfl).cast (y := (BO ((a1.kind == 5)))) rfl rfl) ?_
            refine ac_yes rfl rfl rfl rfl rfl rfl rfl (fun H hp => op1_move rfl rfl) ?_
            refine ac_cases 91 rfl ?_ ?_
            ·intro hb17; replace h := ocond_t hb17 h
             refine ac_yes rfl rfl rfl rfl rfl rfl rfl (fun H hp => op1_move rfl rfl) ?_
             refine ac_yes rfl rfl rfl rfl rfl rfl rfl (fun H hp => op1_faP st_34 (i := 3) rfl rfl rfl) ?_
             refine ac_yes rfl rfl rfl rfl rfl rfl rfl (fun H hp => op1_ldP (y := (PV.sl none 18 (List.map ofTyp a1.parts))) Try.underlying30 rfl rfl rfl rfl) ?_
             obtain ⟨x18, hx18, h⟩ := obind h
             refine ac_yes rfl rfl rfl rfl rfl rfl rfl (fun H hp => op1_idxN (i := 0) Try.underlying30 inf_34 rfl rfl rfl hx18 (ofTyp_eq _)) ?_
             refine ac_yes rfl rfl rfl rfl rfl rfl rfl (fun H hp => op1_ldPW inf_34 Try.underlying34 rfl rfl rfl rfl rfl) ?_
             obtain ⟨x19, hx19, h⟩ := obind h
             refine ac_yes rfl rfl rfl rfl rfl rfl rfl (fun H hp => op1_pcallV rfl rfl en_61 rfl (.cons (Wk.refl _) .nil) ⟨(ids_TypX x18), trivial⟩ (s_check_sub_1 x18 x19 hx19) (ids_fnc (ids_pt1 (ids_TypX x19) rfl))) ?_
             refine ac_yes rfl rfl rfl rfl rfl rfl rfl (fun H hp => op1_faP st_34 (i := 3) rfl rfl rfl) ?_
             refine ac_yes rfl rfl rfl rfl rfl rfl rfl (fun H hp => op1_ldP (y := (PV.sl none 18 (List.map ofTyp a0.parts))) Try.underlying30 rfl rfl rfl rfl) ?_
             obtain ⟨x20, hx20, h⟩ := obind h
             refine ac_yes rfl rfl rfl rfl rfl rfl rfl (fun H hp => op1_idxN (i := 0) Try.underlying30 inf_34 rfl rfl rfl hx20 (ofTyp_eq _)) ?_
             refine ac_yes rfl rfl rfl rfl rfl rfl rfl (fun H hp => op1_ldPW inf_34 Try.underlying34 rfl rfl rfl rfl rfl) ?_
             refine ac_nil ?_
             change AO _ _ _ _ _
             obtain ⟨x21, hx21, h⟩ := obind h
             refine ao_yes rfl rfl rfl rfl rfl rfl (op1_pcallC rfl rfl en_62 rfl (.cons (Wk.refl _) (.cons (Wk.refl _) .nil)) ⟨(ids_TypX x20), ⟨(ids_TypX x19), trivial⟩⟩ (c_check_sub_1_1 x20 x19 x21 hx21) rfl) ?_
             refine ao_yes rfl rfl rfl rfl rfl rfl (op1_pickT rfl rfl rfl) ?_
             refine sS rfl rfl rfl (op1_pickF rfl rfl rfl) ?_
             refine sA rfl rfl rfl rfl rfl (ao_nil ?_)
             change BW _ _ _ _ _
             refine bw_ret ?_
             change ∃ xs, _ = some xs ∧ EndOk _ _ _ _
             obtain rfl := Option.some.inj h
             exact ⟨_, rfl, endOk0 (y := (BO x21)) (Wk.refl _) rfl ⟨rfl, rfl⟩⟩
            ·intro hb17; replace h := ocond_f hb17 h
             refine ac_no rfl rfl rfl rfl rfl rfl rfl ?_
             refine ac_no rfl rfl rfl rfl rfl rfl rfl ?_
             refine ac_no rfl rfl rfl rfl rfl rfl rfl ?_
             refine ac_no rfl rfl rfl rfl rfl rfl rfl ?_
             refine ac_no rfl rfl rfl rfl rfl rfl rfl ?_
             refine ac_no rfl rfl rfl rfl rfl rfl rfl ?_
             refine ac_no rfl rfl rfl rfl rfl rfl rfl ?_
             refine ac_no rfl rfl rfl rfl rfl rfl rfl ?_
             refine ac_no rfl rfl rfl rfl rfl rfl rfl ?_
             refine ac_no rfl rfl rfl rfl rfl rfl rfl ?_
             refine ac_nil ?_
             change AO _ _ _ _ _
             refine ao_no rfl rfl rfl rfl rfl rfl ?_
             refine ao_yes rfl rfl rfl rfl rfl rfl (op1_pickF rfl rfl rfl) ?_
             refine sS rfl rfl rfl (op1_pickF rfl rfl rfl) ?_
             refine sA rfl rfl rfl rfl rfl (ao_nil ?_)
             change BW _ _ _ _ _
             refine bw_ret ?_
             change ∃ xs, _ = some xs ∧ EndOk _ _ _ _
             obtain rfl := Option.some.inj h
             exact ⟨_, rfl, endOk0 (y := (BO false)) (Wk.refl _) rfl ⟨rfl, rfl⟩⟩
          ·intro hb15; replace h := ocond_f hb15 h
           refine ac_no rfl rfl rfl rfl rfl rfl rfl ?_
           refine ac_no rfl rfl rfl rfl rfl rfl rfl ?_
           refine ac_no rfl rfl rfl rfl rfl rfl rfl ?_
           refine ac_go rfl rfl rfl rfl (fun H hp => op1_pickF rfl rfl rfl) ?_
           refine ac_go rfl rfl rfl rfl (fun H hp => op1_move rfl rfl) ?_
           refine ac_yes rfl rfl rfl rfl rfl rfl rfl (fun H hp => op1_faP st_34 (i := 0) rfl rfl rfl) ?_
           refine ac_yes rfl rfl rfl rfl rfl rfl rfl (fun H hp => op1_ldP (y := (I64 a1.kind)) Try.underlying3 rfl rfl rfl rfl) ?_
           refine ac_yes rfl rfl rfl rfl rfl rfl rfl (fun H hp => (op1_cmp rfl rfl rfl rfl).cast (y := (BO ((a1.kind == 5)))) rfl rfl) ?_
           refine ac_yes rfl rfl rfl rfl rfl rfl rfl (fun H hp => op1_move rfl rfl) ?_
           refine ac_cases 91 rfl ?_ ?_
           ·intro hb22; replace h := ocond_t hb22 h
            refine ac_yes rfl rfl rfl rfl rfl rfl rfl (fun H hp => op1_move rfl rfl) ?_
            refine ac_yes rfl rfl rfl rfl rfl rfl rfl (fun H hp => op1_faP st_34 (i := 3) rfl rfl rfl) ?_
            refine ac_yes rfl rfl rfl rfl rfl rfl rfl (fun H hp => op1_ldP (y := (PV.sl none 18 (List.map ofTyp a1.parts))) Try.underlying30 rfl rfl rfl rfl) ?_
            obtain ⟨x23, hx23, h⟩ := obind h
            refine ac_yes rfl rfl rfl rfl rfl rfl rfl (fun H hp => op1_idxN (i := 0) Try.underlying30 inf_34 rfl rfl rfl hx23 (ofTyp_eq _)) ?_
            refine ac_yes rfl rfl rfl rfl rfl rfl rfl (fun H hp => op1_ldPW inf_34 Try.underlying34 rfl rfl rfl rfl rfl) ?_
            obtain ⟨x24, hx24, h⟩ := obind h
            refine ac_yes rfl rfl rfl rfl rfl rfl rfl (fun H hp => op1_pcallV rfl rfl en_61 rfl (.cons (Wk.refl _) .nil) ⟨(ids_TypX x23), trivial⟩ (s_check_sub_1 x23 x24 hx24) (ids_fnc (ids_pt1 (ids_TypX x24) rfl))) ?_
            refine ac_yes rfl rfl rfl rfl rfl rfl rfl (fun H hp => op1_faP st_34 (i := 3) rfl rfl rfl) ?_
            refine ac_yes rfl rfl rfl rfl rfl rfl rfl (fun H hp => op1_ldP (y := (PV.sl none 18 (List.map ofTyp a0.parts))) Try.underlying30 rfl rfl rfl rfl) ?_
            obtain ⟨x25, hx25, h⟩ := obind h
            refine ac_yes rfl rfl rfl rfl rfl rfl rfl (fun H hp => op1_idxN (i := 0) Try.underlying30 inf_34 rfl rfl rfl hx25 (ofTyp_eq _)) ?_
            refine ac_yes rfl rfl rfl rfl rfl rfl rfl (fun H hp => op1_ldPW inf_34 Try.underlying34 rfl rfl rfl rfl rfl) ?_
            refine ac_nil ?_
            change AO _ _ _ _ _
            obtain ⟨x26, hx26, h⟩ := obind h
            refine ao_yes rfl rfl rfl rfl rfl rfl (op1_pcallC rfl rfl en_62 rfl (.cons (Wk.refl _) (.cons (Wk.refl _) .nil)) ⟨(ids_TypX x25), ⟨(ids_TypX x24), trivial⟩⟩ (c_check_sub_1_1 x25 x24 x26 hx26) rfl) ?_
            refine ao_yes rfl rfl rfl rfl rfl rfl (op1_pickT rfl rfl rfl) ?_
            refine sS rfl rfl rfl (op1_pickF rfl rfl rfl) ?_
            refine sA rfl rfl rfl rfl rfl (ao_nil ?_)
            change BW _ _ _ _ _
            refine bw_ret ?_
            change ∃ xs, _ = some xs ∧ EndOk _ _ _ _
            obtain rfl := Option.some.inj h
            exact ⟨_, rfl, endOk0 (y := (BO x26)) (Wk.refl _) rfl ⟨rfl, rfl⟩⟩
           ·intro hb22; replace h := ocond_f hb22 h
            refine ac_no rfl rfl rfl rfl rfl rfl rfl ?_
            refine ac_no rfl rfl rfl rfl rfl rfl rfl ?_
            refine ac_no rfl rfl rfl rfl rfl rfl rfl ?_
            refine ac_no rfl rfl rfl rfl rfl rfl rfl ?_
            refine ac_no rfl rfl rfl rfl rfl rfl rfl ?_
            refine ac_no rfl rfl rfl rfl rfl rfl rfl ?_
            refine ac_no rfl rfl rfl rfl rfl rfl rfl ?_
            refine ac_no rfl rfl rfl rfl rfl rfl rfl ?_
            refine ac_no rfl rfl rfl rfl rfl rfl rfl ?_
            refine ac_no rfl rfl rfl rfl rfl rfl rfl ?_
            refine ac_nil ?_
            change AO _ _ _ _ _
            refine ao_no rfl rfl rfl rfl rfl rfl ?_
            refine ao_yes rfl rfl rfl rfl rfl rfl (op1_pickF rfl rfl rfl) ?_
            refine sS rfl rfl rfl (op1_pickF rfl rfl rfl) ?_
            refine sA rfl rfl rfl rfl rfl (ao_nil ?_)
            change BW _ _ _ _ _
            refine bw_ret ?_
            change ∃ xs, _ = some xs ∧ EndOk _ _ _ _
            obtain rfl := Option.some.inj h
            exact ⟨_, rfl, endOk0 (y := (BO false)) (Wk.refl _) rfl ⟨rfl, rfl⟩⟩
         ·intro hc14; replace h := ocond_f hc14 h
          refine bR ?_
          refine sS rfl rfl rfl (op1_faP st_34 (i := 0) rfl rfl rfl) ?_
          refine sS rfl rfl rfl (op1_ldP (y := (I64 a0.kind)) Try.underlying3 rfl rfl rfl rfl) ?_
          refine sS rfl rfl rfl ((op1_cmp rfl rfl rfl rfl).cast (y := (BO ((a0.kind == 8)))) rfl rfl) ?_
          refine sA rfl rfl rfl rfl rfl (ao_nil ?_)
          change BW _ _ _ _ _
          refine bw_cond rfl ?_ ?_
          ·intro hc27; replace h := ocond_t hc27 h
           refine bR ?_
           refine sS rfl rfl rfl (op1_faP st_34 (i := 0) rfl rfl rfl) ?_
           refine sS rfl rfl rfl (op1_ldP (y := (I64 a1.kind)) Try.underlying3 rfl rfl rfl rfl) ?_
           refine sS rfl rfl rfl ((op1_cmp rfl rfl rfl rfl).cast (y := (BO ((a1.kind == 3)))) rfl rfl) ?_
           refine sM rfl rfl rfl rfl rfl ?_
           refine ao_cases (t := 112) rfl ?_ ?_
           ·intro hb28; replace h := ocond_t hb28 h
            refine ao_yes rfl rfl rfl rfl rfl rfl (op1_faP st_34 (i := 1) rfl rfl rfl) ?_
            refine ao_yes rfl rfl rfl rfl rfl rfl (op1_ldP (y := (I64 a1.of)) Try.underlying3 rfl rfl rfl rfl) ?_
            refine ao_yes rfl rfl rfl rfl rfl rfl ((op1_cmp rfl rfl rfl rfl).cast (y := (BO ((a1.of == 10)))) rfl rfl) ?_
            refine sS rfl rfl rfl (op1_pickT rfl rfl rfl) ?_
            refine sM rfl rfl rfl rfl rfl ?_
            refine ao_cases (t := 117) rfl ?_ ?_
            ·intro hb29; replace h := ocond_t hb29 h
             refine ao_no rfl rfl rfl rfl rfl rfl ?_
             refine ao_no rfl rfl rfl rfl rfl rfl ?_
             refine ao_no rfl rfl rfl rfl rfl rfl ?_
             refine ao_no rfl rfl rfl rfl rfl rfl ?_
             refine ao_no rfl rfl rfl rfl rfl rfl ?_
             refine ao_no rfl rfl rfl rfl rfl rfl ?_
             refine ao_no rfl rfl rfl rfl rfl rfl ?_
             refine ao_no rfl rfl rfl rfl rfl rfl ?_
             refine ao_no rfl rfl rfl rfl rfl rfl ?_
             refine ao_no rfl rfl rfl rfl rfl rfl ?_
             refine sS rfl rfl rfl (op1_pickT rfl rfl rfl) ?_
             refine sA rfl rfl rfl rfl rfl (ao_nil ?_)
             change BW _ _ _ _ _
             refine bw_ret ?_
             change ∃ xs, _ = some xs ∧ EndOk _ _ _ _
             obtain rfl := Option.some.inj h
             exact ⟨_, rfl, endOk0 (y := (BO true)) (Wk.refl _) rfl ⟨rfl, rfl⟩⟩
            ·intro hb29; replace h := ocond_f hb29 h
             refine ao_yes rfl rfl rfl rfl rfl rfl (op1_faP st_34 (i := 0) rfl rfl rfl) ?_
             refine ao_yes rfl rfl rfl rfl rfl rfl (op1_ldP (y := (I64 a1.kind)) Try.underlying3 rfl rfl rfl rfl) ?_
             refine ao_yes rfl rfl rfl rfl rfl rfl ((op1_cmp rfl rfl rfl rfl).cast (y := (BO ((a1.kind == 8)))) rfl rfl) ?_
             refine ao_yes rfl rfl rfl rfl rfl rfl (op1_move rfl rfl) ?_
             refine ao_cases (t := 121) rfl ?_ ?_
             ·intro hb30; replace h := ocond_t hb30 h
              refine ao_yes rfl rfl rfl rfl rfl rfl (op1_faP st_34 (i := 7) rfl rfl rfl) ?_
              refine ao_yes rfl rfl rfl rfl rfl rfl (op1_ldP (y := (ofStr a0.cls)) Try.underlying9 rfl rfl rfl rfl) ?_
              refine ao_yes rfl rfl rfl rfl rfl rfl (op1_faP st_34 (i := 7) rfl rfl rfl) ?_
              refine ao_yes rfl rfl rfl rfl rfl rfl (op1_ldP (y := (ofStr a1.cls)) Try.underlying9 rfl rfl rfl rfl) ?_
              refine ao_yes rfl rfl rfl rfl rfl rfl ((op1_cmpT (a := a0.cls) (b := a1.cls) rfl rfl rfl rfl).cast (y := (BO ((a0.cls == a1.cls)))) rfl rfl) ?_
              refine ao_yes rfl rfl rfl rfl rfl rfl (op1_pickT rfl rfl rfl) ?_
              refine sS rfl rfl rfl (op1_pickF rfl rfl rfl) ?_
              refine sA rfl rfl rfl rfl rfl (ao_nil ?_)
              change BW _ _ _ _ _
              refine bw_ret ?_
              change ∃ xs, _ = some xs ∧ EndOk _ _ _ _
              obtain rfl := Option.some.inj h
              exact ⟨_, rfl, endOk0 (y := (BO ((a0.cls == a1.cls)))) (Wk.refl _) rfl ⟨rfl, rfl⟩⟩
             ·intro hb30; replace h := ocond_f hb30 h
              refine ao_no rfl rfl rfl rfl rfl rfl ?_
              refine ao_no rfl rfl rfl rfl rfl rfl ?_
              refine ao_no rfl rfl rfl rfl rfl rfl ?_
              refine ao_no rfl rfl rfl rfl rfl rfl ?_
              refine ao_no rfl rfl rfl rfl rfl rfl ?_
              refine ao_yes rfl rfl rfl rfl rfl rfl (op1_pickF rfl rfl rfl) ?_
              refine sS rfl rfl rfl (op1_pickF rfl rfl rfl) ?_
              refine sA rfl rfl rfl rfl rfl (ao_nil ?_)
              change BW _ _ _ _ _
              refine bw_ret ?_
              change ∃ xs, _ = some xs ∧ EndOk _ _ _ _
              obtain rfl := Option.some.inj h
              exact ⟨_, rfl, endOk0 (y := (BO false)) (Wk.refl _) rfl ⟨rfl, rfl⟩⟩
           ·intro hb28; replace h := ocond_f hb28 h
            refine ao_no rfl rfl rfl rfl rfl rfl ?_
            refine ao_no rfl rfl rfl rfl rfl rfl ?_
            refine ao_no rfl rfl rfl rfl rfl rfl ?_
            refine sS rfl rfl rfl (op1_pickF rfl rfl rfl) ?_
            refine sM rfl rfl rfl rfl rfl ?_
            refine ao_yes rfl rfl rfl rfl rfl rfl (op1_faP st_34 (i := 0) rfl rfl rfl) ?_
            refine ao_yes rfl rfl rfl rfl rfl rfl (op1_ldP (y := (I64 a1.kind)) Try.underlying3 rfl rfl rfl rfl) ?_
            refine ao_yes rfl rfl rfl rfl rfl rfl ((op1_cmp rfl rfl rfl rfl).cast (y := (BO ((a1.kind == 8)))) rfl rfl) ?_
            refine ao_yes rfl rfl rfl rfl rfl rfl (op1_move rfl rfl) ?_
            refine ao_cases (t := 121) rfl ?_ ?_
            ·intro hb31; replace h := ocond_t hb31 h
             refine ao_yes rfl rfl rfl rfl rfl rfl (op1_faP st_34 (i := 7) rfl rfl rfl) ?_
             refine ao_yes rfl rfl rfl rfl rfl rfl (op1_ldP (y := (ofStr a0.cls)) Try.underlying9 rfl rfl rfl rfl) ?_
             refine ao_yes rfl rfl rfl rfl rfl rfl (op1_faP st_34 (i := 7) rfl rfl rfl) ?_
             refine ao_yes rfl rfl rfl rfl rfl rfl (op1_ldP (y := (ofStr a1.cls)) Try.underlying9 rfl rfl rfl rfl) ?_
             refine ao_yes rfl rfl rfl rfl rfl rfl ((op1_cmpT (a := a0.cls) (b := a1.cls) rfl rfl rfl rfl).cast (y := (BO ((a0.cls == a1.cls)))) rfl rfl) ?_
             refine ao_yes rfl rfl rfl rfl rfl rfl (op1_pickT rfl rfl rfl) ?_
             refine sS rfl rfl rfl (op1_pickF rfl rfl rfl) ?_
             refine sA rfl rfl rfl rfl rfl (ao_nil ?_)
             change BW _ _ _ _ _
             refine bw_ret ?_
             change ∃ xs, _ = some xs ∧ EndOk _ _ _ _
             obtain rfl := Option.some.inj h
             exact ⟨_, rfl, endOk0 (y := (BO ((a0.cls == a1.cls)))) (Wk.refl _) rfl ⟨rfl, rfl⟩⟩
            ·intro hb31; replace h := ocond_f hb31 h
             refine ao_no rfl rfl rfl rfl rfl rfl ?_
             refine ao_no rfl rfl rfl rfl rfl rfl ?_
             refine ao_no rfl rfl rfl rfl rfl rfl ?_
             refine ao_no rfl rfl rfl rfl rfl rfl ?_
             refine ao_no rfl rfl rfl rfl rfl rfl ?_
             refine ao_yes rfl rfl rfl rfl rfl rfl (op1_pickF rfl rfl rfl) ?_
             refine sS rfl rfl rfl (op1_pickF rfl rfl rfl) ?_
             refine sA rfl rfl rfl rfl rfl (ao_nil ?_)
             change BW _ _ _ _ _
             refine bw_ret ?_
             change ∃ xs, _ = some xs ∧ EndOk _ _ _ _
             obtain rfl := Option.some.inj h
             exact ⟨_, rfl, endOk0 (y := (BO false)) (Wk.refl _) rfl ⟨rfl, rfl⟩⟩
          ·intro hc27; replace h := ocond_f hc27 h
           refine bR ?_
           refine sS rfl rfl rfl (op1_faP st_34 (i := 0) rfl rfl rfl) ?_
           refine sS rfl rfl rfl (op1_ldP (y := (I64 a0.kind)) Try.underlying3 rfl rfl rfl rfl) ?_
           refine sS rfl rfl rfl ((op1_cmp rfl rfl rfl rfl).cast (y := (BO ((a0.kind == 6)))) rfl rfl) ?_
           refine sA rfl rfl rfl rfl rfl (ao_nil ?_)
           change BW _ _ _ _ _
           refine bw_cond rfl ?_ ?_
           ·intro hc32; replace h := ocond_t hc32 h
            refine bR ?_
            refine sS rfl rfl rfl (op1_faP st_34 (i := 0) rfl rfl rfl) ?_
            refine sS rfl rfl rfl (op1_ldP (y := (I64 a1.kind)) Try.underlying3 rfl rfl rfl rfl) ?_
            refine sS rfl rfl rfl ((op1_cmp rfl rfl rfl rfl).cast (y := (BO ((a1.kind == 3)))) rfl rfl) ?_
            refine sM rfl rfl rfl rfl rfl ?_
            refine ao_cases (t := 136) rfl ?_ ?_
            ·intro hb33; replace h := ocond_t hb33 h
             refine ao_yes rfl rfl rfl rfl rfl rfl (op1_faP st_34 (i := 1) rfl rfl rfl) ?_
             refine ao_yes rfl rfl rfl rfl rfl rfl (op1_ldP (y := (I64 a1.of)) Try.underlying3 rfl rfl rfl rfl) ?_
             refine ao_yes rfl rfl rfl rfl rfl rfl ((op1_cmp rfl rfl rfl rfl).cast (y := (BO ((a1.of == 9)))) rfl rfl) ?_
             refine sS rfl rfl rfl (op1_pickT rfl rfl rfl) ?_
             refine sM rfl rfl rfl rfl rfl ?_
             refine ao_cases (t := 141) rfl ?_ ?_
             ·intro hb34; replace h := ocond_t hb34 h
              refine ao_no rfl rfl rfl rfl rfl rfl ?_
              refine ao_no rfl rfl rfl rfl rfl rfl ?_
              refine ao_no rfl rfl rfl rfl rfl rfl ?_
              refine ao_no rfl rfl rfl rfl rfl rfl ?_
              refine ao_no rfl rfl rfl rfl rfl rfl ?_
              refine ao_no rfl rfl rfl rfl rfl rfl ?_
              refine ao_no rfl rfl rfl rfl rfl rfl ?_
              refine ao_no rfl rfl rfl rfl rfl rfl ?_
              refine sS rfl rfl rfl (op1_pickT rfl rfl rfl) ?_
              refine sA rfl rfl rfl rfl rfl (ao_nil ?_)
              change BW _ _ _ _ _
              refine bw_ret ?_
              change ∃ xs, _ = some xs ∧ EndOk _ _ _ _
              obtain rfl := Option.some.inj h
              exact ⟨_, rfl, endOk0 (y := (BO true)) (Wk.refl _) rfl ⟨rfl, rfl⟩⟩
             ·intro hb34; replace h := ocond_f hb34 h
              refine ao_yes rfl rfl rfl rfl rfl rfl (op1_faP st_34 (i := 0) rfl rfl rfl) ?_
              refine ao_yes rfl rfl rfl rfl rfl rfl (op1_ldP (y := (I64 a1.kind)) Try.underlying3 rfl rfl rfl rfl) ?_
              refine ao_yes rfl rfl rfl rfl rfl rfl ((op1_cmp rfl rfl rfl rfl).cast (y := (BO ((a1.kind == 6)))) rfl rfl) ?_
              refine ao_yes rfl rfl rfl rfl rfl rfl (op1_move rfl rfl) ?_
              refine ao_cases (t := 145) rfl ?_ ?_
              ·intro hb35; replace h := ocond_t hb35 h
               refine ao_yes rfl rfl rfl rfl rfl rfl (op1_ldPW inf_34 Try.underlying34 rfl rfl rfl rfl rfl) ?_
               refine ao_yes rfl rfl rfl rfl rfl rfl (op1_ldPW inf_34 Try.underlying34 rfl rfl rfl rfl rfl) ?_
               obtain ⟨x36, hx36, h⟩ := obind h
               refine ao_yes rfl rfl rfl rfl rfl rfl (op1_pcall rfl en_66 rfl (.cons (Wk.refl _) (.cons (Wk.refl _) .nil)) ⟨(ids_TypX a0), ⟨(ids_TypX a1), trivial⟩⟩ (c_check_dicts a0 a1 x36 hx36) rfl) ?_
               refine ao_yes rfl rfl rfl rfl rfl rfl (op1_pickT rfl rfl rfl) ?_
               refine sS rfl rfl rfl (op1_pickF rfl rfl rfl) ?_
               refine sA rfl rfl rfl rfl rfl (ao_nil ?_)
               change BW _ _ _ _ _
               refine bw_ret ?_
               change ∃ xs, _ = some xs ∧ EndOk _ _ _ _
               obtain rfl := Option.some.inj h
               exact ⟨_, rfl, endOk0 (y := (BO x36)) (Wk.refl _) rfl ⟨rfl, rfl⟩⟩
              ·intro hb35; replace h := ocond_f hb35 h
               refine ao_no rfl rfl rfl rfl rfl rfl ?_
               refine ao_no rfl rfl rfl rfl rfl rfl ?_
               refine ao_no rfl rfl rfl rfl rfl rfl ?_
               refine ao_yes rfl rfl rfl rfl rfl rfl (op1_pickF rfl rfl rfl) ?_
               refine sS rfl rfl rfl (op1_pickF rfl rfl rfl) ?_
               refine sA rfl rfl rfl rfl rfl (ao_nil ?_)
               change BW _ _ _ _ _
               refine bw_ret ?_
               change ∃ xs, _ = some xs ∧ EndOk _ _ _ _
               obtain rfl := Option.some.inj h
               exact ⟨_, rfl, endOk0 (y := (BO false)) (Wk.refl _) rfl ⟨rfl, rfl⟩⟩
            ·intro hb33; replace h := ocond_f hb33 h
             refine ao_no rfl rfl rfl rfl rfl rfl ?_
             refine ao_no rfl rfl rfl rfl rfl rfl ?_
             refine ao_no rfl rfl rfl rfl rfl rfl ?_
             refine sS rfl rfl rfl (op1_pickF rfl rfl rfl) ?_
             refine sM rfl rfl rfl rfl rfl ?_
             refine ao_yes rfl rfl rfl rfl rfl rfl (op1_faP st_34 (i := 0) rfl rfl rfl) ?_
             refine ao_yes rfl rfl rfl rfl rfl rfl (op1_ldP (y := (I64 a1.kind)) Try.underlying3 rfl rfl rfl rfl) ?_
             refine ao_yes rfl rfl rfl rfl rfl rfl ((op1_cmp rfl rfl rfl rfl).cast (y := (BO ((a1.kind == 6)))) rfl rfl) ?_
             refine ao_yes rfl rfl rfl rfl rfl rfl (op1_move rfl rfl) ?_
             refine ao_cases (t := 145) rfl ?_ ?_
             ·intro hb37; replace h := ocond_t hb37 h
              refine ao_yes rfl rfl rfl rfl rfl rfl (op1_ldPW inf_34 Try.underlying34 rfl rfl rfl rfl rfl) ?_
              refine ao_yes rfl rfl rfl rfl rfl rfl (op1_ldPW inf_34 Try.underlying34 rfl rfl rfl rfl rfl) ?_
              obtain ⟨x38, hx38, h⟩ := obind h
              refine ao_yes rfl rfl rfl rfl rfl rfl (op1_pcall rfl en_66 rfl (.cons (Wk.refl _) (.cons (Wk.refl _) .nil)) ⟨(ids_TypX a0), ⟨(ids_TypX a1), trivial⟩⟩ (c_check_dicts a0 a1 x38 hx38) rfl) ?_
              refine ao_yes rfl rfl rfl rfl rfl rfl (op1_pickT rfl rfl rfl) ?_
              refine sS rfl rfl rfl (op1_pickF rfl rfl rfl) ?_
              refine sA rfl rfl rfl rfl rfl (ao_nil ?_)
              change BW _ _ _ _ _
              refine bw_ret ?_
              change ∃ xs, _ = some xs ∧ EndOk _ _ _ _
              obtain rfl := Option.some.inj h
              exact ⟨_, rfl, endOk0 (y := (BO x38)) (Wk.refl _) rfl ⟨rfl, rfl⟩⟩
             ·intro hb37; replace h := ocond_f hb37 h
              refine ao_no rfl rfl rfl rfl rfl rfl ?_
              refine ao_no rfl rfl rfl rfl rfl rfl ?_
              refine ao_no rfl rfl rfl rfl rfl rfl ?_
              refine ao_yes rfl rfl rfl rfl rfl rfl (op1_pickF rfl rfl rfl) ?_
              refine sS rfl rfl rfl (op1_pickF rfl rfl rfl) ?_
              refine sA rfl rfl rfl rfl rfl (ao_nil ?_)
              change BW _ _ _ _ _
              refine bw_ret ?_
              change ∃ xs, _ = some xs ∧ EndOk _ _ _ _
              obtain rfl := Option.some.inj h
              exact ⟨_, rfl, endOk0 (y := (BO false)) (Wk.refl _) rfl ⟨rfl, rfl⟩⟩
           ·intro hc32; replace h := ocond_f hc32 h
            refine bw_skip ?_
            change BW _ _ _ _ _
            refine bR ?_
            refine sA rfl rfl rfl rfl rfl (ao_nil ?_)
            change BW _ _ _ _ _
            refine bw_ret ?_
            change ∃ xs, _ = some xs ∧ EndOk _ _ _ _
            obtain rfl := Option.some.inj h
            exact ⟨_, rfl, endOk0 (y := (BO false)) (Wk.refl _) rfl ⟨rfl, rfl⟩⟩
 ·refine bw_region ?_
  refine sS rfl rfl rfl (op1_faP st_34 (i := 0) rfl rfl rfl) ?_
  refine sS rfl rfl rfl (op1_ldP (y := (I64 a1.kind)) Try.underlying3 rfl rfl rfl rfl) ?_
  refine sS rfl rfl rfl ((op1_cmp rfl rfl rfl rfl).cast (y := (BO ((a1.kind == 1)))) rfl rfl) ?_
  refine sM rfl rfl rfl rfl rfl ?_
  refine ao_cases (t := 14) rfl ?_ ?_
  ·intro hb39; replace h := ocond_t hb39 h
   refine ao_no rfl rfl rfl rfl rfl rfl ?_
   refine ao_no rfl rfl rfl rfl rfl rfl ?_
   refine ao_no rfl rfl rfl rfl rfl rfl ?_
   refine sS rfl rfl rfl (op1_pickT rfl rfl rfl) ?_
   refine sA rfl rfl rfl rfl rfl (ao_nil ?_)
   exact ⟨rfl, true, h, ⟨.nil, (sC rfl (sC rfl (sC rfl (sC rfl sub_nil))))⟩⟩
  ·intro hb39; replace h := ocond_f hb39 h
   refine ao_yes rfl rfl rfl rfl rfl rfl (op1_faP st_34 (i := 0) rfl rfl rfl) ?_
   refine ao_yes rfl rfl rfl rfl rfl rfl (op1_ldP (y := (I64 a0.kind)) Try.underlying3 rfl rfl rfl rfl) ?_
   refine ao_yes rfl rfl rfl rfl rfl rfl ((op1_cmp rfl rfl rfl rfl).cast (y := (BO ((a0.kind == 2)))) rfl rfl) ?_
   refine sS rfl rfl rfl (op1_pickF rfl rfl rfl) ?_
   refine sA rfl rfl rfl rfl rfl (ao_nil ?_)
   exact ⟨rfl, (a0.kind == 2), h, ⟨.nil, (sC rfl (sC rfl (sC rfl (sC rfl sub_nil))))⟩⟩
theorem C_check_dicts.sound : ∀ (i : C_check_dicts) (r : i.R), fixO C_check_dicts.F i = some r → C_check_dicts.Q i r := by
 refine fixO_ind (Φ := C_check_dicts.F) (Q := C_check_dicts.Q) ?_
 intro g hg i r h
 cases i with
 | k_check_dicts a0 a1 => exact t_check_dicts (fun a0 a1 => g (.k_check_dicts a0 a1)) (fun a0 a1 r hr => hg (.k_check_dicts a0 a1) r hr) (fun a0 a1 => g (.k_check_sub_1_1 a0 a1)) (fun a0 a1 r hr => hg (.k_check_sub_1_1 a0 a1) r hr) (fun a0 a1 => g (.k_check_sub_3 a0 a1)) (fun a0 a1 r hr => hg (.k_check_sub_3 a0 a1) r hr) (fun a0 a1c0 => g (.k_slices_IndexFunc_api_Type_api_Type_check_sub_3 a0 a1c0)) (fun a0 a1c0 r hr => hg (.k_slices_IndexFunc_api_Type_api_Type_check_sub_3 a0 a1c0) r hr) (fun a0 a1c0 => g (.k_slices_ContainsFunc_api_Type_api_Type_check_sub_3 a0 a1c0)) (fun a0 a1c0 r hr => hg (.k_slices_ContainsFunc_api_Type_api_Type_check_sub_3 a0 a1c0) r hr) (fun a0 a1 => g (.k_check_sub_2 a0 a1)) (fun a0 a1 r hr => hg (.k_check_sub_2 a0 a1) r hr) (fun a0 a1c0 => g (.k_slices_IndexFunc_api_Type_api_Type_check_sub_2 a0 a1c0)) (fun a0 a1c0 r hr => hg (.k_slices_IndexFunc_api_Type_api_Type_check_sub_2 a0 a1c0) r hr) (fun a0 a1c0 => g (.k_slices_ContainsFunc_api_Type_api_Type_check_sub_2 a0 a1c0)) (fun a0 a1c0 r hr => hg (.k_slices_ContainsFunc_api_Type_api_Type_check_sub_2 a0 a1c0) r hr) (fun a0 a1 => g (.k_check_sub a0 a1)) (fun a0 a1 r hr => hg (.k_check_sub a0 a1) r hr) a0 a1 r h
 | k_check_sub_1_1 a0 a1 => exact t_check_sub_1_1 (fun a0 a1 => g (.k_check_dicts a0 a1)) (fun a0 a1 r hr => hg (.k_check_dicts a0 a1) r hr) (fun a0 a1 => g (.k_check_sub_1_1 a0 a1)) (fun a0 a1 r hr => hg (.k_check_sub_1_1 a0 a1) r hr) (fun a0 a1 => g (.k_check_sub_3 a0 a1)) (fun a0 a1 r hr => hg (.k_check_sub_3 a0 a1) r hr) (fun a0 a1c0 => g (.k_slices_IndexFunc_api_Type_api_Type_check_sub_3 a0 a1c0)) (fun a0 a1c0 r hr => hg (.k_slices_IndexFunc_api_Type_api_Type_check_sub_3 a0 a1c0) r hr) (fun a0 a1c0 => g (.k_slices_ContainsFunc_api_Type_api_Type_check_sub_3 a0 a1c0)) (fun a0 a1c0 r hr => hg (.k_slices_ContainsFunc_api_Type_api_Type_check_sub_3 a0 a1c0) r hr) (fun a0 a1 => g (.k_check_sub_2 a0 a1)) (fun a0 a1 r hr => hg (.k_check_sub_2 a0 a1) r hr) (fun a0 a1c0 => g (.k_slices_IndexFunc_api_Type_api_Type_check_sub_2 a0 a1c0)) (fun a0 a1c0 r hr => hg (.k_slices_IndexFunc_api_Type_api_Type_check_sub_2 a0 a1c0) r hr) (fun a0 a1c0 => g (.k_slices_ContainsFunc_api_Type_api_Type_check_sub_2 a0 a1c0)) (fun a0 a1c0 r hr => hg (.k_slices_ContainsFunc_api_Type_api_Type_check_sub_2 a0 a1c0) r hr) (fun a0 a1 => g (.k_check_sub a0 a1)) (fun a0 a1 r hr => hg (.k_check_sub a0 a1) r hr) a0 a1 r h
 | k_check_sub_3 a0 a1 => exact t_check_sub_3 (fun a0 a1 => g (.k_check_dicts a0 a1)) (fun a0 a1 r hr => hg (.k_check_dicts a0 a1) r hr) (fun a0 a1 => g (.k_check_sub_1_1 a0 a1)) (fun a0 a1 r hr => hg (.k_check_sub_1_1 a0 a1) r hr) (fun a0 a1 => g (.k_check_sub_3 a0 a1)) (fun a0 a1 r hr => hg (.k_check_sub_3 a0 a1) r hr) (fun a0 a1c0 => g (.k_slices_IndexFunc_api_Type_api_Type_check_sub_3 a0 a1c0)) (fun a0 a1c0 r hr => hg (.k_slices_IndexFunc_api_Type_api_Type_check_sub_3 a0 a1c0) r hr) (fun a0 a1c0 => g (.k_slices_ContainsFunc_api_Type_api_Type_check_sub_3 a0 a1c0)) (fun a0 a1c0 r hr => hg (.k_slices_ContainsFunc_api_Type_api_Type_check_sub_3 a0 a1c0) r hr) (fun a0 a1 => g (.k_check_sub_2 a0 a1)) (fun a0 a1 r hr => hg (.k_check_sub_2 a0 a1) r hr) (fun a0 a1c0 => g (.k_slices_IndexFunc_api_Type_api_Type_check_sub_2 a0 a1c0)) (fun a0 a1c0 r hr => hg (.k_slices_IndexFunc_api_Type_api_Type_check_sub_2 a0 a1c0) r hr) (fun a0 a1c0 => g (.k_slices_ContainsFunc_api_Type_api_Type_check_sub_2 a0 a1c0)) (fun a0 a1c0 r hr => hg (.k_slices_ContainsFunc_api_Type_api_Type_check_sub_2 a0 a1c0) r hr) (fun a0 a1 => g (.k_check_sub a0 a1)) (fun a0 a1 r hr => hg (.k_check_sub a0 a1) r hr) a0 a1 r h
 | k_slices_IndexFunc_api_Type_api_Type_check_sub_3 a0 a1c0 => exact t_slices_IndexFunc_api_Type_api_Type_check_sub_3 (fun a0 a1 => g (.k_check_dicts a0 a1)) (fun a0 a1 r hr => hg (.k_check_dicts a0 a1) r hr) (fun a0 a1 => g (.k_check_sub_1_1 a0 a1)) (fun a0 a1 r hr => hg (.k_check_sub_1_1 a0 a1) r hr) (fun a0 a1 => g (.k_check_sub_3 a0 a1)) (fun a0 a1 r hr => hg (.k_check_sub_3 a0 a1) r hr) (fun a0 a1c0 => g (.k_slices_IndexFunc_api_Type_api_Type_check_sub_3 a0 a1c0)) (fun a0 a1c0 r hr => hg (.k_slices_IndexFunc_api_Type_api_Type_check_sub_3 a0 a1c0) r hr) (fun a0 a1c0 => g (.k_slices_ContainsFunc_api_Type_api_Type_check_sub_3 a0 a1c0)) (fun a0 a1c0 r hr => hg (.k_slices_ContainsFunc_api_Type_api_Type_check_sub_3 a0 a1c0) r hr) (fun a0 a1 => g (.k_check_sub_2 a0 a1)) (fun a0 a1 r hr => hg (.k_check_sub_2 a0 a1) r hr) (fun a0 a1c0 => g (.k_slices_IndexFunc_api_Type_api_Type_check_sub_2 a0 a1c0)) (fun a0 a1c0 r hr => hg (.k_slices_IndexFunc_api_Type_api_Type_check_sub_2 a0 a1c0) r hr) (fun a0 a1c0 => g (.k_slices_ContainsFunc_api_Type_api_Type_check_sub_2 a0 a1c0)) (fun a0 a1c0 r hr => hg (.k_slices_ContainsFunc_api_Type_api_Type_check_sub_2 a0 a1c0) r hr) (fun a0 a1 => g (.k_check_sub a0 a1)) (fun a0 a1 r hr => hg (.k_check_sub a0 a1) r hr) a0 a1c0 r h
 | k_slices_ContainsFunc_api_Type_api_Type_check_sub_3 a0 a1c0 => exact t_slices_ContainsFunc_api_Type_api_Type_check_sub_3 (fun a0 a1 => g (.k_check_dicts a0 a1)) (fun a0 a1 r hr => hg (.k_check_dicts a0 a1) r hr) (fun a0 a1 => g (.k_check_sub_1_1 a0 a1)) (fun a0 a1 r hr => hg (.k_check_sub_1_1 a0 a1) r hr) (fun a0 a1 => g (.k_check_sub_3 a0 a1)) (fun a0 a1 r hr => hg (.k_check_sub_3 a0 a1) r hr) (fun a0 a1c0 => g (.k_slices_IndexFunc_api_Type_api_Type_check_sub_3 a0 a1c0)) (fun a0 a1c0 r hr => hg (.k_slices_IndexFunc_api_Type_api_Type_check_sub_3 a0 a1c0) r hr) (fun a0 a1c0 => g (.k_slices_ContainsFunc_api_Type_api_Type_check_sub_3 a0 a1c0)) (fun a0 a1c0 r hr => hg (.k_slices_ContainsFunc_api_Type_api_Type_check_sub_3 a0 a1c0) r hr) (fun a0 a1 => g (.k_check_sub_2 a0 a1)) (fun a0 a1 r hr => hg (.k_check_sub_2 a0 a1) r hr) (fun a0 a1c0 => g (.k_slices_IndexFunc_api_Type_api_Type_check_sub_2 a0 a1c0)) (fun a0 a1c0 r hr => hg (.k_slices_IndexFunc_api_Type_api_Type_check_sub_2 a0 a1c0) r hr) (fun a0 a1c0 => g (.k_slices_ContainsFunc_api_Type_api_Type_check_sub_2 a0 a1c0)) (fun a0 a1c0 r hr => hg (.k_slices_ContainsFunc_api_Type_api_Type_check_sub_2 a0 a1c0) r hr) (fun a0 a1 => g (.k_check_sub a0 a1)) (fun a0 a1 r hr => hg (.k_check_sub a0 a1) r hr) a0 a1c0 r h
 | k_check_sub_2 a0 a1 => exact t_check_sub_2 (fun a0 a1 => g (.k_check_dicts a0 a1)) (fun a0 a1 r hr => hg (.k_check_dicts a0 a1) r hr) (fun a0 a1 => g (.k_check_sub_1_1 a0 a1)) (fun a0 a1 r hr => hg (.k_check_sub_1_1 a0 a1) r hr) (fun a0 a1 => g (.k_check_sub_3 a0 a1)) (fun a0 a1 r hr => hg (.k_check_sub_3 a0 a1) r hr) (fun a0 a1c0 => g (.k_slices_IndexFunc_api_Type_api_Type_check_sub_3 a0 a1c0)) (fun a0 a1c0 r hr => hg (.k_slices_IndexFunc_api_Type_api_Type_check_sub_3 a0 a1c0) r hr) (fun a0 a1c0 => g (.k_slices_ContainsFunc_api_Type_api_Type_check_sub_3 a0 a1c0)) (fun a0 a1c0 r hr => hg (.k_slices_ContainsFunc_api_Type_api_Type_check_sub_3 a0 a1c0) r hr) (fun a0 a1 => g (.k_check_sub_2 a0 a1)) (fun a0 a1 r hr => hg (.k_check_sub_2 a0 a1) r hr) (fun a0 a1c0 => g (.k_slices_IndexFunc_api_Type_api_Type_check_sub_2 a0 a1c0)) (fun a0 a1c0 r hr => hg (.k_slices_IndexFunc_api_Type_api_Type_check_sub_2 a0 a1c0) r hr) (fun a0 a1c0 => g (.k_slices_ContainsFunc_api_Type_api_Type_check_sub_2 a0 a1c0)) (fun a0 a1c0 r hr => hg (.k_slices_ContainsFunc_api_Type_api_Type_check_sub_2 a0 a1c0) r hr) (fun a0 a1 => g (.k_check_sub a0 a1)) (fun a0 a1 r hr => hg (.k_check_sub a0 a1) r hr) a0 a1 r h
 | k_slices_IndexFunc_api_Type_api_Type_check_sub_2 a0 a1c0 => exact t_slices_IndexFunc_api_Type_api_Type_check_sub_2 (fun a0 a1 => g (.k_check_dicts a0 a1)) (fun a0 a1 r hr => hg (.k_check_dicts a0 a1) r hr) (fun a0 a1 => g (.k_check_sub_1_1 a0 a1)) (fun a0 a1 r hr => hg (.k_check_sub_1_1 a0 a1) r hr) (fun a0 a1 => g (.k_check_sub_3 a0 a1)) (fun a0 a1 r hr => hg (.k_check_sub_3 a0 a1) r hr) (fun a0 a1c0 => g (.k_slices_IndexFunc_api_Type_api_Type_check_sub_3 a0 a1c0)) (fun a0 a1c0 r hr => hg (.k_slices_IndexFunc_api_Type_api_Type_check_sub_3 a0 a1c0) r hr) (fun a0 a1c0 => g (.k_slices_ContainsFunc_api_Type_api_Type_check_sub_3 a0 a1c0)) (fun a0 a1c0 r hr => hg (.k_slices_ContainsFunc_api_Type_api_Type_check_sub_3 a0 a1c0) r hr) (fun a0 a1 => g (.k_check_sub_2 a0 a1)) (fun a0 a1 r hr => hg (.k_check_sub_2 a0 a1) r hr) (fun a0 a1c0 => g (.k_slices_IndexFunc_api_Type_api_Type_check_sub_2 a0 a1c0)) (fun a0 a1c0 r hr => hg (.k_slices_IndexFunc_api_Type_api_Type_check_sub_2 a0 a1c0) r hr) (fun a0 a1c0 => g (.k_slices_ContainsFunc_api_Type_api_Type_check_sub_2 a0 a1c0)) (fun a0 a1c0 r hr => hg (.k_slices_ContainsFunc_api_Type_api_Type_check_sub_2 a0 a1c0) r hr) (fun a0 a1 => g (.k_check_sub a0 a1)) (fun a0 a1 r hr => hg (.k_check_sub a0 a1) r hr) a0 a1c0 r h
 | k_slices_ContainsFunc_api_Type_api_Type_check_sub_2 a0 a1c0 => exact t_slices_ContainsFunc_api_Type_api_Type_check_sub_2 (fun a0 a1 => g (.k_check_dicts a0 a1)) (fun a0 a1 r hr => hg (.k_check_dicts a0 a1) r hr) (fun a0 a1 => g (.k_check_sub_1_1 a0 a1)) (fun a0 a1 r hr => hg (.k_check_sub_1_1 a0 a1) r hr) (fun a0 a1 => g (.k_check_sub_3 a0 a1)) (fun a0 a1 r hr => hg (.k_check_sub_3 a0 a1) r hr) (fun a0 a1c0 => g (.k_slices_IndexFunc_api_Type_api_Type_check_sub_3 a0 a1c0)) (fun a0 a1c0 r hr => hg (.k_slices_IndexFunc_api_Type_api_Type_check_sub_3 a0 a1c0) r hr) (fun a0 a1c0 => g (.k_slices_ContainsFunc_api_Type_api_Type_check_sub_3 a0 a1c0)) (fun a0 a1c0 r hr => hg (.k_slices_ContainsFunc_api_Type_api_Type_check_sub_3 a0 a1c0) r hr) (fun a0 a1 => g (.k_check_sub_2 a0 a1)) (fun a0 a1 r hr => hg (.k_check_sub_2 a0 a1) r hr) (fun a0 a1c0 => g (.k_slices_IndexFunc_api_Type_api_Type_check_sub_2 a0 a1c0)) (fun a0 a1c0 r hr => hg (.k_slices_IndexFunc_api_Type_api_Type_check_sub_2 a0 a1c0) r hr) (fun a0 a1c0 => g (.k_slices_ContainsFunc_api_Type_api_Type_check_sub_2 a0 a1c0)) (fun a0 a1c0 r hr => hg (.k_slices_ContainsFunc_api_Type_api_Type_check_sub_2 a0 a1c0) r hr) (fun a0 a1 => g (.k_check_sub a0 a1)) (fun a0 a1 r hr => hg (.k_check_sub a0 a1) r hr) a0 a1c0 r h
 | k_check_sub a0 a1 => exact t_check_sub (fun a0 a1 => g (.k_check_dicts a0 a1)) (fun a0 a1 r hr => hg (.k_check_dicts a0 a1) r hr) (fun a0 a1 => g (.k_check_sub_1_1 a0 a1)) (fun a0 a1 r hr => hg (.k_check_sub_1_1 a0 a1) r hr) (fun a0 a1 => g (.k_check_sub_3 a0 a1)) (fun a0 a1 r hr => hg (.k_check_sub_3 a0 a1) r hr) (fun a0 a1c0 => g (.k_slices_IndexFunc_api_Type_api_Type_check_sub_3 a0 a1c0)) (fun a0 a1c0 r hr => hg (.k_slices_IndexFunc_api_Type_api_Type_check_sub_3 a0 a1c0) r hr) (fun a0 a1c0 => g (.k_slices_ContainsFunc_api_Type_api_Type_check_sub_3 a0 a1c0)) (fun a0 a1c0 r hr => hg (.k_slices_ContainsFunc_api_Type_api_Type_check_sub_3 a0 a1c0) r hr) (fun a0 a1 => g (.k_check_sub_2 a0 a1)) (fun a0 a1 r hr => hg (.k_check_sub_2 a0 a1) r hr) (fun a0 a1c0 => g (.k_slices_IndexFunc_api_Type_api_Type_check_sub_2 a0 a1c0)) (fun a0 a1c0 r hr => hg (.k_slices_IndexFunc_api_Type_api_Type_check_sub_2 a0 a1c0) r hr) (fun a0 a1c0 => g (.k_slices_ContainsFunc_api_Type_api_Type_check_sub_2 a0 a1c0)) (fun a0 a1c0 r hr => hg (.k_slices_ContainsFunc_api_Type_api_Type_check_sub_2 a0 a1c0) r hr) (fun a0 a1 => g (.k_check_sub a0 a1)) (fun a0 a1 r hr => hg (.k_check_sub a0 a1) r hr) a0 a1 r h
theorem s_check_dicts (a0 : Typ) (a1 : Typ) (r : Bool) (h : p_check_dicts a0 a1 = some r) : PCalls Try.prog 66 [(ofTypX a0), (ofTypX a1)] (BO r) := C_check_dicts.sound (.k_check_dicts a0 a1) r h
theorem s_check_sub_1_1 (a0 : Typ) (a1 : Typ) (r : Bool) (h : p_check_sub_1_1 a0 a1 = some r) : PCalls Try.prog 62 [(ofTypX a0), (PV.pt (ofTypX a1) 0)] (BO r) := C_check_dicts.sound (.k_check_sub_1_1 a0 a1) r h
theorem s_check_sub_3 (a0 : Typ) (a1 : Typ) (r : Bool) (h : p_check_sub_3 a0 a1 = some r) : PCalls Try.prog 65 [(ofTypX a0), (PV.pt (ofTypX a1) 0)] (BO r) := C_check_dicts.sound (.k_check_sub_3 a0 a1) r h
theorem s_slices_IndexFunc_api_Type_api_Type_check_sub_3 (a0 : (List Typ)) (a1c0 : Typ) (r : Int) (h : p_slices_IndexFunc_api_Type_api_Type_check_sub_3 a0 a1c0 = some r) : PCalls Try.prog 93 [(PV.sl none 18 (List.map ofTyp a0)), (PV.fn (.func 65) [] [(PV.pt (ofTypX a1c0) 0)])] (I64 r) := C_check_dicts.sound (.k_slices_IndexFunc_api_Type_api_Type_check_sub_3 a0 a1c0) r h
theorem s_slices_ContainsFunc_api_Type_api_Type_check_sub_3 (a0 : (List Typ)) (a1c0 : Typ) (r : Bool) (h : p_slices_ContainsFunc_api_Type_api_Type_check_sub_3 a0 a1c0 = some r) : PCalls Try.prog 63 [(PV.sl none 18 (List.map ofTyp a0)), (PV.fn (.func 65) [] [(PV.pt (ofTypX a1c0) 0)])] (BO r) := C_check_dicts.sound (.k_slices_ContainsFunc_api_Type_api_Type_check_sub_3 a0 a1c0) r h
theorem s_check_sub_2 (a0 : Typ) (a1 : Typ) (r : Bool) (h : p_check_sub_2 a0 a1 = some r) : PCalls Try.prog 64 [(ofTypX a0), (PV.pt (ofTypX a1) 0)] (BO r) := C_check_dicts.sound (.k_check_sub_2 a0 a1) r h
theorem s_slices_IndexFunc_api_Type_api_Type_check_sub_2 (a0 : (List Typ)) (a1c0 : Typ) (r : Int) (h : p_slices_IndexFunc_api_Type_api_Type_check_sub_2 a0 a1c0 = some r) : PCalls Try.prog 93 [(PV.sl none 18 (List.map ofTyp a0)), (PV.fn (.func 64) [] [(PV.pt (ofTypX a1c0) 0)])] (I64 r) := C_check_dicts.sound (.k_slices_IndexFunc_api_Type_api_Type_check_sub_2 a0 a1c0) r h
theorem s_slices_ContainsFunc_api_Type_api_Type_check_sub_2 (a0 : (List Typ)) (a1c0 : Typ) (r : Bool) (h : p_slices_ContainsFunc_api_Type_api_Type_check_sub_2 a0 a1c0 = some r) : PCalls Try.prog 63 [(PV.sl none 18 (List.map ofTyp a0)), (PV.fn (.func 64) [] [(PV.pt (ofTypX a1c0) 0)])] (BO r) := C_check_dicts.sound (.k_slices_ContainsFunc_api_Type_api_Type_check_sub_2 a0 a1c0) r h
theorem s_check_sub (a0 : Typ) (a1 : Typ) (r : Bool) (h : p_check_sub a0 a1 = some r) : PCalls Try.prog 35 [(ofTypX a0), (ofTypX a1)] (BO r) := C_check_dicts.sound (.k_check_sub a0 a1) r h
end Go.Proofs.Ytiapdjdhaclmnaa
