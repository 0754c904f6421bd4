/- Pure functions, and that calls answer as they say. Written by gen.py. -/
import Derived.Test.YtkmhecgagibgjaaG1
namespace Go.Proofs.Ytkmhecgagibgjaa
open Go Aw
set_option linter.unusedVariables false
set_option linter.unusedSimpArgs false
set_option maxRecDepth 20000
set_option maxHeartbeats 2000000
noncomputable def b_value_field (r_value_field : (Str × V) → (Str × V) → Option Int) (r_slices_CompareFunc_api_Dict_api_Dict_api_Field_api_Field_value_field : (List (Str × V)) → (List (Str × V)) → Option Int) (r_slices_CompareFunc_api_List_api_List_any_any_value_order : (List V) → (List V) → Option Int) (r_value_order : V → V → Option Int) (a0 : (Str × V)) (a1 : (Str × V)) : Option Int :=
 Option.bind (p_value_cmp_string a0.1 a1.1) fun x1 =>
 bif (x1 != 0) then (
  some x1
 ) else (
  Option.bind (r_value_order a0.2 a1.2) fun x3 =>
  some x3
 )
theorem b_value_field_cm {ι : Type} {ρ : ι → Type} (r_value_field : (∀ i, Option (ρ i)) → (Str × V) → (Str × V) → Option Int) (h_r_value_field : ∀ y0 y1, CM (fun G => r_value_field G y0 y1)) (r_slices_CompareFunc_api_Dict_api_Dict_api_Field_api_Field_value_field : (∀ i, Option (ρ i)) → (List (Str × V)) → (List (Str × V)) → Option Int) (h_r_slices_CompareFunc_api_Dict_api_Dict_api_Field_api_Field_value_field : ∀ y0 y1, CM (fun G => r_slices_CompareFunc_api_Dict_api_Dict_api_Field_api_Field_value_field G y0 y1)) (r_slices_CompareFunc_api_List_api_List_any_any_value_order : (∀ i, Option (ρ i)) → (List V) → (List V) → Option Int) (h_r_slices_CompareFunc_api_List_api_List_any_any_value_order : ∀ y0 y1, CM (fun G => r_slices_CompareFunc_api_List_api_List_any_any_value_order G y0 y1)) (r_value_order : (∀ i, Option (ρ i)) → V → V → Option Int) (h_r_value_order : ∀ y0 y1, CM (fun G => r_value_order G y0 y1)) (a0 : (Str × V)) (a1 : (Str × V)) : CM (fun G : (∀ i, Option (ρ i)) => b_value_field (r_value_field G) (r_slices_CompareFunc_api_Dict_api_Dict_api_Field_api_Field_value_field G) (r_slices_CompareFunc_api_List_api_List_any_any_value_order G) (r_value_order G) a0 a1) := by
 simp only [b_value_field]
 repeat (first | exact cm_const | exact h_r_value_field _ _ | exact h_r_slices_CompareFunc_api_Dict_api_Dict_api_Field_api_Field_value_field _ _ | exact h_r_slices_CompareFunc_api_List_api_List_any_any_value_order _ _ | exact h_r_value_order _ _ | refine cm_cond ?_ ?_ | refine cm_bind ?_ (fun _ => ?_))
noncomputable def slices_CompareFunc_api_Dict_api_Dict_api_Field_api_Field_value_field_l1b (r_value_field : (Str × V) → (Str × V) → Option Int) (a0 : (List (Str × V))) (a1 : (List (Str × V))) (g1 : Nat → Option Int) (s1 : Nat) : Option Int :=
 bif (decide (((s1 : Nat) : Int) < (((a0).length : Nat) : Int))) then (
  Option.bind ((a0)[s1]?) fun x4 =>
  bif (decide (((s1 : Nat) : Int) ≥ (((a1).length : Nat) : Int))) then (
   some 1
  ) else (
   Option.bind ((a1)[s1]?) fun x6 =>
   Option.bind (r_value_field x4 x6) fun x7 =>
   bif (x7 != 0) then (
    some x7
   ) else (
    g1 (s1 + 1)
   )
  )
 ) else (
  bif (decide ((((a0).length : Nat) : Int) < (((a1).length : Nat) : Int))) then (
   some (-1)
  ) else (
   some 0
  )
 )
theorem slices_CompareFunc_api_Dict_api_Dict_api_Field_api_Field_value_field_l1b_cm {ι : Type} {ρ : ι → Type} (r_value_field : (∀ i, Option (ρ i)) → (Str × V) → (Str × V) → Option Int) (h_r_value_field : ∀ y0 y1, CM (fun G => r_value_field G y0 y1)) (g1 : (∀ i, Option (ρ i)) → Nat → Option Int) (h_g1 : ∀ y0, CM (fun G => g1 G y0)) (a0 : (List (Str × V))) (a1 : (List (Str × V))) (s1 : Nat) : CM (fun G : (∀ i, Option (ρ i)) => slices_CompareFunc_api_Dict_api_Dict_api_Field_api_Field_value_field_l1b (r_value_field G) a0 a1 (g1 G) s1) := by
 simp only [slices_CompareFunc_api_Dict_api_Dict_api_Field_api_Field_value_field_l1b]
 repeat (first | exact cm_const | exact h_r_value_field _ _ | exact h_g1 _ | refine cm_cond ?_ ?_ | refine cm_bind ?_ (fun _ => ?_))
noncomputable def slices_CompareFunc_api_Dict_api_Dict_api_Field_api_Field_value_field_l1 (r_value_field : (Str × V) → (Str × V) → Option Int) (a0 : (List (Str × V))) (a1 : (List (Str × V))) (s1 : Nat) : Option Int :=
 fixO (ι := Nat) (ρ := fun _ => Int) (fun g i => slices_CompareFunc_api_Dict_api_Dict_api_Field_api_Field_value_field_l1b r_value_field a0 a1 (fun s1 => g s1) i) s1
theorem slices_CompareFunc_api_Dict_api_Dict_api_Field_api_Field_value_field_l1_eq (r_value_field : (Str × V) → (Str × V) → Option Int) (a0 : (List (Str × V))) (a1 : (List (Str × V))) (s1 : Nat) : slices_CompareFunc_api_Dict_api_Dict_api_Field_api_Field_value_field_l1 r_value_field a0 a1 s1 = slices_CompareFunc_api_Dict_api_Dict_api_Field_api_Field_value_field_l1b r_value_field a0 a1 (slices_CompareFunc_api_Dict_api_Dict_api_Field_api_Field_value_field_l1 r_value_field a0 a1) s1 :=
 fixO_eq (ι := Nat) (ρ := fun _ => Int) (Φ := fun g i => slices_CompareFunc_api_Dict_api_Dict_api_Field_api_Field_value_field_l1b r_value_field a0 a1 (fun s1 => g s1) i) (fun i => slices_CompareFunc_api_Dict_api_Dict_api_Field_api_Field_value_field_l1b_cm (ι := Nat) (ρ := fun _ => Int) (fun _ => r_value_field) (fun _ _ => cm_const) (fun g => (fun s1 => g s1)) (fun _ => cm_app) a0 a1 i) s1
theorem slices_CompareFunc_api_Dict_api_Dict_api_Field_api_Field_value_field_l1_cm {ι : Type} {ρ : ι → Type} (r_value_field : (∀ i, Option (ρ i)) → (Str × V) → (Str × V) → Option Int) (h_r_value_field : ∀ y0 y1, CM (fun G => r_value_field G y0 y1)) (a0 : (List (Str × V))) (a1 : (List (Str × V))) (s1 : Nat) : CM (fun G : (∀ i, Option (ρ i)) => slices_CompareFunc_api_Dict_api_Dict_api_Field_api_Field_value_field_l1 (r_value_field G) a0 a1 s1) :=
 cm_fix (κ := Nat) (τ := fun _ => Int) (Φ := fun G g i => slices_CompareFunc_api_Dict_api_Dict_api_Field_api_Field_value_field_l1b (r_value_field G) a0 a1 (fun s1 => g s1) i) (fun g i => slices_CompareFunc_api_Dict_api_Dict_api_Field_api_Field_value_field_l1b_cm r_value_field h_r_value_field (fun _ => (fun s1 => g s1)) (fun _ => cm_const) a0 a1 i) (fun G i => slices_CompareFunc_api_Dict_api_Dict_api_Field_api_Field_value_field_l1b_cm (ι := Nat) (ρ := fun _ => Int) (fun _ => r_value_field G) (fun _ _ => cm_const) (fun g => (fun s1 => g s1)) (fun _ => cm_app) a0 a1 i) s1
noncomputable def b_slices_CompareFunc_api_Dict_api_Dict_api_Field_api_Field_value_field (r_value_field : (Str × V) → (Str × V) → Option Int) (r_slices_CompareFunc_api_Dict_api_Dict_api_Field_api_Field_value_field : (List (Str × V)) → (List (Str × V)) → Option Int) (r_slices_CompareFunc_api_List_api_List_any_any_value_order : (List V) → (List V) → Option Int) (r_value_order : V → V → Option Int) (a0 : (List (Str × V))) (a1 : (List (Str × V))) : Option Int :=
 slices_CompareFunc_api_Dict_api_Dict_api_Field_api_Field_value_field_l1 r_value_field a0 a1 0
theorem b_slices_CompareFunc_api_Dict_api_Dict_api_Field_api_Field_value_field_cm {ι : Type} {ρ : ι → Type} (r_value_field : (∀ i, Option (ρ i)) → (Str × V) → (Str × V) → Option Int) (h_r_value_field : ∀ y0 y1, CM (fun G => r_value_field G y0 y1)) (r_slices_CompareFunc_api_Dict_api_Dict_api_Field_api_Field_value_field : (∀ i, Option (ρ i)) → (List (Str × V)) → (List (Str × V)) → Option Int) (h_r_slices_CompareFunc_api_Dict_api_Dict_api_Field_api_Field_value_field : ∀ y0 y1, CM (fun G => r_slices_CompareFunc_api_Dict_api_Dict_api_Field_api_Field_value_field G y0 y1)) (r_slices_CompareFunc_api_List_api_List_any_any_value_order : (∀ i, Option (ρ i)) → (List V) → (List V) → Option Int) (h_r_slices_CompareFunc_api_List_api_List_any_any_value_order : ∀ y0 y1, CM (fun G => r_slices_CompareFunc_api_List_api_List_any_any_value_order G y0 y1)) (r_value_order : (∀ i, Option (ρ i)) → V → V → Option Int) (h_r_value_order : ∀ y0 y1, CM (fun G => r_value_order G y0 y1)) (a0 : (List (Str × V))) (a1 : (List (Str × V))) : CM (fun G : (∀ i, Option (ρ i)) => b_slices_CompareFunc_api_Dict_api_Dict_api_Field_api_Field_value_field (r_value_field G) (r_slices_CompareFunc_api_Dict_api_Dict_api_Field_api_Field_value_field G) (r_slices_CompareFunc_api_List_api_List_any_any_value_order G) (r_value_order G) a0 a1) := by
 simp only [b_slices_CompareFunc_api_Dict_api_Dict_api_Field_api_Field_value_field]
 repeat (first | exact cm_const | exact h_r_value_field _ _ | exact h_r_slices_CompareFunc_api_Dict_api_Dict_api_Field_api_Field_value_field _ _ | exact h_r_slices_CompareFunc_api_List_api_List_any_any_value_order _ _ | exact h_r_value_order _ _ | apply slices_CompareFunc_api_Dict_api_Dict_api_Field_api_Field_value_field_l1_cm | refine cm_cond ?_ ?_ | refine cm_bind ?_ (fun _ => ?_) | intro _ | assumption)
noncomputable def slices_CompareFunc_api_List_api_List_any_any_value_order_l1b (r_value_order : V → V → Option Int) (a0 : (List V)) (a1 : (List V)) (g1 : Nat → Option Int) (s1 : Nat) : Option Int :=
 bif (decide (((s1 : Nat) : Int) < (((a0).length : Nat) : Int))) then (
  Option.bind ((a0)[s1]?) fun x4 =>
  bif (decide (((s1 : Nat) : Int) ≥ (((a1).length : Nat) : Int))) then (
   some 1
  ) else (
   Option.bind ((a1)[s1]?) fun x6 =>
   Option.bind (r_value_order x4 x6) fun x7 =>
   bif (x7 != 0) then (
    some x7
   ) else (
    g1 (s1 + 1)
   )
  )
 ) else (
  bif (decide ((((a0).length : Nat) : Int) < (((a1).length : Nat) : Int))) then (
   some (-1)
  ) else (
   some 0
  )
 )
theorem slices_CompareFunc_api_List_api_List_any_any_value_order_l1b_cm {ι : Type} {ρ : ι → Type} (r_value_order : (∀ i, Option (ρ i)) → V → V → Option Int) (h_r_value_order : ∀ y0 y1, CM (fun G => r_value_order G y0 y1)) (g1 : (∀ i, Option (ρ i)) → Nat → Option Int) (h_g1 : ∀ y0, CM (fun G => g1 G y0)) (a0 : (List V)) (a1 : (List V)) (s1 : Nat) : CM (fun G : (∀ i, Option (ρ i)) => slices_CompareFunc_api_List_api_List_any_any_value_order_l1b (r_value_order G) a0 a1 (g1 G) s1) := by
 simp only [slices_CompareFunc_api_List_api_List_any_any_value_order_l1b]
 repeat (first | exact cm_const | exact h_r_value_order _ _ | exact h_g1 _ | refine cm_cond ?_ ?_ | refine cm_bind ?_ (fun _ => ?_))
noncomputable def slices_CompareFunc_api_List_api_List_any_any_value_order_l1 (r_value_order : V → V → Option Int) (a0 : (List V)) (a1 : (List V)) (s1 : Nat) : Option Int :=
 fixO (ι := Nat) (ρ := fun _ => Int) (fun g i => slices_CompareFunc_api_List_api_List_any_any_value_order_l1b r_value_order a0 a1 (fun s1 => g s1) i) s1
theorem slices_CompareFunc_api_List_api_List_any_any_value_order_l1_eq (r_value_order : V → V → Option Int) (a0 : (List V)) (a1 : (List V)) (s1 : Nat) : slices_CompareFunc_api_List_api_List_any_any_value_order_l1 r_value_order a0 a1 s1 = slices_CompareFunc_api_List_api_List_any_any_value_order_l1b r_value_order a0 a1 (slices_CompareFunc_api_List_api_List_any_any_value_order_l1 r_value_order a0 a1) s1 :=
 fixO_eq (ι := Nat) (ρ := fun _ => Int) (Φ := fun g i => slices_CompareFunc_api_List_api_List_any_any_value_order_l1b r_value_order a0 a1 (fun s1 => g s1) i) (fun i => slices_CompareFunc_api_List_api_List_any_any_value_order_l1b_cm (ι := Nat) (ρ := fun _ => Int) (fun _ => r_value_order) (fun _ _ => cm_const) (fun g => (fun s1 => g s1)) (fun _ => cm_app) a0 a1 i) s1
theorem slices_CompareFunc_api_List_api_List_any_any_value_order_l1_cm {ι : Type} {ρ : ι → Type} (r_value_order : (∀ i, Option (ρ i)) → V → V → Option Int) (h_r_value_order : ∀ y0 y1, CM (fun G => r_value_order G y0 y1)) (a0 : (List V)) (a1 : (List V)) (s1 : Nat) : CM (fun G : (∀ i, Option (ρ i)) => slices_CompareFunc_api_List_api_List_any_any_value_order_l1 (r_value_order G) a0 a1 s1) :=
 cm_fix (κ := Nat) (τ := fun _ => Int) (Φ := fun G g i => slices_CompareFunc_api_List_api_List_any_any_value_order_l1b (r_value_order G) a0 a1 (fun s1 => g s1) i) (fun g i => slices_CompareFunc_api_List_api_List_any_any_value_order_l1b_cm r_value_order h_r_value_order (fun _ => (fun s1 => g s1)) (fun _ => cm_const) a0 a1 i) (fun G i => slices_CompareFunc_api_List_api_List_any_any_value_order_l1b_cm (ι := Nat) (ρ := fun _ => Int) (fun _ => r_value_order G) (fun _ _ => cm_const) (fun g => (fun s1 => g s1)) (fun _ => cm_app) a0 a1 i) s1
noncomputable def b_slices_CompareFunc_api_List_api_List_any_any_value_order (r_value_field : (Str × V) → (Str × V) → Option Int) (r_slices_CompareFunc_api_Dict_api_Dict_api_Field_api_Field_value_field : (List (Str × V)) → (List (Str × V)) → Option Int) (r_slices_CompareFunc_api_List_api_List_any_any_value_order : (List V) → (List V) → Option Int) (r_value_order : V → V → Option Int) (a0 : (List V)) (a1 : (List V)) : Option Int :=
 slices_CompareFunc_api_List_api_List_any_any_value_order_l1 r_value_order a0 a1 0
theorem b_slices_CompareFunc_api_List_api_List_any_any_value_order_cm {ι : Type} {ρ : ι → Type} (r_value_field : (∀ i, Option (ρ i)) → (Str × V) → (Str × V) → Option Int) (h_r_value_field : ∀ y0 y1, CM (fun G => r_value_field G y0 y1)) (r_slices_CompareFunc_api_Dict_api_Dict_api_Field_api_Field_value_field : (∀ i, Option (ρ i)) → (List (Str × V)) → (List (Str × V)) → Option Int) (h_r_slices_CompareFunc_api_Dict_api_Dict_api_Field_api_Field_value_field : ∀ y0 y1, CM (fun G => r_slices_CompareFunc_api_Dict_api_Dict_api_Field_api_Field_value_field G y0 y1)) (r_slices_CompareFunc_api_List_api_List_any_any_value_order : (∀ i, Option (ρ i)) → (List V) → (List V) → Option Int) (h_r_slices_CompareFunc_api_List_api_List_any_any_value_order : ∀ y0 y1, CM (fun G => r_slices_CompareFunc_api_List_api_List_any_any_value_order G y0 y1)) (r_value_order : (∀ i, Option (ρ i)) → V → V → Option Int) (h_r_value_order : ∀ y0 y1, CM (fun G => r_value_order G y0 y1)) (a0 : (List V)) (a1 : (List V)) : CM (fun G : (∀ i, Option (ρ i)) => b_slices_CompareFunc_api_List_api_List_any_any_value_order (r_value_field G) (r_slices_CompareFunc_api_Dict_api_Dict_api_Field_api_Field_value_field G) (r_slices_CompareFunc_api_List_api_List_any_any_value_order G) (r_value_order G) a0 a1) := by
 simp only [b_slices_CompareFunc_api_List_api_List_any_any_value_order]
 repeat (first | exact cm_const | exact h_r_value_field _ _ | exact h_r_slices_CompareFunc_api_Dict_api_Dict_api_Field_api_Field_value_field _ _ | exact h_r_slices_CompareFunc_api_List_api_List_any_any_value_order _ _ | exact h_r_value_order _ _ | apply slices_CompareFunc_api_List_api_List_any_any_value_order_l1_cm | refine cm_cond ?_ ?_ | refine cm_bind ?_ (fun _ => ?_) | intro _ | assumption)
noncomputable def b_value_order (r_value_field : (Str × V) → (Str × V) → Option Int) (r_slices_CompareFunc_api_Dict_api_Dict_api_Field_api_Field_value_field : (List (Str × V)) → (List (Str × V)) → Option Int) (r_slices_CompareFunc_api_List_api_List_any_any_value_order : (List V) → (List V) → Option Int) (r_value_order : V → V → Option Int) (a0 : V) (a1 : V) : Option Int :=
 Option.bind (p_value_kind a0) fun x1 =>
 Option.bind (p_value_kind a1) fun x2 =>
 Option.bind (p_value_cmp_int x1 x2) fun x3 =>
 bif (x3 != 0) then (
  some x3
 ) else (
  bif (a0).isBool then (
   Option.bind (p_value_truth ((a0).asBool)) fun x6 =>
   Option.bind ((a1).theBool) fun x7 =>
   Option.bind (p_value_truth x7) fun x8 =>
   Option.bind (p_value_cmp_int x6 x8) fun x9 =>
   some x9
  ) else (
   bif (a0).isInt then (
    Option.bind ((a1).theInt) fun x11 =>
    Option.bind (p_value_cmp_int64 ((a0).asInt) x11) fun x12 =>
    some x12
   ) else (
    bif (a0).isFloat then (
     Option.bind (p_value_place ((a0).asFloat)) fun x14 =>
     Option.bind ((a1).theFloat) fun x15 =>
     Option.bind (p_value_place x15) fun x16 =>
     Option.bind (p_value_cmp_uint64 x14 x16) fun x17 =>
     some x17
    ) else (
     bif (a0).isText then (
      Option.bind ((a1).theText) fun x19 =>
      Option.bind (p_value_cmp_string ((a0).asText) x19) fun x20 =>
      some x20
     ) else (
      bif (a0).isBytes then (
       Option.bind ((a1).theBytes) fun x22 =>
       Option.bind (p_slices_Compare_byte_byte ((a0).asBytes) x22) fun x23 =>
       some x23
      ) else (
       bif (a0).isRef then (
        Option.bind ((a1).theRef) fun x25 =>
        Option.bind (p_value_cmp_api_Ref ((a0).asRef) x25) fun x26 =>
        some x26
       ) else (
        bif (a0).isList then (
         Option.bind ((a1).theList) fun x28 =>
         Option.bind (r_slices_CompareFunc_api_List_api_List_any_any_value_order ((a0).asList) x28) fun x29 =>
         some x29
        ) else (
         bif (a0).isDict then (
          Option.bind ((a1).theDict) fun x31 =>
          Option.bind (r_slices_CompareFunc_api_Dict_api_Dict_api_Field_api_Field_value_field ((a0).asDict) x31) fun x32 =>
          some x32
         ) else (
          bif (a0).isRec then (
           Option.bind ((a1).theRec) fun x34 =>
           Option.bind ((a0).asRec) fun x35 =>
           Option.bind (x34) fun x36 =>
           Option.bind (p_value_cmp_string x35.cls x36.cls) fun x37 =>
           bif (x37 != 0) then (
            some x37
           ) else (
            Option.bind (p_value_cmp_int x35.ver x36.ver) fun x39 =>
            bif (x39 != 0) then (
             some x39
            ) else (
             Option.bind (r_slices_CompareFunc_api_Dict_api_Dict_api_Field_api_Field_value_field x35.fields x36.fields) fun x41 =>
             some x41
            )
           )
          ) else (
           some 0
          )
         )
        )
       )
      )
     )
    )
   )
  )
 )
theorem b_value_order_cm {ι : Type} {ρ : ι → Type} (r_value_field : (∀ i, Option (ρ i)) → (Str × V) → (Str × V) → Option Int) (h_r_value_field : ∀ y0 y1, CM (fun G => r_value_field G y0 y1)) (r_slices_CompareFunc_api_Dict_api_Dict_api_Field_api_Field_value_field : (∀ i, Option (ρ i)) → (List (Str × V)) → (List (Str × V)) → Option Int) (h_r_slices_CompareFunc_api_Dict_api_Dict_api_Field_api_Field_value_field : ∀ y0 y1, CM (fun G => r_slices_CompareFunc_api_Dict_api_Dict_api_Field_api_Field_value_field G y0 y1)) (r_slices_CompareFunc_api_List_api_List_any_any_value_order : (∀ i, Option (ρ i)) → (List V) → (List V) → Option Int) (h_r_slices_CompareFunc_api_List_api_List_any_any_value_order : ∀ y0 y1, CM (fun G => r_slices_CompareFunc_api_List_api_List_any_any_value_order G y0 y1)) (r_value_order : (∀ i, Option (ρ i)) → V → V → Option Int) (h_r_value_order : ∀ y0 y1, CM (fun G => r_value_order G y0 y1)) (a0 : V) (a1 : V) : CM (fun G : (∀ i, Option (ρ i)) => b_value_order (r_value_field G) (r_slices_CompareFunc_api_Dict_api_Dict_api_Field_api_Field_value_field G) (r_slices_CompareFunc_api_List_api_List_any_any_value_order G) (r_value_order G) a0 a1) := by
 simp only [b_value_order]
 repeat (first | exact cm_const | exact h_r_value_field _ _ | exact h_r_slices_CompareFunc_api_Dict_api_Dict_api_Field_api_Field_value_field _ _ | exact h_r_slices_CompareFunc_api_List_api_List_any_any_value_order _ _ | exact h_r_value_order _ _ | refine cm_cond ?_ ?_ | refine cm_bind ?_ (fun _ => ?_))
inductive C_value_field where
 | k_value_field (a0 : (Str × V)) (a1 : (Str × V))
 | k_slices_CompareFunc_api_Dict_api_Dict_api_Field_api_Field_value_field (a0 : (List (Str × V))) (a1 : (List (Str × V)))
 | k_slices_CompareFunc_api_List_api_List_any_any_value_order (a0 : (List V)) (a1 : (List V))
 | k_value_order (a0 : V) (a1 : V)
def C_value_field.R : C_value_field → Type
 | .k_value_field _ _ => Int
 | .k_slices_CompareFunc_api_Dict_api_Dict_api_Field_api_Field_value_field _ _ => Int
 | .k_slices_CompareFunc_api_List_api_List_any_any_value_order _ _ => Int
 | .k_value_order _ _ => Int
noncomputable def C_value_field.F (g : ∀ i : C_value_field, Option i.R) : ∀ i : C_value_field, Option i.R
 | .k_value_field a0 a1 => b_value_field (fun a0 a1 => g (.k_value_field a0 a1)) (fun a0 a1 => g (.k_slices_CompareFunc_api_Dict_api_Dict_api_Field_api_Field_value_field a0 a1)) (fun a0 a1 => g (.k_slices_CompareFunc_api_List_api_List_any_any_value_order a0 a1)) (fun a0 a1 => g (.k_value_order a0 a1)) a0 a1
 | .k_slices_CompareFunc_api_Dict_api_Dict_api_Field_api_Field_value_field a0 a1 => b_slices_CompareFunc_api_Dict_api_Dict_api_Field_api_Field_value_field (fun a0 a1 => g (.k_value_field a0 a1)) (fun a0 a1 => g (.k_slices_CompareFunc_api_Dict_api_Dict_api_Field_api_Field_value_field a0 a1)) (fun a0 a1 => g (.k_slices_CompareFunc_api_List_api_List_any_any_value_order a0 a1)) (fun a0 a1 => g (.k_value_order a0 a1)) a0 a1
 | .k_slices_CompareFunc_api_List_api_List_any_any_value_order a0 a1 => b_slices_CompareFunc_api_List_api_List_any_any_value_order (fun a0 a1 => g (.k_value_field a0 a1)) (fun a0 a1 => g (.k_slices_CompareFunc_api_Dict_api_Dict_api_Field_api_Field_value_field a0 a1)) (fun a0 a1 => g (.k_slices_CompareFunc_api_List_api_List_any_any_value_order a0 a1)) (fun a0 a1 => g (.k_value_order a0 a1)) a0 a1
 | .k_value_order a0 a1 => b_value_order (fun a0 a1 => g (.k_value_field a0 a1)) (fun a0 a1 => g (.k_slices_CompareFunc_api_Dict_api_Dict_api_Field_api_Field_value_field a0 a1)) (fun a0 a1 => g (.k_slices_CompareFunc_api_List_api_List_any_any_value_order a0 a1)) (fun a0 a1 => g (.k_value_order a0 a1)) a0 a1
noncomputable def p_value_field (a0 : (Str × V)) (a1 : (Str × V)) : Option Int := fixO C_value_field.F (.k_value_field a0 a1)
noncomputable def p_slices_CompareFunc_api_Dict_api_Dict_api_Field_api_Field_value_field (a0 : (List (Str × V))) (a1 : (List (Str × V))) : Option Int := fixO C_value_field.F (.k_slices_CompareFunc_api_Dict_api_Dict_api_Field_api_Field_value_field a0 a1)
noncomputable def p_slices_CompareFunc_api_List_api_List_any_any_value_order (a0 : (List V)) (a1 : (List V)) : Option Int := fixO C_value_field.F (.k_slices_CompareFunc_api_List_api_List_any_any_value_order a0 a1)
noncomputable def p_value_order (a0 : V) (a1 : V) : Option Int := fixO C_value_field.F (.k_value_order a0 a1)
theorem C_value_field.cm (i : C_value_field) : CM (fun g : (∀ i : C_value_field, Option i.R) => C_value_field.F g i) := by
 cases i with
 | k_value_field a0 a1 => exact b_value_field_cm (fun (g : ∀ i : C_value_field, Option i.R) a0 a1 => g (.k_value_field a0 a1)) (fun a0 a1 => cm_app (i := C_value_field.k_value_field a0 a1)) (fun (g : ∀ i : C_value_field, Option i.R) a0 a1 => g (.k_slices_CompareFunc_api_Dict_api_Dict_api_Field_api_Field_value_field a0 a1)) (fun a0 a1 => cm_app (i := C_value_field.k_slices_CompareFunc_api_Dict_api_Dict_api_Field_api_Field_value_field a0 a1)) (fun (g : ∀ i : C_value_field, Option i.R) a0 a1 => g (.k_slices_CompareFunc_api_List_api_List_any_any_value_order a0 a1)) (fun a0 a1 => cm_app (i := C_value_field.k_slices_CompareFunc_api_List_api_List_any_any_value_order a0 a1)) (fun (g : ∀ i : C_value_field, Option i.R) a0 a1 => g (.k_value_order a0 a1)) (fun a0 a1 => cm_app (i := C_value_field.k_value_order a0 a1)) a0 a1
 | k_slices_CompareFunc_api_Dict_api_Dict_api_Field_api_Field_value_field a0 a1 => exact b_slices_CompareFunc_api_Dict_api_Dict_api_Field_api_Field_value_field_cm (fun (g : ∀ i : C_value_field, Option i.R) a0 a1 => g (.k_value_field a0 a1)) (fun a0 a1 => cm_app (i := C_value_field.k_value_field a0 a1)) (fun (g : ∀ i : C_value_field, Option i.R) a0 a1 => g (.k_slices_CompareFunc_api_Dict_api_Dict_api_Field_api_Field_value_field a0 a1)) (fun a0 a1 => cm_app (i := C_value_field.k_slices_CompareFunc_api_Dict_api_Dict_api_Field_api_Field_value_field a0 a1)) (fun (g : ∀ i : C_value_field, Option i.R) a0 a1 => g (.k_slices_CompareFunc_api_List_api_List_any_any_value_order a0 a1)) (fun a0 a1 => cm_app (i := C_value_field.k_slices_CompareFunc_api_List_api_List_any_any_value_order a0 a1)) (fun (g : ∀ i : C_value_field, Option i.R) a0 a1 => g (.k_value_order a0 a1)) (fun a0 a1 => cm_app (i := C_value_field.k_value_order a0 a1)) a0 a1
 | k_slices_CompareFunc_api_List_api_List_any_any_value_order a0 a1 => exact b_slices_CompareFunc_api_List_api_List_any_any_value_order_cm (fun (g : ∀ i : C_value_field, Option i.R) a0 a1 => g (.k_value_field a0 a1)) (fun a0 a1 => cm_app (i := C_value_field.k_value_field a0 a1)) (fun (g : ∀ i : C_value_field, Option i.R) a0 a1 => g (.k_slices_CompareFunc_api_Dict_api_Dict_api_Field_api_Field_value_field a0 a1)) (fun a0 a1 => cm_app (i := C_value_field.k_slices_CompareFunc_api_Dict_api_Dict_api_Field_api_Field_value_field a0 a1)) (fun (g : ∀ i : C_value_field, Option i.R) a0 a1 => g (.k_slices_CompareFunc_api_List_api_List_any_any_value_order a0 a1)) (fun a0 a1 => cm_app (i := C_value_field.k_slices_CompareFunc_api_List_api_List_any_any_value_order a0 a1)) (fun (g : ∀ i : C_value_field, Option i.R) a0 a1 => g (.k_value_order a0 a1)) (fun a0 a1 => cm_app (i := C_value_field.k_value_order a0 a1)) a0 a1
 | k_value_order a0 a1 => exact b_value_order_cm (fun (g : ∀ i : C_value_field, Option i.R) a0 a1 => g (.k_value_field a0 a1)) (fun a0 a1 => cm_app (i := C_value_field.k_value_field a0 a1)) (fun (g : ∀ i : C_value_field, Option i.R) a0 a1 => g (.k_slices_CompareFunc_api_Dict_api_Dict_api_Field_api_Field_value_field a0 a1)) (fun a0 a1 => cm_app (i := C_value_field.k_slices_CompareFunc_api_Dict_api_Dict_api_Field_api_Field_value_field a0 a1)) (fun (g : ∀ i : C_value_field, Option i.R) a0 a1 => g (.k_slices_CompareFunc_api_List_api_List_any_any_value_order a0 a1)) (fun a0 a1 => cm_app (i := C_value_field.k_slices_CompareFunc_api_List_api_List_any_any_value_order a0 a1)) (fun (g : ∀ i : C_value_field, Option i.R) a0 a1 => g (.k_value_order a0 a1)) (fun a0 a1 => cm_app (i := C_value_field.k_value_order a0 a1)) a0 a1
theorem e_value_field (a0 : (Str × V)) (a1 : (Str × V)) : p_value_field a0 a1 = b_value_field p_value_field p_slices_CompareFunc_api_Dict_api_Dict_api_Field_api_Field_value_field p_slices_CompareFunc_api_List_api_List_any_any_value_order p_value_order a0 a1 := fixO_eq C_value_field.cm (.k_value_field a0 a1)
theorem e_slices_CompareFunc_api_Dict_api_Dict_api_Field_api_Field_value_field (a0 : (List (Str × V))) (a1 : (List (Str × V))) : p_slices_CompareFunc_api_Dict_api_Dict_api_Field_api_Field_value_field a0 a1 = b_slices_CompareFunc_api_Dict_api_Dict_api_Field_api_Field_value_field p_value_field p_slices_CompareFunc_api_Dict_api_Dict_api_Field_api_Field_value_field p_slices_CompareFunc_api_List_api_List_any_any_value_order p_value_order a0 a1 := fixO_eq C_value_field.cm (.k_slices_CompareFunc_api_Dict_api_Dict_api_Field_api_Field_value_field a0 a1)
theorem e_slices_CompareFunc_api_List_api_List_any_any_value_order (a0 : (List V)) (a1 : (List V)) : p_slices_CompareFunc_api_List_api_List_any_any_value_order a0 a1 = b_slices_CompareFunc_api_List_api_List_any_any_value_order p_value_field p_slices_CompareFunc_api_Dict_api_Dict_api_Field_api_Field_value_field p_slices_CompareFunc_api_List_api_List_any_any_value_order p_value_order a0 a1 := fixO_eq C_value_field.cm (.k_slices_CompareFunc_api_List_api_List_any_any_value_order a0 a1)
theorem e_value_order (a0 : V) (a1 : V) : p_value_order a0 a1 = b_value_order p_value_field p_slices_CompareFunc_api_Dict_api_Dict_api_Field_api_Field_value_field p_slices_CompareFunc_api_List_api_List_any_any_value_order p_value_order a0 a1 := fixO_eq C_value_field.cm (.k_value_order a0 a1)
def C_value_field.Q : ∀ i : C_value_field, i.R → Prop
 | .k_value_field a0 a1 => fun (r : Int) => PCalls Try.prog 43 [(ofFld a0), (ofFld a1)] (I64 r)
 | .k_slices_CompareFunc_api_Dict_api_Dict_api_Field_api_Field_value_field a0 a1 => fun (r : Int) => PCalls Try.prog 42 [(PV.sl none 55 2 (List.map ofFld a0)), (PV.sl none 55 2 (List.map ofFld a1)), (PV.fn (.func 43) [] [])] (I64 r)
 | .k_slices_CompareFunc_api_List_api_List_any_any_value_order a0 a1 => fun (r : Int) => PCalls Try.prog 41 [(PV.sl none 20 1 (List.map ofV a0)), (PV.sl none 20 1 (List.map ofV a1)), (PV.fn (.func 20) [] [])] (I64 r)
 | .k_value_order a0 a1 => fun (r : Int) => PCalls Try.prog 20 [(ofV a0), (ofV a1)] (I64 r)
theorem t_value_field (r_value_field : (Str × V) → (Str × V) → Option Int) (c_value_field : ∀ (a0 : (Str × V)) (a1 : (Str × V)) r, r_value_field a0 a1 = some r → PCalls Try.prog 43 [(ofFld a0), (ofFld a1)] (I64 r)) (r_slices_CompareFunc_api_Dict_api_Dict_api_Field_api_Field_value_field : (List (Str × V)) → (List (Str × V)) → Option Int) (c_slices_CompareFunc_api_Dict_api_Dict_api_Field_api_Field_value_field : ∀ (a0 : (List (Str × V))) (a1 : (List (Str × V))) r, r_slices_CompareFunc_api_Dict_api_Dict_api_Field_api_Field_value_field a0 a1 = some r → PCalls Try.prog 42 [(PV.sl none 55 2 (List.map ofFld a0)), (PV.sl none 55 2 (List.map ofFld a1)), (PV.fn (.func 43) [] [])] (I64 r)) (r_slices_CompareFunc_api_List_api_List_any_any_value_order : (List V) → (List V) → Option Int) (c_slices_CompareFunc_api_List_api_List_any_any_value_order : ∀ (a0 : (List V)) (a1 : (List V)) r, r_slices_CompareFunc_api_List_api_List_any_any_value_order a0 a1 = some r → PCalls Try.prog 41 [(PV.sl none 20 1 (List.map ofV a0)), (PV.sl none 20 1 (List.map ofV a1)), (PV.fn (.func 20) [] [])] (I64 r)) (r_value_order : V → V → Option Int) (c_value_order : ∀ (a0 : V) (a1 : V) r, r_value_order a0 a1 = some r → PCalls Try.prog 20 [(ofV a0), (ofV a1)] (I64 r)) (a0 : (Str × V)) (a1 : (Str × V)) (r : Int) (h : b_value_field r_value_field r_slices_CompareFunc_api_Dict_api_Dict_api_Field_api_Field_value_field r_slices_CompareFunc_api_List_api_List_any_any_value_order r_value_order a0 a1 = some r) : PCalls Try.prog 43 [(ofFld a0), (ofFld a1)] (I64 r) := by
 unfold b_value_field at h
 refine acalls_of Try.func43 rfl Try.ntmps43 Try.results43 rfl (aw_of_bw ?_)
 change BW _ _ _ ⟨[(0, (ofFld a0)), (1, (ofFld a1))], [], _⟩ _
 refine bR ?_
 refine sS rfl rfl rfl (op1_box rfl rfl rfl) ?_
 refine sS rfl rfl rfl (op1_box rfl rfl rfl) ?_
 refine sA rfl rfl rfl rfl rfl (ao_nil ?_)
 change BW _ _ _ _ _
 refine bw_seq ?_
 refine bR ?_
 refine sS rfl rfl rfl (op1_faR st_55 (i := 0) rfl rfl rfl) ?_
 refine sS rfl rfl rfl ((op1_ldR Try.underlying9 rfl rfl rfl rfl rfl)) ?_
 refine sS rfl rfl rfl (op1_faR st_55 (i := 0) rfl rfl rfl) ?_
 refine sS rfl rfl rfl ((op1_ldR Try.underlying9 rfl rfl rfl rfl rfl)) ?_
 obtain ⟨x1, hx1, h⟩ := obind h
 refine sS rfl rfl rfl (op1_pcall rfl en_38 rfl (.cons (Wk.refl _) (.cons (Wk.refl _) .nil)) ⟨rfl, ⟨rfl, trivial⟩⟩ (s_value_cmp_string a0.1 a1.1 x1 hx1) rfl) ?_
 refine sA rfl rfl rfl rfl rfl (ao_nil ?_)
 change BW _ _ _ _ _
 refine bR ?_
 refine sM rfl rfl rfl rfl rfl ?_
 refine sS rfl rfl rfl ((op1_cmp rfl rfl rfl rfl).cast (y := (BO ((x1 != 0)))) rfl rfl) (ao_nil ?_)
 change BW _ _ _ _ _
 refine bw_cond rfl ?_ ?_
 ·intro hc2; replace h := ocond_t hc2 h
  refine bR ?_
  refine sM rfl rfl rfl rfl rfl ?_
  refine sA rfl rfl rfl rfl rfl (ao_nil ?_)
  change BW _ _ _ _ _
  refine bw_ret ?_
  change ∃ xs, _ = some xs ∧ EndOk _ _ _ _
  obtain rfl := Option.some.inj h
  exact ⟨_, rfl, endOk0 (y := (I64 x1)) (Wk.refl _) rfl ⟨rfl, rfl⟩⟩
 ·intro hc2; replace h := ocond_f hc2 h
  refine bw_skip ?_
  change BW _ _ _ _ _
  refine bR ?_
  refine sS rfl rfl rfl (op1_faR st_55 (i := 1) rfl rfl rfl) ?_
  refine sS rfl rfl rfl ((op1_ldR Try.underlying20 rfl rfl rfl rfl rfl)) ?_
  refine sS rfl rfl rfl (op1_faR st_55 (i := 1) rfl rfl rfl) ?_
  refine sS rfl rfl rfl ((op1_ldR Try.underlying20 rfl rfl rfl rfl rfl)) ?_
  obtain ⟨x3, hx3, h⟩ := obind h
  refine sS rfl rfl rfl (op1_pcall rfl en_20 rfl (.cons (Wk.refl _) (.cons (Wk.refl _) .nil)) ⟨(ids_V a0.2), ⟨(ids_V a1.2), trivial⟩⟩ (c_value_order a0.2 a1.2 x3 hx3) rfl) ?_
  refine sA rfl rfl rfl rfl rfl (ao_nil ?_)
  change BW _ _ _ _ _
  refine bw_ret ?_
  change ∃ xs, _ = some xs ∧ EndOk _ _ _ _
  obtain rfl := Option.some.inj h
  exact ⟨_, rfl, endOk0 (y := (I64 x3)) (Wk.refl _) rfl ⟨rfl, rfl⟩⟩
theorem t_slices_CompareFunc_api_Dict_api_Dict_api_Field_api_Field_value_field (r_value_field : (Str × V) → (Str × V) → Option Int) (c_value_field : ∀ (a0 : (Str × V)) (a1 : (Str × V)) r, r_value_field a0 a1 = some r → PCalls Try.prog 43 [(ofFld a0), (ofFld a1)] (I64 r)) (r_slices_CompareFunc_api_Dict_api_Dict_api_Field_api_Field_value_field : (List (Str × V)) → (List (Str × V)) → Option Int) (c_slices_CompareFunc_api_Dict_api_Dict_api_Field_api_Field_value_field : ∀ (a0 : (List (Str × V))) (a1 : (List (Str × V))) r, r_slices_CompareFunc_api_Dict_api_Dict_api_Field_api_Field_value_field a0 a1 = some r → PCalls Try.prog 42 [(PV.sl none 55 2 (List.map ofFld a0)), (PV.sl none 55 2 (List.map ofFld a1)), (PV.fn (.func 43) [] [])] (I64 r)) (r_slices_CompareFunc_api_List_api_List_any_any_value_order : (List V) → (List V) → Option Int) (c_slices_CompareFunc_api_List_api_List_any_any_value_order : ∀ (a0 : (List V)) (a1 : (List V)) r, r_slices_CompareFunc_api_List_api_List_any_any_value_order a0 a1 = some r → PCalls Try.prog 41 [(PV.sl none 20 1 (List.map ofV a0)), (PV.sl none 20 1 (List.map ofV a1)), (PV.fn (.func 20) [] [])] (I64 r)) (r_value_order : V → V → Option Int) (c_value_order : ∀ (a0 : V) (a1 : V) r, r_value_order a0 a1 = some r → PCalls Try.prog 20 [(ofV a0), (ofV a1)] (I64 r)) (a0 : (List (Str × V))) (a1 : (List (Str × V))) (r : Int) (h : b_slices_CompareFunc_api_Dict_api_Dict_api_Field_api_Field_value_field r_value_field r_slices_CompareFunc_api_Dict_api_Dict_api_Field_api_Field_value_field r_slices_CompareFunc_api_List_api_List_any_any_value_order r_value_order a0 a1 = some r) : PCalls Try.prog 42 [(PV.sl none 55 2 (List.map ofFld a0)), (PV.sl none 55 2 (List.map ofFld a1)), (PV.fn (.func 43) [] [])] (I64 r) := by
 unfold b_slices_CompareFunc_api_Dict_api_Dict_api_Field_api_Field_value_field at h
 refine acalls_of Try.func42 rfl Try.ntmps42 Try.results42 rfl (aw_of_bw ?_)
 change BW _ _ _ ⟨[(0, (PV.sl none 55 2 (List.map ofFld a0))), (1, (PV.sl none 55 2 (List.map ofFld a1))), (2, (PV.fn (.func 43) [] []))], [], _⟩ _
 refine bR ?_
 refine sA rfl rfl rfl rfl rfl (ao_nil ?_)
 change BW _ _ _ _ _
 refine bw_seq ?_
 refine bR ?_
 refine sM rfl rfl rfl rfl rfl ?_
 refine sS rfl rfl rfl (op1_lenM Try.underlying49 rfl rfl) ?_
 refine sM rfl rfl rfl rfl rfl (ao_nil ?_)
 change BW _ _ _ _ _
 refine bw_block ?_
 change BW _ _ _ _ _
 unfold slices_CompareFunc_api_Dict_api_Dict_api_Field_api_Field_value_field_l1 at h
 refine bw_loop (σ := Nat) (fun i => [(0, (PV.sl none 55 2 (List.map ofFld a0))), (1, (PV.sl none 55 2 (List.map ofFld a1))), (2, (PV.fn (.func 43) [] [])), (11, (PV.sl none 55 2 (List.map ofFld a0))), (12, (I64 ((((a0).length : Nat) : Int)))), (13, (I64 (((i : Nat) : Int))))]) (fun i => []) 0 h ?_ ?_ ?_
 ·intro i; exact ⟨Nat.le_of_ble_eq_true rfl, ⟨(il_nil (ids_slM ids_Fld _)), ⟨(il_nil (ids_slM ids_Fld _)), ⟨(il_nil rfl), ⟨(il_nil (ids_slM ids_Fld _)), ⟨(il_nil rfl), ⟨(il_nil rfl), trivial⟩⟩⟩⟩⟩⟩, trivial⟩
 ·exact ⟨.nil, (sC rfl (sC rfl (sC rfl (sC rfl (sC rfl (sC rfl sub_nil))))))⟩
 ·rintro g1_f s1 h; replace h : slices_CompareFunc_api_Dict_api_Dict_api_Field_api_Field_value_field_l1b r_value_field a0 a1 (fun y0 => g1_f y0) s1 = some r := h; unfold slices_CompareFunc_api_Dict_api_Dict_api_Field_api_Field_value_field_l1b at h
  change BW _ _ _ ⟨[(0, (PV.sl none 55 2 (List.map ofFld a0))), (1, (PV.sl none 55 2 (List.map ofFld a1))), (2, (PV.fn (.func 43) [] [])), (11, (PV.sl none 55 2 (List.map ofFld a0))), (12, (I64 ((((a0).length : Nat) : Int)))), (13, (I64 (((s1 : Nat) : Int))))], [], _⟩ _
  refine bR ?_
  refine sS rfl rfl rfl ((op1_cmp rfl rfl rfl rfl).cast (y := (BO ((decide (((s1 : Nat) : Int) < (((a0).length : Nat) : Int)))))) rfl rfl) (ao_nil ?_)
  change BW _ _ _ _ _
  refine bw_seq ?_
  refine bw_len (t := 11) rfl fun hb3 => ?_
  try rw [List.length_map] at hb3
  refine bw_cond rfl ?_ ?_
  ·intro hc2; replace h := ocond_t hc2 h
   have hc2_ := of_decide_eq_true hc2
   refine bw_skip ?_
   change BW _ _ _ _ _
   refine bw_seq ?_
   refine bw_block ?_
   change BW _ _ _ _ _
   refine bR ?_
   refine sM rfl rfl rfl rfl rfl ?_
   obtain ⟨x4, hx4, h⟩ := obind h
   refine sS rfl rfl rfl (op1_idxN (i := s1) Try.underlying49 inf_55 rfl rfl rfl hx4 rfl) ?_
   refine sS rfl rfl rfl (op1_ldPW inf_55 Try.underlying55 rfl rfl rfl rfl rfl) ?_
   refine sS rfl rfl rfl ((op1_alloc inf_55 rfl).cast (H'' := [.box 55 [(ofStr []), (ofV V.nil)]]) rfl (by simp only [mk_nil]; rfl)) ?_
   refine sA rfl rfl rfl rfl rfl ?_
   refine ao_step0 rfl rfl (op1_store inf_55 rfl rfl rfl rfl rfl rfl (Nat.le_of_ble_eq_true rfl) (by show List.all [(ofStr x4.1), (ofV x4.2)] one1 = true; simp only [List.all_cons, List.all_nil, one_V, one_RecP, Bool.and_true, Bool.true_and]; try rfl)) ?_
   refine ao_nil ?_
   change BW _ _ _ _ _
   refine bw_seq ?_
   refine bR ?_
   refine sM rfl rfl rfl rfl rfl ?_
   refine sM rfl rfl rfl rfl rfl ?_
   refine sS rfl rfl rfl (op1_lenM Try.underlying49 rfl rfl) ?_
   refine sS rfl rfl rfl ((op1_cmp rfl rfl rfl rfl).cast (y := (BO ((decide (((s1 : Nat) : Int) ≥ (((a1).length : Nat) : Int)))))) rfl rfl) (ao_nil ?_)
   change BW _ _ _ _ _
   refine bw_cond rfl ?_ ?_
   ·intro hc5; replace h := ocond_t hc5 h
    refine bR ?_
    refine sA rfl rfl rfl rfl rfl (ao_nil ?_)
    change BW _ _ _ _ _
    refine bw_ret ?_
    change ∃ xs, _ = some xs ∧ EndOk _ _ _ _
    obtain rfl := Option.some.inj h
    exact ⟨_, rfl, endOk0 (y := (I64 1)) (Wk.refl _) rfl ⟨rfl, rfl⟩⟩
   ·intro hc5; replace h := ocond_f hc5 h
    refine bw_skip ?_
    change BW _ _ _ _ _
    refine bR ?_
    refine sM rfl rfl rfl rfl rfl ?_
    refine sM rfl rfl rfl rfl rfl ?_
    obtain ⟨x6, hx6, h⟩ := obind h
    refine sS rfl rfl rfl (op1_idxN (i := s1) Try.underlying49 inf_55 rfl rfl rfl hx6 rfl) ?_
    refine sS rfl rfl rfl (op1_ldPW inf_55 Try.underlying55 rfl rfl rfl rfl rfl) ?_
    refine sS rfl rfl rfl ((op1_alloc inf_55 rfl).cast (H'' := [.box 55 [(ofStr x4.1), (ofV x4.2)], .box 55 [(ofStr []), (ofV V.nil)]]) rfl (by simp only [mk_nil]; rfl)) ?_
    refine ao_step0 rfl rfl (op1_store inf_55 rfl rfl rfl rfl rfl rfl (Nat.le_of_ble_eq_true rfl) (by show List.all [(ofStr x6.1), (ofV x6.2)] one1 = true; simp only [List.all_cons, List.all_nil, one_V, one_RecP, Bool.and_true, Bool.true_and]; try rfl)) ?_
    refine ao_nil ?_
    change BW _ _ _ _ _
    refine bR ?_
    refine sM rfl rfl rfl rfl rfl ?_
    refine sS rfl rfl rfl ((op1_ldRA inf_55 Try.underlying55 rfl rfl rfl rfl rfl rfl)) ?_
    refine sS rfl rfl rfl ((op1_ldRA inf_55 Try.underlying55 rfl rfl rfl rfl rfl rfl)) ?_
    obtain ⟨x7, hx7, h⟩ := obind h
    refine sS rfl rfl rfl (op1_pcallV rfl rfl en_43 rfl (.cons (Wk.refl _) (.cons (Wk.refl _) .nil)) ⟨(ids_Fld x4), ⟨(ids_Fld x6), trivial⟩⟩ (c_value_field x4 x6 x7 hx7) rfl) ?_
    refine sA rfl rfl rfl rfl rfl (ao_nil ?_)
    change BW _ _ _ _ _
    refine bR ?_
    refine sM rfl rfl rfl rfl rfl ?_
    refine sS rfl rfl rfl ((op1_cmp rfl rfl rfl rfl).cast (y := (BO ((x7 != 0)))) rfl rfl) (ao_nil ?_)
    change BW _ _ _ _ _
    refine bw_cond rfl ?_ ?_
    ·intro hc8; replace h := ocond_t hc8 h
     refine bR ?_
     refine sM rfl rfl rfl rfl rfl ?_
     refine sA rfl rfl rfl rfl rfl (ao_nil ?_)
     change BW _ _ _ _ _
     refine bw_ret ?_
     change ∃ xs, _ = some xs ∧ EndOk _ _ _ _
     obtain rfl := Option.some.inj h
     exact ⟨_, rfl, endOk0 (y := (I64 x7)) (Wk.refl _) rfl ⟨rfl, rfl⟩⟩
    ·intro hc8; replace h := ocond_f hc8 h
     refine bw_skip ?_
     change BW _ _ _ _ _
     refine bw_region ?_
     refine sS rfl rfl rfl (op1_incN (k := s1) (c := 1) rfl rfl rfl (by omega)) ?_
     refine sM rfl rfl rfl rfl rfl (ao_nil ?_)
     exact ⟨rfl, (s1 + 1), h, ⟨.nil, (sC rfl (sC rfl (sC rfl (sC rfl (sC rfl (sC rfl sub_nil))))))⟩⟩
  ·intro hc2; replace h := ocond_f hc2 h
   refine bw_exit ?_
   change BW _ _ _ _ _
   refine bw_seq ?_
   refine bR ?_
   refine sM rfl rfl rfl rfl rfl ?_
   refine sS rfl rfl rfl (op1_lenM Try.underlying49 rfl rfl) ?_
   refine sM rfl rfl rfl rfl rfl ?_
   refine sS rfl rfl rfl (op1_lenM Try.underlying49 rfl rfl) ?_
   refine sS rfl rfl rfl ((op1_cmp rfl rfl rfl rfl).cast (y := (BO ((decide ((((a0).length : Nat) : Int) < (((a1).length : Nat) : Int)))))) rfl rfl) (ao_nil ?_)
   change BW _ _ _ _ _
   refine bw_cond rfl ?_ ?_
   ·intro hc9; replace h := ocond_t hc9 h
    refine bR ?_
    refine sA rfl rfl rfl rfl rfl (ao_nil ?_)
    change BW _ _ _ _ _
    refine bw_ret ?_
    change ∃ xs, _ = some xs ∧ EndOk _ _ _ _
    obtain rfl := Option.some.inj h
    exact ⟨_, rfl, endOk0 (y := (I64 ((-1)))) (Wk.refl _) rfl ⟨rfl, rfl⟩⟩
   ·intro hc9; replace h := ocond_f hc9 h
    refine bw_skip ?_
    change BW _ _ _ _ _
    refine bR ?_
    refine sA rfl rfl rfl rfl rfl (ao_nil ?_)
    change BW _ _ _ _ _
    refine bw_ret ?_
    change ∃ xs, _ = some xs ∧ EndOk _ _ _ _
    obtain rfl := Option.some.inj h
    exact ⟨_, rfl, endOk0 (y := (I64 0)) (Wk.refl _) rfl ⟨rfl, rfl⟩⟩
theorem t_slices_CompareFunc_api_List_api_List_any_any_value_order (r_value_field : (Str × V) → (Str × V) → Option Int) (c_value_field : ∀ (a0 : (Str × V)) (a1 : (Str × V)) r, r_value_field a0 a1 = some r → PCalls Try.prog 43 [(ofFld a0), (ofFld a1)] (I64 r)) (r_slices_CompareFunc_api_Dict_api_Dict_api_Field_api_Field_value_field : (List (Str × V)) → (List (Str × V)) → Option Int) (c_slices_CompareFunc_api_Dict_api_Dict_api_Field_api_Field_value_field : ∀ (a0 : (List (Str × V))) (a1 : (List (Str × V))) r, r_slices_CompareFunc_api_Dict_api_Dict_api_Field_api_Field_value_field a0 a1 = some r → PCalls Try.prog 42 [(PV.sl none 55 2 (List.map ofFld a0)), (PV.sl none 55 2 (List.map ofFld a1)), (PV.fn (.func 43) [] [])] (I64 r)) (r_slices_CompareFunc_api_List_api_List_any_any_value_order : (List V) → (List V) → Option Int) (c_slices_CompareFunc_api_List_api_List_any_any_value_order : ∀ (a0 : (List V)) (a1 : (List V)) r, r_slices_CompareFunc_api_List_api_List_any_any_value_order a0 a1 = some r → PCalls Try.prog 41 [(PV.sl none 20 1 (List.map ofV a0)), (PV.sl none 20 1 (List.map ofV a1)), (PV.fn (.func 20) [] [])] (I64 r)) (r_value_order : V → V → Option Int) (c_value_order : ∀ (a0 : V) (a1 : V) r, r_value_order a0 a1 = some r → PCalls Try.prog 20 [(ofV a0), (ofV a1)] (I64 r)) (a0 : (List V)) (a1 : (List V)) (r : Int) (h : b_slices_CompareFunc_api_List_api_List_any_any_value_order r_value_field r_slices_CompareFunc_api_Dict_api_Dict_api_Field_api_Field_value_field r_slices_CompareFunc_api_List_api_List_any_any_value_order r_value_order a0 a1 = some r) : PCalls Try.prog 41 [(PV.sl none 20 1 (List.map ofV a0)), (PV.sl none 20 1 (List.map ofV a1)), (PV.fn (.func 20) [] [])] (I64 r) := by
 unfold b_slices_CompareFunc_api_List_api_List_any_any_value_order at h
 refine acalls_of Try.func41 rfl Try.ntmps41 Try.results41 rfl (aw_of_bw ?_)
 change BW _ _ _ ⟨[(0, (PV.sl none 20 1 (List.map ofV a0))), (1, (PV.sl none 20 1 (List.map ofV a1))), (2, (PV.fn (.func 20) [] []))], [], _⟩ _
 refine bR ?_
 refine sA rfl rfl rfl rfl rfl (ao_nil ?_)
 change BW _ _ _ _ _
 refine bw_seq ?_
 refine bR ?_
 refine sM rfl rfl rfl rfl rfl ?_
 refine sS rfl rfl rfl (op1_lenM Try.underlying47 rfl rfl) ?_
 refine sM rfl rfl rfl rfl rfl (ao_nil ?_)
 change BW _ _ _ _ _
 refine bw_block ?_
 change BW _ _ _ _ _
 unfold slices_CompareFunc_api_List_api_List_any_any_value_order_l1 at h
 refine bw_loop (σ := Nat) (fun i => [(0, (PV.sl none 20 1 (List.map ofV a0))), (1, (PV.sl none 20 1 (List.map ofV a1))), (2, (PV.fn (.func 20) [] [])), (11, (PV.sl none 20 1 (List.map ofV a0))), (12, (I64 ((((a0).length : Nat) : Int)))), (13, (I64 (((i : Nat) : Int))))]) (fun i => []) 0 h ?_ ?_ ?_
 ·intro i; exact ⟨Nat.le_of_ble_eq_true rfl, ⟨(il_nil (ids_slM ids_V _)), ⟨(il_nil (ids_slM ids_V _)), ⟨(il_nil rfl), ⟨(il_nil (ids_slM ids_V _)), ⟨(il_nil rfl), ⟨(il_nil rfl), trivial⟩⟩⟩⟩⟩⟩, trivial⟩
 ·exact ⟨.nil, (sC rfl (sC rfl (sC rfl (sC rfl (sC rfl (sC rfl sub_nil))))))⟩
 ·rintro g1_f s1 h; replace h : slices_CompareFunc_api_List_api_List_any_any_value_order_l1b r_value_order a0 a1 (fun y0 => g1_f y0) s1 = some r := h; unfold slices_CompareFunc_api_List_api_List_any_any_value_order_l1b at h
  change BW _ _ _ ⟨[(0, (PV.sl none 20 1 (List.map ofV a0))), (1, (PV.sl none 20 1 (List.map ofV a1))), (2, (PV.fn (.func 20) [] [])), (11, (PV.sl none 20 1 (List.map ofV a0))), (12, (I64 ((((a0).length : Nat) : Int)))), (13, (I64 (((s1 : Nat) : Int))))], [], _⟩ _
  refine bR ?_
  refine sS rfl rfl rfl ((op1_cmp rfl rfl rfl rfl).cast (y := (BO ((decide (((s1 : Nat) : Int) < (((a0).length : Nat) : Int)))))) rfl rfl) (ao_nil ?_)
  change BW _ _ _ _ _
  refine bw_seq ?_
  refine bw_len (t := 11) rfl fun hb3 => ?_
  try rw [List.length_map] at hb3
  refine bw_cond rfl ?_ ?_
  ·intro hc2; replace h := ocond_t hc2 h
   have hc2_ := of_decide_eq_true hc2
   refine bw_skip ?_
   change BW _ _ _ _ _
   refine bw_seq ?_
   refine bw_block ?_
   change BW _ _ _ _ _
   refine bR ?_
   refine sM rfl rfl rfl rfl rfl ?_
   obtain ⟨x4, hx4, h⟩ := obind h
   refine sS rfl rfl rfl (op1_idxN (i := s1) Try.underlying47 inf_20 rfl rfl rfl hx4 rfl) ?_
   refine sS rfl rfl rfl (op1_ldP (y := (ofV x4)) Try.underlying20 rfl rfl rfl (by rw [cells_V]; rfl)) ?_
   refine sA rfl rfl rfl rfl rfl ?_
   refine sA rfl rfl rfl rfl rfl (ao_nil ?_)
   change BW _ _ _ _ _
   refine bw_seq ?_
   refine bR ?_
   refine sM rfl rfl rfl rfl rfl ?_
   refine sM rfl rfl rfl rfl rfl ?_
   refine sS rfl rfl rfl (op1_lenM Try.underlying47 rfl rfl) ?_
   refine sS rfl rfl rfl ((op1_cmp rfl rfl rfl rfl).cast (y := (BO ((decide (((s1 : Nat) : Int) ≥ (((a1).length : Nat) : Int)))))) rfl rfl) (ao_nil ?_)
   change BW _ _ _ _ _
   refine bw_cond rfl ?_ ?_
   ·intro hc5; replace h := ocond_t hc5 h
    refine bR ?_
    refine sA rfl rfl rfl rfl rfl (ao_nil ?_)
    change BW _ _ _ _ _
    refine bw_ret ?_
    change ∃ xs, _ = some xs ∧ EndOk _ _ _ _
    obtain rfl := Option.some.inj h
    exact ⟨_, rfl, endOk0 (y := (I64 1)) (Wk.refl _) rfl ⟨rfl, rfl⟩⟩
   ·intro hc5; replace h := ocond_f hc5 h
    refine bw_skip ?_
    change BW _ _ _ _ _
    refine bR ?_
    refine sM rfl rfl rfl rfl rfl ?_
    refine sM rfl rfl rfl rfl rfl ?_
    obtain ⟨x6, hx6, h⟩ := obind h
    refine sS rfl rfl rfl (op1_idxN (i := s1) Try.underlying47 inf_20 rfl rfl rfl hx6 rfl) ?_
    refine sS rfl rfl rfl (op1_ldP (y := (ofV x6)) Try.underlying20 rfl rfl rfl (by rw [cells_V]; rfl)) ?_
    refine sA rfl rfl rfl rfl rfl (ao_nil ?_)
    change BW _ _ _ _ _
    refine bR ?_
    refine sM rfl rfl rfl rfl rfl ?_
    refine sM rfl rfl rfl rfl rfl ?_
    refine sM rfl rfl rfl rfl rfl ?_
    obtain ⟨x7, hx7, h⟩ := obind h
    refine sS rfl rfl rfl (op1_pcallV rfl rfl en_20 rfl (.cons (Wk.refl _) (.cons (Wk.refl _) .nil)) ⟨(ids_V x4), ⟨(ids_V x6), trivial⟩⟩ (c_value_order x4 x6 x7 hx7) rfl) ?_
    refine sA rfl rfl rfl rfl rfl (ao_nil ?_)
    change BW _ _ _ _ _
    refine bR ?_
    refine sM rfl rfl rfl rfl rfl ?_
    refine sS rfl rfl rfl ((op1_cmp rfl rfl rfl rfl).cast (y := (BO ((x7 != 0)))) rfl rfl) (ao_nil ?_)
    change BW _ _ _ _ _
    refine bw_cond rfl ?_ ?_
    ·intro hc8; replace h := ocond_t hc8 h
     refine bR ?_
     refine sM rfl rfl rfl rfl rfl ?_
     refine sA rfl rfl rfl rfl rfl (ao_nil ?_)
     change BW _ _ _ _ _
     refine bw_ret ?_
     change ∃ xs, _ = some xs ∧ EndOk _ _ _ _
     obtain rfl := Option.some.inj h
     exact ⟨_, rfl, endOk0 (y := (I64 x7)) (Wk.refl _) rfl ⟨rfl, rfl⟩⟩
    ·intro hc8; replace h := ocond_f hc8 h
     refine bw_skip ?_
     change BW _ _ _ _ _
     refine bw_region ?_
     refine sS rfl rfl rfl (op1_incN (k := s1) (c := 1) rfl rfl rfl (by omega)) ?_
     refine sM rfl rfl rfl rfl rfl (ao_nil ?_)
     exact ⟨rfl, (s1 + 1), h, ⟨.nil, (sC rfl (sC rfl (sC rfl (sC rfl (sC rfl (sC rfl sub_nil))))))⟩⟩
  ·intro hc2; replace h := ocond_f hc2 h
   refine bw_exit ?_
   change BW _ _ _ _ _
   refine bw_seq ?_
   refine bR ?_
   refine sM rfl rfl rfl rfl rfl ?_
   refine sS rfl rfl rfl (op1_lenM Try.underlying47 rfl rfl) ?_
   refine sM rfl rfl rfl rfl rfl ?_
   refine sS rfl rfl rfl (op1_lenM Try.underlying47 rfl rfl) ?_
   refine sS rfl rfl rfl ((op1_cmp rfl rfl rfl rfl).cast (y := (BO ((decide ((((a0).length : Nat) : Int) < (((a1).length : Nat) : Int)))))) rfl rfl) (ao_nil ?_)
   change BW _ _ _ _ _
   refine bw_cond rfl ?_ ?_
   ·intro hc9; replace h := ocond_t hc9 h
    refine bR ?_
    refine sA rfl rfl rfl rfl rfl (ao_nil ?_)
    change BW _ _ _ _ _
    refine bw_ret ?_
    change ∃ xs, _ = some xs ∧ EndOk _ _ _ _
    obtain rfl := Option.some.inj h
    exact ⟨_, rfl, endOk0 (y := (I64 ((-1)))) (Wk.refl _) rfl ⟨rfl, rfl⟩⟩
   ·intro hc9; replace h := ocond_f hc9 h
    refine bw_skip ?_
    change BW _ _ _ _ _
    refine bR ?_
    refine sA rfl rfl rfl rfl rfl (ao_nil ?_)
    change BW _ _ _ _ _
    refine bw_ret ?_
    change ∃ xs, _ = some xs ∧ EndOk _ _ _ _
    obtain rfl := Option.some.inj h
    exact ⟨_, rfl, endOk0 (y := (I64 0)) (Wk.refl _) rfl ⟨rfl, rfl⟩⟩
theorem t_value_order (r_value_field : (Str × V) → (Str × V) → Option Int) (c_value_field : ∀ (a0 : (Str × V)) (a1 : (Str × V)) r, r_value_field a0 a1 = some r → PCalls Try.prog 43 [(ofFld a0), (ofFld a1)] (I64 r)) (r_slices_CompareFunc_api_Dict_api_Dict_api_Field_api_Field_value_field : (List (Str × V)) → (List (Str × V)) → Option Int) (c_slices_CompareFunc_api_Dict_api_Dict_api_Field_api_Field_value_field : ∀ (a0 : (List (Str × V))) (a1 : (List (Str × V))) r, r_slices_CompareFunc_api_Dict_api_Dict_api_Field_api_Field_value_field a0 a1 = some r → PCalls Try.prog 42 [(PV.sl none 55 2 (List.map ofFld a0)), (PV.sl none 55 2 (List.map ofFld a1)), (PV.fn (.func 43) [] [])] (I64 r)) (r_slices_CompareFunc_api_List_api_List_any_any_value_order : (List V) → (List V) → Option Int) (c_slices_CompareFunc_api_List_api_List_any_any_value_order : ∀ (a0 : (List V)) (a1 : (List V)) r, r_slices_CompareFunc_api_List_api_List_any_any_value_order a0 a1 = some r → PCalls Try.prog 41 [(PV.sl none 20 1 (List.map ofV a0)), (PV.sl none 20 1 (List.map ofV a1)), (PV.fn (.func 20) [] [])] (I64 r)) (r_value_order : V → V → Option Int) (c_value_order : ∀ (a0 : V) (a1 : V) r, r_value_order a0 a1 = some r → PCalls Try.prog 20 [(ofV a0), (ofV a1)] (I64 r)) (a0 : V) (a1 : V) (r : Int) (h : b_value_order r_value_field r_slices_CompareFunc_api_Dict_api_Dict_api_Field_api_Field_value_field r_slices_CompareFunc_api_List_api_List_any_any_value_order r_value_order a0 a1 = some r) : PCalls Try.prog 20 [(ofV a0), (ofV a1)] (I64 r) := by
 unfold b_value_order at h
 refine acalls_of Try.func20 rfl Try.ntmps20 Try.results20 rfl (aw_of_bw ?_)
 change BW _ _ _ ⟨[(0, (ofV a0)), (1, (ofV a1))], [], _⟩ _
 refine bR ?_
 refine sA rfl rfl rfl rfl rfl (ao_nil ?_)
 change BW _ _ _ _ _
 refine bw_seq ?_
 refine bR ?_
 refine sM rfl rfl rfl rfl rfl ?_
 obtain ⟨x1, hx1, h⟩ := obind h
 refine sS rfl rfl rfl (op1_pcall rfl en_33 rfl (.cons (Wk.refl _) .nil) ⟨(ids_V a0), trivial⟩ (s_value_kind a0 x1 hx1) rfl) ?_
 refine sM rfl rfl rfl rfl rfl ?_
 obtain ⟨x2, hx2, h⟩ := obind h
 refine sS rfl rfl rfl (op1_pcall rfl en_33 rfl (.cons (Wk.refl _) .nil) ⟨(ids_V a1), trivial⟩ (s_value_kind a1 x2 hx2) rfl) ?_
 obtain ⟨x3, hx3, h⟩ := obind h
 refine sS rfl rfl rfl (op1_pcall rfl en_32 rfl (.cons (Wk.refl _) (.cons (Wk.refl _) .nil)) ⟨rfl, ⟨rfl, trivial⟩⟩ (s_value_cmp_int x1 x2 x3 hx3) rfl) ?_
 refine sA rfl rfl rfl rfl rfl (ao_nil ?_)
 change BW _ _ _ _ _
 refine bR ?_
 refine sM rfl rfl rfl rfl rfl ?_
 refine sS rfl rfl rfl ((op1_cmp rfl rfl rfl rfl).cast (y := (BO ((x3 != 0)))) rfl rfl) (ao_nil ?_)
 change BW _ _ _ _ _
 refine bw_cond rfl ?_ ?_
 ·intro hc4; replace h := ocond_t hc4 h
  refine bR ?_
  refine sM rfl rfl rfl rfl rfl ?_
  refine sA rfl rfl rfl rfl rfl (ao_nil ?_)
  change BW _ _ _ _ _
  refine bw_ret ?_
  change ∃ xs, _ = some xs ∧ EndOk _ _ _ _
  obtain rfl := Option.some.inj h
  exact ⟨_, rfl, endOk0 (y := (I64 x3)) (Wk.refl _) rfl ⟨rfl, rfl⟩⟩
 ·intro hc4; replace h := ocond_f hc4 h
  refine bw_skip ?_
  change BW _ _ _ _ _
  refine bw_seq ?_
  refine bR ?_
  refine sM rfl rfl rfl rfl rfl (ao_nil ?_)
  change BW _ _ _ _ _
  refine bw_block ?_
  change BW _ _ _ _ _
  refine bR ?_
  refine sS rfl rfl rfl (op1_taBool rfl rfl) ?_
  refine sS rfl rfl rfl (op1_ext rfl rfl rfl) ?_
  refine sS rfl rfl rfl (op1_ext rfl rfl rfl) (ao_nil ?_)
  change BW _ _ _ _ _
  refine bw_cond rfl ?_ ?_
  ·intro hc5; replace h := ocond_t hc5 h
   refine bR ?_
   refine sA rfl rfl rfl rfl rfl (ao_nil ?_)
   change BW _ _ _ _ _
   refine bw_seq (bw_tail 4 [] [] mo (by kernel_rfl) ?_)
   refine ac_go rfl rfl rfl rfl (fun H hp => op1_move rfl rfl) ?_
   obtain ⟨x6, hx6, h⟩ := obind h
   refine ac_go rfl rfl rfl rfl (fun H hp => op1_pcall rfl en_34 rfl (.cons (Wk.refl _) .nil) ⟨rfl, trivial⟩ (s_value_truth ((a0).asBool) x6 hx6) rfl) ?_
   refine ac_go rfl rfl rfl rfl (fun H hp => op1_move rfl rfl) ?_
   obtain ⟨x7, hx7, h⟩ := obind h
   refine ac_go rfl rfl rfl rfl (fun H hp => op1_txBool rfl rfl hx7) ?_
   refine ac_nil ?_
   change AO _ _ _ _ _
   obtain ⟨x8, hx8, h⟩ := obind h
   refine sS rfl rfl rfl (op1_pcall rfl en_34 rfl (.cons (Wk.refl _) .nil) ⟨rfl, trivial⟩ (s_value_truth x7 x8 hx8) rfl) ?_
   obtain ⟨x9, hx9, h⟩ := obind h
   refine sS rfl rfl rfl (op1_pcall rfl en_32 rfl (.cons (Wk.refl _) (.cons (Wk.refl _) .nil)) ⟨rfl, ⟨rfl, trivial⟩⟩ (s_value_cmp_int x6 x8 x9 hx9) rfl) ?_
   refine sA rfl rfl rfl rfl rfl (ao_nil ?_)
   change BW _ _ _ _ _
   refine bw_ret ?_
   change ∃ xs, _ = some xs ∧ EndOk _ _ _ _
   obtain rfl := Option.some.inj h
   exact ⟨_, rfl, endOk0 (y := (I64 x9)) (Wk.refl _) rfl ⟨rfl, rfl⟩⟩
  ·intro hc5; replace h := ocond_f hc5 h
   refine bR ?_
   refine sS rfl rfl rfl (op1_taInt rfl rfl) ?_
   refine sS rfl rfl rfl (op1_ext rfl rfl rfl) ?_
   refine sS rfl rfl rfl (op1_ext rfl rfl rfl) (ao_nil ?_)
   change BW _ _ _ _ _
   refine bw_cond rfl ?_ ?_
   ·intro hc10; replace h := ocond_t hc10 h
    refine bR ?_
    refine sA rfl rfl rfl rfl rfl (ao_nil ?_)
    change BW _ _ _ _ _
    refine bR ?_
    refine sM rfl rfl rfl rfl rfl ?_
    refine sM rfl rfl rfl rfl rfl ?_
    obtain ⟨x11, hx11, h⟩ := obind h
    refine sS rfl rfl rfl (op1_txInt rfl rfl hx11) ?_
    obtain ⟨x12, hx12, h⟩ := obind h
    refine sS rfl rfl rfl (op1_pcall rfl en_35 rfl (.cons (Wk.refl _) (.cons (Wk.refl _) .nil)) ⟨rfl, ⟨rfl, trivial⟩⟩ (s_value_cmp_int64 ((a0).asInt) x11 x12 hx12) rfl) ?_
    refine sA rfl rfl rfl rfl rfl (ao_nil ?_)
    change BW _ _ _ _ _
    refine bw_ret ?_
    change ∃ xs, _ = some xs ∧ EndOk _ _ _ _
    obtain rfl := Option.some.inj h
    exact ⟨_, rfl, endOk0 (y := (I64 x12)) (Wk.refl _) rfl ⟨rfl, rfl⟩⟩
   ·intro hc10; replace h := ocond_f hc10 h
    refine bR ?_
    refine sS rfl rfl rfl (op1_taFloat rfl rfl) ?_
    refine sS rfl rfl rfl (op1_ext rfl rfl rfl) ?_
    refine sS rfl rfl rfl (op1_ext rfl rfl rfl) (ao_nil ?_)
    change BW _ _ _ _ _
    refine bw_cond rfl ?_ ?_
    ·intro hc13; replace h := ocond_t hc13 h
     refine bR ?_
     refine sA rfl rfl rfl rfl rfl (ao_nil ?_)
     change BW _ _ _ _ _
     refine bw_seq (bw_tail 4 [] [] mo (by kernel_rfl) ?_)
     refine ac_go rfl rfl rfl rfl (fun H hp => op1_move rfl rfl) ?_
     obtain ⟨x14, hx14, h⟩ := obind h
     refine ac_go rfl rfl rfl rfl (fun H hp => op1_pcall rfl en_37 rfl (.cons (Wk.refl _) .nil) ⟨rfl, trivial⟩ (s_value_place ((a0).asFloat) x14 hx14) rfl) ?_
     refine ac_go rfl rfl rfl rfl (fun H hp => op1_move rfl rfl) ?_
     obtain ⟨x15, hx15, h⟩ := obind h
     refine ac_go rfl rfl rfl rfl (fun H hp => op1_txFloat rfl rfl hx15) ?_
     refine ac_nil ?_
     change AO _ _ _ _ _
     obtain ⟨x16, hx16, h⟩ := obind h
     refine sS rfl rfl rfl (op1_pcall rfl en_37 rfl (.cons (Wk.refl _) .nil) ⟨rfl, trivial⟩ (s_value_place x15 x16 hx16) rfl) ?_
     obtain ⟨x17, hx17, h⟩ := obind h
     refine sS rfl rfl rfl (op1_pcall rfl en_36 rfl (.cons (Wk.refl _) (.cons (Wk.refl _) .nil)) ⟨rfl, ⟨rfl, trivial⟩⟩ (s_value_cmp_uint64 x14 x16 x17 hx17) rfl) ?_
     refine sA rfl rfl rfl rfl rfl (ao_nil ?_)
     change BW _ _ _ _ _
     refine bw_ret ?_
     change ∃ xs, _ = some xs ∧ EndOk _ _ _ _
     obtain rfl := Option.some.inj h
     exact ⟨_, rfl, endOk0 (y := (I64 x17)) (Wk.refl _) rfl ⟨rfl, rfl⟩⟩
    ·intro hc13; replace h := ocond_f hc13 h
     refine bR ?_
     refine sS rfl rfl rfl (op1_taText rfl rfl) ?_
     refine sS rfl rfl rfl (op1_ext rfl rfl rfl) ?_
     refine sS rfl rfl rfl (op1_ext rfl rfl rfl) (ao_nil ?_)
     change BW _ _ _ _ _
     refine bw_cond rfl ?_ ?_
     ·intro hc18; replace h := ocond_t hc18 h
      refine bR ?_
      refine sA rfl rfl rfl rfl rfl (ao_nil ?_)
      change BW _ _ _ _ _
      refine bR ?_
      refine sM rfl rfl rfl rfl rfl ?_
      refine sM rfl rfl rfl rfl rfl ?_
      obtain ⟨x19, hx19, h⟩ := obind h
      refine sS rfl rfl rfl (op1_txText rfl rfl hx19) ?_
      obtain ⟨x20, hx20, h⟩ := obind h
      refine sS rfl rfl rfl (op1_pcall rfl en_38 rfl (.cons (Wk.refl _) (.cons (Wk.refl _) .nil)) ⟨rfl, ⟨rfl, trivial⟩⟩ (s_value_cmp_string ((a0).asText) x19 x20 hx20) rfl) ?_
      refine sA rfl rfl rfl rfl rfl (ao_nil ?_)
      change BW _ _ _ _ _
      refine bw_ret ?_
      change ∃ xs, _ = some xs ∧ EndOk _ _ _ _
      obtain rfl := Option.some.inj h
      exact ⟨_, rfl, endOk0 (y := (I64 x20)) (Wk.refl _) rfl ⟨rfl, rfl⟩⟩
     ·intro hc18; replace h := ocond_f hc18 h
      refine bR ?_
      refine sS rfl rfl rfl (op1_taBytes rfl rfl) ?_
      refine sS rfl rfl rfl (op1_ext rfl rfl rfl) ?_
      refine sS rfl rfl rfl (op1_ext rfl rfl rfl) (ao_nil ?_)
      change BW _ _ _ _ _
      refine bw_cond rfl ?_ ?_
      ·intro hc21; replace h := ocond_t hc21 h
       refine bR ?_
       refine sA rfl rfl rfl rfl rfl (ao_nil ?_)
       change BW _ _ _ _ _
       refine bR ?_
       refine sM rfl rfl rfl rfl rfl ?_
       refine sM rfl rfl rfl rfl rfl ?_
       obtain ⟨x22, hx22, h⟩ := obind h
       refine sS rfl rfl rfl (op1_txBytes rfl rfl hx22) ?_
       obtain ⟨x23, hx23, h⟩ := obind h
       refine sS rfl rfl rfl (op1_pcall rfl en_39 rfl (.cons (Wk.refl _) (.cons (Wk.refl _) .nil)) ⟨(ids_slM (fun _ => rfl) ((a0).asBytes)), ⟨(ids_slM (fun _ => rfl) x22), trivial⟩⟩ (s_slices_Compare_byte_byte ((a0).asBytes) x22 x23 hx23) rfl) ?_
       refine sA rfl rfl rfl rfl rfl (ao_nil ?_)
       change BW _ _ _ _ _
       refine bw_ret ?_
       change ∃ xs, _ = some xs ∧ EndOk _ _ _ _
       obtain rfl := Option.some.inj h
       exact ⟨_, rfl, endOk0 (y := (I64 x23)) (Wk.refl _) rfl ⟨rfl, rfl⟩⟩
      ·intro hc21; replace h := ocond_f hc21 h
       refine bR ?_
       refine sS rfl rfl rfl (op1_taRef rfl rfl) ?_
       refine sS rfl rfl rfl (op1_ext rfl rfl rfl) ?_
       refine sS rfl rfl rfl (op1_ext rfl rfl rfl) (ao_nil ?_)
       change BW _ _ _ _ _
       refine bw_cond rfl ?_ ?_
       ·intro hc24; replace h := ocond_t hc24 h
        refine bR ?_
        refine sA rfl rfl rfl rfl rfl (ao_nil ?_)
        change BW _ _ _ _ _
        refine bR ?_
        refine sM rfl rfl rfl rfl rfl ?_
        refine sM rfl rfl rfl rfl rfl ?_
        obtain ⟨x25, hx25, h⟩ := obind h
        refine sS rfl rfl rfl (op1_txRef rfl rfl hx25) ?_
        obtain ⟨x26, hx26, h⟩ := obind h
        refine sS rfl rfl rfl (op1_pcall rfl en_40 rfl (.cons (Wk.refl _) (.cons (Wk.refl _) .nil)) ⟨rfl, ⟨rfl, trivial⟩⟩ (s_value_cmp_api_Ref ((a0).asRef) x25 x26 hx26) rfl) ?_
        refine sA rfl rfl rfl rfl rfl (ao_nil ?_)
        change BW _ _ _ _ _
        refine bw_ret ?_
        change ∃ xs, _ = some xs ∧ EndOk _ _ _ _
        obtain rfl := Option.some.inj h
        exact ⟨_, rfl, endOk0 (y := (I64 x26)) (Wk.refl _) rfl ⟨rfl, rfl⟩⟩
       ·intro hc24; replace h := ocond_f hc24 h
        refine bR ?_
        refine sS rfl rfl rfl (op1_taList rfl rfl) ?_
        refine sS rfl rfl rfl (op1_ext rfl rfl rfl) ?_
        refine sS rfl rfl rfl (op1_ext rfl rfl rfl) (ao_nil ?_)
        change BW _ _ _ _ _
        refine bw_cond rfl ?_ ?_
        ·intro hc27; replace h := ocond_t hc27 h
         refine bR ?_
         refine sA rfl rfl rfl rfl rfl (ao_nil ?_)
         change BW _ _ _ _ _
         refine bR ?_
         refine sM rfl rfl rfl rfl rfl ?_
         refine sM rfl rfl rfl rfl rfl ?_
         obtain ⟨x28, hx28, h⟩ := obind h
         refine sS rfl rfl rfl (op1_txList rfl rfl hx28) ?_
         obtain ⟨x29, hx29, h⟩ := obind h
         refine sS rfl rfl rfl (op1_pcall rfl en_41 rfl (.cons (Wk.refl _) (.cons (Wk.refl _) (.cons (Wk.refl _) .nil))) ⟨(ids_slM ids_V ((a0).asList)), ⟨(ids_slM ids_V x28), ⟨rfl, trivial⟩⟩⟩ (c_slices_CompareFunc_api_List_api_List_any_any_value_order ((a0).asList) x28 x29 hx29) rfl) ?_
         refine sA rfl rfl rfl rfl rfl (ao_nil ?_)
         change BW _ _ _ _ _
         refine bw_ret ?_
         change ∃ xs, _ = some xs ∧ EndOk _ _ _ _
         obtain rfl := Option.some.inj h
         exact ⟨_, rfl, endOk0 (y := (I64 x29)) (Wk.refl _) rfl ⟨rfl, rfl⟩⟩
        ·intro hc27; replace h := ocond_f hc27 h
         refine bR ?_
         refine sS rfl rfl rfl (op1_taDict rfl rfl) ?_
         refine sS rfl rfl rfl (op1_ext rfl rfl rfl) ?_
         refine sS rfl rfl rfl (op1_ext rfl rfl rfl) (ao_nil ?_)
         change BW _ _ _ _ _
         refine bw_cond rfl ?_ ?_
         ·intro hc30; replace h := ocond_t hc30 h
          refine bR ?_
          refine sA rfl rfl rfl rfl rfl (ao_nil ?_)
          change BW _ _ _ _ _
          refine bR ?_
          refine sM rfl rfl rfl rfl rfl ?_
          refine sM rfl rfl rfl rfl rfl ?_
          obtain ⟨x31, hx31, h⟩ := obind h
          refine sS rfl rfl rfl (op1_txDict rfl rfl hx31) ?_
          obtain ⟨x32, hx32, h⟩ := obind h
          refine sS rfl rfl rfl (op1_pcall rfl en_42 rfl (.cons (Wk.refl _) (.cons (Wk.refl _) (.cons (Wk.refl _) .nil))) ⟨(ids_slM ids_Fld ((a0).asDict)), ⟨(ids_slM ids_Fld x31), ⟨rfl, trivial⟩⟩⟩ (c_slices_CompareFunc_api_Dict_api_Dict_api_Field_api_Field_value_field ((a0).asDict) x31 x32 hx32) rfl) ?_
          refine sA rfl rfl rfl rfl rfl (ao_nil ?_)
          change BW _ _ _ _ _
          refine bw_ret ?_
          change ∃ xs, _ = some xs ∧ EndOk _ _ _ _
          obtain rfl := Option.some.inj h
          exact ⟨_, rfl, endOk0 (y := (I64 x32)) (Wk.refl _) rfl ⟨rfl, rfl⟩⟩
         ·intro hc30; replace h := ocond_f hc30 h
          refine bR ?_
          refine sS rfl rfl rfl (op1_taRec rfl rfl) ?_
          refine sS rfl rfl rfl (op1_ext rfl rfl rfl) ?_
          refine sS rfl rfl rfl (op1_ext rfl rfl rfl) (ao_nil ?_)
          change BW _ _ _ _ _
          refine bw_cond rfl ?_ ?_
          ·intro hc33; replace h := ocond_t hc33 h
           refine bR ?_
           refine sA rfl rfl rfl rfl rfl (ao_nil ?_)
           change BW _ _ _ _ _
           refine bR ?_
           refine sM rfl rfl rfl rfl rfl ?_
           obtain ⟨x34, hx34, h⟩ := obind h
           refine sS rfl rfl rfl (op1_txRec rfl rfl hx34) ?_
           refine sA rfl rfl rfl rfl rfl (ao_nil ?_)
           change BW _ _ _ _ _
           refine bw_seq ?_
           refine bw_seq (bw_tail 8 [] [] mo (by kernel_rfl) ?_)
           refine ac_go rfl rfl rfl rfl (fun H hp => op1_move rfl rfl) ?_
           obtain ⟨x35, hx35, h⟩ := obind h
           refine ac_go rfl rfl rfl rfl (fun H hp => op1_pNil rfl rfl hx35) ?_
           refine ac_go rfl rfl rfl rfl (fun H hp => op1_faP st_60 (i := 0) rfl rfl rfl) ?_
           refine ac_go rfl rfl rfl rfl (fun H hp => op1_ldP (y := (ofStr x35.cls)) Try.underlying9 rfl rfl rfl rfl) ?_
           refine ac_go rfl rfl rfl rfl (fun H hp => op1_move rfl rfl) ?_
           obtain ⟨x36, hx36, h⟩ := obind h
           refine ac_go rfl rfl rfl rfl (fun H hp => op1_pNil rfl rfl hx36) ?_
           refine ac_go rfl rfl rfl rfl (fun H hp => op1_faP st_60 (i := 0) rfl rfl rfl) ?_
           refine ac_go rfl rfl rfl rfl (fun H hp => op1_ldP (y := (ofStr x36.cls)) Try.underlying9 rfl rfl rfl rfl) ?_
           refine ac_nil ?_
           change AO _ _ _ _ _
           obtain ⟨x37, hx37, h⟩ := obind h
           refine sS rfl rfl rfl (op1_pcall rfl en_38 rfl (.cons (Wk.refl _) (.cons (Wk.refl _) .nil)) ⟨rfl, ⟨rfl, trivial⟩⟩ (s_value_cmp_string x35.cls x36.cls x37 hx37) rfl) ?_
           refine sA rfl rfl rfl rfl rfl (ao_nil ?_)
           change BW _ _ _ _ _
           refine bR ?_
           refine sM rfl rfl rfl rfl rfl ?_
           refine sS rfl rfl rfl ((op1_cmp rfl rfl rfl rfl).cast (y := (BO ((x37 != 0)))) rfl rfl) (ao_nil ?_)
           change BW _ _ _ _ _
           refine bw_cond rfl ?_ ?_
           ·intro hc38; replace h := ocond_t hc38 h
            refine bR ?_
            refine sM rfl rfl rfl rfl rfl ?_
            refine sA rfl rfl rfl rfl rfl (ao_nil ?_)
            change BW _ _ _ _ _
            refine bw_ret ?_
            change ∃ xs, _ = some xs ∧ EndOk _ _ _ _
            obtain rfl := Option.some.inj h
            exact ⟨_, rfl, endOk0 (y := (I64 x37)) (Wk.refl _) rfl ⟨rfl, rfl⟩⟩
           ·intro hc38; replace h := ocond_f hc38 h
            refine bw_skip ?_
            change BW _ _ _ _ _
            refine bw_seq ?_
            refine bw_seq (bw_tail 8 [] [] mo (by kernel_rfl) ?_)
            refine ac_go rfl rfl rfl rfl (fun H hp => op1_move rfl rfl) ?_
            refine ac_go rfl rfl rfl rfl (fun H hp => op1_pNil rfl rfl hx35) ?_
            refine ac_go rfl rfl rfl rfl (fun H hp => op1_faP st_60 (i := 1) rfl rfl rfl) ?_
            refine ac_go rfl rfl rfl rfl (fun H hp => op1_ldP (y := (I64 x35.ver)) Try.underlying3 rfl rfl rfl rfl) ?_
            refine ac_go rfl rfl rfl rfl (fun H hp => op1_move rfl rfl) ?_
            refine ac_go rfl rfl rfl rfl (fun H hp => op1_pNil rfl rfl hx36) ?_
            refine ac_go rfl rfl rfl rfl (fun H hp => op1_faP st_60 (i := 1) rfl rfl rfl) ?_
            refine ac_go rfl rfl rfl rfl (fun H hp => op1_ldP (y := (I64 x36.ver)) Try.underlying3 rfl rfl rfl rfl) ?_
            refine ac_nil ?_
            change AO _ _ _ _ _
            obtain ⟨x39, hx39, h⟩ := obind h
            refine sS rfl rfl rfl (op1_pcall rfl en_32 rfl (.cons (Wk.refl _) (.cons (Wk.refl _) .nil)) ⟨rfl, ⟨rfl, trivial⟩⟩ (s_value_cmp_int x35.ver x36.ver x39 hx39) rfl) ?_
            refine sA rfl rfl rfl rfl rfl (ao_nil ?_)
            change BW _ _ _ _ _
            refine bR ?_
            refine sM rfl rfl rfl rfl rfl ?_
            refine sS rfl rfl rfl ((op1_cmp rfl rfl rfl rfl).cast (y := (BO ((x39 != 0)))) rfl rfl) (ao_nil ?_)
            change BW _ _ _ _ _
            refine bw_cond rfl ?_ ?_
            ·intro hc40; replace h := ocond_t hc40 h
             refine bR ?_
             refine sM rfl rfl rfl rfl rfl ?_
             refine sA rfl rfl rfl rfl rfl (ao_nil ?_)
             change BW _ _ _ _ _
             refine bw_ret ?_
             change ∃ xs, _ = some xs ∧ EndOk _ _ _ _
             obtain rfl := Option.some.inj h
             exact ⟨_, rfl, endOk0 (y := (I64 x39)) (Wk.refl _) rfl ⟨rfl, rfl⟩⟩
            ·intro hc40; replace h := ocond_f hc40 h
             refine bw_skip ?_
             change BW _ _ _ _ _
             refine bw_seq (bw_tail 8 [] [] mo (by kernel_rfl) ?_)
             refine ac_go rfl rfl rfl rfl (fun H hp => op1_move rfl rfl) ?_
             refine ac_go rfl rfl rfl rfl (fun H hp => op1_pNil rfl rfl hx35) ?_
             refine ac_go rfl rfl rfl rfl (fun H hp => op1_faP st_60 (i := 2) rfl rfl rfl) ?_
             refine ac_go rfl rfl rfl rfl (fun H hp => op1_ldP (y := (PV.sl none 55 2 (List.map ofFld x35.fields))) Try.underlying49 rfl rfl rfl rfl) ?_
             refine ac_go rfl rfl rfl rfl (fun H hp => op1_move rfl rfl) ?_
             refine ac_go rfl rfl rfl rfl (fun H hp => op1_pNil rfl rfl hx36) ?_
             refine ac_go rfl rfl rfl rfl (fun H hp => op1_faP st_60 (i := 2) rfl rfl rfl) ?_
             refine ac_go rfl rfl rfl rfl (fun H hp => op1_ldP (y := (PV.sl none 55 2 (List.map ofFld x36.fields))) Try.underlying49 rfl rfl rfl rfl) ?_
             refine ac_nil ?_
             change AO _ _ _ _ _
             obtain ⟨x41, hx41, h⟩ := obind h
             refine sS rfl rfl rfl (op1_pcall rfl en_42 rfl (.cons (Wk.refl _) (.cons (Wk.refl _) (.cons (Wk.refl _) .nil))) ⟨(ids_slM ids_Fld x35.fields), ⟨(ids_slM ids_Fld x36.fields), ⟨rfl, trivial⟩⟩⟩ (c_slices_CompareFunc_api_Dict_api_Dict_api_Field_api_Field_value_field x35.fields x36.fields x41 hx41) rfl) ?_
             refine sA rfl rfl rfl rfl rfl (ao_nil ?_)
             change BW _ _ _ _ _
             refine bw_ret ?_
             change ∃ xs, _ = some xs ∧ EndOk _ _ _ _
             obtain rfl := Option.some.inj h
             exact ⟨_, rfl, endOk0 (y := (I64 x41)) (Wk.refl _) rfl ⟨rfl, rfl⟩⟩
          ·intro hc33; replace h := ocond_f hc33 h
           refine bw_skip ?_
           change BW _ _ _ _ _
           refine bR ?_
           refine sA rfl rfl rfl rfl rfl (ao_nil ?_)
           change BW _ _ _ _ _
           refine bw_ret ?_
           change ∃ xs, _ = some xs ∧ EndOk _ _ _ _
           obtain rfl := Option.some.inj h
           exact ⟨_, rfl, endOk0 (y := (I64 0)) (Wk.refl _) rfl ⟨rfl, rfl⟩⟩
theorem C_value_field.sound : ∀ (i : C_value_field) (r : i.R), fixO C_value_field.F i = some r → C_value_field.Q i r := by
 refine fixO_ind (Φ := C_value_field.F) (Q := C_value_field.Q) ?_
 intro g hg i r h
 cases i with
 | k_value_field a0 a1 => exact t_value_field (fun a0 a1 => g (.k_value_field a0 a1)) (fun a0 a1 r hr => hg (.k_value_field a0 a1) r hr) (fun a0 a1 => g (.k_slices_CompareFunc_api_Dict_api_Dict_api_Field_api_Field_value_field a0 a1)) (fun a0 a1 r hr => hg (.k_slices_CompareFunc_api_Dict_api_Dict_api_Field_api_Field_value_field a0 a1) r hr) (fun a0 a1 => g (.k_slices_CompareFunc_api_List_api_List_any_any_value_order a0 a1)) (fun a0 a1 r hr => hg (.k_slices_CompareFunc_api_List_api_List_any_any_value_order a0 a1) r hr) (fun a0 a1 => g (.k_value_order a0 a1)) (fun a0 a1 r hr => hg (.k_value_order a0 a1) r hr) a0 a1 r h
 | k_slices_CompareFunc_api_Dict_api_Dict_api_Field_api_Field_value_field a0 a1 => exact t_slices_CompareFunc_api_Dict_api_Dict_api_Field_api_Field_value_field (fun a0 a1 => g (.k_value_field a0 a1)) (fun a0 a1 r hr => hg (.k_value_field a0 a1) r hr) (fun a0 a1 => g (.k_slices_CompareFunc_api_Dict_api_Dict_api_Field_api_Field_value_field a0 a1)) (fun a0 a1 r hr => hg (.k_slices_CompareFunc_api_Dict_api_Dict_api_Field_api_Field_value_field a0 a1) r hr) (fun a0 a1 => g (.k_slices_CompareFunc_api_List_api_List_any_any_value_order a0 a1)) (fun a0 a1 r hr => hg (.k_slices_CompareFunc_api_List_api_List_any_any_value_order a0 a1) r hr) (fun a0 a1 => g (.k_value_order a0 a1)) (fun a0 a1 r hr => hg (.k_value_order a0 a1) r hr) a0 a1 r h
 | k_slices_CompareFunc_api_List_api_List_any_any_value_order a0 a1 => exact t_slices_CompareFunc_api_List_api_List_any_any_value_order (fun a0 a1 => g (.k_value_field a0 a1)) (fun a0 a1 r hr => hg (.k_value_field a0 a1) r hr) (fun a0 a1 => g (.k_slices_CompareFunc_api_Dict_api_Dict_api_Field_api_Field_value_field a0 a1)) (fun a0 a1 r hr => hg (.k_slices_CompareFunc_api_Dict_api_Dict_api_Field_api_Field_value_field a0 a1) r hr) (fun a0 a1 => g (.k_slices_CompareFunc_api_List_api_List_any_any_value_order a0 a1)) (fun a0 a1 r hr => hg (.k_slices_CompareFunc_api_List_api_List_any_any_value_order a0 a1) r hr) (fun a0 a1 => g (.k_value_order a0 a1)) (fun a0 a1 r hr => hg (.k_value_order a0 a1) r hr) a0 a1 r h
 | k_value_order a0 a1 => exact t_value_order (fun a0 a1 => g (.k_value_field a0 a1)) (fun a0 a1 r hr => hg (.k_value_field a0 a1) r hr) (fun a0 a1 => g (.k_slices_CompareFunc_api_Dict_api_Dict_api_Field_api_Field_value_field a0 a1)) (fun a0 a1 r hr => hg (.k_slices_CompareFunc_api_Dict_api_Dict_api_Field_api_Field_value_field a0 a1) r hr) (fun a0 a1 => g (.k_slices_CompareFunc_api_List_api_List_any_any_value_order a0 a1)) (fun a0 a1 r hr => hg (.k_slices_CompareFunc_api_List_api_List_any_any_value_order a0 a1) r hr) (fun a0 a1 => g (.k_value_order a0 a1)) (fun a0 a1 r hr => hg (.k_value_order a0 a1) r hr) a0 a1 r h
theorem s_value_order (a0 : V) (a1 : V) (r : Int) (h : p_value_order a0 a1 = some r) : PCalls Try.prog 20 [(ofV a0), (ofV a1)] (I64 r) := C_value_field.sound (.k_value_order a0 a1) r h
noncomputable def p_value_Same (a0 : V) (a1 : V) : Option Bool :=
 Option.bind (p_value_check a0) fun x1 =>
 Option.bind (p_value_check a1) fun x2 =>
 bif (x1.2 == 0) then (
  bif (x2.2 == 0) then (
   Option.bind (p_value_order a0 a1) fun x5 =>
   some (x5 == 0)
  ) else (
   some false
  )
 ) else (
  some false
 )
theorem s_value_Same (a0 : V) (a1 : V) (r : Bool) (h : p_value_Same a0 a1 = some r) : PCalls Try.prog 10 [(ofV a0), (ofV a1)] (BO r) := by
 unfold p_value_Same at h
 refine acalls_of Try.func10 rfl Try.ntmps10 Try.results10 rfl (aw_of_bw ?_)
 change BW _ _ _ ⟨[(0, (ofV a0)), (1, (ofV a1))], [], _⟩ _
 refine bR ?_
 refine sA rfl rfl rfl rfl rfl (ao_nil ?_)
 change BW _ _ _ _ _
 refine bR ?_
 refine sM rfl rfl rfl rfl rfl ?_
 obtain ⟨x1, hx1, h⟩ := obind h
 refine sS rfl rfl rfl (op1_pcall rfl en_19 rfl (.cons (Wk.refl _) .nil) ⟨(ids_V a0), trivial⟩ (s_value_check a0 x1 hx1) (ids_tup_cons rfl (ids_tup_cons rfl ids_tup_nil))) ?_
 refine sM rfl rfl rfl rfl rfl ?_
 refine sS rfl rfl rfl (op1_ext rfl rfl rfl) ?_
 refine sS rfl rfl rfl (op1_ext rfl rfl rfl) ?_
 refine sA rfl rfl rfl rfl rfl ?_
 refine sA rfl rfl rfl rfl rfl (ao_nil ?_)
 change BW _ _ _ _ _
 refine bR ?_
 refine sM rfl rfl rfl rfl rfl ?_
 obtain ⟨x2, hx2, h⟩ := obind h
 refine sS rfl rfl rfl (op1_pcall rfl en_19 rfl (.cons (Wk.refl _) .nil) ⟨(ids_V a1), trivial⟩ (s_value_check a1 x2 hx2) (ids_tup_cons rfl (ids_tup_cons rfl ids_tup_nil))) ?_
 refine sM rfl rfl rfl rfl rfl ?_
 refine sS rfl rfl rfl (op1_ext rfl rfl rfl) ?_
 refine sS rfl rfl rfl (op1_ext rfl rfl rfl) ?_
 refine sA rfl rfl rfl rfl rfl ?_
 refine sA rfl rfl rfl rfl rfl (ao_nil ?_)
 change BW _ _ _ _ _
 refine bR ?_
 refine sM rfl rfl rfl rfl rfl ?_
 refine sS rfl rfl rfl ((op1_cmp rfl rfl rfl rfl).cast (y := (BO ((x1.2 == 0)))) rfl rfl) ?_
 refine sM rfl rfl rfl rfl rfl ?_
 refine ao_cases (t := 21) rfl ?_ ?_
 ·intro hb3; replace h := ocond_t hb3 h
  refine ao_yes rfl rfl rfl rfl rfl rfl (op1_move rfl rfl) ?_
  refine ao_yes rfl rfl rfl rfl rfl rfl ((op1_cmp rfl rfl rfl rfl).cast (y := (BO ((x2.2 == 0)))) rfl rfl) ?_
  refine sS rfl rfl rfl (op1_pickT rfl rfl rfl) ?_
  refine sM rfl rfl rfl rfl rfl ?_
  refine ao_cases (t := 25) rfl ?_ ?_
  ·intro hb4; replace h := ocond_t hb4 h
   refine ao_yes rfl rfl rfl rfl rfl rfl (op1_move rfl rfl) ?_
   refine ao_yes rfl rfl rfl rfl rfl rfl (op1_move rfl rfl) ?_
   obtain ⟨x5, hx5, h⟩ := obind h
   refine ao_yes rfl rfl rfl rfl rfl rfl (op1_pcall rfl en_20 rfl (.cons (Wk.refl _) (.cons (Wk.refl _) .nil)) ⟨(ids_V a0), ⟨(ids_V a1), trivial⟩⟩ (s_value_order a0 a1 x5 hx5) rfl) ?_
   refine ao_yes rfl rfl rfl rfl rfl rfl ((op1_cmp rfl rfl rfl rfl).cast (y := (BO ((x5 == 0)))) rfl rfl) ?_
   refine sS rfl rfl rfl (op1_pickT rfl rfl rfl) ?_
   refine sA rfl rfl rfl rfl rfl (ao_nil ?_)
   change BW _ _ _ _ _
   refine bw_ret ?_
   change ∃ xs, _ = some xs ∧ EndOk _ _ _ _
   obtain rfl := Option.some.inj h
   exact ⟨_, rfl, endOk0 (y := (BO ((x5 == 0)))) (Wk.refl _) rfl ⟨rfl, rfl⟩⟩
  ·intro hb4; replace h := ocond_f hb4 h
   refine ao_no rfl rfl rfl rfl rfl rfl ?_
   refine ao_no rfl rfl rfl rfl rfl rfl ?_
   refine ao_no rfl rfl rfl rfl rfl rfl ?_
   refine ao_no rfl rfl rfl rfl rfl rfl ?_
   refine sS rfl rfl rfl (op1_pickF rfl rfl rfl) ?_
   refine sA rfl rfl rfl rfl rfl (ao_nil ?_)
   change BW _ _ _ _ _
   refine bw_ret ?_
   change ∃ xs, _ = some xs ∧ EndOk _ _ _ _
   obtain rfl := Option.some.inj h
   exact ⟨_, rfl, endOk0 (y := (BO false)) (Wk.refl _) rfl ⟨rfl, rfl⟩⟩
 ·intro hb3; replace h := ocond_f hb3 h
  refine ao_no rfl rfl rfl rfl rfl rfl ?_
  refine ao_no rfl rfl rfl rfl rfl rfl ?_
  refine sS rfl rfl rfl (op1_pickF rfl rfl rfl) ?_
  refine sM rfl rfl rfl rfl rfl ?_
  refine ao_no rfl rfl rfl rfl rfl rfl ?_
  refine ao_no rfl rfl rfl rfl rfl rfl ?_
  refine ao_no rfl rfl rfl rfl rfl rfl ?_
  refine ao_no rfl rfl rfl rfl rfl rfl ?_
  refine sS rfl rfl rfl (op1_pickF rfl rfl rfl) ?_
  refine sA rfl rfl rfl rfl rfl (ao_nil ?_)
  change BW _ _ _ _ _
  refine bw_ret ?_
  change ∃ xs, _ = some xs ∧ EndOk _ _ _ _
  obtain rfl := Option.some.inj h
  exact ⟨_, rfl, endOk0 (y := (BO false)) (Wk.refl _) rfl ⟨rfl, rfl⟩⟩
noncomputable def p_merge_one (a0 : S_merge_side) (a1 : S_merge_side) : Option Bool :=
 bif (a0.f_has == a1.f_has) then (
  bif (!a0.f_has) then (
   some true
  ) else (
   Option.bind (p_value_Same a0.f_v a1.f_v) fun x3 =>
   some x3
  )
 ) else (
  some false
 )
theorem s_merge_one (a0 : S_merge_side) (a1 : S_merge_side) (r : Bool) (h : p_merge_one a0 a1 = some r) : PCalls Try.prog 54 [(of_merge_side a0), (of_merge_side a1)] (BO r) := by
 unfold p_merge_one at h
 refine acalls_of Try.func54 rfl Try.ntmps54 Try.results54 rfl (aw_of_bw ?_)
 change BW _ _ _ ⟨[(0, (of_merge_side a0)), (1, (of_merge_side a1))], [], _⟩ _
 refine bR ?_
 refine sS rfl rfl rfl (op1_box rfl rfl rfl) ?_
 refine sS rfl rfl rfl (op1_box rfl rfl rfl) ?_
 refine sA rfl rfl rfl rfl rfl (ao_nil ?_)
 change BW _ _ _ _ _
 refine bR ?_
 refine sS rfl rfl rfl (op1_faR st_87 (i := 1) rfl rfl rfl) ?_
 refine sS rfl rfl rfl ((op1_ldR Try.underlying4 rfl rfl rfl rfl rfl)) ?_
 refine sS rfl rfl rfl (op1_faR st_87 (i := 1) rfl rfl rfl) ?_
 refine sS rfl rfl rfl ((op1_ldR Try.underlying4 rfl rfl rfl rfl rfl)) ?_
 refine sS rfl rfl rfl (op1_eqB Try.underlying4 rfl rfl rfl) ?_
 refine sM rfl rfl rfl rfl rfl ?_
 refine ao_cases (t := 10) rfl ?_ ?_
 ·intro hb1; replace h := ocond_t hb1 h
  refine ao_yes rfl rfl rfl rfl rfl rfl (op1_faR st_87 (i := 1) rfl rfl rfl) ?_
  refine ao_yes rfl rfl rfl rfl rfl rfl ((op1_ldR Try.underlying4 rfl rfl rfl rfl rfl)) ?_
  refine ao_yes rfl rfl rfl rfl rfl rfl (op1_not rfl rfl) ?_
  refine ao_yes rfl rfl rfl rfl rfl rfl (op1_move rfl rfl) ?_
  refine ao_cases (t := 14) rfl ?_ ?_
  ·intro hb2; replace h := ocond_t hb2 h
   refine ao_no rfl rfl rfl rfl rfl rfl ?_
   refine ao_no rfl rfl rfl rfl rfl rfl ?_
   refine ao_no rfl rfl rfl rfl rfl rfl ?_
   refine ao_no rfl rfl rfl rfl rfl rfl ?_
   refine ao_no rfl rfl rfl rfl rfl rfl ?_
   refine ao_yes rfl rfl rfl rfl rfl rfl (op1_pickT rfl rfl rfl) ?_
   refine sS rfl rfl rfl (op1_pickT rfl rfl rfl) ?_
   refine sA rfl rfl rfl rfl rfl (ao_nil ?_)
   change BW _ _ _ _ _
   refine bw_ret ?_
   change ∃ xs, _ = some xs ∧ EndOk _ _ _ _
   obtain rfl := Option.some.inj h
   exact ⟨_, rfl, endOk0 (y := (BO true)) (Wk.refl _) rfl ⟨rfl, rfl⟩⟩
  ·intro hb2; replace h := ocond_f hb2 h
   refine ao_yes rfl rfl rfl rfl rfl rfl (op1_faR st_87 (i := 0) rfl rfl rfl) ?_
   refine ao_yes rfl rfl rfl rfl rfl rfl ((op1_ldR Try.underlying20 rfl rfl rfl rfl rfl)) ?_
   refine ao_yes rfl rfl rfl rfl rfl rfl (op1_faR st_87 (i := 0) rfl rfl rfl) ?_
   refine ao_yes rfl rfl rfl rfl rfl rfl ((op1_ldR Try.underlying20 rfl rfl rfl rfl rfl)) ?_
   obtain ⟨x3, hx3, h⟩ := obind h
   refine ao_yes rfl rfl rfl rfl rfl rfl (op1_pcall rfl en_10 rfl (.cons (Wk.refl _) (.cons (Wk.refl _) .nil)) ⟨(ids_V a0.f_v), ⟨(ids_V a1.f_v), trivial⟩⟩ (s_value_Same a0.f_v a1.f_v x3 hx3) rfl) ?_
   refine ao_yes rfl rfl rfl rfl rfl rfl (op1_pickF rfl rfl rfl) ?_
   refine sS rfl rfl rfl (op1_pickT rfl rfl rfl) ?_
   refine sA rfl rfl rfl rfl rfl (ao_nil ?_)
   change BW _ _ _ _ _
   refine bw_ret ?_
   change ∃ xs, _ = some xs ∧ EndOk _ _ _ _
   obtain rfl := Option.some.inj h
   exact ⟨_, rfl, endOk0 (y := (BO x3)) (Wk.refl _) rfl ⟨rfl, rfl⟩⟩
 ·intro hb1; replace h := ocond_f hb1 h
  refine ao_no rfl rfl rfl rfl rfl rfl ?_
  refine ao_no rfl rfl rfl rfl rfl rfl ?_
  refine ao_no rfl rfl rfl rfl rfl rfl ?_
  refine ao_no rfl rfl rfl rfl rfl rfl ?_
  refine ao_no rfl rfl rfl rfl rfl rfl ?_
  refine ao_no rfl rfl rfl rfl rfl rfl ?_
  refine ao_no rfl rfl rfl rfl rfl rfl ?_
  refine ao_no rfl rfl rfl rfl rfl rfl ?_
  refine ao_no rfl rfl rfl rfl rfl rfl ?_
  refine ao_no rfl rfl rfl rfl rfl rfl ?_
  refine sS rfl rfl rfl (op1_pickF rfl rfl rfl) ?_
  refine sA rfl rfl rfl rfl rfl (ao_nil ?_)
  change BW _ _ _ _ _
  refine bw_ret ?_
  change ∃ xs, _ = some xs ∧ EndOk _ _ _ _
  obtain rfl := Option.some.inj h
  exact ⟨_, rfl, endOk0 (y := (BO false)) (Wk.refl _) rfl ⟨rfl, rfl⟩⟩
noncomputable def p_slices_Clone_api_Step_api_Step (a0 : (List S_api_Step)) : Option (List S_api_Step) :=
 Option.bind (appO 32 ([] : (List S_api_Step)) a0) fun x2 =>
 some x2
theorem s_slices_Clone_api_Step_api_Step (a0 : (List S_api_Step)) (r : (List S_api_Step)) (h : p_slices_Clone_api_Step_api_Step a0 = some r) : PCalls Try.prog 46 [(PV.sl none 57 3 (List.map of_api_Step a0))] (PV.sl none 57 3 (List.map of_api_Step r)) := by
 unfold p_slices_Clone_api_Step_api_Step at h
 refine acalls_of Try.func46 rfl Try.ntmps46 Try.results46 rfl (aw_of_bw ?_)
 change BW _ _ _ ⟨[(0, (PV.sl none 57 3 (List.map of_api_Step a0)))], [], _⟩ _
 refine bR ?_
 refine sA rfl rfl rfl rfl rfl (ao_nil ?_)
 change BW _ _ _ _ _
 refine bw_seq ?_
 refine bR ?_
 refine sM rfl rfl rfl rfl rfl ?_
 refine ao_nilcmp rfl rfl rfl Try.underlying42 rfl rfl ?_
 intro nb1 hnb1
 refine ao_nil ?_
 change BW _ _ _ _ _
 cases nb1
 ·refine bw_condF rfl ?_
  refine bw_skip ?_
  change BW _ _ _ _ _
  refine bR ?_
  refine sS rfl rfl rfl ((op1_bslice (xs := []) Try.underlying42 inf_57 rfl rfl rfl rfl rfl rfl ⟨Nat.le_of_ble_eq_true rfl, Nat.le_of_ble_eq_true rfl⟩ rfl).cast (y := (PV.sl (some 0) 57 3 (List.map of_api_Step ([] : (List S_api_Step))))) rfl rfl) ?_
  refine sM rfl rfl rfl rfl rfl ?_
  obtain ⟨x2, hx2, h⟩ := obind h
  refine sS rfl rfl rfl (op1_appM Try.underlying42 inf_57 rfl Try.underlying42 rfl rfl rfl rfl csz_S_api_Step call1_S_api_Step hx2 rfl) ?_
  refine sA rfl rfl rfl rfl rfl (ao_nil ?_)
  change BW _ _ _ _ _
  refine bw_ret ?_
  change ∃ xs, _ = some xs ∧ EndOk _ _ _ _
  obtain rfl := Option.some.inj h
  exact ⟨_, rfl, endOk0 (y := (PV.sl none 57 3 (List.map of_api_Step x2))) Wk.tok (ids_slM ids_S_api_Step x2) ⟨rfl, rfl⟩⟩
 ·have hz := List.map_eq_nil_iff.1 (hnb1 rfl)
  rw [hz] at h
  replace h : some [] = some r := h
  refine bw_condT rfl ?_
  refine bR ?_
  refine sA rfl rfl rfl rfl rfl (ao_nil ?_)
  change BW _ _ _ _ _
  refine bw_ret ?_
  change ∃ xs, _ = some xs ∧ EndOk _ _ _ _
  obtain rfl := Option.some.inj h
  exact ⟨_, rfl, endOk0 (y := (PV.sl none 57 3 (List.map of_api_Step []))) Wk.nil (ids_slM ids_S_api_Step ([])) ⟨rfl, rfl⟩⟩
end Go.Proofs.Ytkmhecgagibgjaa
