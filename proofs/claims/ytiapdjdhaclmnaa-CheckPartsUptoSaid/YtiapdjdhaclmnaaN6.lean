/- The program's order is that order; it is total. -/
import Derived.Test.YtiapdjdhaclmnaaN5
namespace Go.Proofs.Ytiapdjdhaclmnaa
open Go Aw
set_option linter.unusedVariables false
set_option linter.unusedSimpArgs false
set_option maxRecDepth 8000
/-! ### values that can be -/
def Fine (x : V) : Prop := ∃ n dp d, (partF x n dp d).ok = true
theorem partsF_ok {d : Int} : ∀ {l : List V} {n dp : Int}, (partsF l n dp d).ok = true → ∀ y, y ∈ l → ∃ n dp, (partF y n dp d).ok = true
  | x :: r, n, dp, h, y, hy => by
    rw [partsF_cons] at h
    cases hk : (partF x n dp d).ok with
    | false => rw [if_neg (by simp [hk])] at h; rw [hk] at h; cases h
    | true =>
      rw [if_pos hk] at h
      rcases List.mem_cons.1 hy with rfl | hy
      · exact ⟨n, dp, hk⟩
      · exact partsF_ok h y hy
theorem Fine.own {x : V} (h : Fine x) : nearE x = 0 ∧ ∀ y, y ∈ x.parts → Fine y := by
  obtain ⟨n, dp, d, h⟩ := h
  rw [partF_eq] at h
  split at h
  · rename_i ho
    exact ⟨(own_zero ho).2.2, fun y hy => let ⟨n', dp', h'⟩ := partsF_ok h y hy; ⟨n', dp', _, h'⟩⟩
  · cases h
theorem value_cmp_int_eq (a b : Int) : p_value_cmp_int a b = some (c3 a b) := c3_cmp a b
theorem value_cmp_int64_eq (a b : Int) : p_value_cmp_int64 a b = some (c3 a b) := c3_cmp a b
theorem value_cmp_uint64_eq (a b : Int) : p_value_cmp_uint64 a b = some (c3 a b) := c3_cmp a b
theorem value_cmp_ref_eq (a b : Int) : p_value_cmp_api_Ref a b = some (c3 a b) := c3_cmp a b
theorem value_truth_eq (b : Bool) : p_value_truth b = some (trI b) := by cases b <;> rfl
theorem value_place_eq (f : Nat) : p_value_place f = some (plV f) := by
  unfold p_value_place plV
  by_cases h : shrK .u64 (f : Int) 63 = 1
  · rw [if_pos h, h]; rfl
  · rw [if_neg h]
    have : (shrK .u64 (f : Int) 63 == 1) = false := by simpa using h
    rw [this]; rfl
theorem cmpS_nil : cmpS [] [] = 0 := rfl
theorem ge_t {i n : Nat} (h : n ≤ i) : decide ((i : Int) ≥ (n : Int)) = true := decide_eq_true (by omega)
theorem ge_f {i n : Nat} (h : ¬ n ≤ i) : decide ((i : Int) ≥ (n : Int)) = false := decide_eq_false (by omega)
theorem bne_0 {c : Int} : (c != 0) = !(c == 0) := rfl
theorem th_some (c d : Int) : (bif c != 0 then some c else some d) = some (th c d) := by
  unfold th
  by_cases h : c = 0
  · subst h; rfl
  · have : (c != 0) = true := by simpa using h
    rw [this, if_neg h]; rfl
theorem byte_cmp_eq (a b : UInt8) : p_cmp_Compare_byte a b = some (c3 ((a.toNat : Int) + 1) ((b.toNat : Int) + 1)) := by
  have h1 : ∀ x : UInt8, p_cmp_isNaN_byte x = some false := fun x => by unfold p_cmp_isNaN_byte; simp
  simp only [p_cmp_Compare_byte, h1, Option.bind_some, cond_false, c3_shift]
  exact c3_cmp _ _
theorem bytes_l (a b : Str) : ∀ k i, k + i = a.length → i ≤ b.length → slices_Compare_byte_byte_l1 a b i = some (cmpS (a.drop i) (b.drop i))
  | 0, i, h, hb => by
    rw [slices_Compare_byte_byte_l1_eq]
    simp only [slices_Compare_byte_byte_l1b, lt_f (by omega : ¬ i < a.length), cond_false]
    rw [List.drop_of_length_le (by omega : a.length ≤ i)]
    by_cases hl : a.length < b.length
    · obtain ⟨y, hy, hd⟩ := dropc (by omega : i < b.length)
      rw [lt_t hl, hd]; rfl
    · rw [lt_f hl, List.drop_of_length_le (by omega : b.length ≤ i)]; rfl
  | k + 1, i, h, hb => by
    obtain ⟨x, hx, hdx⟩ := dropc (by omega : i < a.length)
    rw [slices_Compare_byte_byte_l1_eq]
    simp only [slices_Compare_byte_byte_l1b, lt_t (by omega : i < a.length), cond_true, hx, Option.bind_some]
    by_cases hl : i < b.length
    · obtain ⟨y, hy, hdy⟩ := dropc hl
      rw [ge_f (by omega : ¬ b.length ≤ i), hdx, hdy, cmpS_cons]
      simp only [cond_false, hy, Option.bind_some, byte_cmp_eq, bytes_l a b k (i + 1) (by omega) (by omega), th_some]
    · rw [ge_t (by omega : b.length ≤ i), hdx, List.drop_of_length_le (by omega : b.length ≤ i)]; rfl
theorem bytes_cmp_eq (a b : Str) : p_slices_Compare_byte_byte a b = some (cmpS a b) := bytes_l a b a.length 0 (by omega) (by omega)
theorem vl_l (a b : List V) (hab : ∀ x, x ∈ a → ∀ y, y ∈ b → p_value_order x y = some (ordF x y)) : ∀ k i, k + i = a.length → i ≤ b.length → slices_CompareFunc_api_List_api_List_any_any_value_order_l1 p_value_order a b i = some (ordL (a.drop i) (b.drop i))
  | 0, i, h, hb => by
    rw [slices_CompareFunc_api_List_api_List_any_any_value_order_l1_eq]
    simp only [slices_CompareFunc_api_List_api_List_any_any_value_order_l1b, lt_f (by omega : ¬ i < a.length), cond_false]
    rw [List.drop_of_length_le (by omega : a.length ≤ i)]
    by_cases hl : a.length < b.length
    · obtain ⟨y, hy, hd⟩ := dropc (by omega : i < b.length)
      rw [lt_t hl, hd, ordL]; rfl
    · rw [lt_f hl, List.drop_of_length_le (by omega : b.length ≤ i), ordL]; rfl
  | k + 1, i, h, hb => by
    obtain ⟨x, hx, hdx⟩ := dropc (by omega : i < a.length)
    rw [slices_CompareFunc_api_List_api_List_any_any_value_order_l1_eq]
    simp only [slices_CompareFunc_api_List_api_List_any_any_value_order_l1b, lt_t (by omega : i < a.length), cond_true, hx, Option.bind_some]
    by_cases hl : i < b.length
    · obtain ⟨y, hy, hdy⟩ := dropc hl
      rw [ge_f (by omega : ¬ b.length ≤ i), hdx, hdy, ordL]
      simp only [cond_false, hy, Option.bind_some, hab x (List.mem_of_getElem? hx) y (List.mem_of_getElem? hy), vl_l a b hab k (i + 1) (by omega) (by omega), th_some]
    · rw [ge_t (by omega : b.length ≤ i), hdx, List.drop_of_length_le (by omega : b.length ≤ i), ordL]; rfl
theorem field_eq (p q : Str × V) (h : p_value_order p.2 q.2 = some (ordF p.2 q.2)) : p_value_field p q = some (th (cmpS p.1 q.1) (ordF p.2 q.2)) := by
  rw [e_value_field, b_value_field]
  simp only [value_cmp_string_eq, Option.bind_some, h, th_some]
theorem vd_l (a b : List (Str × V)) (hab : ∀ x, x ∈ a → ∀ y, y ∈ b → p_value_order x.2 y.2 = some (ordF x.2 y.2)) : ∀ k i, k + i = a.length → i ≤ b.length → slices_CompareFunc_api_Dict_api_Dict_api_Field_api_Field_value_field_l1 p_value_field a b i = some (ordD (a.drop i) (b.drop i))
  | 0, i, h, hb => by
    rw [slices_CompareFunc_api_Dict_api_Dict_api_Field_api_Field_value_field_l1_eq]
    simp only [slices_CompareFunc_api_Dict_api_Dict_api_Field_api_Field_value_field_l1b, lt_f (by omega : ¬ i < a.length), cond_false]
    rw [List.drop_of_length_le (by omega : a.length ≤ i)]
    by_cases hl : a.length < b.length
    · obtain ⟨y, hy, hd⟩ := dropc (by omega : i < b.length)
      rw [lt_t hl, hd, ordD]; rfl
    · rw [lt_f hl, List.drop_of_length_le (by omega : b.length ≤ i), ordD]; rfl
  | k + 1, i, h, hb => by
    obtain ⟨x, hx, hdx⟩ := dropc (by omega : i < a.length)
    rw [slices_CompareFunc_api_Dict_api_Dict_api_Field_api_Field_value_field_l1_eq]
    simp only [slices_CompareFunc_api_Dict_api_Dict_api_Field_api_Field_value_field_l1b, lt_t (by omega : i < a.length), cond_true, hx, Option.bind_some]
    obtain ⟨sx, vx⟩ := x
    by_cases hl : i < b.length
    · obtain ⟨y, hy, hdy⟩ := dropc hl
      obtain ⟨sy, vy⟩ := y
      rw [ge_f (by omega : ¬ b.length ≤ i), hdx, hdy, ordD]
      simp only [cond_false, hy, Option.bind_some, field_eq _ _ (hab _ (List.mem_of_getElem? hx) _ (List.mem_of_getElem? hy)), vd_l a b hab k (i + 1) (by omega) (by omega), th_some]
    · rw [ge_t (by omega : b.length ≤ i), hdx, List.drop_of_length_le (by omega : b.length ≤ i), ordD]; rfl
theorem dict_eq (a b : List (Str × V)) (hab : ∀ x, x ∈ a → ∀ y, y ∈ b → p_value_order x.2 y.2 = some (ordF x.2 y.2)) : p_slices_CompareFunc_api_Dict_api_Dict_api_Field_api_Field_value_field a b = some (ordD a b) := by
  rw [e_slices_CompareFunc_api_Dict_api_Dict_api_Field_api_Field_value_field, b_slices_CompareFunc_api_Dict_api_Dict_api_Field_api_Field_value_field]
  exact vd_l a b hab a.length 0 (by omega) (by omega)
theorem list_eq (a b : List V) (hab : ∀ x, x ∈ a → ∀ y, y ∈ b → p_value_order x y = some (ordF x y)) : p_slices_CompareFunc_api_List_api_List_any_any_value_order a b = some (ordL a b) := by
  rw [e_slices_CompareFunc_api_List_api_List_any_any_value_order, b_slices_CompareFunc_api_List_api_List_any_any_value_order]
  exact vl_l a b hab a.length 0 (by omega) (by omega)
theorem ordF_ne {x y : V} (h : kindOf x ≠ kindOf y) : ordF x y = c3 (kindOf x) (kindOf y) := by
  rw [ord_key]
  have := key_ne h [] []
  rw [List.append_nil, List.append_nil] at this
  rw [this]; exact th_zero _
theorem bind_id {α : Type} (o : Option α) : (Option.bind o fun x => some x) = o := by cases o <;> rfl
theorem value_order_eq (x : V) : ∀ y, Fine x → Fine y → p_value_order x y = some (ordF x y) := by
  induction x using V.byParts with
  | _ x ih =>
  intro y hx hy
  have hpx := hx.own.2
  have hpy := hy.own.2
  have e0 : ((0 : Int) != 0) = false := rfl
  rw [e_value_order, b_value_order]
  simp only [value_kind_eq, value_cmp_int_eq, Option.bind_some]
  by_cases hk : kindOf x = kindOf y
  · rw [hk, c3_self, e0, cond_false]
    cases x with
    | nil => cases y <;> first | (simp [kindOf] at hk; done) | (rw [ordF]; rfl)
    | nothing => have := hx.own.1; simp [nearE] at this
    | alien t => have := hx.own.1; simp [nearE] at this
    | bool a => cases y <;> first | (simp [kindOf] at hk; done) | (rw [ordF]; simp only [V.isBool, V.asBool, V.theBool, cond_true, value_truth_eq, Option.bind_some, value_cmp_int_eq])
    | int a => cases y <;> first | (simp [kindOf] at hk; done) | (rw [ordF]; simp only [V.isBool, V.isInt, V.asInt, V.theInt, cond_true, cond_false, Option.bind_some, value_cmp_int64_eq])
    | float a => cases y <;> first | (simp [kindOf] at hk; done) | (rw [ordF]; simp only [V.isBool, V.isInt, V.isFloat, V.asFloat, V.theFloat, cond_true, cond_false, Option.bind_some, value_place_eq, value_cmp_uint64_eq])
    | text a => cases y <;> first | (simp [kindOf] at hk; done) | (rw [ordF]; simp only [V.isBool, V.isInt, V.isFloat, V.isText, V.asText, V.theText, cond_true, cond_false, Option.bind_some, value_cmp_string_eq])
    | bytes a => cases y <;> first | (simp [kindOf] at hk; done) | (rw [ordF]; simp only [V.isBool, V.isInt, V.isFloat, V.isText, V.isBytes, V.asBytes, V.theBytes, cond_true, cond_false, Option.bind_some, bytes_cmp_eq])
    | ref a => cases y <;> first | (simp [kindOf] at hk; done) | (rw [ordF]; simp only [V.isBool, V.isInt, V.isFloat, V.isText, V.isBytes, V.isRef, V.asRef, V.theRef, cond_true, cond_false, Option.bind_some, value_cmp_ref_eq])
    | list a =>
      cases y <;> first
        | (simp [kindOf] at hk; done)
        | (rename_i b
           rw [ordF]
           simp only [V.isBool, V.isInt, V.isFloat, V.isText, V.isBytes, V.isRef, V.isList, V.asList, V.theList, cond_true, cond_false, Option.bind_some]
           rw [list_eq a b (fun u hu v hv => ih u hu v (hpx u hu) (hpy v hv))]; rfl)
    | dict a =>
      cases y <;> first
        | (simp [kindOf] at hk; done)
        | (rename_i b
           rw [ordF]
           simp only [V.isBool, V.isInt, V.isFloat, V.isText, V.isBytes, V.isRef, V.isList, V.isDict, V.asDict, V.theDict, cond_true, cond_false, Option.bind_some]
           rw [dict_eq a b (fun u hu v hv => ih u.2 (List.mem_map_of_mem hu) v.2 (hpx _ (List.mem_map_of_mem hu)) (hpy _ (List.mem_map_of_mem hv)))]; rfl)
    | record c v a =>
      cases y <;> first
        | (simp [kindOf] at hk; done)
        | (rename_i b
           rw [ordF]
           simp only [V.isBool, V.isInt, V.isFloat, V.isText, V.isBytes, V.isRef, V.isList, V.isDict, V.isRec, V.asRec, V.theRec, cond_true, cond_false, Option.bind_some, value_cmp_string_eq, value_cmp_int_eq]
           rw [dict_eq a b (fun u hu v hv => ih u.2 (List.mem_map_of_mem hu) v.2 (hpx _ (List.mem_map_of_mem hu)) (hpy _ (List.mem_map_of_mem hv)))]
           simp only [Option.bind_some, th_some])
  · have h2 : c3 (kindOf x) (kindOf y) ≠ 0 := fun e => hk (c3_zero.1 e)
    have e1 : (c3 (kindOf x) (kindOf y) != 0) = true := by simpa using h2
    rw [e1, cond_true, ordF_ne hk]
/-! ### Order and Same -/
theorem check_fine {x : V} (h : (checkF x).2 = 0) : Fine x ∧ checkF x = (0, 0) := by
  unfold checkF at h ⊢
  cases hk : (partF x 0 0 1).ok with
  | true => exact ⟨⟨0, 0, 1, hk⟩, rfl⟩
  | false =>
    rw [if_neg (by simp [hk])] at h
    exact absurd h ((part_facts x 1 0 0).bad hk)
theorem ne_t {a : Int} (h : a ≠ 0) : (a != 0) = true := by simpa using h
noncomputable def sameF (x y : V) : Bool := (checkF x).2 == 0 && ((checkF y).2 == 0 && ordF x y == 0)
theorem value_Same_eq (x y : V) : p_value_Same x y = some (sameF x y) := by
  simp only [p_value_Same, value_check_eq, Option.bind_some, sameF]
  by_cases hx : (checkF x).2 = 0
  · have ex : ((checkF x).2 == 0) = true := by simpa using hx
    rw [ex, cond_true, Bool.true_and]
    by_cases hy : (checkF y).2 = 0
    · have ey : ((checkF y).2 == 0) = true := by simpa using hy
      rw [ey, cond_true, Bool.true_and, value_order_eq x y (check_fine hx).1 (check_fine hy).1]; rfl
    · have ey : ((checkF y).2 == 0) = false := by simpa using hy
      rw [ey]; rfl
  · have ex : ((checkF x).2 == 0) = false := by simpa using hx
    rw [ex]; rfl
theorem fieldsE_len {l : List Str} (h : fieldsE l = 0) : l.length ≤ 4096 := by
  unfold fieldsE at h
  split at h
  · cases h
  · omega
theorem near_list {l : List V} (h : nearE (.list l) = 0) : l.length ≤ 4096 := by
  simp only [nearE] at h
  split at h
  · cases h
  · omega
theorem near_rec {c : Str} {v : Int} {l : List (Str × V)} (h : nearE (.record c v l) = 0) : (1 ≤ v ∧ v ≤ 1000) ∧ l.length ≤ 4096 := by
  simp only [nearE] at h
  split at h
  · cases h
  · split at h
    · cases h
    · have := fieldsE_len h; rw [List.length_map] at this; omega
theorem near_dict {l : List (Str × V)} (h : nearE (.dict l) = 0) : l.length ≤ 4096 := by
  have := fieldsE_len h; rwa [List.length_map] at this
end Go.Proofs.Ytiapdjdhaclmnaa
