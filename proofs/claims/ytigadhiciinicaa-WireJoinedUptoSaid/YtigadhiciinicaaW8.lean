/- The program's writing of a value. -/
import Derived.Test.YtigadhiciinicaaW3
namespace Go.Proofs.Ytigadhiciinicaa
open Go Aw
set_option linter.unusedVariables false
set_option linter.unusedSimpArgs false
set_option maxRecDepth 8000
theorem float_put {f : Nat} {acc : Str} (hf : f < 18446744073709551616) (ha : acc.length + 8 ≤ 1073741824) : wire_put_l1 (.float f) acc 56 = some (acc ++ be8 f) := by
  have step : ∀ (s : Nat) (t : Int) (acc : Str), s ≤ 56 → t = (s : Int) - 8 → acc.length ≤ 1073741824 → wire_put_l1 (.float f) acc (s : Int) = wire_put_l1 (.float f) (acc ++ [UInt8.ofNat (f / 2 ^ s)]) t := by
    intro s t acc hs ht ha
    rw [wire_put_l1_eq]
    simp only [wire_put_l1b, V.asFloat]
    have hn : negO (s : Int) = some () := by unfold negO; rw [decide_eq_true (by omega)]; rfl
    rw [decide_eq_true (by omega), cond_true, hn, Option.bind_some, shr_nat f s (by omega), w64_in (by omega) (by omega), ← ht]
    have e : UInt8.ofInt ((f / 2 ^ s : Nat) : Int) = UInt8.ofNat (f / 2 ^ s) := by
      apply UInt8.toNat_inj.1; rw [u8_ofInt, UInt8.toNat_ofNat']
    rw [e, app1W ha, Option.bind_some]
  have hl : ∀ (x : Str) (c : UInt8), (x ++ [c]).length = x.length + 1 := fun x c => by simp
  rw [show (56 : Int) = ((56 : Nat) : Int) from rfl, step 56 ((48 : Nat) : Int) _ (by omega) rfl (by omega), step 48 ((40 : Nat) : Int) _ (by omega) rfl (by simp only [hl]; omega), step 40 ((32 : Nat) : Int) _ (by omega) rfl (by simp only [hl]; omega),
    step 32 ((24 : Nat) : Int) _ (by omega) rfl (by simp only [hl]; omega), step 24 ((16 : Nat) : Int) _ (by omega) rfl (by simp only [hl]; omega), step 16 ((8 : Nat) : Int) _ (by omega) rfl (by simp only [hl]; omega),
    step 8 ((0 : Nat) : Int) _ (by omega) rfl (by simp only [hl]; omega), step 0 (-8) _ (by omega) rfl (by simp only [hl]; omega), wire_put_l1_eq]
  simp only [wire_put_l1b]
  rw [decide_eq_false (by omega), cond_false]
  simp only [wire_put_j1, be8, List.append_assoc, List.singleton_append, List.cons_append, List.nil_append]
  simp only [Nat.reducePow, Nat.div_one]
def PutOk (v : V) : Prop := ∀ s : Str, s.length + (enc v).length ≤ 1073741824 → p_wire_put s v = some (s ++ enc v)
theorem encL_drop {l : List V} {i : Nat} {x : V} (h : l[i]? = some x) : encL (l.drop i) = enc x ++ encL (l.drop (i + 1)) := by
  obtain ⟨hi, rfl⟩ := List.getElem?_eq_some_iff.1 h
  rw [List.drop_eq_getElem_cons hi, encL]
theorem encD_drop {l : List (Str × V)} {i : Nat} {x : Str × V} (h : l[i]? = some x) : encD (l.drop i) = num x.1.length ++ (x.1 ++ (enc x.2 ++ encD (l.drop (i + 1)))) := by
  obtain ⟨hi, rfl⟩ := List.getElem?_eq_some_iff.1 h
  rw [List.drop_eq_getElem_cons hi]
  obtain ⟨s, x⟩ := l[i]
  rw [encD]
theorem pl_l {l : List V} {cap : V} (hc : cap = .list l) (h : ∀ x, x ∈ l → PutOk x) : ∀ (k i : Nat) (s : Str), k + i = l.length → s.length + (encL (l.drop i)).length ≤ 1073741824 → wire_put_l2 p_wire_put cap s i = some (s ++ encL (l.drop i))
  | 0, i, s, hk, hs => by
    subst hc
    rw [wire_put_l2_eq]
    simp only [wire_put_l2b, V.asList, lt_f (by omega : ¬ i < l.length), cond_false, wire_put_j1]
    rw [List.drop_of_length_le (by omega), encL, List.append_nil]
  | k + 1, i, s, hk, hs => by
    have hc' := hc
    subst hc
    obtain ⟨x, hx, _⟩ := dropc (by omega : i < l.length)
    rw [encL_drop hx, List.length_append] at hs
    rw [wire_put_l2_eq]
    simp only [wire_put_l2b, V.asList, lt_t (by omega : i < l.length), cond_true, hx, Option.bind_some]
    rw [h x (List.mem_of_getElem? hx) s (by omega), Option.bind_some, pl_l rfl h k (i + 1) _ (by omega) (by rw [List.length_append]; omega), encL_drop hx, List.append_assoc]
theorem pd_l {l : List (Str × V)} (h : ∀ x, x ∈ l.map (·.2) → PutOk x) : ∀ (k i : Nat) (s : Str), k + i = l.length → s.length + (encD (l.drop i)).length ≤ 1073741824 → wire_fields_l1 p_wire_put l s i = some (s ++ encD (l.drop i))
  | 0, i, s, hk, hs => by
    rw [wire_fields_l1_eq]
    simp only [wire_fields_l1b, lt_f (by omega : ¬ i < l.length), cond_false]
    rw [List.drop_of_length_le (by omega), encD, List.append_nil]
  | k + 1, i, s, hk, hs => by
    obtain ⟨x, hx, _⟩ := dropc (by omega : i < l.length)
    rw [encD_drop hx, List.length_append, List.length_append, List.length_append] at hs
    rw [wire_fields_l1_eq]
    simp only [wire_fields_l1b, lt_t (by omega : i < l.length), cond_true, hx, Option.bind_some]
    rw [wire_text_eq _ _ (by omega), Option.bind_some, h x.2 (List.mem_map_of_mem (List.mem_of_getElem? hx)) _ (by simp only [List.length_append]; omega), Option.bind_some,
      pd_l h k (i + 1) _ (by omega) (by simp only [List.length_append]; omega), encD_drop hx]
    simp only [List.append_assoc]
theorem fields_put {l : List (Str × V)} (h : ∀ x, x ∈ l.map (·.2) → PutOk x) (hl : l.length ≤ 4096) (s : Str) (hs : s.length + (num l.length).length + (encD l).length ≤ 1073741824) : p_wire_fields s l = some (s ++ (num l.length ++ encD l)) := by
  rw [e_wire_fields]
  simp only [b_wire_fields]
  rw [wu_nat (by omega), wire_number_eq l.length s (by omega) (by omega), Option.bind_some, pd_l h l.length 0 _ (by omega) (by rw [List.length_append, List.drop_zero]; omega), List.drop_zero, List.append_assoc]
theorem put_eq (v : V) : Near v → okV v → PutOk v := by
  induction v using V.byParts with
  | _ v ih =>
  intro hnr hok s hs
  have hown := hnr.own
  have hpart : ∀ x, x ∈ v.parts → PutOk x := fun x hx => ih x hx (hnr.part x hx) (ok_part hok hx)
  have h1 : 1 ≤ (enc v).length := by cases v <;> simp [enc]
  have hk : p_value_Kind v = some (kindOf v) := value_Kind_eq v
  have hs1 : s.length ≤ 1073741824 := by omega
  rw [e_wire_put]
  simp only [b_wire_put]
  rw [hk, Option.bind_some, app1W hs1, Option.bind_some]
  have l1 : ∀ c : UInt8, (s ++ [c]).length = s.length + 1 := fun c => by simp
  cases v with
  | nil => simp only [V.isBool, V.isInt, V.isFloat, V.isText, V.isBytes, V.isRef, V.isList, V.isDict, V.isRec, cond_false]; rfl
  | bool b =>
    simp only [V.isBool, cond_true, V.asBool]
    rw [enc] at hs ⊢
    simp only [List.length_cons, List.length_nil] at hs
    cases b with
    | true => rw [cond_true, app1W (by rw [l1]; omega), Option.bind_some, List.append_assoc]; rfl
    | false => rw [cond_false, app1W (by rw [l1]; omega), Option.bind_some, List.append_assoc]; rfl
  | int i =>
    rw [okV] at hok
    simp only [V.isBool, V.isInt, cond_false, cond_true, V.asInt]
    rw [enc] at hs ⊢
    simp only [List.length_cons] at hs
    rw [wire_zigzag_eq i hok.1 hok.2, Option.bind_some, wire_number_eq (zig i) _ (zig_lt hok.1 hok.2) (by rw [l1]; omega), Option.bind_some, List.append_assoc]; rfl
  | float f =>
    rw [okV] at hok
    simp only [V.isBool, V.isInt, V.isFloat, cond_false, cond_true]
    rw [enc] at hs ⊢
    simp only [List.length_cons, be8_len] at hs
    rw [float_put hok (by rw [l1]; omega), List.append_assoc]; rfl
  | text t =>
    simp only [V.isBool, V.isInt, V.isFloat, V.isText, cond_false, cond_true, V.asText]
    rw [enc] at hs ⊢
    simp only [List.length_cons, List.length_append] at hs
    rw [wire_text_eq _ _ (by rw [l1]; omega), Option.bind_some, List.append_assoc]; rfl
  | bytes t =>
    simp only [V.isBool, V.isInt, V.isFloat, V.isText, V.isBytes, cond_false, cond_true, V.asBytes]
    rw [enc] at hs ⊢
    simp only [List.length_cons, List.length_append] at hs
    rw [wu_nat (by omega), wire_number_eq _ _ (by omega) (by rw [l1]; omega), Option.bind_some, appW (by simp only [List.length_append, List.length_cons, List.length_nil]; omega), Option.bind_some, List.append_assoc, List.append_assoc]; rfl
  | ref r =>
    rw [okV] at hok
    simp only [V.isBool, V.isInt, V.isFloat, V.isText, V.isBytes, V.isRef, cond_false, cond_true, V.asRef]
    rw [enc] at hs ⊢
    simp only [List.length_cons] at hs
    obtain ⟨m, rfl⟩ : ∃ m : Nat, r = (m : Int) := ⟨r.toNat, by omega⟩
    rw [Int.toNat_natCast] at hs ⊢
    rw [wire_number_eq m _ (by omega) (by rw [l1]; omega), Option.bind_some, List.append_assoc]; rfl
  | list l =>
    have hl := near_list hown
    simp only [V.isBool, V.isInt, V.isFloat, V.isText, V.isBytes, V.isRef, V.isList, cond_false, cond_true, V.asList]
    rw [enc] at hs ⊢
    simp only [List.length_cons, List.length_append] at hs
    rw [wu_nat (by omega), wire_number_eq _ _ (by omega) (by rw [l1]; omega), Option.bind_some, pl_l (l := l) rfl hpart l.length 0 _ (by omega) (by simp only [List.length_append, List.length_cons, List.length_nil, List.drop_zero]; omega), List.drop_zero, List.append_assoc, List.append_assoc]; rfl
  | dict l =>
    have hl := near_dict hown
    simp only [V.isBool, V.isInt, V.isFloat, V.isText, V.isBytes, V.isRef, V.isList, V.isDict, cond_false, cond_true, V.asDict]
    rw [enc] at hs ⊢
    simp only [List.length_cons, List.length_append] at hs
    rw [fields_put hpart hl _ (by rw [l1]; omega), Option.bind_some, List.append_assoc]; rfl
  | record c w l =>
    have hl := near_rec hown
    simp only [V.isBool, V.isInt, V.isFloat, V.isText, V.isBytes, V.isRef, V.isList, V.isDict, V.isRec, cond_false, cond_true, V.asRec, Option.bind_some]
    rw [enc] at hs ⊢
    simp only [List.length_cons, List.length_append] at hs
    obtain ⟨m, rfl⟩ : ∃ m : Nat, w = (m : Int) := ⟨w.toNat, by omega⟩
    rw [Int.toNat_natCast] at hs ⊢
    rw [wire_text_eq _ _ (by rw [l1]; omega), Option.bind_some, wu_nat (by omega), wire_number_eq m _ (by omega) (by simp only [List.length_append, l1]; omega), Option.bind_some,
      fields_put hpart hl.2 _ (by simp only [List.length_append, l1]; omega), Option.bind_some]
    simp only [List.append_assoc]; rfl
  | nothing => simp [nearE] at hown
  | alien t => simp [nearE] at hown
end Go.Proofs.Ytigadhiciinicaa
