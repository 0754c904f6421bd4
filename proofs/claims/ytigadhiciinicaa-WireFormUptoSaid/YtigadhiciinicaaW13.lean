/- The law on one form. -/
import Derived.Test.YtigadhiciinicaaW10
namespace Go.Proofs.Ytigadhiciinicaa
open Go Aw
set_option linter.unusedVariables false
set_option linter.unusedSimpArgs false
set_option maxRecDepth 8000
theorem sm_l (a b : Str) (hl : a.length = b.length) : ∀ k i, k + i = a.length → ∃ r, law03_same_l1 a b i = some r ∧ (r = true ↔ a.drop i = b.drop i)
  | 0, i, hk => by
    rw [law03_same_l1_eq]
    simp only [law03_same_l1b, lt_f (by omega : ¬ i < a.length), cond_false]
    exact ⟨true, rfl, by rw [List.drop_of_length_le (by omega), List.drop_of_length_le (by omega)]; simp⟩
  | k + 1, i, hk => by
    have h1 : i < a.length := by omega
    have h2 : i < b.length := by omega
    rw [law03_same_l1_eq]
    simp only [law03_same_l1b, lt_t h1, cond_true, List.getElem?_eq_getElem h1, List.getElem?_eq_getElem h2, Option.bind_some]
    rw [List.drop_eq_getElem_cons h1, List.drop_eq_getElem_cons h2, List.cons.injEq]
    by_cases h : a[i] = b[i]
    · rw [h, show (((b[i].toNat : Nat) : Int) != ((b[i].toNat : Nat) : Int)) = false by simp, cond_false]
      obtain ⟨r, h3, h4⟩ := sm_l a b hl k (i + 1) (by omega)
      exact ⟨r, h3, by rw [h4]; simp⟩
    · have : a[i].toNat ≠ b[i].toNat := fun e => h (UInt8.toNat_inj.1 e)
      rw [show (((a[i].toNat : Nat) : Int) != ((b[i].toNat : Nat) : Int)) = true by simp; omega, cond_true]
      exact ⟨false, rfl, by simp [h]⟩
theorem law_same (a b : Str) : ∃ r, p_law03_same a b = some r ∧ (r = true ↔ a = b) := by
  unfold p_law03_same
  by_cases hl : a.length = b.length
  · rw [show (((a.length : Nat) : Int) != ((b.length : Nat) : Int)) = false by simp [hl], cond_false]
    obtain ⟨r, h1, h2⟩ := sm_l a b hl a.length 0 (by omega)
    exact ⟨r, h1, by simpa using h2⟩
  · rw [show (((a.length : Nat) : Int) != ((b.length : Nat) : Int)) = true by simp; omega, cond_true]
    exact ⟨false, rfl, by simp; exact fun h => hl (by rw [h])⟩
theorem form_2 : law03_WireForm_j2 = some true := by
  unfold law03_WireForm_j2
  have hc : Can (.nil : V) := ⟨.mk rfl (fun y hy => by cases hy), by decide, by decide⟩
  rw [encode_can hc (by trivial) (by simp [enc]), Option.bind_some]
  rfl
theorem form_1 (a2 : Str) (h : a2.length ≤ 1048576) : law03_WireForm_j1 a2 false = some true := by
  simp only [law03_WireForm_j1, cond_false]
  rw [app0 (by omega) (by omega), Option.bind_some]
  cases hv : valS 64 0 a2 with
  | bad p w =>
    rw [decode_bad (by omega) hv, Option.bind_some]
    simp only [eq_t (valS_nm _ _ _ _ _ hv), cond_false, form_2]
  | ok x r' =>
    obtain ⟨v, n⟩ := x
    obtain ⟨hc, hok, he⟩ := val_can hv
    have hp := enc_pos v
    have hl : a2.length = (enc v).length + r'.length := by rw [he, List.length_append]
    rw [decode_ok (by omega) hv, Option.bind_some]
    simp only [beq_self_eq_true, cond_true]
    rw [encode_can hc hok (by omega), Option.bind_some, show a2.length - r'.length = (enc v).length by omega]
    have hcut : cutO a2 0 (((enc v).length : Nat) : Int) = some (enc v) := by
      unfold cutO
      rw [decide_eq_true (by omega), decide_eq_true (by omega), decide_eq_true (by omega)]
      simp only [Bool.and_self, cond_true, Int.toNat_natCast, Option.some.injEq]
      rw [he, List.take_left]; rfl
    obtain ⟨r, h1, h2⟩ := law_same (enc v) (enc v)
    simp only [show ((0 : Int) != 0) = false from rfl, cond_false]
    rw [decide_eq_false (by omega), cond_false, decide_eq_false (by omega), cond_false, hcut, Option.bind_some, h1, Option.bind_some, h2.2 rfl]
    simp only [law03_WireForm_j3, Bool.not_true, cond_false, form_2]
theorem plain_WireForm (a0 a1 : Term) (a2 : Str) (h : bkT a0 + (bkT a1 + ((a2.map (fun _ => 1)).sum + 1)) ≤ 1048576) (ok0 : okT a0) (ok1 : okT a1) (ok2 : ∀ a, a ∈ a2 → True) : p_law03_WireForm a0 a1 a2 = some true := by
  rw [ones_sum] at h
  have hb0 := bt a0 ok0 (by omega)
  have hl0 := hb0.len
  have hb1 := bt a1 ok1 (by omega)
  have hl1 := hb1.len
  have h1 := form_1 a2 (by omega)
  simp only [p_law03_WireForm, mk_Built_eq a0 (by omega), mk_Built_eq a1 (by omega), Option.bind_some]
  by_cases c0 : Can (bu a0)
  · rw [encode_can c0 hb0.ok (by omega), Option.bind_some]
    simp only [beq_self_eq_true, cond_true]
    by_cases c1 : Can (bu a1)
    · rw [encode_can c1 hb1.ok (by omega), Option.bind_some]
      simp only [beq_self_eq_true, cond_true]
      obtain ⟨r, e1, e2⟩ := law_same (enc (bu a0)) (enc (bu a1))
      obtain ⟨q, e3, e4⟩ := same_iff a0 a1 (can_fine c0)
      rw [e1, e3, Option.bind_some, Option.bind_some]
      have : r = q := by
        have : r = true ↔ q = true := by
          rw [e2, e4]
          exact ⟨enc_inj c0 hb0.ok c1 hb1.ok, fun h => by rw [h]⟩
        cases r <;> cases q <;> simp_all
      rw [this]
      simp only [beq_self_eq_true, Bool.not_true, h1]
    · rw [encode_not c1, Option.bind_some]
      simp only [eq_t (check_cannot c1), cond_false, h1]
  · rw [encode_not c0, Option.bind_some]
    by_cases c1 : Can (bu a1)
    · rw [encode_can c1 hb1.ok (by omega), Option.bind_some]
      simp only [eq_t (check_cannot c0), cond_false, h1]
    · rw [encode_not c1, Option.bind_some]
      simp only [eq_t (check_cannot c0), cond_false, h1]
end Go.Proofs.Ytigadhiciinicaa
