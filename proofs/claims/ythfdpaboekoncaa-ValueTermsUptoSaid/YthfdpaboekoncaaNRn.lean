/- Names: the document's are the program's. -/
import Derived.Test.YthfdpaboekoncaaN3
namespace Go.Proofs.Ythfdpaboekoncaa
open Go Aw
set_option linter.unusedVariables false
set_option linter.unusedSimpArgs false
set_option maxRecDepth 8000
/-- The document's: the first one a letter, the others any. -/
theorem rn_body (c : UInt8) (g : Int → Option Bool) (i : Nat) (s : Str) (hi : i < s.length) (hb : s.length ≤ 32) (hc : s[i]? = some c) :
    ref01_Name_l1b s g (i : Int) = bif (if i = 0 then loOk c else chOk c) then g ((i + 1 : Nat) : Int) else some false := by
  have h97 : (97 : UInt8).toNat = 97 := rfl
  have h122 : (122 : UInt8).toNat = 122 := rfl
  have h48 : (48 : UInt8).toNat = 48 := rfl
  have h57 : (57 : UInt8).toNat = 57 := rfl
  have h95 : (95 : UInt8).toNat = 95 := rfl
  have hw : IntKind.i64.wrap ((i : Int) + 1) = ((i + 1 : Nat) : Int) := by rw [w64_in (by omega) (by omega)]; omega
  simp only [ref01_Name_l1b, lt_t hi, idxI_nat, hc, cond_true, Option.bind_some, ref01_Name_j2, ref01_Name_j3, h97, h122, h48, h57, h95, hw]
  by_cases h0 : i = 0
  · subst h0
    simp only [Bool.cond_eq_ite, decide_eq_true_eq, bne_iff_ne, ne_eq, Bool.false_eq_true, if_false, if_true, loOk_iff, Bool.not_eq_true', Bool.not_false, decide_eq_false_iff_not]
    repeat (split <;> (try (first | rfl | (exfalso; omega))))
    all_goals (first | rfl | (exfalso; simp_all; omega) | (simp_all; done))
  · have e0 : ((i : Int) == 0) = false := by simp; omega
    rw [if_neg h0]
    simp only [e0, Bool.cond_eq_ite, decide_eq_true_eq, bne_iff_ne, ne_eq, Bool.false_eq_true, if_false, if_true, chOk_iff, Bool.not_eq_true', Bool.not_false, decide_eq_false_iff_not]
    repeat (split <;> (try (first | rfl | (exfalso; omega))))
    all_goals (first | rfl | (exfalso; simp_all; omega) | (simp_all; done))
theorem rn_l (s : Str) (hb : s.length ≤ 32) : ∀ k i, k + i = s.length → 0 < i → ref01_Name_l1 s (i : Int) = some ((s.drop i).all chOk)
  | 0, i, h, h0 => by
    rw [ref01_Name_l1_eq]
    simp only [ref01_Name_l1b, lt_f (by omega : ¬ i < s.length), cond_false]
    rw [List.drop_of_length_le (by omega)]; rfl
  | k + 1, i, h, h0 => by
    obtain ⟨c, hc, hd⟩ := dropc (by omega : i < s.length)
    rw [ref01_Name_l1_eq, rn_body c _ i s (by omega) hb hc, if_neg (by omega), rn_l s hb k (i + 1) (by omega) (by omega), hd, List.all_cons]
    cases chOk c <;> rfl
theorem lo_ch {c : UInt8} (h : loOk c = true) : chOk c = true := chOk_iff.2 (.inl (loOk_iff.1 h))
theorem ref01_Name_eq (s : Str) : p_ref01_Name s = some (nameOk s) := by
  simp only [p_ref01_Name, ref01_Name_j1]
  by_cases h1 : s.length < 1
  · have : s = [] := List.eq_nil_of_length_eq_zero (by omega)
    subst this; rfl
  · have e1 : decide ((s.length : Int) < 1) = false := decide_eq_false (by omega)
    rw [e1]
    by_cases h32 : s.length ≤ 32
    · have e2 : decide ((s.length : Int) > 32) = false := decide_eq_false (by omega)
      rw [e2]
      simp only [cond_false]
      cases s with
      | nil => simp at h1
      | cons c r =>
        have hb := rn_body c (ref01_Name_l1 (c :: r)) 0 (c :: r) (by simp) h32 rfl
        have hl := rn_l (c :: r) h32 r.length 1 (by simp) (by omega)
        have e : ref01_Name_l1 (c :: r) 0 = ref01_Name_l1b (c :: r) (ref01_Name_l1 (c :: r)) ((0 : Nat) : Int) := ref01_Name_l1_eq (c :: r) 0
        rw [e, hb, if_pos rfl]
        simp only [hl, nameOk, List.headD_cons, Nat.ble_eq_true_of_le h32, Nat.ble_eq_true_of_le (by simp : 1 ≤ (c :: r).length), Bool.true_and, List.all_cons]
        cases hlo : loOk c with
        | true => rw [lo_ch hlo]; rfl
        | false => rfl
    · have e2 : decide ((s.length : Int) > 32) = true := decide_eq_true (by omega)
      have e3 : Nat.ble s.length 32 = false := by
        cases hb : Nat.ble s.length 32 with
        | false => rfl
        | true => exact absurd (Nat.le_of_ble_eq_true hb) h32
      rw [e2]
      simp only [cond_true, cond_false, nameOk, e3, Bool.and_false, Bool.false_and]
end Go.Proofs.Ythfdpaboekoncaa
