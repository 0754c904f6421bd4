/- Names: what the program and the document take for one. -/
import Derived.Test.YthfdpaboekoncaaRd
import Derived.Test.YthfdpaboekoncaaG6
namespace Go.Proofs.Ythfdpaboekoncaa
open Go Aw
set_option linter.unusedVariables false
set_option linter.unusedSimpArgs false
theorem lt_t {i n : Nat} (h : i < n) : decide ((i : Int) < (n : Int)) = true := decide_eq_true (by omega)
theorem lt_f {i n : Nat} (h : ¬ i < n) : decide ((i : Int) < (n : Int)) = false := decide_eq_false (by omega)
theorem dropc {α : Type} {l : List α} {i : Nat} (h : i < l.length) : ∃ x, l[i]? = some x ∧ l.drop i = x :: l.drop (i + 1) :=
  ⟨l[i], List.getElem?_eq_getElem h, List.drop_eq_getElem_cons h⟩
theorem w64_in {x : Int} (h1 : -9223372036854775808 ≤ x) (h2 : x ≤ 9223372036854775807) : IntKind.i64.wrap x = x := wrap_in h1 h2
theorem idxI_nat {α : Type} (l : List α) (i : Nat) : idxI l (i : Int) = l[i]? := by
  unfold idxI; rw [decide_eq_true (by omega : (0 : Int) ≤ (i : Nat))]; rfl
/-- A letter of a name. -/
def chOk (c : UInt8) : Bool := (Nat.ble 97 c.toNat && Nat.ble c.toNat 122) || (Nat.ble 48 c.toNat && Nat.ble c.toNat 57) || Nat.beq c.toNat 95
def loOk (c : UInt8) : Bool := Nat.ble 97 c.toNat && Nat.ble c.toNat 122
def nameOk (s : Str) : Bool := Nat.ble 1 s.length && Nat.ble s.length 32 && loOk (s.headD 0) && s.all chOk
theorem chOk_iff {c : UInt8} : chOk c = true ↔ (97 ≤ c.toNat ∧ c.toNat ≤ 122) ∨ (48 ≤ c.toNat ∧ c.toNat ≤ 57) ∨ c.toNat = 95 := by
  simp only [chOk, Bool.or_eq_true, Bool.and_eq_true, Nat.ble_eq, Nat.beq_eq]; omega
theorem loOk_iff {c : UInt8} : loOk c = true ↔ 97 ≤ c.toNat ∧ c.toNat ≤ 122 := by
  simp only [loOk, Bool.and_eq_true, Nat.ble_eq]
theorem vn_body (c : UInt8) (g : Nat → Option Bool) (i : Nat) (s : Str) (hi : i < s.length) (hc : s[i]? = some c) : value_name_l1b s g i = bif chOk c then g (i + 1) else some false := by
  have h97 : (97 : UInt8).toNat = 97 := rfl
  have h122 : (122 : UInt8).toNat = 122 := rfl
  have h48 : (48 : UInt8).toNat = 48 := rfl
  have h57 : (57 : UInt8).toNat = 57 := rfl
  have h95 : (95 : UInt8).toNat = 95 := rfl
  simp only [value_name_l1b, lt_t hi, hc, cond_true, Option.bind_some, value_name_j2, h97, h122, h48, h57, h95]
  simp only [Bool.cond_eq_ite, decide_eq_true_eq, bne_iff_ne, ne_eq, Bool.false_eq_true, if_false, chOk_iff]
  repeat (split <;> (try (first | rfl | (exfalso; omega))))
theorem vn_l (s : Str) : ∀ k i, k + i = s.length → value_name_l1 s i = some ((s.drop i).all chOk)
  | 0, i, h => by
    rw [value_name_l1_eq]
    simp only [value_name_l1b, lt_f (by omega : ¬ i < s.length), cond_false]
    rw [List.drop_of_length_le (by omega)]; rfl
  | k + 1, i, h => by
    obtain ⟨c, hc, hd⟩ := dropc (by omega : i < s.length)
    rw [value_name_l1_eq, vn_body c _ i s (by omega) hc, vn_l s k (i + 1) (by omega), hd, List.all_cons]
    cases chOk c <;> rfl
theorem value_name_eq (s : Str) : p_value_name s = some (nameOk s) := by
  have h97 : (97 : UInt8).toNat = 97 := rfl
  have h122 : (122 : UInt8).toNat = 122 := rfl
  cases s with
  | nil => rfl
  | cons c r =>
    have hl := vn_l (c :: r) (c :: r).length 0 (by simp)
    rw [List.drop_zero] at hl
    simp only [p_value_name, value_name_j1, h97, h122]
    have he : ((c :: r) == ([] : Str)) = false := rfl
    have h0 : (c :: r)[0]? = some c := rfl
    simp only [he, h0, cond_true, cond_false, Option.bind_some]
    by_cases h32 : (c :: r).length ≤ 32
    · have hs : smallO (c :: r).length = some () := by unfold smallO; rw [Nat.ble_eq_true_of_le (by omega)]; rfl
      simp only [hs, hl, Option.bind_some]
      have e1 : decide (((c :: r).length : Int) > 32) = false := decide_eq_false (by omega)
      rw [e1]
      simp only [cond_false, nameOk, List.headD_cons, Nat.ble_eq_true_of_le h32, Nat.ble_eq_true_of_le (by simp : 1 ≤ (c :: r).length), Bool.true_and]
      cases hlo : loOk c with
      | true =>
        have := loOk_iff.1 hlo
        have e2 : decide ((c.toNat : Int) < (97 : Nat)) = false := decide_eq_false (by omega)
        have e3 : decide ((c.toNat : Int) > (122 : Nat)) = false := decide_eq_false (by omega)
        rw [e2, e3]; rfl
      | false =>
        have h2 : ¬ (97 ≤ c.toNat ∧ c.toNat ≤ 122) := fun h => by rw [loOk_iff.2 h] at hlo; cases hlo
        by_cases h3 : c.toNat < 97
        · have e2 : decide ((c.toNat : Int) < (97 : Nat)) = true := decide_eq_true (by omega)
          rw [e2]; rfl
        · have e2 : decide ((c.toNat : Int) < (97 : Nat)) = false := decide_eq_false (by omega)
          have e3 : decide ((c.toNat : Int) > (122 : Nat)) = true := decide_eq_true (by omega)
          rw [e2, e3]; rfl
    · have e1 : decide (((c :: r).length : Int) > 32) = true := decide_eq_true (by omega)
      have e2 : Nat.ble (c :: r).length 32 = false := by
        cases hb : Nat.ble (c :: r).length 32 with
        | false => rfl
        | true => exact absurd (Nat.le_of_ble_eq_true hb) h32
      rw [e1]
      simp only [cond_true, nameOk, e2, Bool.and_false, Bool.false_and]
end Go.Proofs.Ythfdpaboekoncaa
