/- The law on beginnings. -/
import Derived.Test.YtigadhiciinicaaW10
import Derived.Test.YtigadhiciinicaaNR
namespace Go.Proofs.Ytigadhiciinicaa
open Go Aw
set_option linter.unusedVariables false
set_option linter.unusedSimpArgs false
set_option maxRecDepth 8000
theorem begins_1 {v : V} (hc : Can v) (hok : okV v) (hl : (enc v).length ≤ 1073741824) (n : Nat) (hn : n < (enc v).length) : law03_WireBegins_j1 (enc v, 0) (n : Int) = some true := by
  have hcut : cutO (enc v) 0 (n : Int) = some ((enc v).take n) := by
    unfold cutO
    rw [decide_eq_true (by omega), decide_eq_true (by omega), decide_eq_true (by omega)]
    simp only [Bool.and_self, cond_true, Int.toNat_natCast, Option.some.injEq]
    rfl
  have hs := short hc hok (p := (enc v).take n) (q := (enc v).drop n) (List.take_append_drop n _).symm (fun h => by have := congrArg List.length h; simp at this; omega)
  have ht : ((enc v).take n).length = n := by rw [List.length_take]; omega
  simp only [law03_WireBegins_j1]
  rw [hcut, Option.bind_some, app0 (by omega) (by omega), Option.bind_some, decode_bad (by omega) hs, Option.bind_some, Option.bind_some, app0 (by omega) (by omega), Option.bind_some, skip_bad (by omega) hs, Option.bind_some, ht]
  simp only [V.isNil, cond_true, Nat.sub_zero, beq_self_eq_true]
theorem plain_WireBegins (a0 : Term) (a1 : Int) (h : bkT a0 + 1 ≤ 1048576) (ok0 : okT a0) (ok1 : inI .i64 a1) : p_law03_WireBegins a0 a1 = some true := by
  have hb := bt a0 ok0 (by omega)
  have hlen := hb.len
  simp only [p_law03_WireBegins, mk_Built_eq a0 (by omega), Option.bind_some]
  by_cases hc : Can (bu a0)
  · have hp := enc_pos (bu a0)
    rw [encode_can hc hb.ok (by omega), Option.bind_some]
    simp only [show ((0 : Int) != 0) = false from rfl, cond_false]
    rw [show ((((enc (bu a0)).length : Nat) : Int) == 0) = false from beq_false_of_ne (by omega), cond_false]
    have hlast : law03_WireBegins_j2 a1 (enc (bu a0), 0) true = some true := by
      simp only [law03_WireBegins_j2, cond_true]
      rw [w64_in (by omega) (by omega), show (((enc (bu a0)).length : Nat) : Int) - 1 = (((enc (bu a0)).length - 1 : Nat) : Int) by omega]
      exact begins_1 hc hb.ok (by omega) _ (by omega)
    by_cases h1 : a1 < 0
    · rw [decide_eq_true h1, cond_true]; exact hlast
    · rw [decide_eq_false h1, cond_false]
      by_cases h2 : a1 ≥ (((enc (bu a0)).length : Nat) : Int)
      · rw [decide_eq_true h2]; exact hlast
      · rw [decide_eq_false h2]
        simp only [law03_WireBegins_j2, cond_false]
        obtain ⟨n, rfl⟩ : ∃ n : Nat, a1 = (n : Int) := ⟨a1.toNat, by omega⟩
        exact begins_1 hc hb.ok (by omega) n (by omega)
  · rw [encode_not hc, Option.bind_some]
    simp only [ne_t (check_cannot hc), cond_true, ref01_Check_eq a0 (by omega), Option.bind_some, beq_self_eq_true]
end Go.Proofs.Ytigadhiciinicaa
