/- ValueTotal: a total order. -/
import Derived.Test.YthfdpaboekoncaaN6
namespace Go.Proofs.Ythfdpaboekoncaa
open Go Aw
set_option linter.unusedVariables false
set_option linter.unusedSimpArgs false
set_option maxRecDepth 8000
theorem check_int (i : Int) : checkF (.int i) = (0, 0) := by simp [checkF, partF, ownE, nearE]
theorem order12 : orderF (.int 1) (.int 2) = (-1, 0) := by
  simp only [orderF, check_int, ne_eq, not_true_eq_false, if_false]
  rw [ordF]; rfl
theorem j3_true (o p q : Int) (e1 e2 e3 : Int) (h1 : o ≤ 0 → p ≤ 0 → q ≤ 0) (h2 : o < 0 → p ≤ 0 → q < 0) (h3 : o ≤ 0 → p < 0 → q < 0) : law01_ValueTotal_j3 (o, e1) (p, e2) (q, e3) false = some true := by
  simp only [law01_ValueTotal_j3, law01_ValueTotal_j4, cond_false, cond_true]
  simp only [Bool.cond_eq_ite, decide_eq_true_eq]
  repeat (split <;> (try (first | rfl | (exfalso; omega))))
theorem plain_ValueTotal (a0 a1 a2 : Term) (h : bkT a0 + (bkT a1 + bkT a2) ≤ 1048576) (ok0 : okT a0) (ok1 : okT a1) (ok2 : okT a2) : p_law01_ValueTotal a0 a1 a2 = some true := by
  simp only [p_law01_ValueTotal, mk_Built_eq a0 (by omega), mk_Built_eq a1 (by omega), mk_Built_eq a2 (by omega), value_Order_eq, Option.bind_some, order12]
  generalize bu a0 = x
  generalize bu a1 = y
  generalize bu a2 = z
  have e1 : ((-1 : Int) != -1) = false := rfl
  have e2 : ((0 : Int) != 0) = false := rfl
  have e3 : ((0 : Int) == 0) = true := rfl
  simp only [e1, e2, cond_false, law01_ValueTotal_j1]
  by_cases hx : (checkF x).2 = 0
  · by_cases hy : (checkF y).2 = 0
    · by_cases hz : (checkF z).2 = 0
      · have o1 : orderF x y = (ordF x y, 0) := by simp [orderF, hx, hy]
        have o2 : orderF y z = (ordF y z, 0) := by simp [orderF, hz, hy]
        have o3 : orderF x z = (ordF x z, 0) := by simp [orderF, hx, hz]
        have o4 : orderF y x = (ordF y x, 0) := by simp [orderF, hx, hy]
        have hneg : ordF y x = - ordF x y := by rw [ord_key, ord_key]; exact lexc_neg _ _
        have hr : ordF x y = -1 ∨ ordF x y = 0 ∨ ordF x y = 1 := by rw [ord_key]; exact lexc_rng _ _
        have ht := lexc_trans (key x) (key y) (key z)
        rw [← ord_key, ← ord_key, ← ord_key] at ht
        have hs : sameF x y = (ordF x y == 0) := by simp [sameF, hx, hy]
        have hw : IntKind.i64.wrap (0 - - ordF x y) = ordF x y := by rw [w64_in (by omega) (by omega)]; omega
        have hd : (ordF x y != ordF x y) = false := by simp
        have hb : ∀ b : Bool, (b == b) = true := fun b => by cases b <;> rfl
        rw [o1, o2, o3, o4, hneg]
        simp only [e2, cond_false, law01_ValueTotal_j2, hw, hd, value_Same_eq, Option.bind_some, hs, hb, Bool.not_true, decide_eq_false (by omega : ¬ ordF x y < -1), decide_eq_false (by omega : ¬ ordF x y > 1)]
        exact j3_true _ _ _ _ _ _ (fun a b => (ht a b).1) (fun a b => (ht (by omega) b).2 (.inl a)) (fun a b => (ht a (by omega)).2 (.inr b))
      · have o1 : orderF x y = (ordF x y, 0) := by simp [orderF, hx, hy]
        have o2 : orderF y z = (0, (checkF z).2) := by simp [orderF, hz, hy]
        have o3 : orderF x z = (0, (checkF z).2) := by simp [orderF, hx, hz]
        rw [o1, o2, o3]
        simp only [e2, e3, cond_false, cond_true, law01_ValueTotal_j2, ne_t hz]
        cases (ordF x y == 0) <;> rfl
    · have o1 : orderF x y = (0, (checkF y).2) := by simp [orderF, hx, hy]
      rw [o1]
      simp only [e3, cond_true, law01_ValueTotal_j2, ne_t hy]
  · have o1 : orderF x y = (0, (checkF x).2) := by simp [orderF, hx]
    rw [o1]
    simp only [e3, cond_true, law01_ValueTotal_j2, ne_t hx]
end Go.Proofs.Ythfdpaboekoncaa
