/- What is spoilt is small. -/
import Derived.Test.YthfdpaboekoncaaN10q
namespace Go.Proofs.Ythfdpaboekoncaa
open Go Aw
set_option linter.unusedVariables false
set_option linter.unusedSimpArgs false
set_option maxRecDepth 8000
theorem spSzL_cnt : ∀ (l : List V), (∀ x, x ∈ l → (spSz x : Int) + 1 ≤ 65538 * cnt x) → (spSzL l : Int) ≤ 65538 * cntL l
  | [], _ => by simp [spSzL, cntL]
  | x :: r, h => by
    have h1 := h x (by simp)
    have h2 := spSzL_cnt r (fun y hy => h y (by simp [hy]))
    simp only [spSzL, cntL]; omega
theorem spSzD_cnt : ∀ (l : List (Str × V)), (∀ x, x ∈ l → (spSz x.2 : Int) + 1 ≤ 65538 * cnt x.2) → (spSzD l : Int) ≤ 65538 * cntD l
  | [], _ => by simp [spSzD, cntD]
  | (s, x) :: r, h => by
    have h1 := h (s, x) (by simp)
    have h2 := spSzD_cnt r (fun y hy => h y (by simp [hy]))
    simp only [spSzD, cntD]; dsimp only at h1; omega
theorem spSz_cnt (x : V) : Near x → (spSz x : Int) + 1 ≤ 65538 * cnt x := by
  induction x using V.byParts with
  | _ x ih =>
  intro hx
  have hp : ∀ y, y ∈ x.parts → (spSz y : Int) + 1 ≤ 65538 * cnt y := fun y hy => ih y hy (hx.part y hy)
  cases x with
  | bytes b => have := near_bytes hx.own; simp only [spSz, cnt]; omega
  | list l => have := spSzL_cnt l hp; simp only [spSz, cnt]; omega
  | dict l => have := spSzD_cnt l (fun y hy => hp _ (List.mem_map_of_mem hy)); simp only [spSz, cnt]; omega
  | record c v l => have := spSzD_cnt l (fun y hy => hp _ (List.mem_map_of_mem hy)); simp only [spSz, cnt]; omega
  | _ => simp only [spSz, cnt]; omega
theorem spoil_can {x : V} (h : Can x) : spoilO x = some () := by
  have h1 := spSz_cnt x h.1
  have h2 := h.2.1
  unfold spoilO
  rw [Nat.ble_eq_true_of_le (by omega)]; rfl
end Go.Proofs.Ythfdpaboekoncaa
