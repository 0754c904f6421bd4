/- Values nothing is wrong with: what is known of them. -/
import Derived.Test.YthfdpaboekoncaaN4a
namespace Go.Proofs.Ythfdpaboekoncaa
open Go Aw
set_option linter.unusedVariables false
set_option linter.unusedSimpArgs false
set_option maxRecDepth 8000
def Fine (x : V) : Prop := ∃ n dp d, (partF x n dp d).ok = true
theorem partsF_ok {d : Int} : ∀ {l : List V} {n dp : Int}, (partsF l n dp d).ok = true → ∀ y, y ∈ l → ∃ n dp, (partF y n dp d).ok = true
  | x :: r, n, dp, h, y, hy => by
    rw [partsF_cons] at h
    cases hk : (partF x n dp d).ok with
    | false => rw [if_neg (by simp [hk])] at h; rw [hk] at h; cases h
    | true =>
      rw [if_pos hk] at h
      rcases List.mem_cons.1 hy with rfl | hy
      · exact ⟨n, dp, hk⟩
      · exact partsF_ok h y hy
theorem Fine.own {x : V} (h : Fine x) : nearE x = 0 ∧ ∀ y, y ∈ x.parts → Fine y := by
  obtain ⟨n, dp, d, h⟩ := h
  rw [partF_eq] at h
  split at h
  · rename_i ho
    exact ⟨(own_zero ho).2.2, fun y hy => let ⟨n', dp', h'⟩ := partsF_ok h y hy; ⟨n', dp', _, h'⟩⟩
  · cases h
theorem check_fine {x : V} (h : (checkF x).2 = 0) : Fine x ∧ checkF x = (0, 0) := by
  unfold checkF at h ⊢
  cases hk : (partF x 0 0 1).ok with
  | true => exact ⟨⟨0, 0, 1, hk⟩, rfl⟩
  | false =>
    rw [if_neg (by simp [hk])] at h
    exact absurd h ((part_facts x 1 0 0).bad hk)
theorem ne_t {a : Int} (h : a ≠ 0) : (a != 0) = true := by simpa using h
theorem fieldsE_len {l : List Str} (h : fieldsE l = 0) : l.length ≤ 4096 := by
  unfold fieldsE at h
  split at h
  · cases h
  · omega
theorem near_list {l : List V} (h : nearE (.list l) = 0) : l.length ≤ 4096 := by
  simp only [nearE] at h
  split at h
  · cases h
  · omega
theorem near_rec {c : Str} {v : Int} {l : List (Str × V)} (h : nearE (.record c v l) = 0) : (1 ≤ v ∧ v ≤ 1000) ∧ l.length ≤ 4096 := by
  simp only [nearE] at h
  split at h
  · cases h
  · split at h
    · cases h
    · have := fieldsE_len h; rw [List.length_map] at this; omega
theorem near_dict {l : List (Str × V)} (h : nearE (.dict l) = 0) : l.length ≤ 4096 := by
  have := fieldsE_len h; rwa [List.length_map] at this
end Go.Proofs.Ythfdpaboekoncaa
