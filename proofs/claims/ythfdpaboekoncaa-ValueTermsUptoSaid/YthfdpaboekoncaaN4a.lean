/- Rows that grow; bulks. -/
import Derived.Test.YthfdpaboekoncaaN3
namespace Go.Proofs.Ythfdpaboekoncaa
open Go Aw
set_option linter.unusedVariables false
set_option linter.unusedSimpArgs false
set_option maxRecDepth 8000
theorem app1 {α : Type} {b : Nat} {acc : List α} {x : α} (hb : b ≤ 1024) (h : acc.length ≤ 1073741824) : appO b acc [x] = some (acc ++ [x]) := by
  have h1 : (acc.length + 1) * b ≤ (1073741824 + 1) * 1024 := Nat.mul_le_mul (by omega) hb
  unfold appO
  rw [Nat.ble_eq_true_of_le (by simp only [List.length_cons, List.length_nil, Nat.zero_add]; omega)]; rfl
theorem app0 {α : Type} {b : Nat} {l : List α} (hb : b ≤ 1024) (h : l.length ≤ 1073741824) : appO b [] l = some l := by
  have h1 : l.length * b ≤ 1073741824 * 1024 := Nat.mul_le_mul h hb
  unfold appO
  rw [Nat.ble_eq_true_of_le (by simp only [List.length_nil, Nat.zero_add]; omega)]; rfl
theorem bkTs_mem : ∀ {l : List Term} {u : Term}, u ∈ l → bkT u ≤ bkTs l
  | x :: r, u, h => by
    rw [bkTs]; rcases List.mem_cons.1 h with rfl | h
    · omega
    · have := bkTs_mem h; omega
theorem bkEs_mem : ∀ {l : List (Str × Term)} {u : Str × Term}, u ∈ l → bkT u.2 ≤ bkEs l
  | (s, x) :: r, u, h => by
    rw [bkEs]; rcases List.mem_cons.1 h with rfl | h
    · show bkT x ≤ _; omega
    · have := bkEs_mem h; omega
theorem bkTs_len : ∀ (l : List Term), l.length ≤ bkTs l
  | [] => by simp
  | .mk k b i f s y r l dd c v :: q => by rw [bkTs, List.length_cons, bkT]; have := bkTs_len q; omega
theorem bkEs_len : ∀ (l : List (Str × Term)), l.length ≤ bkEs l
  | [] => by simp
  | (s, x) :: q => by rw [bkEs, List.length_cons]; have := bkEs_len q; omega
theorem bkT_mk (t : Term) : bkT t = t.text.length + t.bytes.length + t.cls.length + bkTs t.list + bkEs t.fields + 12 := by cases t; rw [bkT]; rfl
theorem bk_list {t u : Term} (h : u ∈ t.list) : bkT u < bkT t := by have := bkTs_mem h; have := bkT_mk t; omega
theorem bk_fields {t : Term} {u : Str × Term} (h : u ∈ t.fields) : bkT u.2 < bkT t := by have := bkEs_mem h; have := bkT_mk t; omega
theorem len_list (t : Term) : t.list.length ≤ bkT t := by have := bkTs_len t.list; have := bkT_mk t; omega
theorem len_fields (t : Term) : t.fields.length ≤ bkT t := by have := bkEs_len t.fields; have := bkT_mk t; omega
theorem len_bytes (t : Term) : t.bytes.length ≤ bkT t := by have := bkT_mk t; omega
theorem take_snoc {α β : Type} {l : List α} {f : α → β} {i : Nat} {x : α} (h : l[i]? = some x) : (l.take i).map f ++ [f x] = (l.take (i + 1)).map f := by
  obtain ⟨hi, rfl⟩ := List.getElem?_eq_some_iff.1 h
  rw [List.take_add_one, List.getElem?_eq_getElem hi, List.map_append]; rfl
end Go.Proofs.Ythfdpaboekoncaa
