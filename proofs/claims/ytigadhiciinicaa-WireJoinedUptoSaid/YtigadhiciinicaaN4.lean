/- The value of a term, built; and the law on kinds. -/
import Derived.Test.YtigadhiciinicaaN3
namespace Go.Proofs.Ytigadhiciinicaa
open Go Aw
set_option linter.unusedVariables false
set_option linter.unusedSimpArgs false
set_option maxRecDepth 8000
theorem app1 {α : Type} {b : Nat} {acc : List α} {x : α} (hb : b ≤ 1024) (h : acc.length ≤ 1073741824) : appO b acc [x] = some (acc ++ [x]) := by
  have h1 : (acc.length + 1) * b ≤ (1073741824 + 1) * 1024 := Nat.mul_le_mul (by omega) hb
  unfold appO
  rw [Nat.ble_eq_true_of_le (by simp only [List.length_cons, List.length_nil, Nat.zero_add]; omega)]; rfl
theorem app0 {α : Type} {b : Nat} {l : List α} (hb : b ≤ 1024) (h : l.length ≤ 1073741824) : appO b [] l = some l := by
  have h1 : l.length * b ≤ 1073741824 * 1024 := Nat.mul_le_mul h hb
  unfold appO
  rw [Nat.ble_eq_true_of_le (by simp only [List.length_nil, Nat.zero_add]; omega)]; rfl
theorem bkTs_mem : ∀ {l : List Term} {u : Term}, u ∈ l → bkT u ≤ bkTs l
  | x :: r, u, h => by
    rw [bkTs]; rcases List.mem_cons.1 h with rfl | h
    · omega
    · have := bkTs_mem h; omega
theorem bkEs_mem : ∀ {l : List (Str × Term)} {u : Str × Term}, u ∈ l → bkT u.2 ≤ bkEs l
  | (s, x) :: r, u, h => by
    rw [bkEs]; rcases List.mem_cons.1 h with rfl | h
    · show bkT x ≤ _; omega
    · have := bkEs_mem h; omega
theorem bkTs_len : ∀ (l : List Term), l.length ≤ bkTs l
  | [] => by simp
  | .mk k b i f s y r l dd c v :: q => by rw [bkTs, List.length_cons, bkT]; have := bkTs_len q; omega
theorem bkEs_len : ∀ (l : List (Str × Term)), l.length ≤ bkEs l
  | [] => by simp
  | (s, x) :: q => by rw [bkEs, List.length_cons]; have := bkEs_len q; omega
theorem bkT_mk (t : Term) : bkT t = t.text.length + t.bytes.length + t.cls.length + bkTs t.list + bkEs t.fields + 12 := by cases t; rw [bkT]; rfl
theorem bk_list {t u : Term} (h : u ∈ t.list) : bkT u < bkT t := by have := bkTs_mem h; have := bkT_mk t; omega
theorem bk_fields {t : Term} {u : Str × Term} (h : u ∈ t.fields) : bkT u.2 < bkT t := by have := bkEs_mem h; have := bkT_mk t; omega
theorem len_list (t : Term) : t.list.length ≤ bkT t := by have := bkTs_len t.list; have := bkT_mk t; omega
theorem len_fields (t : Term) : t.fields.length ≤ bkT t := by have := bkEs_len t.fields; have := bkT_mk t; omega
theorem len_bytes (t : Term) : t.bytes.length ≤ bkT t := by have := bkT_mk t; omega
theorem take_snoc {α β : Type} {l : List α} {f : α → β} {i : Nat} {x : α} (h : l[i]? = some x) : (l.take i).map f ++ [f x] = (l.take (i + 1)).map f := by
  obtain ⟨hi, rfl⟩ := List.getElem?_eq_some_iff.1 h
  rw [List.take_add_one, List.getElem?_eq_getElem hi, List.map_append]; rfl
theorem bl_l (t : Term) (hl : ∀ u, u ∈ t.list → p_mk_Built u = some (bu u)) (hb : t.list.length ≤ 1073741824) : ∀ k i, k + i = t.list.length → mk_Built_l1 p_mk_Built t ((t.list.take i).map bu) i = some (.list (t.list.map bu))
  | 0, i, h => by
    rw [mk_Built_l1_eq]
    simp only [mk_Built_l1b, lt_f (by omega : ¬ i < t.list.length), cond_false]
    rw [List.take_of_length_le (by omega)]
  | k + 1, i, h => by
    obtain ⟨x, hx, _⟩ := dropc (by omega : i < t.list.length)
    rw [mk_Built_l1_eq]
    simp only [mk_Built_l1b, lt_t (by omega : i < t.list.length), cond_true, hx, Option.bind_some, hl x (List.mem_of_getElem? hx), app1 (b := 16) (by omega) (show ((t.list.take i).map bu).length ≤ 1073741824 by simp; omega), take_snoc hx]
    exact bl_l t hl hb k (i + 1) (by omega)
theorem bd_l (l : List (Str × Term)) (hl : ∀ u, u ∈ l → p_mk_Built u.2 = some (bu u.2)) (hb : l.length ≤ 1073741824) : ∀ k i, k + i = l.length → mk_Dict_l1 p_mk_Built l ((l.take i).map buE) i = some (l.map buE)
  | 0, i, h => by
    rw [mk_Dict_l1_eq]
    simp only [mk_Dict_l1b, lt_f (by omega : ¬ i < l.length), cond_false]
    rw [List.take_of_length_le (by omega)]
  | k + 1, i, h => by
    obtain ⟨x, hx, _⟩ := dropc (by omega : i < l.length)
    rw [mk_Dict_l1_eq]
    simp only [mk_Dict_l1b, lt_t (by omega : i < l.length), cond_true, hx, Option.bind_some, hl x (List.mem_of_getElem? hx), app1 (b := 32) (x := (x.1, bu x.2)) (by omega) (show ((l.take i).map buE).length ≤ 1073741824 by simp; omega)]
    have : ((l.take i).map buE) ++ [(x.1, bu x.2)] = (l.take (i + 1)).map buE := take_snoc (f := buE) hx
    rw [this]
    exact bd_l l hl hb k (i + 1) (by omega)
theorem mk_Built_eqN : ∀ (n : Nat) (t : Term), bkT t ≤ n → n ≤ 268435456 → p_mk_Built t = some (bu t) := by
  intro n
  induction n with
  | zero => intro t h _; have := bkT_mk t; omega
  | succ n ih =>
    intro t h hn
    have hl : ∀ u, u ∈ t.list → p_mk_Built u = some (bu u) := fun u hu => ih u (by have := bk_list hu; omega) (by omega)
    have hf : ∀ u, u ∈ t.fields → p_mk_Built u.2 = some (bu u.2) := fun u hu => ih u.2 (by have := bk_fields hu; omega) (by omega)
    have hd : p_mk_Dict t.fields = some (t.fields.map buE) := by
      rw [e_mk_Dict, b_mk_Dict]
      exact bd_l t.fields hf (by have := len_fields t; omega) t.fields.length 0 (by omega)
    have hll : mk_Built_l1 p_mk_Built t [] 0 = some (.list (t.list.map bu)) := bl_l t hl (by have := len_list t; omega) t.list.length 0 (by omega)
    have hb := bu_c t
    rw [e_mk_Built, b_mk_Built]
    generalize bu t = x at hb
    cases hb with
    | bytes hk => simp only [hk, app0 (by omega : 1 ≤ 1024) (show t.bytes.length ≤ 1073741824 by have := len_bytes t; omega)]; rfl
    | list hk => simp only [hk, hll]; rfl
    | dict hk => simp only [hk, hd]; rfl
    | record hk => simp only [hk, hd]; rfl
    | alien hk =>
      have e : ∀ k : Int, 1 ≤ k → k ≤ 11 → (t.kind == k) = false := fun k h1 h2 => by simp; omega
      simp only [e 1 (by omega) (by omega), e 2 (by omega) (by omega), e 3 (by omega) (by omega), e 4 (by omega) (by omega), e 5 (by omega) (by omega), e 6 (by omega) (by omega), e 7 (by omega) (by omega), e 8 (by omega) (by omega),
        e 9 (by omega) (by omega), e 10 (by omega) (by omega), e 11 (by omega) (by omega), cond_false, alien_eq, Option.bind_some]
    | _ hk => simp only [hk]; rfl
theorem mk_Built_eq (t : Term) (h : bkT t ≤ 268435456) : p_mk_Built t = some (bu t) := mk_Built_eqN _ t h (Nat.le_refl _)
end Go.Proofs.Ytigadhiciinicaa
