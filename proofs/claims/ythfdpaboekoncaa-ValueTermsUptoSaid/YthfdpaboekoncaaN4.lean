/- The value of a term, built; and the law on kinds. -/
import Derived.Test.YthfdpaboekoncaaN4a
namespace Go.Proofs.Ythfdpaboekoncaa
open Go Aw
set_option linter.unusedVariables false
set_option linter.unusedSimpArgs false
set_option maxRecDepth 8000
theorem bl_l (t : Term) (hl : ∀ u, u ∈ t.list → p_mk_Built u = some (bu u)) (hb : t.list.length ≤ 1073741824) : ∀ k i, k + i = t.list.length → mk_Built_l1 p_mk_Built t ((t.list.take i).map bu) i = some (.list (t.list.map bu))
  | 0, i, h => by
    rw [mk_Built_l1_eq]
    simp only [mk_Built_l1b, lt_f (by omega : ¬ i < t.list.length), cond_false]
    rw [List.take_of_length_le (by omega)]
  | k + 1, i, h => by
    obtain ⟨x, hx, _⟩ := dropc (by omega : i < t.list.length)
    rw [mk_Built_l1_eq]
    simp only [mk_Built_l1b, lt_t (by omega : i < t.list.length), cond_true, hx, Option.bind_some, hl x (List.mem_of_getElem? hx), app1 (b := 16) (by omega) (show ((t.list.take i).map bu).length ≤ 1073741824 by simp; omega), take_snoc hx]
    exact bl_l t hl hb k (i + 1) (by omega)
theorem bd_l (l : List (Str × Term)) (hl : ∀ u, u ∈ l → p_mk_Built u.2 = some (bu u.2)) (hb : l.length ≤ 1073741824) : ∀ k i, k + i = l.length → mk_Dict_l1 p_mk_Built l ((l.take i).map buE) i = some (l.map buE)
  | 0, i, h => by
    rw [mk_Dict_l1_eq]
    simp only [mk_Dict_l1b, lt_f (by omega : ¬ i < l.length), cond_false]
    rw [List.take_of_length_le (by omega)]
  | k + 1, i, h => by
    obtain ⟨x, hx, _⟩ := dropc (by omega : i < l.length)
    rw [mk_Dict_l1_eq]
    simp only [mk_Dict_l1b, lt_t (by omega : i < l.length), cond_true, hx, Option.bind_some, hl x (List.mem_of_getElem? hx), app1 (b := 32) (x := (x.1, bu x.2)) (by omega) (show ((l.take i).map buE).length ≤ 1073741824 by simp; omega)]
    have : ((l.take i).map buE) ++ [(x.1, bu x.2)] = (l.take (i + 1)).map buE := take_snoc (f := buE) hx
    rw [this]
    exact bd_l l hl hb k (i + 1) (by omega)
theorem mk_Built_eqN : ∀ (n : Nat) (t : Term), bkT t ≤ n → n ≤ 268435456 → p_mk_Built t = some (bu t) := by
  intro n
  induction n with
  | zero => intro t h _; have := bkT_mk t; omega
  | succ n ih =>
    intro t h hn
    have hl : ∀ u, u ∈ t.list → p_mk_Built u = some (bu u) := fun u hu => ih u (by have := bk_list hu; omega) (by omega)
    have hf : ∀ u, u ∈ t.fields → p_mk_Built u.2 = some (bu u.2) := fun u hu => ih u.2 (by have := bk_fields hu; omega) (by omega)
    have hd : p_mk_Dict t.fields = some (t.fields.map buE) := by
      rw [e_mk_Dict, b_mk_Dict]
      exact bd_l t.fields hf (by have := len_fields t; omega) t.fields.length 0 (by omega)
    have hll : mk_Built_l1 p_mk_Built t [] 0 = some (.list (t.list.map bu)) := bl_l t hl (by have := len_list t; omega) t.list.length 0 (by omega)
    have hb := bu_c t
    rw [e_mk_Built, b_mk_Built]
    generalize bu t = x at hb
    cases hb with
    | bytes hk => simp only [hk, app0 (by omega : 1 ≤ 1024) (show t.bytes.length ≤ 1073741824 by have := len_bytes t; omega)]; rfl
    | list hk => simp only [hk, hll]; rfl
    | dict hk => simp only [hk, hd]; rfl
    | record hk => simp only [hk, hd]; rfl
    | alien hk =>
      have e : ∀ k : Int, 1 ≤ k → k ≤ 11 → (t.kind == k) = false := fun k h1 h2 => by simp; omega
      simp only [e 1 (by omega) (by omega), e 2 (by omega) (by omega), e 3 (by omega) (by omega), e 4 (by omega) (by omega), e 5 (by omega) (by omega), e 6 (by omega) (by omega), e 7 (by omega) (by omega), e 8 (by omega) (by omega),
        e 9 (by omega) (by omega), e 10 (by omega) (by omega), e 11 (by omega) (by omega), cond_false, alien_eq, Option.bind_some]
    | _ hk => simp only [hk]; rfl
theorem mk_Built_eq (t : Term) (h : bkT t ≤ 268435456) : p_mk_Built t = some (bu t) := mk_Built_eqN _ t h (Nat.le_refl _)
end Go.Proofs.Ythfdpaboekoncaa
