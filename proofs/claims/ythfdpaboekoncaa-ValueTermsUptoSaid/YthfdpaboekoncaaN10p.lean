/- The term of a value, as the program makes it. -/
import Derived.Test.YthfdpaboekoncaaN10q
namespace Go.Proofs.Ythfdpaboekoncaa
open Go Aw
set_option linter.unusedVariables false
set_option linter.unusedSimpArgs false
set_option maxRecDepth 8000
theorem vp_l (l : List V) (x1 : Int) (hl : ∀ u, u ∈ l → p_value_plain u = some (cl u)) (hb : l.length ≤ 1073741824) : ∀ k i, k + i = l.length → value_plain_l1 p_value_plain (.list l) x1 i ((l.take i).map cl) = some (.mk x1 false 0 0 [] [] 0 (l.map cl) [] [] 0)
  | 0, i, h => by
    rw [value_plain_l1_eq]
    simp only [value_plain_l1b, V.asList, lt_f (by omega : ¬ i < l.length), cond_false, value_plain_j1]
    rw [List.take_of_length_le (by omega)]
  | k + 1, i, h => by
    obtain ⟨x, hx, _⟩ := dropc (by omega : i < l.length)
    rw [value_plain_l1_eq]
    simp only [value_plain_l1b, V.asList, lt_t (by omega : i < l.length), cond_true, hx, Option.bind_some, hl x (List.mem_of_getElem? hx), app1 (b := 152) (by omega) (show ((l.take i).map cl).length ≤ 1073741824 by simp; omega), take_snoc hx]
    exact vp_l l x1 hl hb k (i + 1) (by omega)
theorem ve_l (l : List (Str × V)) (hl : ∀ u, u ∈ l → p_value_plain u.2 = some (cl u.2)) (hb : l.length ≤ 1073741824) : ∀ k i, k + i = l.length → value_entries_l1 p_value_plain l ((l.take i).map clE) i = some (l.map clE)
  | 0, i, h => by
    rw [value_entries_l1_eq]
    simp only [value_entries_l1b, lt_f (by omega : ¬ i < l.length), cond_false]
    rw [List.take_of_length_le (by omega)]
  | k + 1, i, h => by
    obtain ⟨x, hx, _⟩ := dropc (by omega : i < l.length)
    rw [value_entries_l1_eq]
    simp only [value_entries_l1b, lt_t (by omega : i < l.length), cond_true, hx, Option.bind_some, hl x (List.mem_of_getElem? hx), app1 (b := 168) (x := (x.1, cl x.2)) (by omega) (show ((l.take i).map clE).length ≤ 1073741824 by simp; omega)]
    have : ((l.take i).map clE) ++ [(x.1, cl x.2)] = (l.take (i + 1)).map clE := take_snoc (f := clE) hx
    rw [this]
    exact ve_l l hl hb k (i + 1) (by omega)
theorem value_plain_eq (x : V) : Fine x → p_value_plain x = some (cl x) := by
  induction x using V.byParts with
  | _ x ih =>
  intro hx
  have hp := hx.own.2
  have hn := hx.own.1
  rw [e_value_plain, b_value_plain, value_kind_eq]
  cases x with
  | nothing => simp [nearE] at hn
  | alien t => simp [nearE] at hn
  | bytes b => rw [cl]; simp only [V.isBool, V.isInt, V.isFloat, V.isText, V.isBytes, V.asBytes, cond_true, cond_false, Option.bind_some, app0 (by omega : 1 ≤ 1024) (show b.length ≤ 1073741824 by have := near_bytes hn; omega)]; rfl
  | list l =>
    have hb := near_list hn
    rw [cl, clL_map]
    exact vp_l l 8 (fun u hu => ih u hu (hp u hu)) (by omega) l.length 0 (by omega)
  | dict l =>
    have hb := near_dict hn
    have : p_value_entries l = some (l.map clE) := by
      rw [e_value_entries, b_value_entries]
      exact ve_l l (fun u hu => ih u.2 (List.mem_map_of_mem hu) (hp _ (List.mem_map_of_mem hu))) (by omega) l.length 0 (by omega)
    rw [cl, clD_map]
    simp only [V.isBool, V.isInt, V.isFloat, V.isText, V.isBytes, V.isRef, V.isList, V.isDict, V.asDict, cond_true, cond_false, Option.bind_some, this]; rfl
  | record c v l =>
    have hb := (near_rec hn).2
    have : p_value_entries l = some (l.map clE) := by
      rw [e_value_entries, b_value_entries]
      exact ve_l l (fun u hu => ih u.2 (List.mem_map_of_mem hu) (hp _ (List.mem_map_of_mem hu))) (by omega) l.length 0 (by omega)
    rw [cl, clD_map]
    simp only [V.isBool, V.isInt, V.isFloat, V.isText, V.isBytes, V.isRef, V.isList, V.isDict, V.isRec, V.asRec, cond_true, cond_false, Option.bind_some, this]; rfl
  | _ => rw [cl]; rfl
end Go.Proofs.Ythfdpaboekoncaa
