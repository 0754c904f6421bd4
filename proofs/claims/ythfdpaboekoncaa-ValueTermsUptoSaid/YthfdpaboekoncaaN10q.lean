/- The term of a value; mk.Plain. -/
import Derived.Test.YthfdpaboekoncaaN8
namespace Go.Proofs.Ythfdpaboekoncaa
open Go Aw
set_option linter.unusedVariables false
set_option linter.unusedSimpArgs false
set_option maxRecDepth 8000
mutual
def cl : V → Term
  | .nil => .mk 1 false 0 0 [] [] 0 [] [] [] 0
  | .bool b => .mk 2 b 0 0 [] [] 0 [] [] [] 0
  | .int i => .mk 3 false i 0 [] [] 0 [] [] [] 0
  | .float f => .mk 4 false 0 f [] [] 0 [] [] [] 0
  | .text s => .mk 5 false 0 0 s [] 0 [] [] [] 0
  | .bytes s => .mk 6 false 0 0 [] s 0 [] [] [] 0
  | .ref r => .mk 7 false 0 0 [] [] r [] [] [] 0
  | .list l => .mk 8 false 0 0 [] [] 0 (clL l) [] [] 0
  | .dict l => .mk 9 false 0 0 [] [] 0 [] (clD l) [] 0
  | .record c v l => .mk 10 false 0 0 [] [] 0 [] (clD l) c v
  | .nothing => .mk 11 false 0 0 [] [] 0 [] [] [] 0
  | .alien _ => .mk 0 false 0 0 [] [] 0 [] [] [] 0
def clL : List V → List Term
  | [] => []
  | x :: r => cl x :: clL r
def clD : List (Str × V) → List (Str × Term)
  | [] => []
  | (s, x) :: r => (s, cl x) :: clD r
end
def clE (p : Str × V) : Str × Term := (p.1, cl p.2)
theorem clL_map : ∀ l, clL l = l.map cl
  | [] => by rw [clL]; rfl
  | x :: r => by rw [clL, clL_map r]; rfl
theorem clD_map : ∀ l, clD l = l.map clE
  | [] => by rw [clD]; rfl
  | (s, x) :: r => by rw [clD, clD_map r]; rfl
theorem near_bytes {b : Str} (h : nearE (.bytes b) = 0) : b.length ≤ 65536 := by
  simp only [nearE] at h; split at h <;> omega
/-! ### the document's term of a value -/
theorem mp_l (l : List V) (d : Int) (hl : ∀ u, u ∈ l → p_mk_plain u (IntKind.i64.wrap (d + 1)) = some (cl u)) (hb : l.length ≤ 1073741824) : ∀ k i, k + i = l.length → mk_plain_l1 p_mk_plain (.list l) d i ((l.take i).map cl) = some (.mk 8 false 0 0 [] [] 0 (l.map cl) [] [] 0)
  | 0, i, h => by
    rw [mk_plain_l1_eq]
    simp only [mk_plain_l1b, V.asList, lt_f (by omega : ¬ i < l.length), cond_false]
    rw [List.take_of_length_le (by omega)]
  | k + 1, i, h => by
    obtain ⟨x, hx, _⟩ := dropc (by omega : i < l.length)
    rw [mk_plain_l1_eq]
    simp only [mk_plain_l1b, V.asList, lt_t (by omega : i < l.length), cond_true, hx, Option.bind_some, hl x (List.mem_of_getElem? hx), app1 (b := 152) (by omega) (show ((l.take i).map cl).length ≤ 1073741824 by simp; omega), take_snoc hx]
    exact mp_l l d hl hb k (i + 1) (by omega)
theorem me_l (l : List (Str × V)) (d : Int) (hl : ∀ u, u ∈ l → p_mk_plain u.2 (IntKind.i64.wrap (d + 1)) = some (cl u.2)) (hb : l.length ≤ 1073741824) : ∀ k i, k + i = l.length → mk_entries_l1 p_mk_plain l d ((l.take i).map clE) i = some (l.map clE)
  | 0, i, h => by
    rw [mk_entries_l1_eq]
    simp only [mk_entries_l1b, lt_f (by omega : ¬ i < l.length), cond_false]
    rw [List.take_of_length_le (by omega)]
  | k + 1, i, h => by
    obtain ⟨x, hx, _⟩ := dropc (by omega : i < l.length)
    rw [mk_entries_l1_eq]
    simp only [mk_entries_l1b, lt_t (by omega : i < l.length), cond_true, hx, Option.bind_some, hl x (List.mem_of_getElem? hx), app1 (b := 168) (x := (x.1, cl x.2)) (by omega) (show ((l.take i).map clE).length ≤ 1073741824 by simp; omega)]
    have : ((l.take i).map clE) ++ [(x.1, cl x.2)] = (l.take (i + 1)).map clE := take_snoc (f := clE) hx
    rw [this]
    exact me_l l d hl hb k (i + 1) (by omega)
theorem mk_plain_eq (x : V) : ∀ n dp d, (partF x n dp d).ok = true → 1 ≤ d → p_mk_plain x (d - 1) = some (cl x) := by
  induction x using V.byParts with
  | _ x ih =>
  intro n dp d hk h1
  have hx : Fine x := ⟨n, dp, d, hk⟩
  have hn := hx.own.1
  rw [partF_eq] at hk
  by_cases ho : ownE x n d = 0
  · rw [if_pos ho] at hk
    have h64 := (own_zero ho).2.1
    have hw : IntKind.i64.wrap (d - 1 + 1) = (d + 1) - 1 := by rw [w64_in (by omega) (by omega)]; omega
    have hp : ∀ u, u ∈ x.parts → p_mk_plain u (IntKind.i64.wrap (d - 1 + 1)) = some (cl u) := fun u hu => by
      obtain ⟨n', dp', h'⟩ := partsF_ok hk u hu
      rw [hw]; exact ih u hu n' dp' (d + 1) h' (by omega)
    rw [e_mk_plain, b_mk_plain, decide_eq_false (by omega : ¬ d - 1 > 400), cond_false]
    cases x with
    | nothing => simp [nearE] at hn
    | alien t => simp [nearE] at hn
    | bytes b => rw [cl]; simp only [V.isNil, V.isBool, V.isInt, V.isFloat, V.isText, V.isBytes, V.asBytes, cond_true, cond_false, Option.bind_some, app0 (by omega : 1 ≤ 1024) (show b.length ≤ 1073741824 by have := near_bytes hn; omega)]
    | list l =>
      have hb := near_list hn
      rw [cl, clL_map]
      exact mp_l l (d - 1) hp (by omega) l.length 0 (by omega)
    | dict l =>
      have hb := near_dict hn
      have : p_mk_entries l (d - 1) = some (l.map clE) := by
        rw [e_mk_entries, b_mk_entries]
        exact me_l l (d - 1) (fun u hu => hp _ (List.mem_map_of_mem hu)) (by omega) l.length 0 (by omega)
      rw [cl, clD_map]
      simp only [V.isNil, V.isBool, V.isInt, V.isFloat, V.isText, V.isBytes, V.isRef, V.isList, V.isDict, V.asDict, cond_true, cond_false, Option.bind_some, this]
    | record c v l =>
      have hb := (near_rec hn).2
      have : p_mk_entries l (d - 1) = some (l.map clE) := by
        rw [e_mk_entries, b_mk_entries]
        exact me_l l (d - 1) (fun u hu => hp _ (List.mem_map_of_mem hu)) (by omega) l.length 0 (by omega)
      rw [cl, clD_map]
      simp only [V.isNil, V.isBool, V.isInt, V.isFloat, V.isText, V.isBytes, V.isRef, V.isList, V.isDict, V.isRec, V.asRec, Option.isNone, cond_true, cond_false, Option.bind_some, this]
    | _ => rw [cl]; rfl
  · rw [if_neg ho] at hk; cases hk
/-! ### there and back -/
end Go.Proofs.Ythfdpaboekoncaa
