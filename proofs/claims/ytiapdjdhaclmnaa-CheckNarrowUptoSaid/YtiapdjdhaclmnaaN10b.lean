/- The term of a value; there and back. -/
import Derived.Test.YtiapdjdhaclmnaaN10a
namespace Go.Proofs.Ytiapdjdhaclmnaa
open Go Aw
set_option linter.unusedVariables false
set_option linter.unusedSimpArgs false
set_option maxRecDepth 8000
/-! ### the term of a value -/
mutual
def cl : V → Term
  | .nil => .mk 1 false 0 0 [] [] 0 [] [] [] 0
  | .bool b => .mk 2 b 0 0 [] [] 0 [] [] [] 0
  | .int i => .mk 3 false i 0 [] [] 0 [] [] [] 0
  | .float f => .mk 4 false 0 f [] [] 0 [] [] [] 0
  | .text s => .mk 5 false 0 0 s [] 0 [] [] [] 0
  | .bytes s => .mk 6 false 0 0 [] s 0 [] [] [] 0
  | .ref r => .mk 7 false 0 0 [] [] r [] [] [] 0
  | .list l => .mk 8 false 0 0 [] [] 0 (clL l) [] [] 0
  | .dict l => .mk 9 false 0 0 [] [] 0 [] (clD l) [] 0
  | .record c v l => .mk 10 false 0 0 [] [] 0 [] (clD l) c v
  | .nothing => .mk 11 false 0 0 [] [] 0 [] [] [] 0
  | .alien _ => .mk 0 false 0 0 [] [] 0 [] [] [] 0
def clL : List V → List Term
  | [] => []
  | x :: r => cl x :: clL r
def clD : List (Str × V) → List (Str × Term)
  | [] => []
  | (s, x) :: r => (s, cl x) :: clD r
end
def clE (p : Str × V) : Str × Term := (p.1, cl p.2)
theorem clL_map : ∀ l, clL l = l.map cl
  | [] => by rw [clL]; rfl
  | x :: r => by rw [clL, clL_map r]; rfl
theorem clD_map : ∀ l, clD l = l.map clE
  | [] => by rw [clD]; rfl
  | (s, x) :: r => by rw [clD, clD_map r]; rfl
theorem near_bytes {b : Str} (h : nearE (.bytes b) = 0) : b.length ≤ 65536 := by
  simp only [nearE] at h; split at h <;> omega
/-! ### the document's term of a value -/
theorem mp_l (l : List V) (d : Int) (hl : ∀ u, u ∈ l → p_mk_plain u (IntKind.i64.wrap (d + 1)) = some (cl u)) (hb : l.length ≤ 1073741824) : ∀ k i, k + i = l.length → mk_plain_l1 p_mk_plain (.list l) d i ((l.take i).map cl) = some (.mk 8 false 0 0 [] [] 0 (l.map cl) [] [] 0)
  | 0, i, h => by
    rw [mk_plain_l1_eq]
    simp only [mk_plain_l1b, V.asList, lt_f (by omega : ¬ i < l.length), cond_false]
    rw [List.take_of_length_le (by omega)]
  | k + 1, i, h => by
    obtain ⟨x, hx, _⟩ := dropc (by omega : i < l.length)
    rw [mk_plain_l1_eq]
    simp only [mk_plain_l1b, V.asList, lt_t (by omega : i < l.length), cond_true, hx, Option.bind_some, hl x (List.mem_of_getElem? hx), app1 (b := 152) (by omega) (show ((l.take i).map cl).length ≤ 1073741824 by simp; omega), take_snoc hx]
    exact mp_l l d hl hb k (i + 1) (by omega)
theorem me_l (l : List (Str × V)) (d : Int) (hl : ∀ u, u ∈ l → p_mk_plain u.2 (IntKind.i64.wrap (d + 1)) = some (cl u.2)) (hb : l.length ≤ 1073741824) : ∀ k i, k + i = l.length → mk_entries_l1 p_mk_plain l d ((l.take i).map clE) i = some (l.map clE)
  | 0, i, h => by
    rw [mk_entries_l1_eq]
    simp only [mk_entries_l1b, lt_f (by omega : ¬ i < l.length), cond_false]
    rw [List.take_of_length_le (by omega)]
  | k + 1, i, h => by
    obtain ⟨x, hx, _⟩ := dropc (by omega : i < l.length)
    rw [mk_entries_l1_eq]
    simp only [mk_entries_l1b, lt_t (by omega : i < l.length), cond_true, hx, Option.bind_some, hl x (List.mem_of_getElem? hx), app1 (b := 168) (x := (x.1, cl x.2)) (by omega) (show ((l.take i).map clE).length ≤ 1073741824 by simp; omega)]
    have : ((l.take i).map clE) ++ [(x.1, cl x.2)] = (l.take (i + 1)).map clE := take_snoc (f := clE) hx
    rw [this]
    exact me_l l d hl hb k (i + 1) (by omega)
theorem mk_plain_eq (x : V) : ∀ n dp d, (partF x n dp d).ok = true → 1 ≤ d → p_mk_plain x (d - 1) = some (cl x) := by
  induction x using V.byParts with
  | _ x ih =>
  intro n dp d hk h1
  have hx : Fine x := ⟨n, dp, d, hk⟩
  have hn := hx.own.1
  rw [partF_eq] at hk
  by_cases ho : ownE x n d = 0
  · rw [if_pos ho] at hk
    have h64 := (own_zero ho).2.1
    have hw : IntKind.i64.wrap (d - 1 + 1) = (d + 1) - 1 := by rw [w64_in (by omega) (by omega)]; omega
    have hp : ∀ u, u ∈ x.parts → p_mk_plain u (IntKind.i64.wrap (d - 1 + 1)) = some (cl u) := fun u hu => by
      obtain ⟨n', dp', h'⟩ := partsF_ok hk u hu
      rw [hw]; exact ih u hu n' dp' (d + 1) h' (by omega)
    rw [e_mk_plain, b_mk_plain, decide_eq_false (by omega : ¬ d - 1 > 400), cond_false]
    cases x with
    | nothing => simp [nearE] at hn
    | alien t => simp [nearE] at hn
    | bytes b => rw [cl]; simp only [V.isNil, V.isBool, V.isInt, V.isFloat, V.isText, V.isBytes, V.asBytes, cond_true, cond_false, Option.bind_some, app0 (by omega : 1 ≤ 1024) (show b.length ≤ 1073741824 by have := near_bytes hn; omega)]
    | list l =>
      have hb := near_list hn
      rw [cl, clL_map]
      exact mp_l l (d - 1) hp (by omega) l.length 0 (by omega)
    | dict l =>
      have hb := near_dict hn
      have : p_mk_entries l (d - 1) = some (l.map clE) := by
        rw [e_mk_entries, b_mk_entries]
        exact me_l l (d - 1) (fun u hu => hp _ (List.mem_map_of_mem hu)) (by omega) l.length 0 (by omega)
      rw [cl, clD_map]
      simp only [V.isNil, V.isBool, V.isInt, V.isFloat, V.isText, V.isBytes, V.isRef, V.isList, V.isDict, V.asDict, cond_true, cond_false, Option.bind_some, this]
    | record c v l =>
      have hb := (near_rec hn).2
      have : p_mk_entries l (d - 1) = some (l.map clE) := by
        rw [e_mk_entries, b_mk_entries]
        exact me_l l (d - 1) (fun u hu => hp _ (List.mem_map_of_mem hu)) (by omega) l.length 0 (by omega)
      rw [cl, clD_map]
      simp only [V.isNil, V.isBool, V.isInt, V.isFloat, V.isText, V.isBytes, V.isRef, V.isList, V.isDict, V.isRec, V.asRec, Option.isNone, cond_true, cond_false, Option.bind_some, this]
    | _ => rw [cl]; rfl
  · rw [if_neg ho] at hk; cases hk
/-! ### there and back -/
theorem lo_cl (x : V) : Fine x → lo (cl x) = x := by
  induction x using V.byParts with
  | _ x ih =>
  intro hx
  have hp := hx.own.2
  have hn := hx.own.1
  have hm : ∀ l : List V, (∀ u, u ∈ l → lo (cl u) = u) → (l.map cl).map lo = l := fun l h => by
    rw [List.map_map]
    conv => rhs; rw [← List.map_id l]
    exact List.map_congr_left fun u hu => h u hu
  have hd : ∀ l : List (Str × V), (∀ u, u ∈ l → lo (cl u.2) = u.2) → (l.map clE).map loE = l := fun l h => by
    rw [List.map_map]
    conv => rhs; rw [← List.map_id l]
    exact List.map_congr_left fun u hu => by obtain ⟨s, x⟩ := u; exact congrArg (Prod.mk s) (h _ hu)
  cases x with
  | nothing => simp [nearE] at hn
  | alien t => simp [nearE] at hn
  | list l => rw [cl, clL_map, lo, loTs_map, hm l (fun u hu => ih u hu (hp u hu))]; rfl
  | dict l => rw [cl, clD_map, lo, loEs_map, hd l (fun u hu => ih u.2 (List.mem_map_of_mem hu) (hp _ (List.mem_map_of_mem hu)))]; rfl
  | record c v l => rw [cl, clD_map, lo, loEs_map, hd l (fun u hu => ih u.2 (List.mem_map_of_mem hu) (hp _ (List.mem_map_of_mem hu)))]; rfl
  | _ => rw [cl, lo]; rfl
theorem loose_cl (x : V) : Fine x → p_value_loose (cl x) = some x := by
  induction x using V.byParts with
  | _ x ih =>
  intro hx
  have hp := hx.own.2
  have hn := hx.own.1
  have key : p_value_loose (cl x) = some (lo (cl x)) := by
    have hm : ∀ l : List V, (∀ u, u ∈ l → u ∈ x.parts) → ∀ u, u ∈ l.map cl → p_value_loose u = some (lo u) := fun l h u hu => by
      obtain ⟨z, hz, rfl⟩ := List.mem_map.1 hu
      rw [lo_cl z (hp z (h z hz))]; exact ih z (h z hz) (hp z (h z hz))
    have hd : ∀ l : List (Str × V), (∀ u, u ∈ l → u.2 ∈ x.parts) → ∀ u, u ∈ l.map clE → p_value_loose u.2 = some (lo u.2) := fun l h u hu => by
      obtain ⟨z, hz, rfl⟩ := List.mem_map.1 hu
      show p_value_loose (cl z.2) = some (lo (cl z.2))
      rw [lo_cl z.2 (hp _ (h z hz))]; exact ih _ (h z hz) (hp _ (h z hz))
    have no1 : ∀ u, u ∈ ([] : List Term) → p_value_loose u = some (lo u) := fun u hu => by cases hu
    have no2 : ∀ u, u ∈ ([] : List (Str × Term)) → p_value_loose u.2 = some (lo u.2) := fun u hu => by cases hu
    cases x with
    | nothing => simp [nearE] at hn
    | alien t => simp [nearE] at hn
    | list l =>
      have hb := near_list hn
      rw [cl, clL_map]
      exact loose_step _ (hm l (fun u hu => hu)) no2 (by show (l.map cl).length ≤ _; rw [List.length_map]; omega) (Nat.zero_le _) (Nat.zero_le _)
    | dict l =>
      have hb := near_dict hn
      rw [cl, clD_map]
      exact loose_step _ no1 (hd l (fun u hu => List.mem_map_of_mem hu)) (Nat.zero_le _) (by show (l.map clE).length ≤ _; rw [List.length_map]; omega) (Nat.zero_le _)
    | record c v l =>
      have hb := (near_rec hn).2
      rw [cl, clD_map]
      exact loose_step _ no1 (hd l (fun u hu => List.mem_map_of_mem hu)) (Nat.zero_le _) (by show (l.map clE).length ≤ _; rw [List.length_map]; omega) (Nat.zero_le _)
    | bytes b =>
      rw [cl]
      exact loose_step _ no1 no2 (Nat.zero_le _) (Nat.zero_le _) (by have := near_bytes hn; show b.length ≤ _; omega)
    | _ => rw [cl]; exact loose_step _ no1 no2 (Nat.zero_le _) (Nat.zero_le _) (Nat.zero_le _)
  rw [key, lo_cl x hx]
/-! ### the same term -/
theorem ml_l (l : List Term) (hl : ∀ u, u ∈ l → p_mk_Same (cl (lo u)) u = some true) : ∀ k i, k + i = l.length → mk_Lists_l1 p_mk_Same ((l.map lo).map cl) l i = some true
  | 0, i, h => by
    rw [mk_Lists_l1_eq]
    simp only [mk_Lists_l1b, List.length_map, lt_f (by omega : ¬ i < l.length), cond_false]
  | k + 1, i, h => by
    obtain ⟨x, hx, _⟩ := dropc (by omega : i < l.length)
    have hx2 : ((l.map lo).map cl)[i]? = some (cl (lo x)) := by rw [List.getElem?_map, List.getElem?_map, hx]; rfl
    rw [mk_Lists_l1_eq]
    simp only [mk_Lists_l1b, List.length_map, lt_t (by omega : i < l.length), cond_true, hx, hx2, Option.bind_some, hl x (List.mem_of_getElem? hx), Bool.not_true, cond_false]
    exact ml_l l hl k (i + 1) (by omega)
theorem mn_l (l : List (Str × Term)) (hl : ∀ u, u ∈ l → p_mk_Same (cl (lo u.2)) u.2 = some true) : ∀ k i, k + i = l.length → mk_Entries_l1 p_mk_Same ((l.map loE).map clE) l i = some true
  | 0, i, h => by
    rw [mk_Entries_l1_eq]
    simp only [mk_Entries_l1b, List.length_map, lt_f (by omega : ¬ i < l.length), cond_false]
  | k + 1, i, h => by
    obtain ⟨x, hx, _⟩ := dropc (by omega : i < l.length)
    have hx2 : ((l.map loE).map clE)[i]? = some (x.1, cl (lo x.2)) := by rw [List.getElem?_map, List.getElem?_map, hx]; rfl
    rw [mk_Entries_l1_eq]
    simp only [mk_Entries_l1b, List.length_map, lt_t (by omega : i < l.length), cond_true, hx, hx2, Option.bind_some, hl x (List.mem_of_getElem? hx), beq_self_eq_true, Bool.not_true, cond_false, mk_Entries_j1]
    exact mn_l l hl k (i + 1) (by omega)
theorem same_cl (t : Term) : Fine (lo t) → p_mk_Same (cl (lo t)) t = some true := by
  induction t using Term.byParts with
  | _ t ih =>
  intro hx
  have hp := hx.own.2
  have hn := hx.own.1
  rw [← partsT_lo] at hp
  have hs : ∀ u, u ∈ partsT t → p_mk_Same (cl (lo u)) u = some true := fun u hu => ih u hu (hp _ (List.mem_map_of_mem hu))
  have ne : ∀ a : Int, (a != a) = false := fun a => by simp
  have nn : ∀ a b : Nat, a = b → (((a : Nat) : Int) != ((b : Nat) : Int)) = false := fun a b h => by simp [h]
  have hb := lo_c t
  rw [e_mk_Same, b_mk_Same]
  generalize lo t = x at hb hn
  generalize bu t = y at hb
  cases hb with
  | nothing => simp [nearE] at hn
  | alien => simp [nearE] at hn
  | nil hk => rw [cl]; simp only [Term.kind] at hk ⊢; simp only [hk]; rfl
  | bool hk => rw [cl]; simp only [hk]; simp [mk_Same_j1, Term.kind, Term.bool, hk]
  | int hk => rw [cl]; simp only [hk]; simp [mk_Same_j1, Term.kind, Term.int, hk]
  | float hk => rw [cl]; simp only [hk]; simp [mk_Same_j1, Term.kind, Term.float, hk]
  | text hk => rw [cl]; simp only [hk]; simp [mk_Same_j1, Term.kind, Term.text, hk]
  | bytes hk => rw [cl]; simp only [hk]; simp [mk_Same_j1, Term.kind, Term.bytes, hk]
  | ref hk => rw [cl]; simp only [hk]; simp [mk_Same_j1, Term.kind, Term.ref, hk]
  | list hk =>
    have hm : p_mk_Lists ((t.list.map lo).map cl) t.list = some true := by
      rw [e_mk_Lists, b_mk_Lists, nn _ _ (by simp), cond_false]
      exact ml_l t.list (fun u hu => hs u (by unfold partsT; rw [if_pos hk]; exact hu)) t.list.length 0 (by omega)
    rw [cl, clL_map]; simp only [hk]; simp only [mk_Same_j1]; show Option.bind (p_mk_Lists ((t.list.map lo).map cl) t.list) (fun x => some x) = _; rw [hm]; rfl
  | dict hk =>
    have hm : p_mk_Entries ((t.fields.map loE).map clE) t.fields = some true := by
      rw [e_mk_Entries, b_mk_Entries, nn _ _ (by simp), cond_false]
      exact mn_l t.fields (fun u hu => hs _ (by unfold partsT; rw [if_neg (by omega), if_pos (Or.inl hk)]; exact List.mem_map_of_mem hu)) t.fields.length 0 (by omega)
    rw [cl, clD_map]; simp only [hk]; simp only [mk_Same_j1]; show Option.bind (p_mk_Entries ((t.fields.map loE).map clE) t.fields) (fun x => some x) = _; rw [hm]; rfl
  | record hk =>
    have hm : p_mk_Entries ((t.fields.map loE).map clE) t.fields = some true := by
      rw [e_mk_Entries, b_mk_Entries, nn _ _ (by simp), cond_false]
      exact mn_l t.fields (fun u hu => hs _ (by unfold partsT; rw [if_neg (by omega), if_pos (Or.inr hk)]; exact List.mem_map_of_mem hu)) t.fields.length 0 (by omega)
    rw [cl, clD_map]; simp only [hk]; simp only [mk_Same_j1]; show (bif t.cls == t.cls then bif t.ver == t.ver then Option.bind (p_mk_Entries ((t.fields.map loE).map clE) t.fields) (fun x => some x) else some false else some false) = _; rw [hm, beq_self_eq_true, beq_self_eq_true]; rfl
theorem ordF_self (x : V) : ordF x x = 0 := by
  have h := lexc_neg (key x) (key x)
  rw [ord_key]; omega
end Go.Proofs.Ytiapdjdhaclmnaa
