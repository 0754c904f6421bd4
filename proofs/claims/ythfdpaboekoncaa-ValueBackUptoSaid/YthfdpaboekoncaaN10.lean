/- ValueBack: there and back. -/
import Derived.Test.YthfdpaboekoncaaN6
namespace Go.Proofs.Ythfdpaboekoncaa
open Go Aw
set_option linter.unusedVariables false
set_option linter.unusedSimpArgs false
set_option maxRecDepth 8000
/-! ### a value of a term, as the program makes it -/
mutual
noncomputable def lo : Term → V
  | .mk k b i f t y r l d c v => if k = 1 then .nil else if k = 2 then .bool b else if k = 3 then .int i else if k = 4 then .float f else if k = 5 then .text t else if k = 6 then .bytes y else if k = 7 then .ref r
    else if k = 8 then .list (loTs l) else if k = 9 then .dict (loEs d) else if k = 10 then .record c v (loEs d) else if k = 11 then .nothing else .alien ⟨102, rfl⟩
noncomputable def loTs : List Term → List V
  | [] => []
  | x :: r => lo x :: loTs r
noncomputable def loEs : List (Str × Term) → List (Str × V)
  | [] => []
  | (s, x) :: r => (s, lo x) :: loEs r
end
noncomputable def loE (p : Str × Term) : Str × V := (p.1, lo p.2)
theorem loTs_map : ∀ l, loTs l = l.map lo
  | [] => by rw [loTs]; rfl
  | x :: r => by rw [loTs, loTs_map r]; rfl
theorem loEs_map : ∀ l, loEs l = l.map loE
  | [] => by rw [loEs]; rfl
  | (s, x) :: r => by rw [loEs, loEs_map r]; rfl
theorem lo_names (l : List (Str × Term)) : (l.map loE).map (·.1) = l.map (·.1) := by rw [List.map_map]; rfl
theorem lo_snds (l : List (Str × Term)) : (l.map loE).map (·.2) = (l.map (·.2)).map lo := by rw [List.map_map, List.map_map]; rfl
/-- Two values of one term: built, and made by the program. -/
inductive LoC (t : Term) : V → V → Prop
  | nil : t.kind = 1 → LoC t .nil .nil
  | bool : t.kind = 2 → LoC t (.bool t.bool) (.bool t.bool)
  | int : t.kind = 3 → LoC t (.int t.int) (.int t.int)
  | float : t.kind = 4 → LoC t (.float t.float) (.float t.float)
  | text : t.kind = 5 → LoC t (.text t.text) (.text t.text)
  | bytes : t.kind = 6 → LoC t (.bytes t.bytes) (.bytes t.bytes)
  | ref : t.kind = 7 → LoC t (.ref t.ref) (.ref t.ref)
  | list : t.kind = 8 → LoC t (.list (t.list.map lo)) (.list (t.list.map bu))
  | dict : t.kind = 9 → LoC t (.dict (t.fields.map loE)) (.dict (t.fields.map buE))
  | record : t.kind = 10 → LoC t (.record t.cls t.ver (t.fields.map loE)) (.record t.cls t.ver (t.fields.map buE))
  | nothing : t.kind = 11 → LoC t .nothing .nothing
  | alien : t.kind < 1 ∨ 11 < t.kind → LoC t (.alien ⟨102, rfl⟩) (.alien (alT t.int))
theorem lo_c (t : Term) : LoC t (lo t) (bu t) := by
  cases t with
  | mk k b i f t y r l d c v =>
    rw [lo, loTs_map, loEs_map, bu, buTs_map, buEs_map]
    by_cases h1 : k = 1; · rw [if_pos h1, if_pos h1]; exact .nil h1
    rw [if_neg h1, if_neg h1]
    by_cases h2 : k = 2; · rw [if_pos h2, if_pos h2]; exact .bool h2
    rw [if_neg h2, if_neg h2]
    by_cases h3 : k = 3; · rw [if_pos h3, if_pos h3]; exact .int h3
    rw [if_neg h3, if_neg h3]
    by_cases h4 : k = 4; · rw [if_pos h4, if_pos h4]; exact .float h4
    rw [if_neg h4, if_neg h4]
    by_cases h5 : k = 5; · rw [if_pos h5, if_pos h5]; exact .text h5
    rw [if_neg h5, if_neg h5]
    by_cases h6 : k = 6; · rw [if_pos h6, if_pos h6]; exact .bytes h6
    rw [if_neg h6, if_neg h6]
    by_cases h7 : k = 7; · rw [if_pos h7, if_pos h7]; exact .ref h7
    rw [if_neg h7, if_neg h7]
    by_cases h8 : k = 8; · rw [if_pos h8, if_pos h8]; exact .list h8
    rw [if_neg h8, if_neg h8]
    by_cases h9 : k = 9; · rw [if_pos h9, if_pos h9]; exact .dict h9
    rw [if_neg h9, if_neg h9]
    by_cases h10 : k = 10; · rw [if_pos h10, if_pos h10]; exact .record h10
    rw [if_neg h10, if_neg h10]
    by_cases h11 : k = 11; · rw [if_pos h11, if_pos h11]; exact .nothing h11
    rw [if_neg h11, if_neg h11]
    exact .alien (show k < 1 ∨ 11 < k by omega)
theorem partsT_lo (t : Term) : (partsT t).map lo = (lo t).parts := by
  have hb := lo_c t
  unfold partsT
  generalize lo t = x at hb
  generalize bu t = y at hb
  cases hb with
  | list hk => rw [if_pos hk]; rfl
  | dict hk => rw [if_neg (by omega), if_pos (Or.inl hk)]; simp only [V.parts, lo_snds]
  | record hk => rw [if_neg (by omega), if_pos (Or.inr hk)]; simp only [V.parts, lo_snds]
  | _ hk => rw [if_neg (by omega), if_neg (by omega)]; rfl
theorem lo_own (t : Term) (n d : Int) : ownE (lo t) n d = ownE (bu t) n d := by
  have hb := lo_c t
  generalize lo t = x at hb
  generalize bu t = y at hb
  cases hb <;> simp only [ownE, farE, nearE, List.length_map, lo_names, bu_names]
theorem lo_parts (d : Int) : ∀ (l : List Term), (∀ u, u ∈ l → ∀ n dp, partF (lo u) n dp d = partF (bu u) n dp d) → ∀ n dp, partsF (l.map lo) n dp d = partsF (l.map bu) n dp d
  | [], _, n, dp => rfl
  | x :: r, h, n, dp => by
    rw [List.map_cons, List.map_cons, partsF_cons, partsF_cons, h x (by simp)]
    split
    · exact lo_parts d r (fun u hu => h u (by simp [hu])) _ _
    · rfl
theorem lo_part (t : Term) : ∀ n dp d, partF (lo t) n dp d = partF (bu t) n dp d := by
  induction t using Term.byParts with
  | _ t ih =>
  intro n dp d
  rw [partF_eq, partF_eq, lo_own, ← partsT_lo, ← partsT_bu, lo_parts (d + 1) (partsT t) (fun u hu n dp => ih u hu n dp (d + 1))]
theorem lo_check (t : Term) : checkF (lo t) = checkF (bu t) := by unfold checkF; rw [lo_part]
/-! ### the program makes it -/
theorem room_ok {n b : Nat} (hb : b ≤ 1024) (hn : n ≤ 1073741824) : roomO n b = some () := by
  have h1 : n * b ≤ 1073741824 * 1024 := Nat.mul_le_mul hn hb
  unfold roomO
  rw [Nat.ble_eq_true_of_le (by omega), Nat.ble_eq_true_of_le (by omega)]; rfl
theorem ll_l (t : Term) (hl : ∀ u, u ∈ t.list → p_value_loose u = some (lo u)) (hb : t.list.length ≤ 1073741824) : ∀ k i, k + i = t.list.length → value_loose_l1 p_value_loose t ((t.list.take i).map lo) i = some (.list (t.list.map lo))
  | 0, i, h => by
    rw [value_loose_l1_eq]
    simp only [value_loose_l1b, lt_f (by omega : ¬ i < t.list.length), cond_false]
    rw [List.take_of_length_le (by omega)]
  | k + 1, i, h => by
    obtain ⟨x, hx, _⟩ := dropc (by omega : i < t.list.length)
    rw [value_loose_l1_eq]
    simp only [value_loose_l1b, lt_t (by omega : i < t.list.length), cond_true, hx, Option.bind_some, hl x (List.mem_of_getElem? hx), app1 (b := 16) (by omega) (show ((t.list.take i).map lo).length ≤ 1073741824 by simp; omega), take_snoc hx]
    exact ll_l t hl hb k (i + 1) (by omega)
theorem ld_l (l : List (Str × Term)) (hl : ∀ u, u ∈ l → p_value_loose u.2 = some (lo u.2)) (hb : l.length ≤ 1073741824) : ∀ k i, k + i = l.length → value_dict_l1 p_value_loose l ((l.take i).map loE) i = some (l.map loE)
  | 0, i, h => by
    rw [value_dict_l1_eq]
    simp only [value_dict_l1b, lt_f (by omega : ¬ i < l.length), cond_false]
    rw [List.take_of_length_le (by omega)]
  | k + 1, i, h => by
    obtain ⟨x, hx, _⟩ := dropc (by omega : i < l.length)
    rw [value_dict_l1_eq]
    simp only [value_dict_l1b, lt_t (by omega : i < l.length), cond_true, hx, Option.bind_some, hl x (List.mem_of_getElem? hx), app1 (b := 32) (x := (x.1, lo x.2)) (by omega) (show ((l.take i).map loE).length ≤ 1073741824 by simp; omega)]
    have : ((l.take i).map loE) ++ [(x.1, lo x.2)] = (l.take (i + 1)).map loE := take_snoc (f := loE) hx
    rw [this]
    exact ld_l l hl hb k (i + 1) (by omega)
theorem loose_step (t : Term) (hl : ∀ u, u ∈ t.list → p_value_loose u = some (lo u)) (hf : ∀ u, u ∈ t.fields → p_value_loose u.2 = some (lo u.2))
    (b1 : t.list.length ≤ 1073741824) (b2 : t.fields.length ≤ 1073741824) (b3 : t.bytes.length ≤ 1073741824) : p_value_loose t = some (lo t) := by
  have hd : p_value_dict t.fields = some (t.fields.map loE) := by
    rw [e_value_dict, b_value_dict, room_ok (by omega) b2]
    exact ld_l t.fields hf b2 t.fields.length 0 (by omega)
  have hll : value_loose_l1 p_value_loose t [] 0 = some (.list (t.list.map lo)) := ll_l t hl b1 t.list.length 0 (by omega)
  have hr := room_ok (b := 16) (by omega) b1
  have hb := lo_c t
  rw [e_value_loose, b_value_loose]
  generalize lo t = x at hb
  generalize bu t = y at hb
  cases hb with
  | bytes hk => simp only [hk, app0 (by omega : 1 ≤ 1024) b3]; rfl
  | list hk => simp only [hk, hll, hr]; rfl
  | dict hk => simp only [hk, hd]; rfl
  | record hk => simp only [hk, hd]; rfl
  | alien hk =>
    have e : ∀ k : Int, 1 ≤ k → k ≤ 11 → (t.kind == k) = false := fun k h1 h2 => by simp; omega
    simp only [e 1 (by omega) (by omega), e 2 (by omega) (by omega), e 3 (by omega) (by omega), e 4 (by omega) (by omega), e 5 (by omega) (by omega), e 6 (by omega) (by omega), e 7 (by omega) (by omega), e 8 (by omega) (by omega),
      e 9 (by omega) (by omega), e 10 (by omega) (by omega), e 11 (by omega) (by omega), cond_false]
  | _ hk => simp only [hk]; rfl
theorem value_loose_eqN : ∀ (n : Nat) (t : Term), bkT t ≤ n → n ≤ 268435456 → p_value_loose t = some (lo t) := by
  intro n
  induction n with
  | zero => intro t h _; have := bkT_mk t; omega
  | succ n ih =>
    intro t h hn
    exact loose_step t (fun u hu => ih u (by have := bk_list hu; omega) (by omega)) (fun u hu => ih u.2 (by have := bk_fields hu; omega) (by omega))
      (by have := len_list t; omega) (by have := len_fields t; omega) (by have := len_bytes t; omega)
theorem value_loose_eq (t : Term) (h : bkT t ≤ 268435456) : p_value_loose t = some (lo t) := value_loose_eqN _ t h (Nat.le_refl _)
noncomputable def ofF (x : V) : V × Int := if (checkF x).2 ≠ 0 then (.nil, (checkF x).2) else (x, 0)
theorem of_of {t : Term} {x : V} (h : p_value_loose t = some x) : p_value_Of t = some (ofF x) := by
  simp only [p_value_Of, h, Option.bind_some, value_check_eq, ofF]
  by_cases hx : (checkF x).2 = 0
  · rw [if_neg (by simp [hx]), hx]; rfl
  · rw [if_pos hx, ne_t hx]; rfl
/-! ### the term of a value -/
mutual
def cl : V → Term
  | .nil => .mk 1 false 0 0 [] [] 0 [] [] [] 0
  | .bool b => .mk 2 b 0 0 [] [] 0 [] [] [] 0
  | .int i => .mk 3 false i 0 [] [] 0 [] [] [] 0
  | .float f => .mk 4 false 0 f [] [] 0 [] [] [] 0
  | .text s => .mk 5 false 0 0 s [] 0 [] [] [] 0
  | .bytes s => .mk 6 false 0 0 [] s 0 [] [] [] 0
  | .ref r => .mk 7 false 0 0 [] [] r [] [] [] 0
  | .list l => .mk 8 false 0 0 [] [] 0 (clL l) [] [] 0
  | .dict l => .mk 9 false 0 0 [] [] 0 [] (clD l) [] 0
  | .record c v l => .mk 10 false 0 0 [] [] 0 [] (clD l) c v
  | .nothing => .mk 11 false 0 0 [] [] 0 [] [] [] 0
  | .alien _ => .mk 0 false 0 0 [] [] 0 [] [] [] 0
def clL : List V → List Term
  | [] => []
  | x :: r => cl x :: clL r
def clD : List (Str × V) → List (Str × Term)
  | [] => []
  | (s, x) :: r => (s, cl x) :: clD r
end
def clE (p : Str × V) : Str × Term := (p.1, cl p.2)
theorem clL_map : ∀ l, clL l = l.map cl
  | [] => by rw [clL]; rfl
  | x :: r => by rw [clL, clL_map r]; rfl
theorem clD_map : ∀ l, clD l = l.map clE
  | [] => by rw [clD]; rfl
  | (s, x) :: r => by rw [clD, clD_map r]; rfl
theorem vp_l (l : List V) (x1 : Int) (hl : ∀ u, u ∈ l → p_value_plain u = some (cl u)) (hb : l.length ≤ 1073741824) : ∀ k i, k + i = l.length → value_plain_l1 p_value_plain (.list l) x1 i ((l.take i).map cl) = some (.mk x1 false 0 0 [] [] 0 (l.map cl) [] [] 0)
  | 0, i, h => by
    rw [value_plain_l1_eq]
    simp only [value_plain_l1b, V.asList, lt_f (by omega : ¬ i < l.length), cond_false, value_plain_j1]
    rw [List.take_of_length_le (by omega)]
  | k + 1, i, h => by
    obtain ⟨x, hx, _⟩ := dropc (by omega : i < l.length)
    rw [value_plain_l1_eq]
    simp only [value_plain_l1b, V.asList, lt_t (by omega : i < l.length), cond_true, hx, Option.bind_some, hl x (List.mem_of_getElem? hx), app1 (b := 152) (by omega) (show ((l.take i).map cl).length ≤ 1073741824 by simp; omega), take_snoc hx]
    exact vp_l l x1 hl hb k (i + 1) (by omega)
theorem ve_l (l : List (Str × V)) (hl : ∀ u, u ∈ l → p_value_plain u.2 = some (cl u.2)) (hb : l.length ≤ 1073741824) : ∀ k i, k + i = l.length → value_entries_l1 p_value_plain l ((l.take i).map clE) i = some (l.map clE)
  | 0, i, h => by
    rw [value_entries_l1_eq]
    simp only [value_entries_l1b, lt_f (by omega : ¬ i < l.length), cond_false]
    rw [List.take_of_length_le (by omega)]
  | k + 1, i, h => by
    obtain ⟨x, hx, _⟩ := dropc (by omega : i < l.length)
    rw [value_entries_l1_eq]
    simp only [value_entries_l1b, lt_t (by omega : i < l.length), cond_true, hx, Option.bind_some, hl x (List.mem_of_getElem? hx), app1 (b := 168) (x := (x.1, cl x.2)) (by omega) (show ((l.take i).map clE).length ≤ 1073741824 by simp; omega)]
    have : ((l.take i).map clE) ++ [(x.1, cl x.2)] = (l.take (i + 1)).map clE := take_snoc (f := clE) hx
    rw [this]
    exact ve_l l hl hb k (i + 1) (by omega)
theorem near_bytes {b : Str} (h : nearE (.bytes b) = 0) : b.length ≤ 65536 := by
  simp only [nearE] at h; split at h <;> omega
theorem value_plain_eq (x : V) : Fine x → p_value_plain x = some (cl x) := by
  induction x using V.byParts with
  | _ x ih =>
  intro hx
  have hp := hx.own.2
  have hn := hx.own.1
  rw [e_value_plain, b_value_plain, value_kind_eq]
  cases x with
  | nothing => simp [nearE] at hn
  | alien t => simp [nearE] at hn
  | bytes b => rw [cl]; simp only [V.isBool, V.isInt, V.isFloat, V.isText, V.isBytes, V.asBytes, cond_true, cond_false, Option.bind_some, app0 (by omega : 1 ≤ 1024) (show b.length ≤ 1073741824 by have := near_bytes hn; omega)]; rfl
  | list l =>
    have hb := near_list hn
    rw [cl, clL_map]
    exact vp_l l 8 (fun u hu => ih u hu (hp u hu)) (by omega) l.length 0 (by omega)
  | dict l =>
    have hb := near_dict hn
    have : p_value_entries l = some (l.map clE) := by
      rw [e_value_entries, b_value_entries]
      exact ve_l l (fun u hu => ih u.2 (List.mem_map_of_mem hu) (hp _ (List.mem_map_of_mem hu))) (by omega) l.length 0 (by omega)
    rw [cl, clD_map]
    simp only [V.isBool, V.isInt, V.isFloat, V.isText, V.isBytes, V.isRef, V.isList, V.isDict, V.asDict, cond_true, cond_false, Option.bind_some, this]; rfl
  | record c v l =>
    have hb := (near_rec hn).2
    have : p_value_entries l = some (l.map clE) := by
      rw [e_value_entries, b_value_entries]
      exact ve_l l (fun u hu => ih u.2 (List.mem_map_of_mem hu) (hp _ (List.mem_map_of_mem hu))) (by omega) l.length 0 (by omega)
    rw [cl, clD_map]
    simp only [V.isBool, V.isInt, V.isFloat, V.isText, V.isBytes, V.isRef, V.isList, V.isDict, V.isRec, V.asRec, cond_true, cond_false, Option.bind_some, this]; rfl
  | _ => rw [cl]; rfl
/-! ### the document's term of a value -/
theorem mp_l (l : List V) (d : Int) (hl : ∀ u, u ∈ l → p_mk_plain u (IntKind.i64.wrap (d + 1)) = some (cl u)) (hb : l.length ≤ 1073741824) : ∀ k i, k + i = l.length → mk_plain_l1 p_mk_plain (.list l) d i ((l.take i).map cl) = some (.mk 8 false 0 0 [] [] 0 (l.map cl) [] [] 0)
  | 0, i, h => by
    rw [mk_plain_l1_eq]
    simp only [mk_plain_l1b, V.asList, lt_f (by omega : ¬ i < l.length), cond_false]
    rw [List.take_of_length_le (by omega)]
  | k + 1, i, h => by
    obtain ⟨x, hx, _⟩ := dropc (by omega : i < l.length)
    rw [mk_plain_l1_eq]
    simp only [mk_plain_l1b, V.asList, lt_t (by omega : i < l.length), cond_true, hx, Option.bind_some, hl x (List.mem_of_getElem? hx), app1 (b := 152) (by omega) (show ((l.take i).map cl).length ≤ 1073741824 by simp; omega), take_snoc hx]
    exact mp_l l d hl hb k (i + 1) (by omega)
theorem me_l (l : List (Str × V)) (d : Int) (hl : ∀ u, u ∈ l → p_mk_plain u.2 (IntKind.i64.wrap (d + 1)) = some (cl u.2)) (hb : l.length ≤ 1073741824) : ∀ k i, k + i = l.length → mk_entries_l1 p_mk_plain l d ((l.take i).map clE) i = some (l.map clE)
  | 0, i, h => by
    rw [mk_entries_l1_eq]
    simp only [mk_entries_l1b, lt_f (by omega : ¬ i < l.length), cond_false]
    rw [List.take_of_length_le (by omega)]
  | k + 1, i, h => by
    obtain ⟨x, hx, _⟩ := dropc (by omega : i < l.length)
    rw [mk_entries_l1_eq]
    simp only [mk_entries_l1b, lt_t (by omega : i < l.length), cond_true, hx, Option.bind_some, hl x (List.mem_of_getElem? hx), app1 (b := 168) (x := (x.1, cl x.2)) (by omega) (show ((l.take i).map clE).length ≤ 1073741824 by simp; omega)]
    have : ((l.take i).map clE) ++ [(x.1, cl x.2)] = (l.take (i + 1)).map clE := take_snoc (f := clE) hx
    rw [this]
    exact me_l l d hl hb k (i + 1) (by omega)
theorem mk_plain_eq (x : V) : ∀ n dp d, (partF x n dp d).ok = true → 1 ≤ d → p_mk_plain x (d - 1) = some (cl x) := by
  induction x using V.byParts with
  | _ x ih =>
  intro n dp d hk h1
  have hx : Fine x := ⟨n, dp, d, hk⟩
  have hn := hx.own.1
  rw [partF_eq] at hk
  by_cases ho : ownE x n d = 0
  · rw [if_pos ho] at hk
    have h64 := (own_zero ho).2.1
    have hw : IntKind.i64.wrap (d - 1 + 1) = (d + 1) - 1 := by rw [w64_in (by omega) (by omega)]; omega
    have hp : ∀ u, u ∈ x.parts → p_mk_plain u (IntKind.i64.wrap (d - 1 + 1)) = some (cl u) := fun u hu => by
      obtain ⟨n', dp', h'⟩ := partsF_ok hk u hu
      rw [hw]; exact ih u hu n' dp' (d + 1) h' (by omega)
    rw [e_mk_plain, b_mk_plain, decide_eq_false (by omega : ¬ d - 1 > 400), cond_false]
    cases x with
    | nothing => simp [nearE] at hn
    | alien t => simp [nearE] at hn
    | bytes b => rw [cl]; simp only [V.isNil, V.isBool, V.isInt, V.isFloat, V.isText, V.isBytes, V.asBytes, cond_true, cond_false, Option.bind_some, app0 (by omega : 1 ≤ 1024) (show b.length ≤ 1073741824 by have := near_bytes hn; omega)]
    | list l =>
      have hb := near_list hn
      rw [cl, clL_map]
      exact mp_l l (d - 1) hp (by omega) l.length 0 (by omega)
    | dict l =>
      have hb := near_dict hn
      have : p_mk_entries l (d - 1) = some (l.map clE) := by
        rw [e_mk_entries, b_mk_entries]
        exact me_l l (d - 1) (fun u hu => hp _ (List.mem_map_of_mem hu)) (by omega) l.length 0 (by omega)
      rw [cl, clD_map]
      simp only [V.isNil, V.isBool, V.isInt, V.isFloat, V.isText, V.isBytes, V.isRef, V.isList, V.isDict, V.asDict, cond_true, cond_false, Option.bind_some, this]
    | record c v l =>
      have hb := (near_rec hn).2
      have : p_mk_entries l (d - 1) = some (l.map clE) := by
        rw [e_mk_entries, b_mk_entries]
        exact me_l l (d - 1) (fun u hu => hp _ (List.mem_map_of_mem hu)) (by omega) l.length 0 (by omega)
      rw [cl, clD_map]
      simp only [V.isNil, V.isBool, V.isInt, V.isFloat, V.isText, V.isBytes, V.isRef, V.isList, V.isDict, V.isRec, V.asRec, Option.isNone, cond_true, cond_false, Option.bind_some, this]
    | _ => rw [cl]; rfl
  · rw [if_neg ho] at hk; cases hk
/-! ### there and back -/
theorem lo_cl (x : V) : Fine x → lo (cl x) = x := by
  induction x using V.byParts with
  | _ x ih =>
  intro hx
  have hp := hx.own.2
  have hn := hx.own.1
  have hm : ∀ l : List V, (∀ u, u ∈ l → lo (cl u) = u) → (l.map cl).map lo = l := fun l h => by
    rw [List.map_map]
    conv => rhs; rw [← List.map_id l]
    exact List.map_congr_left fun u hu => h u hu
  have hd : ∀ l : List (Str × V), (∀ u, u ∈ l → lo (cl u.2) = u.2) → (l.map clE).map loE = l := fun l h => by
    rw [List.map_map]
    conv => rhs; rw [← List.map_id l]
    exact List.map_congr_left fun u hu => by obtain ⟨s, x⟩ := u; exact congrArg (Prod.mk s) (h _ hu)
  cases x with
  | nothing => simp [nearE] at hn
  | alien t => simp [nearE] at hn
  | list l => rw [cl, clL_map, lo, loTs_map, hm l (fun u hu => ih u hu (hp u hu))]; rfl
  | dict l => rw [cl, clD_map, lo, loEs_map, hd l (fun u hu => ih u.2 (List.mem_map_of_mem hu) (hp _ (List.mem_map_of_mem hu)))]; rfl
  | record c v l => rw [cl, clD_map, lo, loEs_map, hd l (fun u hu => ih u.2 (List.mem_map_of_mem hu) (hp _ (List.mem_map_of_mem hu)))]; rfl
  | _ => rw [cl, lo]; rfl
theorem loose_cl (x : V) : Fine x → p_value_loose (cl x) = some x := by
  induction x using V.byParts with
  | _ x ih =>
  intro hx
  have hp := hx.own.2
  have hn := hx.own.1
  have key : p_value_loose (cl x) = some (lo (cl x)) := by
    have hm : ∀ l : List V, (∀ u, u ∈ l → u ∈ x.parts) → ∀ u, u ∈ l.map cl → p_value_loose u = some (lo u) := fun l h u hu => by
      obtain ⟨z, hz, rfl⟩ := List.mem_map.1 hu
      rw [lo_cl z (hp z (h z hz))]; exact ih z (h z hz) (hp z (h z hz))
    have hd : ∀ l : List (Str × V), (∀ u, u ∈ l → u.2 ∈ x.parts) → ∀ u, u ∈ l.map clE → p_value_loose u.2 = some (lo u.2) := fun l h u hu => by
      obtain ⟨z, hz, rfl⟩ := List.mem_map.1 hu
      show p_value_loose (cl z.2) = some (lo (cl z.2))
      rw [lo_cl z.2 (hp _ (h z hz))]; exact ih _ (h z hz) (hp _ (h z hz))
    have no1 : ∀ u, u ∈ ([] : List Term) → p_value_loose u = some (lo u) := fun u hu => by cases hu
    have no2 : ∀ u, u ∈ ([] : List (Str × Term)) → p_value_loose u.2 = some (lo u.2) := fun u hu => by cases hu
    cases x with
    | nothing => simp [nearE] at hn
    | alien t => simp [nearE] at hn
    | list l =>
      have hb := near_list hn
      rw [cl, clL_map]
      exact loose_step _ (hm l (fun u hu => hu)) no2 (by show (l.map cl).length ≤ _; rw [List.length_map]; omega) (Nat.zero_le _) (Nat.zero_le _)
    | dict l =>
      have hb := near_dict hn
      rw [cl, clD_map]
      exact loose_step _ no1 (hd l (fun u hu => List.mem_map_of_mem hu)) (Nat.zero_le _) (by show (l.map clE).length ≤ _; rw [List.length_map]; omega) (Nat.zero_le _)
    | record c v l =>
      have hb := (near_rec hn).2
      rw [cl, clD_map]
      exact loose_step _ no1 (hd l (fun u hu => List.mem_map_of_mem hu)) (Nat.zero_le _) (by show (l.map clE).length ≤ _; rw [List.length_map]; omega) (Nat.zero_le _)
    | bytes b =>
      rw [cl]
      exact loose_step _ no1 no2 (Nat.zero_le _) (Nat.zero_le _) (by have := near_bytes hn; show b.length ≤ _; omega)
    | _ => rw [cl]; exact loose_step _ no1 no2 (Nat.zero_le _) (Nat.zero_le _) (Nat.zero_le _)
  rw [key, lo_cl x hx]
/-! ### the same term -/
theorem ml_l (l : List Term) (hl : ∀ u, u ∈ l → p_mk_Same (cl (lo u)) u = some true) : ∀ k i, k + i = l.length → mk_Lists_l1 p_mk_Same ((l.map lo).map cl) l i = some true
  | 0, i, h => by
    rw [mk_Lists_l1_eq]
    simp only [mk_Lists_l1b, List.length_map, lt_f (by omega : ¬ i < l.length), cond_false]
  | k + 1, i, h => by
    obtain ⟨x, hx, _⟩ := dropc (by omega : i < l.length)
    have hx2 : ((l.map lo).map cl)[i]? = some (cl (lo x)) := by rw [List.getElem?_map, List.getElem?_map, hx]; rfl
    rw [mk_Lists_l1_eq]
    simp only [mk_Lists_l1b, List.length_map, lt_t (by omega : i < l.length), cond_true, hx, hx2, Option.bind_some, hl x (List.mem_of_getElem? hx), Bool.not_true, cond_false]
    exact ml_l l hl k (i + 1) (by omega)
theorem mn_l (l : List (Str × Term)) (hl : ∀ u, u ∈ l → p_mk_Same (cl (lo u.2)) u.2 = some true) : ∀ k i, k + i = l.length → mk_Entries_l1 p_mk_Same ((l.map loE).map clE) l i = some true
  | 0, i, h => by
    rw [mk_Entries_l1_eq]
    simp only [mk_Entries_l1b, List.length_map, lt_f (by omega : ¬ i < l.length), cond_false]
  | k + 1, i, h => by
    obtain ⟨x, hx, _⟩ := dropc (by omega : i < l.length)
    have hx2 : ((l.map loE).map clE)[i]? = some (x.1, cl (lo x.2)) := by rw [List.getElem?_map, List.getElem?_map, hx]; rfl
    rw [mk_Entries_l1_eq]
    simp only [mk_Entries_l1b, List.length_map, lt_t (by omega : i < l.length), cond_true, hx, hx2, Option.bind_some, hl x (List.mem_of_getElem? hx), beq_self_eq_true, Bool.not_true, cond_false, mk_Entries_j1]
    exact mn_l l hl k (i + 1) (by omega)
theorem same_cl (t : Term) : Fine (lo t) → p_mk_Same (cl (lo t)) t = some true := by
  induction t using Term.byParts with
  | _ t ih =>
  intro hx
  have hp := hx.own.2
  have hn := hx.own.1
  rw [← partsT_lo] at hp
  have hs : ∀ u, u ∈ partsT t → p_mk_Same (cl (lo u)) u = some true := fun u hu => ih u hu (hp _ (List.mem_map_of_mem hu))
  have ne : ∀ a : Int, (a != a) = false := fun a => by simp
  have nn : ∀ a b : Nat, a = b → (((a : Nat) : Int) != ((b : Nat) : Int)) = false := fun a b h => by simp [h]
  have hb := lo_c t
  rw [e_mk_Same, b_mk_Same]
  generalize lo t = x at hb hn
  generalize bu t = y at hb
  cases hb with
  | nothing => simp [nearE] at hn
  | alien => simp [nearE] at hn
  | nil hk => rw [cl]; simp only [Term.kind] at hk ⊢; simp only [hk]; rfl
  | bool hk => rw [cl]; simp only [hk]; simp [mk_Same_j1, Term.kind, Term.bool, hk]
  | int hk => rw [cl]; simp only [hk]; simp [mk_Same_j1, Term.kind, Term.int, hk]
  | float hk => rw [cl]; simp only [hk]; simp [mk_Same_j1, Term.kind, Term.float, hk]
  | text hk => rw [cl]; simp only [hk]; simp [mk_Same_j1, Term.kind, Term.text, hk]
  | bytes hk => rw [cl]; simp only [hk]; simp [mk_Same_j1, Term.kind, Term.bytes, hk]
  | ref hk => rw [cl]; simp only [hk]; simp [mk_Same_j1, Term.kind, Term.ref, hk]
  | list hk =>
    have hm : p_mk_Lists ((t.list.map lo).map cl) t.list = some true := by
      rw [e_mk_Lists, b_mk_Lists, nn _ _ (by simp), cond_false]
      exact ml_l t.list (fun u hu => hs u (by unfold partsT; rw [if_pos hk]; exact hu)) t.list.length 0 (by omega)
    rw [cl, clL_map]; simp only [hk]; simp only [mk_Same_j1]; show Option.bind (p_mk_Lists ((t.list.map lo).map cl) t.list) (fun x => some x) = _; rw [hm]; rfl
  | dict hk =>
    have hm : p_mk_Entries ((t.fields.map loE).map clE) t.fields = some true := by
      rw [e_mk_Entries, b_mk_Entries, nn _ _ (by simp), cond_false]
      exact mn_l t.fields (fun u hu => hs _ (by unfold partsT; rw [if_neg (by omega), if_pos (Or.inl hk)]; exact List.mem_map_of_mem hu)) t.fields.length 0 (by omega)
    rw [cl, clD_map]; simp only [hk]; simp only [mk_Same_j1]; show Option.bind (p_mk_Entries ((t.fields.map loE).map clE) t.fields) (fun x => some x) = _; rw [hm]; rfl
  | record hk =>
    have hm : p_mk_Entries ((t.fields.map loE).map clE) t.fields = some true := by
      rw [e_mk_Entries, b_mk_Entries, nn _ _ (by simp), cond_false]
      exact mn_l t.fields (fun u hu => hs _ (by unfold partsT; rw [if_neg (by omega), if_pos (Or.inr hk)]; exact List.mem_map_of_mem hu)) t.fields.length 0 (by omega)
    rw [cl, clD_map]; simp only [hk]; simp only [mk_Same_j1]; show (bif t.cls == t.cls then bif t.ver == t.ver then Option.bind (p_mk_Entries ((t.fields.map loE).map clE) t.fields) (fun x => some x) else some false else some false) = _; rw [hm, beq_self_eq_true, beq_self_eq_true]; rfl
theorem ordF_self (x : V) : ordF x x = 0 := by
  have h := lexc_neg (key x) (key x)
  rw [ord_key]; omega
theorem plain_ValueBack (a0 : Term) (h : bkT a0 ≤ 1048576) (ok : okT a0) : p_law01_ValueBack a0 = some true := by
  have hb : bkT a0 ≤ 268435456 := by omega
  simp only [p_law01_ValueBack, of_of (value_loose_eq a0 hb), Option.bind_some, ofF]
  by_cases hx : (checkF (lo a0)).2 = 0
  · have hf := check_fine hx
    have hk : (partF (lo a0) 0 0 1).ok = true := by
      have := hf.2
      unfold checkF at hx
      cases hk : (partF (lo a0) 0 0 1).ok with
      | true => rfl
      | false => rw [if_neg (by simp [hk])] at hx; exact absurd hx ((part_facts _ 1 0 0).bad hk)
    have hp : p_value_Plain (lo a0) = some (cl (lo a0), 0) := by
      simp only [p_value_Plain, value_check_eq, hf.2, Option.bind_some, value_plain_eq _ hf.1]; rfl
    have ho : p_value_Of (cl (lo a0)) = some (lo a0, 0) := by rw [of_of (loose_cl _ hf.1), ofF, if_neg (by simp [hx])]
    have hm : p_mk_Is (lo a0) a0 = some true := by
      have h0 := mk_plain_eq (lo a0) 0 0 1 hk (by omega)
      have e : (1 : Int) - 1 = 0 := rfl
      rw [e] at h0
      simp only [p_mk_Is, p_mk_Plain, h0, Option.bind_some, same_cl a0 hf.1]
    have hs : sameF (lo a0) (lo a0) = true := by simp [sameF, hx, ordF_self]
    rw [if_neg (by simp [hx])]
    simp only [hp, ho, hm, Option.bind_some, same_cl a0 hf.1, value_Same_eq, hs]
    rfl
  · rw [if_pos hx]
    rw [lo_check] at hx ⊢
    simp only [ne_t hx, cond_true, ref01_Check_eq a0 hb, Option.bind_some, beq_self_eq_true]
end Go.Proofs.Ythfdpaboekoncaa
