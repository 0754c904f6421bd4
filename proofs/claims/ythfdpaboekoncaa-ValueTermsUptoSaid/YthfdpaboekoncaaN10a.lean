/- The value of a term, as the program makes it. -/
import Derived.Test.YthfdpaboekoncaaN6a
namespace Go.Proofs.Ythfdpaboekoncaa
open Go Aw
set_option linter.unusedVariables false
set_option linter.unusedSimpArgs false
set_option maxRecDepth 8000
/-! ### a value of a term, as the program makes it -/
theorem loA_ex : ∃ a, p_value_loose (.mk 0 false 0 0 [] [] 0 [] [] [] 0) = some (.alien a) := by rw [e_value_loose]; exact ⟨_, rfl⟩
noncomputable def loA : {t : Nat // alienT t = true} := loA_ex.choose
theorem loA_eq : p_value_loose (.mk 0 false 0 0 [] [] 0 [] [] [] 0) = some (.alien loA) := loA_ex.choose_spec
mutual
noncomputable def lo : Term → V
  | .mk k b i f t y r l d c v => if k = 1 then .nil else if k = 2 then .bool b else if k = 3 then .int i else if k = 4 then .float f else if k = 5 then .text t else if k = 6 then .bytes y else if k = 7 then .ref r
    else if k = 8 then .list (loTs l) else if k = 9 then .dict (loEs d) else if k = 10 then .record c v (loEs d) else if k = 11 then .nothing else .alien loA
noncomputable def loTs : List Term → List V
  | [] => []
  | x :: r => lo x :: loTs r
noncomputable def loEs : List (Str × Term) → List (Str × V)
  | [] => []
  | (s, x) :: r => (s, lo x) :: loEs r
end
noncomputable def loE (p : Str × Term) : Str × V := (p.1, lo p.2)
theorem loTs_map : ∀ l, loTs l = l.map lo
  | [] => by rw [loTs]; rfl
  | x :: r => by rw [loTs, loTs_map r]; rfl
theorem loEs_map : ∀ l, loEs l = l.map loE
  | [] => by rw [loEs]; rfl
  | (s, x) :: r => by rw [loEs, loEs_map r]; rfl
theorem lo_names (l : List (Str × Term)) : (l.map loE).map (·.1) = l.map (·.1) := by rw [List.map_map]; rfl
theorem lo_snds (l : List (Str × Term)) : (l.map loE).map (·.2) = (l.map (·.2)).map lo := by rw [List.map_map, List.map_map]; rfl
/-- Two values of one term: built, and made by the program. -/
inductive LoC (t : Term) : V → V → Prop
  | nil : t.kind = 1 → LoC t .nil .nil
  | bool : t.kind = 2 → LoC t (.bool t.bool) (.bool t.bool)
  | int : t.kind = 3 → LoC t (.int t.int) (.int t.int)
  | float : t.kind = 4 → LoC t (.float t.float) (.float t.float)
  | text : t.kind = 5 → LoC t (.text t.text) (.text t.text)
  | bytes : t.kind = 6 → LoC t (.bytes t.bytes) (.bytes t.bytes)
  | ref : t.kind = 7 → LoC t (.ref t.ref) (.ref t.ref)
  | list : t.kind = 8 → LoC t (.list (t.list.map lo)) (.list (t.list.map bu))
  | dict : t.kind = 9 → LoC t (.dict (t.fields.map loE)) (.dict (t.fields.map buE))
  | record : t.kind = 10 → LoC t (.record t.cls t.ver (t.fields.map loE)) (.record t.cls t.ver (t.fields.map buE))
  | nothing : t.kind = 11 → LoC t .nothing .nothing
  | alien : t.kind < 1 ∨ 11 < t.kind → LoC t (.alien loA) (.alien (alT t.int))
theorem lo_c (t : Term) : LoC t (lo t) (bu t) := by
  cases t with
  | mk k b i f t y r l d c v =>
    rw [lo, loTs_map, loEs_map, bu, buTs_map, buEs_map]
    by_cases h1 : k = 1; · rw [if_pos h1, if_pos h1]; exact .nil h1
    rw [if_neg h1, if_neg h1]
    by_cases h2 : k = 2; · rw [if_pos h2, if_pos h2]; exact .bool h2
    rw [if_neg h2, if_neg h2]
    by_cases h3 : k = 3; · rw [if_pos h3, if_pos h3]; exact .int h3
    rw [if_neg h3, if_neg h3]
    by_cases h4 : k = 4; · rw [if_pos h4, if_pos h4]; exact .float h4
    rw [if_neg h4, if_neg h4]
    by_cases h5 : k = 5; · rw [if_pos h5, if_pos h5]; exact .text h5
    rw [if_neg h5, if_neg h5]
    by_cases h6 : k = 6; · rw [if_pos h6, if_pos h6]; exact .bytes h6
    rw [if_neg h6, if_neg h6]
    by_cases h7 : k = 7; · rw [if_pos h7, if_pos h7]; exact .ref h7
    rw [if_neg h7, if_neg h7]
    by_cases h8 : k = 8; · rw [if_pos h8, if_pos h8]; exact .list h8
    rw [if_neg h8, if_neg h8]
    by_cases h9 : k = 9; · rw [if_pos h9, if_pos h9]; exact .dict h9
    rw [if_neg h9, if_neg h9]
    by_cases h10 : k = 10; · rw [if_pos h10, if_pos h10]; exact .record h10
    rw [if_neg h10, if_neg h10]
    by_cases h11 : k = 11; · rw [if_pos h11, if_pos h11]; exact .nothing h11
    rw [if_neg h11, if_neg h11]
    exact .alien (show k < 1 ∨ 11 < k by omega)
theorem partsT_lo (t : Term) : (partsT t).map lo = (lo t).parts := by
  have hb := lo_c t
  unfold partsT
  generalize lo t = x at hb
  generalize bu t = y at hb
  cases hb with
  | list hk => rw [if_pos hk]; rfl
  | dict hk => rw [if_neg (by omega), if_pos (Or.inl hk)]; simp only [V.parts, lo_snds]
  | record hk => rw [if_neg (by omega), if_pos (Or.inr hk)]; simp only [V.parts, lo_snds]
  | _ hk => rw [if_neg (by omega), if_neg (by omega)]; rfl
theorem lo_own (t : Term) (n d : Int) : ownE (lo t) n d = ownE (bu t) n d := by
  have hb := lo_c t
  generalize lo t = x at hb
  generalize bu t = y at hb
  cases hb <;> simp only [ownE, farE, nearE, List.length_map, lo_names, bu_names]
theorem lo_parts (d : Int) : ∀ (l : List Term), (∀ u, u ∈ l → ∀ n dp, partF (lo u) n dp d = partF (bu u) n dp d) → ∀ n dp, partsF (l.map lo) n dp d = partsF (l.map bu) n dp d
  | [], _, n, dp => rfl
  | x :: r, h, n, dp => by
    rw [List.map_cons, List.map_cons, partsF_cons, partsF_cons, h x (by simp)]
    split
    · exact lo_parts d r (fun u hu => h u (by simp [hu])) _ _
    · rfl
theorem lo_part (t : Term) : ∀ n dp d, partF (lo t) n dp d = partF (bu t) n dp d := by
  induction t using Term.byParts with
  | _ t ih =>
  intro n dp d
  rw [partF_eq, partF_eq, lo_own, ← partsT_lo, ← partsT_bu, lo_parts (d + 1) (partsT t) (fun u hu n dp => ih u hu n dp (d + 1))]
theorem lo_check (t : Term) : checkF (lo t) = checkF (bu t) := by unfold checkF; rw [lo_part]
/-! ### the program makes it -/
theorem room_ok {n b : Nat} (hb : b ≤ 1024) (hn : n ≤ 1073741824) : roomO n b = some () := by
  have h1 : n * b ≤ 1073741824 * 1024 := Nat.mul_le_mul hn hb
  unfold roomO
  rw [Nat.ble_eq_true_of_le (by omega), Nat.ble_eq_true_of_le (by omega)]; rfl
theorem ll_l (t : Term) (hl : ∀ u, u ∈ t.list → p_value_loose u = some (lo u)) (hb : t.list.length ≤ 1073741824) : ∀ k i, k + i = t.list.length → value_loose_l1 p_value_loose t ((t.list.take i).map lo) i = some (.list (t.list.map lo))
  | 0, i, h => by
    rw [value_loose_l1_eq]
    simp only [value_loose_l1b, lt_f (by omega : ¬ i < t.list.length), cond_false]
    rw [List.take_of_length_le (by omega)]
  | k + 1, i, h => by
    obtain ⟨x, hx, _⟩ := dropc (by omega : i < t.list.length)
    rw [value_loose_l1_eq]
    simp only [value_loose_l1b, lt_t (by omega : i < t.list.length), cond_true, hx, Option.bind_some, hl x (List.mem_of_getElem? hx), app1 (b := 16) (by omega) (show ((t.list.take i).map lo).length ≤ 1073741824 by simp; omega), take_snoc hx]
    exact ll_l t hl hb k (i + 1) (by omega)
theorem ld_l (l : List (Str × Term)) (hl : ∀ u, u ∈ l → p_value_loose u.2 = some (lo u.2)) (hb : l.length ≤ 1073741824) : ∀ k i, k + i = l.length → value_dict_l1 p_value_loose l ((l.take i).map loE) i = some (l.map loE)
  | 0, i, h => by
    rw [value_dict_l1_eq]
    simp only [value_dict_l1b, lt_f (by omega : ¬ i < l.length), cond_false]
    rw [List.take_of_length_le (by omega)]
  | k + 1, i, h => by
    obtain ⟨x, hx, _⟩ := dropc (by omega : i < l.length)
    rw [value_dict_l1_eq]
    simp only [value_dict_l1b, lt_t (by omega : i < l.length), cond_true, hx, Option.bind_some, hl x (List.mem_of_getElem? hx), app1 (b := 32) (x := (x.1, lo x.2)) (by omega) (show ((l.take i).map loE).length ≤ 1073741824 by simp; omega)]
    have : ((l.take i).map loE) ++ [(x.1, lo x.2)] = (l.take (i + 1)).map loE := take_snoc (f := loE) hx
    rw [this]
    exact ld_l l hl hb k (i + 1) (by omega)
theorem loose_step (t : Term) (hl : ∀ u, u ∈ t.list → p_value_loose u = some (lo u)) (hf : ∀ u, u ∈ t.fields → p_value_loose u.2 = some (lo u.2))
    (b1 : t.list.length ≤ 1073741824) (b2 : t.fields.length ≤ 1073741824) (b3 : t.bytes.length ≤ 1073741824) : p_value_loose t = some (lo t) := by
  have hd : p_value_dict t.fields = some (t.fields.map loE) := by
    rw [e_value_dict, b_value_dict, room_ok (by omega) b2]
    exact ld_l t.fields hf b2 t.fields.length 0 (by omega)
  have hll : value_loose_l1 p_value_loose t [] 0 = some (.list (t.list.map lo)) := ll_l t hl b1 t.list.length 0 (by omega)
  have hr := room_ok (b := 16) (by omega) b1
  have hb := lo_c t
  rw [e_value_loose, b_value_loose]
  generalize lo t = x at hb
  generalize bu t = y at hb
  cases hb with
  | bytes hk => simp only [hk, app0 (by omega : 1 ≤ 1024) b3]; rfl
  | list hk => simp only [hk, hll, hr]; rfl
  | dict hk => simp only [hk, hd]; rfl
  | record hk => simp only [hk, hd]; rfl
  | alien hk =>
    have e : ∀ k : Int, 1 ≤ k → k ≤ 11 → (t.kind == k) = false := fun k h1 h2 => by simp; omega
    simp only [e 1 (by omega) (by omega), e 2 (by omega) (by omega), e 3 (by omega) (by omega), e 4 (by omega) (by omega), e 5 (by omega) (by omega), e 6 (by omega) (by omega), e 7 (by omega) (by omega), e 8 (by omega) (by omega),
      e 9 (by omega) (by omega), e 10 (by omega) (by omega), e 11 (by omega) (by omega), cond_false]
    rw [← loA_eq, e_value_loose]; rfl
  | _ hk => simp only [hk]; rfl
theorem value_loose_eqN : ∀ (n : Nat) (t : Term), bkT t ≤ n → n ≤ 268435456 → p_value_loose t = some (lo t) := by
  intro n
  induction n with
  | zero => intro t h _; have := bkT_mk t; omega
  | succ n ih =>
    intro t h hn
    exact loose_step t (fun u hu => ih u (by have := bk_list hu; omega) (by omega)) (fun u hu => ih u.2 (by have := bk_fields hu; omega) (by omega))
      (by have := len_list t; omega) (by have := len_fields t; omega) (by have := len_bytes t; omega)
theorem value_loose_eq (t : Term) (h : bkT t ≤ 268435456) : p_value_loose t = some (lo t) := value_loose_eqN _ t h (Nat.le_refl _)
noncomputable def ofF (x : V) : V × Int := if (checkF x).2 ≠ 0 then (.nil, (checkF x).2) else (x, 0)
theorem of_of {t : Term} {x : V} (h : p_value_loose t = some x) : p_value_Of t = some (ofF x) := by
  simp only [p_value_Of, h, Option.bind_some, value_check_eq, ofF]
  by_cases hx : (checkF x).2 = 0
  · rw [if_neg (by simp [hx]), hx]; rfl
  · rw [if_pos hx, ne_t hx]; rfl
end Go.Proofs.Ythfdpaboekoncaa
