/- Parts, counted: the program's count and the document's. -/
import Derived.Test.YthfdpaboekoncaaN2
namespace Go.Proofs.Ythfdpaboekoncaa
open Go Aw
set_option linter.unusedVariables false
set_option linter.unusedSimpArgs false
set_option maxRecDepth 8000
/-- What a count tells: all was well, the parts, the depth, what is wrong. -/
structure Ct where
  ok : Bool
  n : Int
  dp : Int
  why : Int
mutual
def partF : V → Int → Int → Int → Ct
  | .list l, n, dp, d => if ownE (.list l) n d = 0 then partsF l (n + 1) (max dp d) (d + 1) else ⟨false, n, dp, ownE (.list l) n d⟩
  | .dict l, n, dp, d => if ownE (.dict l) n d = 0 then fieldsF l (n + 1) (max dp d) (d + 1) else ⟨false, n, dp, ownE (.dict l) n d⟩
  | .record c v l, n, dp, d => if ownE (.record c v l) n d = 0 then fieldsF l (n + 1) (max dp d) (d + 1) else ⟨false, n, dp, ownE (.record c v l) n d⟩
  | x, n, dp, d => if ownE x n d = 0 then ⟨true, n + 1, max dp d, 0⟩ else ⟨false, n, dp, ownE x n d⟩
def partsF : List V → Int → Int → Int → Ct
  | [], n, dp, d => ⟨true, n, dp, 0⟩
  | x :: r, n, dp, d => if (partF x n dp d).ok then partsF r (partF x n dp d).n (partF x n dp d).dp d else partF x n dp d
def fieldsF : List (Str × V) → Int → Int → Int → Ct
  | [], n, dp, d => ⟨true, n, dp, 0⟩
  | (s, x) :: r, n, dp, d => if (partF x n dp d).ok then fieldsF r (partF x n dp d).n (partF x n dp d).dp d else partF x n dp d
end
def V.parts : V → List V
  | .list l => l
  | .dict l => l.map (·.2)
  | .record _ _ l => l.map (·.2)
  | _ => []
theorem fieldsF_map : ∀ (l : List (Str × V)) (n dp d : Int), fieldsF l n dp d = partsF (l.map (·.2)) n dp d
  | [], n, dp, d => by simp only [fieldsF, partsF, List.map_nil]
  | (s, x) :: r, n, dp, d => by simp only [fieldsF, partsF, List.map_cons, fieldsF_map r]
theorem partF_eq (x : V) (n dp d : Int) : partF x n dp d = if ownE x n d = 0 then partsF x.parts (n + 1) (max dp d) (d + 1) else ⟨false, n, dp, ownE x n d⟩ := by
  cases x <;> simp only [partF, V.parts, fieldsF_map, partsF]
theorem partsF_cons (x : V) (r : List V) (n dp d : Int) : partsF (x :: r) n dp d = if (partF x n dp d).ok then partsF r (partF x n dp d).n (partF x n dp d).dp d else partF x n dp d := by simp only [partsF]
theorem partsF_nil (n dp d : Int) : partsF [] n dp d = ⟨true, n, dp, 0⟩ := by simp only [partsF]
theorem far_ne (x : V) : farE x ≠ 0 := by cases x <;> simp [farE]
theorem own_zero {x : V} {n d : Int} (h : ownE x n d = 0) : n < 16384 ∧ d ≤ 64 ∧ nearE x = 0 := by
  unfold ownE at h
  split at h
  · exact absurd h (far_ne x)
  · rename_i hc; exact ⟨by omega, by omega, h⟩
theorem parts_lt {x y : V} (h : y ∈ x.parts) : SizeOf.sizeOf y < SizeOf.sizeOf x := by
  cases x <;> simp only [V.parts, List.not_mem_nil] at h
  · have := List.sizeOf_lt_of_mem h; simp; omega
  · obtain ⟨⟨s, z⟩, hz, rfl⟩ := List.mem_map.1 h
    have := List.sizeOf_lt_of_mem hz; simp at this ⊢; omega
  · obtain ⟨⟨s, z⟩, hz, rfl⟩ := List.mem_map.1 h
    have := List.sizeOf_lt_of_mem hz; simp at this ⊢; omega
/-- By a value's parts. -/
theorem V.byParts {P : V → Prop} (h : ∀ x, (∀ y, y ∈ x.parts → P y) → P x) (x : V) : P x :=
  h x (fun y hy => V.byParts h y)
termination_by SizeOf.sizeOf x
decreasing_by exact parts_lt hy
/-- What is always so of a count. -/
structure CtOk (c : Ct) (n : Int) : Prop where
  lo : n ≤ c.n
  ok : c.ok = true → c.n ≤ 16384 ∧ c.why = 0
  bad : c.ok = false → c.why ≠ 0
theorem parts_facts {d : Int} : ∀ (l : List V), (∀ y, y ∈ l → ∀ n dp, CtOk (partF y n dp d) n) → ∀ n dp, n ≤ 16384 → CtOk (partsF l n dp d) n
  | [], _, n, dp, hm => by rw [partsF_nil]; exact ⟨Int.le_refl _, fun _ => ⟨hm, rfl⟩, by simp⟩
  | x :: r, h, n, dp, hm => by
    have h1 := h x (by simp) n dp
    rw [partsF_cons]
    split
    · rename_i hk
      have h2 := parts_facts r (fun y hy => h y (by simp [hy])) _ (partF x n dp d).dp (h1.ok hk).1
      exact ⟨Int.le_trans h1.lo h2.lo, h2.ok, h2.bad⟩
    · exact h1
theorem part_facts (x : V) : ∀ d n dp, CtOk (partF x n dp d) n := by
  induction x using V.byParts with
  | _ x ih =>
  intro d n dp
  rw [partF_eq]
  split
  · rename_i h
    have := own_zero h
    have h2 := parts_facts x.parts (fun y hy n dp => ih y hy (d + 1) n dp) (n + 1) (max dp d) (by omega)
    exact ⟨by have := h2.lo; omega, h2.ok, h2.bad⟩
  · rename_i h; exact ⟨Int.le_refl _, by simp, fun _ => h⟩
/-! ### the program's -/
def ctS (c : Ct) : Bool × S_value_count := (c.ok, ⟨c.n, c.dp, c.why⟩)
def PartOk (x : V) : Prop := ∀ n dp w d, -4611686018427387904 ≤ n → n ≤ 16384 → -4611686018427387904 ≤ d → d ≤ 65 → p_value_count_part ⟨n, dp, w⟩ x d = some (ctS (partF x n dp d))
theorem cp_l (l : List V) (d : Int) (hl : ∀ y, y ∈ l → PartOk y) (hd : -4611686018427387904 ≤ d) (hd' : d ≤ 64) : ∀ k i n dp, k + i = l.length → -4611686018427387904 ≤ n → n ≤ 16384 → value_count_part_l1 p_value_count_part (.list l) d i n dp 0 = some (ctS (partsF (l.drop i) n dp (d + 1)))
  | 0, i, n, dp, h, hn, hm => by
    rw [value_count_part_l1_eq]
    simp only [value_count_part_l1b, V.asList, lt_f (by omega : ¬ i < l.length), cond_false, value_count_part_j1]
    rw [List.drop_of_length_le (by omega), partsF_nil]; rfl
  | k + 1, i, n, dp, h, hn, hm => by
    obtain ⟨x, hx, hdr⟩ := dropc (by omega : i < l.length)
    have hp := hl x (List.mem_of_getElem? hx) n dp 0 (d + 1) hn hm (by omega) (by omega)
    have hw : IntKind.i64.wrap (d + 1) = d + 1 := w64_in (by omega) (by omega)
    rw [value_count_part_l1_eq]
    simp only [value_count_part_l1b, V.asList, lt_t (by omega : i < l.length), cond_true, hx, Option.bind_some, hw, hp, ctS]
    rw [hdr, partsF_cons]
    have hf := part_facts x (d + 1) n dp
    cases hk : (partF x n dp (d + 1)).ok with
    | false => simp only [Bool.not_false, cond_true, Bool.false_eq_true, if_false, hk]
    | true =>
      have h1 := hf.ok hk
      have h2 := hf.lo
      simp only [Bool.not_true, cond_false, if_true]
      rw [h1.2, cp_l l d hl hd hd' k (i + 1) _ _ (by omega) (by omega) h1.1]; rfl
theorem ca_l (l : List (Str × V)) (d : Int) (hl : ∀ y, y ∈ l.map (·.2) → PartOk y) (hd : -4611686018427387904 ≤ d) (hd' : d ≤ 64) : ∀ k i n dp, k + i = l.length → -4611686018427387904 ≤ n → n ≤ 16384 → value_count_all_l1 p_value_count_part l d i n dp 0 = some (ctS (partsF ((l.map (·.2)).drop i) n dp (d + 1)))
  | 0, i, n, dp, h, hn, hm => by
    rw [value_count_all_l1_eq]
    simp only [value_count_all_l1b, lt_f (by omega : ¬ i < l.length), cond_false]
    rw [List.drop_of_length_le (by simp; omega), partsF_nil]; rfl
  | k + 1, i, n, dp, h, hn, hm => by
    obtain ⟨x, hx, _⟩ := dropc (by omega : i < l.length)
    have hx2 : (l.map (·.2))[i]? = some x.2 := by rw [List.getElem?_map, hx]; rfl
    obtain ⟨x', hx', hdr⟩ := dropc (by rw [List.length_map]; omega : i < (l.map (·.2)).length)
    rw [hx2] at hx'; injection hx' with hx'; subst hx'
    have hp := hl x.2 (List.mem_of_getElem? hx2) n dp 0 (d + 1) hn hm (by omega) (by omega)
    have hw : IntKind.i64.wrap (d + 1) = d + 1 := w64_in (by omega) (by omega)
    rw [value_count_all_l1_eq]
    simp only [value_count_all_l1b, lt_t (by omega : i < l.length), cond_true, hx, Option.bind_some, hw, hp, ctS]
    rw [hdr, partsF_cons]
    have hf := part_facts x.2 (d + 1) n dp
    cases hk : (partF x.2 n dp (d + 1)).ok with
    | false => simp only [Bool.not_false, cond_true, Bool.false_eq_true, if_false, hk]
    | true =>
      have h1 := hf.ok hk
      have h2 := hf.lo
      simp only [Bool.not_true, cond_false, if_true]
      rw [h1.2, ca_l l d hl hd hd' k (i + 1) _ _ (by omega) (by omega) h1.1]; rfl
theorem value_count_all_eq (l : List (Str × V)) (d n dp : Int) (hl : ∀ y, y ∈ l.map (·.2) → PartOk y) (hd : -4611686018427387904 ≤ d) (hd' : d ≤ 64) (hn : -4611686018427387904 ≤ n) (hm : n ≤ 16384) : p_value_count_all ⟨n, dp, 0⟩ l d = some (ctS (partsF (l.map (·.2)) n dp (d + 1))) := by
  rw [e_value_count_all, b_value_count_all]
  exact ca_l l d hl hd hd' l.length 0 n dp (by omega) hn hm
theorem value_count_part_eq (x : V) : PartOk x := by
  induction x using V.byParts with
  | _ x ih =>
  intro n dp w d hn hm hd hd'
  rw [e_value_count_part, b_value_count_part, partF_eq]
  simp only [value_own_eq, Option.bind_some]
  by_cases h : ownE x n d = 0
  · have h0 := own_zero h
    have hw : IntKind.i64.wrap (n + 1) = n + 1 := w64_in (by omega) (by omega)
    have hmx : (if d > dp then d else dp) = max dp d := by omega
    rw [if_pos h, h, hw, hmx]
    have e0 : ((0 : Int) != 0) = false := rfl
    rw [e0, cond_false]
    cases x with
    | list l => exact cp_l l d ih hd (by omega) l.length 0 (n + 1) (max dp d) (by omega) (by omega) (by omega)
    | dict l =>
      show Option.bind (p_value_count_all ⟨n + 1, max dp d, 0⟩ l d) (fun x => some (x.1, x.2)) = _
      rw [value_count_all_eq l d _ _ ih hd (by omega) (by omega) (by omega)]; rfl
    | record c v l =>
      show Option.bind (p_value_count_all ⟨n + 1, max dp d, 0⟩ l d) (fun x => some (x.1, x.2)) = _
      rw [value_count_all_eq l d _ _ ih hd (by omega) (by omega) (by omega)]; rfl
    | nothing => have := h0.2.2; simp [nearE] at this
    | _ => simp only [V.parts, partsF_nil]; rfl
  · rw [if_neg h]
    have e0 : (ownE x n d != 0) = true := by simpa using h
    rw [e0]; rfl
def checkF (x : V) : Int × Int := if (partF x 0 0 1).ok then (0, 0) else ((partF x 0 0 1).n, (partF x 0 0 1).why)
def sizeF (x : V) : Int × Int × Int := if (partF x 0 0 1).ok then ((partF x 0 0 1).n, (partF x 0 0 1).dp, 0) else (0, 0, (partF x 0 0 1).why)
theorem value_check_eq (x : V) : p_value_check x = some (checkF x) := by
  simp only [p_value_check, value_count_part_eq x 0 0 0 1 (by omega) (by omega) (by omega) (by omega), Option.bind_some, ctS, checkF]
  cases (partF x 0 0 1).ok <;> rfl
theorem value_Check_eq (x : V) : p_value_Check x = some (checkF x) := by simp only [p_value_Check, value_check_eq, Option.bind_some]
/-! ### the document's -/
def partsT (t : Term) : List Term := if t.kind = 8 then t.list else if t.kind = 9 ∨ t.kind = 10 then t.fields.map (·.2) else []
theorem partsT_bu (t : Term) : (partsT t).map bu = (bu t).parts := by
  have hb := bu_c t
  unfold partsT
  generalize bu t = x at hb
  cases hb with
  | list hk => rw [if_pos hk]; rfl
  | dict hk => rw [if_neg (by omega), if_pos (Or.inl hk)]; simp only [V.parts, bu_snds]
  | record hk => rw [if_neg (by omega), if_pos (Or.inr hk)]; simp only [V.parts, bu_snds]
  | _ hk => rw [if_neg (by omega), if_neg (by omega)]; rfl
theorem partsT_lt {t u : Term} (h : u ∈ partsT t) : SizeOf.sizeOf u < SizeOf.sizeOf t := by
  cases t with
  | mk k b i f s y r l d c v =>
  unfold partsT at h
  split at h
  · have := List.sizeOf_lt_of_mem h; simp [Term.list] at this ⊢; omega
  · split at h
    · obtain ⟨⟨s, z⟩, hz, rfl⟩ := List.mem_map.1 h
      have := List.sizeOf_lt_of_mem hz; simp [Term.fields] at this ⊢; omega
    · cases h
theorem Term.byParts {P : Term → Prop} (h : ∀ t, (∀ u, u ∈ partsT t → P u) → P t) (t : Term) : P t :=
  h t (fun u hu => Term.byParts h u)
termination_by SizeOf.sizeOf t
decreasing_by exact partsT_lt hu
end Go.Proofs.Ythfdpaboekoncaa
