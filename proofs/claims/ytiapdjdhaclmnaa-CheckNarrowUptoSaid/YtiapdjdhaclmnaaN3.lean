/- Parts, counted: the program's count and the document's. -/
import Derived.Test.YtiapdjdhaclmnaaN2
namespace Go.Proofs.Ytiapdjdhaclmnaa
open Go Aw
set_option linter.unusedVariables false
set_option linter.unusedSimpArgs false
set_option maxRecDepth 8000
/-- What a count tells: all was well, the parts, the depth, what is wrong. -/
structure Ct where
  ok : Bool
  n : Int
  dp : Int
  why : Int
mutual
def partF : V → Int → Int → Int → Ct
  | .list l, n, dp, d => if ownE (.list l) n d = 0 then partsF l (n + 1) (max dp d) (d + 1) else ⟨false, n, dp, ownE (.list l) n d⟩
  | .dict l, n, dp, d => if ownE (.dict l) n d = 0 then fieldsF l (n + 1) (max dp d) (d + 1) else ⟨false, n, dp, ownE (.dict l) n d⟩
  | .record c v l, n, dp, d => if ownE (.record c v l) n d = 0 then fieldsF l (n + 1) (max dp d) (d + 1) else ⟨false, n, dp, ownE (.record c v l) n d⟩
  | x, n, dp, d => if ownE x n d = 0 then ⟨true, n + 1, max dp d, 0⟩ else ⟨false, n, dp, ownE x n d⟩
def partsF : List V → Int → Int → Int → Ct
  | [], n, dp, d => ⟨true, n, dp, 0⟩
  | x :: r, n, dp, d => if (partF x n dp d).ok then partsF r (partF x n dp d).n (partF x n dp d).dp d else partF x n dp d
def fieldsF : List (Str × V) → Int → Int → Int → Ct
  | [], n, dp, d => ⟨true, n, dp, 0⟩
  | (s, x) :: r, n, dp, d => if (partF x n dp d).ok then fieldsF r (partF x n dp d).n (partF x n dp d).dp d else partF x n dp d
end
def V.parts : V → List V
  | .list l => l
  | .dict l => l.map (·.2)
  | .record _ _ l => l.map (·.2)
  | _ => []
theorem fieldsF_map : ∀ (l : List (Str × V)) (n dp d : Int), fieldsF l n dp d = partsF (l.map (·.2)) n dp d
  | [], n, dp, d => by simp only [fieldsF, partsF, List.map_nil]
  | (s, x) :: r, n, dp, d => by simp only [fieldsF, partsF, List.map_cons, fieldsF_map r]
theorem partF_eq (x : V) (n dp d : Int) : partF x n dp d = if ownE x n d = 0 then partsF x.parts (n + 1) (max dp d) (d + 1) else ⟨false, n, dp, ownE x n d⟩ := by
  cases x <;> simp only [partF, V.parts, fieldsF_map, partsF]
theorem partsF_cons (x : V) (r : List V) (n dp d : Int) : partsF (x :: r) n dp d = if (partF x n dp d).ok then partsF r (partF x n dp d).n (partF x n dp d).dp d else partF x n dp d := by simp only [partsF]
theorem partsF_nil (n dp d : Int) : partsF [] n dp d = ⟨true, n, dp, 0⟩ := by simp only [partsF]
theorem far_ne (x : V) : farE x ≠ 0 := by cases x <;> simp [farE]
theorem own_zero {x : V} {n d : Int} (h : ownE x n d = 0) : n < 16384 ∧ d ≤ 64 ∧ nearE x = 0 := by
  unfold ownE at h
  split at h
  · exact absurd h (far_ne x)
  · rename_i hc; exact ⟨by omega, by omega, h⟩
theorem parts_lt {x y : V} (h : y ∈ x.parts) : SizeOf.sizeOf y < SizeOf.sizeOf x := by
  cases x <;> simp only [V.parts, List.not_mem_nil] at h
  · have := List.sizeOf_lt_of_mem h; simp; omega
  · obtain ⟨⟨s, z⟩, hz, rfl⟩ := List.mem_map.1 h
    have := List.sizeOf_lt_of_mem hz; simp at this ⊢; omega
  · obtain ⟨⟨s, z⟩, hz, rfl⟩ := List.mem_map.1 h
    have := List.sizeOf_lt_of_mem hz; simp at this ⊢; omega
/-- By a value's parts. -/
theorem V.byParts {P : V → Prop} (h : ∀ x, (∀ y, y ∈ x.parts → P y) → P x) (x : V) : P x :=
  h x (fun y hy => V.byParts h y)
termination_by SizeOf.sizeOf x
decreasing_by exact parts_lt hy
/-- What is always so of a count. -/
structure CtOk (c : Ct) (n : Int) : Prop where
  lo : n ≤ c.n
  ok : c.ok = true → c.n ≤ 16384 ∧ c.why = 0
  bad : c.ok = false → c.why ≠ 0
theorem parts_facts {d : Int} : ∀ (l : List V), (∀ y, y ∈ l → ∀ n dp, CtOk (partF y n dp d) n) → ∀ n dp, n ≤ 16384 → CtOk (partsF l n dp d) n
  | [], _, n, dp, hm => by rw [partsF_nil]; exact ⟨Int.le_refl _, fun _ => ⟨hm, rfl⟩, by simp⟩
  | x :: r, h, n, dp, hm => by
    have h1 := h x (by simp) n dp
    rw [partsF_cons]
    split
    · rename_i hk
      have h2 := parts_facts r (fun y hy => h y (by simp [hy])) _ (partF x n dp d).dp (h1.ok hk).1
      exact ⟨Int.le_trans h1.lo h2.lo, h2.ok, h2.bad⟩
    · exact h1
theorem part_facts (x : V) : ∀ d n dp, CtOk (partF x n dp d) n := by
  induction x using V.byParts with
  | _ x ih =>
  intro d n dp
  rw [partF_eq]
  split
  · rename_i h
    have := own_zero h
    have h2 := parts_facts x.parts (fun y hy n dp => ih y hy (d + 1) n dp) (n + 1) (max dp d) (by omega)
    exact ⟨by have := h2.lo; omega, h2.ok, h2.bad⟩
  · rename_i h; exact ⟨Int.le_refl _, by simp, fun _ => h⟩
/-! ### the program's -/
def ctS (c : Ct) : Bool × S_value_count := (c.ok, ⟨c.n, c.dp, c.why⟩)
def PartOk (x : V) : Prop := ∀ n dp w d, -4611686018427387904 ≤ n → n ≤ 16384 → -4611686018427387904 ≤ d → d ≤ 65 → p_value_count_part ⟨n, dp, w⟩ x d = some (ctS (partF x n dp d))
theorem cp_l (l : List V) (d : Int) (hl : ∀ y, y ∈ l → PartOk y) (hd : -4611686018427387904 ≤ d) (hd' : d ≤ 64) : ∀ k i n dp, k + i = l.length → -4611686018427387904 ≤ n → n ≤ 16384 → value_count_part_l1 p_value_count_part (.list l) d i n dp 0 = some (ctS (partsF (l.drop i) n dp (d + 1)))
  | 0, i, n, dp, h, hn, hm => by
    rw [value_count_part_l1_eq]
    simp only [value_count_part_l1b, V.asList, lt_f (by omega : ¬ i < l.length), cond_false, value_count_part_j1]
    rw [List.drop_of_length_le (by omega), partsF_nil]; rfl
  | k + 1, i, n, dp, h, hn, hm => by
    obtain ⟨x, hx, hdr⟩ := dropc (by omega : i < l.length)
    have hp := hl x (List.mem_of_getElem? hx) n dp 0 (d + 1) hn hm (by omega) (by omega)
    have hw : IntKind.i64.wrap (d + 1) = d + 1 := w64_in (by omega) (by omega)
    rw [value_count_part_l1_eq]
    simp only [value_count_part_l1b, V.asList, lt_t (by omega : i < l.length), cond_true, hx, Option.bind_some, hw, hp, ctS]
    rw [hdr, partsF_cons]
    have hf := part_facts x (d + 1) n dp
    cases hk : (partF x n dp (d + 1)).ok with
    | false => simp only [Bool.not_false, cond_true, Bool.false_eq_true, if_false, hk]
    | true =>
      have h1 := hf.ok hk
      have h2 := hf.lo
      simp only [Bool.not_true, cond_false, if_true]
      rw [h1.2, cp_l l d hl hd hd' k (i + 1) _ _ (by omega) (by omega) h1.1]; rfl
theorem ca_l (l : List (Str × V)) (d : Int) (hl : ∀ y, y ∈ l.map (·.2) → PartOk y) (hd : -4611686018427387904 ≤ d) (hd' : d ≤ 64) : ∀ k i n dp, k + i = l.length → -4611686018427387904 ≤ n → n ≤ 16384 → value_count_all_l1 p_value_count_part l d i n dp 0 = some (ctS (partsF ((l.map (·.2)).drop i) n dp (d + 1)))
  | 0, i, n, dp, h, hn, hm => by
    rw [value_count_all_l1_eq]
    simp only [value_count_all_l1b, lt_f (by omega : ¬ i < l.length), cond_false]
    rw [List.drop_of_length_le (by simp; omega), partsF_nil]; rfl
  | k + 1, i, n, dp, h, hn, hm => by
    obtain ⟨x, hx, _⟩ := dropc (by omega : i < l.length)
    have hx2 : (l.map (·.2))[i]? = some x.2 := by rw [List.getElem?_map, hx]; rfl
    obtain ⟨x', hx', hdr⟩ := dropc (by rw [List.length_map]; omega : i < (l.map (·.2)).length)
    rw [hx2] at hx'; injection hx' with hx'; subst hx'
    have hp := hl x.2 (List.mem_of_getElem? hx2) n dp 0 (d + 1) hn hm (by omega) (by omega)
    have hw : IntKind.i64.wrap (d + 1) = d + 1 := w64_in (by omega) (by omega)
    rw [value_count_all_l1_eq]
    simp only [value_count_all_l1b, lt_t (by omega : i < l.length), cond_true, hx, Option.bind_some, hw, hp, ctS]
    rw [hdr, partsF_cons]
    have hf := part_facts x.2 (d + 1) n dp
    cases hk : (partF x.2 n dp (d + 1)).ok with
    | false => simp only [Bool.not_false, cond_true, Bool.false_eq_true, if_false, hk]
    | true =>
      have h1 := hf.ok hk
      have h2 := hf.lo
      simp only [Bool.not_true, cond_false, if_true]
      rw [h1.2, ca_l l d hl hd hd' k (i + 1) _ _ (by omega) (by omega) h1.1]; rfl
theorem value_count_all_eq (l : List (Str × V)) (d n dp : Int) (hl : ∀ y, y ∈ l.map (·.2) → PartOk y) (hd : -4611686018427387904 ≤ d) (hd' : d ≤ 64) (hn : -4611686018427387904 ≤ n) (hm : n ≤ 16384) : p_value_count_all ⟨n, dp, 0⟩ l d = some (ctS (partsF (l.map (·.2)) n dp (d + 1))) := by
  rw [e_value_count_all, b_value_count_all]
  exact ca_l l d hl hd hd' l.length 0 n dp (by omega) hn hm
theorem value_count_part_eq (x : V) : PartOk x := by
  induction x using V.byParts with
  | _ x ih =>
  intro n dp w d hn hm hd hd'
  rw [e_value_count_part, b_value_count_part, partF_eq]
  simp only [value_own_eq, Option.bind_some]
  by_cases h : ownE x n d = 0
  · have h0 := own_zero h
    have hw : IntKind.i64.wrap (n + 1) = n + 1 := w64_in (by omega) (by omega)
    have hmx : (if d > dp then d else dp) = max dp d := by omega
    rw [if_pos h, h, hw, hmx]
    have e0 : ((0 : Int) != 0) = false := rfl
    rw [e0, cond_false]
    cases x with
    | list l => exact cp_l l d ih hd (by omega) l.length 0 (n + 1) (max dp d) (by omega) (by omega) (by omega)
    | dict l =>
      show Option.bind (p_value_count_all ⟨n + 1, max dp d, 0⟩ l d) (fun x => some (x.1, x.2)) = _
      rw [value_count_all_eq l d _ _ ih hd (by omega) (by omega) (by omega)]; rfl
    | record c v l =>
      show Option.bind (p_value_count_all ⟨n + 1, max dp d, 0⟩ l d) (fun x => some (x.1, x.2)) = _
      rw [value_count_all_eq l d _ _ ih hd (by omega) (by omega) (by omega)]; rfl
    | nothing => have := h0.2.2; simp [nearE] at this
    | _ => simp only [V.parts, partsF_nil]; rfl
  · rw [if_neg h]
    have e0 : (ownE x n d != 0) = true := by simpa using h
    rw [e0]; rfl
def checkF (x : V) : Int × Int := if (partF x 0 0 1).ok then (0, 0) else ((partF x 0 0 1).n, (partF x 0 0 1).why)
def sizeF (x : V) : Int × Int × Int := if (partF x 0 0 1).ok then ((partF x 0 0 1).n, (partF x 0 0 1).dp, 0) else (0, 0, (partF x 0 0 1).why)
theorem value_check_eq (x : V) : p_value_check x = some (checkF x) := by
  simp only [p_value_check, value_count_part_eq x 0 0 0 1 (by omega) (by omega) (by omega) (by omega), Option.bind_some, ctS, checkF]
  cases (partF x 0 0 1).ok <;> rfl
theorem value_Check_eq (x : V) : p_value_Check x = some (checkF x) := by simp only [p_value_Check, value_check_eq, Option.bind_some]
theorem value_Size_eq (x : V) : p_value_Size x = some (sizeF x) := by
  simp only [p_value_Size, value_count_part_eq x 0 0 0 1 (by omega) (by omega) (by omega) (by omega), Option.bind_some, ctS, sizeF]
  cases (partF x 0 0 1).ok <;> rfl
/-! ### the document's -/
def partsT (t : Term) : List Term := if t.kind = 8 then t.list else if t.kind = 9 ∨ t.kind = 10 then t.fields.map (·.2) else []
theorem partsT_bu (t : Term) : (partsT t).map bu = (bu t).parts := by
  have hb := bu_c t
  unfold partsT
  generalize bu t = x at hb
  cases hb with
  | list hk => rw [if_pos hk]; rfl
  | dict hk => rw [if_neg (by omega), if_pos (Or.inl hk)]; simp only [V.parts, bu_snds]
  | record hk => rw [if_neg (by omega), if_pos (Or.inr hk)]; simp only [V.parts, bu_snds]
  | _ hk => rw [if_neg (by omega), if_neg (by omega)]; rfl
theorem rp_l (t : Term) (hb : t.fields.length ≤ 268435456) : ∀ k i acc, k + i = t.fields.length → acc.length = i → ref01_Parts_l1 t acc i = some (acc ++ (t.fields.map (·.2)).drop i)
  | 0, i, acc, h, ha => by
    rw [ref01_Parts_l1_eq]
    simp only [ref01_Parts_l1b, lt_f (by omega : ¬ i < t.fields.length), cond_false, ref01_Parts_j1]
    rw [List.drop_of_length_le (by simp; omega), List.append_nil]
  | k + 1, i, acc, h, ha => by
    obtain ⟨x, hx, _⟩ := dropc (by omega : i < t.fields.length)
    have hx2 : (t.fields.map (·.2))[i]? = some x.2 := by rw [List.getElem?_map, hx]; rfl
    obtain ⟨x', hx', hdr⟩ := dropc (by rw [List.length_map]; omega : i < (t.fields.map (·.2)).length)
    rw [hx2] at hx'; injection hx' with hx'; subst hx'
    have hap : appO 152 acc [x.2] = some (acc ++ [x.2]) := by
      unfold appO; rw [Nat.ble_eq_true_of_le (by simp; omega)]; rfl
    rw [ref01_Parts_l1_eq]
    simp only [ref01_Parts_l1b, lt_t (by omega : i < t.fields.length), cond_true, hx, Option.bind_some, hap]
    rw [rp_l t hb k (i + 1) (acc ++ [x.2]) (by omega) (by simp [ha]), hdr]; simp
theorem ref01_Parts_eq (t : Term) (hb : t.fields.length ≤ 268435456) : p_ref01_Parts t = some (partsT t) := by
  unfold partsT p_ref01_Parts
  by_cases h8 : t.kind = 8
  · rw [if_pos h8, h8]; rfl
  · have e8 : (t.kind == 8) = false := by simpa using h8
    rw [if_neg h8, e8, cond_false]
    have hl : ref01_Parts_j2 t true = some (t.fields.map (·.2)) := rp_l t hb t.fields.length 0 [] (by omega) rfl
    by_cases h9 : t.kind = 9
    · rw [if_pos (Or.inl h9), h9]; exact hl
    · have e9 : (t.kind == 9) = false := by simpa using h9
      rw [e9, cond_false]
      by_cases h10 : t.kind = 10
      · rw [if_pos (Or.inr h10), h10]; exact hl
      · have e10 : (t.kind == 10) = false := by simpa using h10
        rw [if_neg (by omega), e10]; rfl
theorem partsT_lt {t u : Term} (h : u ∈ partsT t) : SizeOf.sizeOf u < SizeOf.sizeOf t := by
  cases t with
  | mk k b i f s y r l d c v =>
  unfold partsT at h
  split at h
  · have := List.sizeOf_lt_of_mem h; simp [Term.list] at this ⊢; omega
  · split at h
    · obtain ⟨⟨s, z⟩, hz, rfl⟩ := List.mem_map.1 h
      have := List.sizeOf_lt_of_mem hz; simp [Term.fields] at this ⊢; omega
    · cases h
theorem Term.byParts {P : Term → Prop} (h : ∀ t, (∀ u, u ∈ partsT t → P u) → P t) (t : Term) : P t :=
  h t (fun u hu => Term.byParts h u)
termination_by SizeOf.sizeOf t
decreasing_by exact partsT_lt hu
def seS (c : Ct) (a : Int) : S_ref01_seen := if c.ok then ⟨c.n, c.dp, a, 0⟩ else ⟨c.n, c.dp, c.n, c.why⟩
def SeenOk (t : Term) : Prop := ∀ n dp a d, -4611686018427387904 ≤ n → n ≤ 16384 → -4611686018427387904 ≤ d → d ≤ 65 → p_ref01_seen_part ⟨n, dp, a, 0⟩ t d = some (seS (partF (bu t) n dp d) a)
theorem sp_l (l : List Term) (a d : Int) (hl : ∀ y, y ∈ l → SeenOk y) (hd : -4611686018427387904 ≤ d) (hd' : d ≤ 64) : ∀ k i n dp, k + i = l.length → -4611686018427387904 ≤ n → n ≤ 16384 → ref01_seen_part_l1 p_ref01_seen_part d l i n dp a 0 = some (seS (partsF ((l.map bu).drop i) n dp (d + 1)) a)
  | 0, i, n, dp, h, hn, hm => by
    rw [ref01_seen_part_l1_eq]
    simp only [ref01_seen_part_l1b, lt_f (by omega : ¬ i < l.length), cond_false]
    rw [List.drop_of_length_le (by simp; omega), partsF_nil]; rfl
  | k + 1, i, n, dp, h, hn, hm => by
    obtain ⟨x, hx, _⟩ := dropc (by omega : i < l.length)
    have hx2 : (l.map bu)[i]? = some (bu x) := by rw [List.getElem?_map, hx]; rfl
    obtain ⟨x', hx', hdr⟩ := dropc (by rw [List.length_map]; omega : i < (l.map bu).length)
    rw [hx2] at hx'; injection hx' with hx'; subst hx'
    have hp := hl x (List.mem_of_getElem? hx) n dp a (d + 1) hn hm (by omega) (by omega)
    have hw : IntKind.i64.wrap (d + 1) = d + 1 := w64_in (by omega) (by omega)
    rw [ref01_seen_part_l1_eq]
    simp only [ref01_seen_part_l1b, lt_t (by omega : i < l.length), cond_true, hx, Option.bind_some, hw, hp]
    rw [hdr, partsF_cons]
    have hf := part_facts (bu x) (d + 1) n dp
    cases hk : (partF (bu x) n dp (d + 1)).ok with
    | false =>
      have h1 := hf.bad hk
      have e : ((seS (partF (bu x) n dp (d + 1)) a).f_why != 0) = true := by simp only [seS, hk]; simpa using h1
      rw [e, cond_true, if_neg (by simp)]
    | true =>
      have h1 := hf.ok hk
      have h2 := hf.lo
      have e : seS (partF (bu x) n dp (d + 1)) a = ⟨(partF (bu x) n dp (d + 1)).n, (partF (bu x) n dp (d + 1)).dp, a, 0⟩ := by simp only [seS, hk]; rfl
      rw [e, if_pos rfl]
      show ref01_seen_part_l1 p_ref01_seen_part d l (i + 1) _ _ a 0 = _
      rw [sp_l l a d hl hd hd' k (i + 1) _ _ (by omega) (by omega) h1.1]
theorem seen_eq (t : Term) : bkT t ≤ 268435456 → SeenOk t := by
  induction t using Term.byParts with
  | _ t ih =>
  intro hb n dp a d hn hm hd hd'
  have hfl : t.fields.length ≤ 268435456 := by
    cases t with
    | mk k b i f s y r l dd c v =>
      have hsum : ∀ l : List (Str × Term), l.length ≤ bkEs l := by
        intro l; induction l with
        | nil => simp
        | cons x r ih => obtain ⟨s, x⟩ := x; rw [bkEs, List.length_cons]; omega
      have := hsum dd
      rw [bkT] at hb; show dd.length ≤ _; omega
  have hbp : ∀ u, u ∈ partsT t → bkT u ≤ 268435456 := by
    intro u hu
    cases t with
    | mk k b i f s y r l dd c v =>
      have h1 : ∀ {l : List Term} {u : Term}, u ∈ l → bkT u ≤ bkTs l := by
        intro l u h; induction l with
        | nil => cases h
        | cons x r ih => rw [bkTs]; rcases List.mem_cons.1 h with rfl | h; (· omega); (· have := ih h; omega)
      have h2 : ∀ {l : List (Str × Term)} {u : Term}, u ∈ l.map (·.2) → bkT u ≤ bkEs l := by
        intro l u h; induction l with
        | nil => cases h
        | cons x r ih => obtain ⟨s, x⟩ := x; rw [bkEs]; rcases List.mem_cons.1 h with rfl | h; (· show bkT u ≤ _; omega); (· have := ih h; omega)
      rw [bkT] at hb
      unfold partsT at hu
      split at hu
      · have := h1 hu; simp only [Term.list] at this; omega
      · split at hu
        · have := h2 hu; simp only [Term.fields] at this; omega
        · cases hu
  rw [e_ref01_seen_part, b_ref01_seen_part, partF_eq]
  simp only [ref01_own_eq, Option.bind_some]
  by_cases h : ownE (bu t) n d = 0
  · have h0 := own_zero h
    have hw : IntKind.i64.wrap (n + 1) = n + 1 := w64_in (by omega) (by omega)
    have e0 : ((0 : Int) != 0) = false := rfl
    rw [if_pos h, h, e0, cond_false]
    have hj : ∀ m, ref01_seen_part_j1 p_ref01_seen_part ⟨n, dp, a, 0⟩ t d m = some (seS (partsF ((partsT t).map bu) (n + 1) m (d + 1)) a) := by
      intro m
      simp only [ref01_seen_part_j1, ref01_Parts_eq t hfl, Option.bind_some, hw]
      exact sp_l (partsT t) a d (fun y hy => ih y hy (hbp y hy)) hd (by omega) (partsT t).length 0 (n + 1) m (by omega) (by omega) (by omega)
    rw [hj, hj, partsT_bu]
    by_cases hdd : d > dp
    · rw [decide_eq_true hdd, cond_true, show max dp d = d by omega]
    · rw [decide_eq_false hdd, cond_false, show max dp d = dp by omega]
  · rw [if_neg h]
    have e0 : (ownE (bu t) n d != 0) = true := by simpa using h
    rw [e0]; rfl
theorem ref01_Check_eq (t : Term) (hb : bkT t ≤ 268435456) : p_ref01_Check t = some (checkF (bu t)) := by
  simp only [p_ref01_Check, seen_eq t hb 0 0 0 1 (by omega) (by omega) (by omega) (by omega), Option.bind_some, checkF, seS]
  cases (partF (bu t) 0 0 1).ok <;> rfl
end Go.Proofs.Ytiapdjdhaclmnaa
