/- Checks: the document's are the program's. -/
import Derived.Test.YthfdpaboekoncaaNRn
namespace Go.Proofs.Ythfdpaboekoncaa
open Go Aw
set_option linter.unusedVariables false
set_option linter.unusedSimpArgs false
set_option maxRecDepth 8000
theorem rf_l (t : Term) (hb : t.fields.length ≤ 4096) : ∀ k i, k + i = t.fields.length → ref01_own_l1 t i = some (r08 (risen (prevOf (t.fields.map (·.1)) i) ((t.fields.map (·.1)).drop i)))
  | 0, i, h => by
    rw [ref01_own_l1_eq]
    simp only [ref01_own_l1b, lt_f (by omega : ¬ i < t.fields.length), cond_false]
    rw [List.drop_of_length_le (by simp; omega), risen_nil]; rfl
  | k + 1, i, h => by
    obtain ⟨x, hx, _⟩ := dropc (by omega : i < t.fields.length)
    have hr := fields_round t.fields i (by omega) hb _ (rf_l t hb k (i + 1) (by omega)) x hx
    rw [ref01_own_l1_eq]
    simp only [ref01_own_l1b, lt_t (by omega : i < t.fields.length), cond_true, hx, Option.bind_some, ref01_Name_eq, ref01_own_j8, cond_false]
    exact hr
theorem rf_eq (t : Term) : (bif decide ((t.fields.length : Int) > 4096) then some 2 else ref01_own_l1 t 0) = some (fieldsE (t.fields.map (·.1))) := by
  simp only [fieldsE, List.length_map]
  by_cases h : 4096 < t.fields.length
  · rw [decide_eq_true (by omega : (t.fields.length : Int) > 4096), if_pos h]; rfl
  · rw [decide_eq_false (by omega : ¬ (t.fields.length : Int) > 4096), if_neg h, cond_false, rf_l t (by omega) t.fields.length 0 (by omega)]; rfl
theorem ref01_own_eq (t : Term) (n d : Int) : p_ref01_own t n d = some (ownE (bu t) n d) := by
  have hfar : ∀ k : Int, t.kind = k → 1 ≤ k → k ≤ 10 → (16384 ≤ n ∨ 64 < d) → p_ref01_own t n d = some 2 := by
    intro k hk h1 h2 h3
    have e1 : (t.kind == 11) = false := by rw [hk]; simp; omega
    have e2 : decide (t.kind < 1) = false := decide_eq_false (by omega)
    have e3 : decide (t.kind > 10) = false := decide_eq_false (by omega)
    simp only [p_ref01_own, e1, e2, e3, cond_false, ref01_own_j1]
    by_cases h4 : n ≥ 16384
    · rw [decide_eq_true h4]; rfl
    · rw [decide_eq_false h4, cond_false, decide_eq_true (by omega : d > 64)]; rfl
  have hnear : ∀ k : Int, t.kind = k → 1 ≤ k → k ≤ 10 → ¬ (16384 ≤ n ∨ 64 < d) → p_ref01_own t n d = ref01_own_j2 t false := by
    intro k hk h1 h2 h3
    have e1 : (t.kind == 11) = false := by rw [hk]; simp; omega
    have e2 : decide (t.kind < 1) = false := decide_eq_false (by omega)
    have e3 : decide (t.kind > 10) = false := decide_eq_false (by omega)
    simp only [p_ref01_own, e1, e2, e3, cond_false, ref01_own_j1]
    rw [decide_eq_false (by omega : ¬ n ≥ 16384), cond_false, decide_eq_false (by omega : ¬ d > 64)]
  have hb := bu_c t
  simp only [ownE]
  generalize bu t = x at hb
  cases hb with
  | nothing hk => have e1 : (t.kind == 11) = true := by rw [hk]; rfl
                  simp only [p_ref01_own, e1, cond_true, farE, nearE, ite_self]
  | alien hk =>
    have e1 : (t.kind == 11) = false := by simp; omega
    simp only [p_ref01_own, e1, cond_false, farE, nearE, ite_self, ref01_own_j1]
    rcases hk with hk | hk
    · rw [decide_eq_true hk]; rfl
    · rw [decide_eq_false (by omega : ¬ t.kind < 1), cond_false, decide_eq_true (by omega : t.kind > 10)]; rfl
  | nil hk | bool hk | int hk | float hk | ref hk =>
    by_cases h : 16384 ≤ n ∨ 64 < d
    · rw [if_pos h, hfar _ hk (by decide) (by decide) h]; rfl
    · rw [if_neg h, hnear _ hk (by decide) (by decide) h]
      simp only [ref01_own_j2, ref01_own_j3, ref01_own_j4, ref01_own_j5, ref01_own_j6, ref01_own_j7, hk]; rfl
  | text hk =>
    by_cases h : 16384 ≤ n ∨ 64 < d
    · rw [if_pos h, hfar _ hk (by decide) (by decide) h]; rfl
    · rw [if_neg h, hnear _ hk (by decide) (by decide) h]
      have e : ref01_own_j2 t false = bif decide ((t.text.length : Int) > 65536) then ref01_own_j5 t true else ref01_own_j5 t false := by
        simp only [ref01_own_j2, ref01_own_j3, ref01_own_j4, hk]; rfl
      rw [e]
      refine big_r t.text.length 65536 (fun b => bif b then ref01_own_j5 t true else ref01_own_j5 t false) rfl ?_
      show ref01_own_j5 t false = some 0
      simp only [ref01_own_j5, ref01_own_j6, ref01_own_j7, hk]; rfl
  | bytes hk =>
    by_cases h : 16384 ≤ n ∨ 64 < d
    · rw [if_pos h, hfar _ hk (by decide) (by decide) h]; rfl
    · rw [if_neg h, hnear _ hk (by decide) (by decide) h]
      have e : ref01_own_j2 t false = ref01_own_j5 t (decide ((t.bytes.length : Int) > 65536)) := by
        simp only [ref01_own_j2, ref01_own_j3, ref01_own_j4, hk]; rfl
      rw [e]
      refine big_r t.bytes.length 65536 (fun b => ref01_own_j5 t b) rfl ?_
      simp only [ref01_own_j5, ref01_own_j6, ref01_own_j7, hk]; rfl
  | list hk =>
    by_cases h : 16384 ≤ n ∨ 64 < d
    · rw [if_pos h, hfar _ hk (by decide) (by decide) h]; rfl
    · rw [if_neg h, hnear _ hk (by decide) (by decide) h]
      have e : ref01_own_j2 t false = ref01_own_j6 t (decide ((t.list.length : Int) > 4096)) := by
        simp only [ref01_own_j2, ref01_own_j3, ref01_own_j4, ref01_own_j5, hk]; rfl
      rw [e]
      simp only [nearE, List.length_map]
      refine big_r t.list.length 4096 (fun b => ref01_own_j6 t b) rfl ?_
      simp only [ref01_own_j6, ref01_own_j7, hk]; rfl
  | dict hk =>
    by_cases h : 16384 ≤ n ∨ 64 < d
    · rw [if_pos h, hfar _ hk (by decide) (by decide) h]; rfl
    · rw [if_neg h, hnear _ hk (by decide) (by decide) h]
      have e : ref01_own_j2 t false = ref01_own_j7 t false := by
        simp only [ref01_own_j2, ref01_own_j3, ref01_own_j4, ref01_own_j5, ref01_own_j6, hk]; rfl
      rw [e, nearE, bu_names, ← rf_eq]; rfl
  | record hk =>
    by_cases h : 16384 ≤ n ∨ 64 < d
    · rw [if_pos h, hfar _ hk (by decide) (by decide) h]; rfl
    · rw [if_neg h, hnear _ hk (by decide) (by decide) h]
      have e7 : ref01_own_j4 t false = some (fieldsE (t.fields.map (·.1))) := by
        rw [← rf_eq]
        simp only [ref01_own_j4, ref01_own_j5, ref01_own_j6, hk]; rfl
      have e1 : (t.kind == 10) = true := by rw [hk]; rfl
      simp only [ref01_own_j2, ref01_own_j3, e1, cond_true, cond_false, ref01_Name_eq, Option.bind_some, nearE, bu_names]
      cases hn : nameOk t.cls with
      | false => rfl
      | true =>
        simp only [Bool.not_true, cond_false]
        by_cases h1 : t.ver < 1
        · rw [decide_eq_true h1, cond_true, if_neg (by simp), if_pos (Or.inl h1)]; rfl
        · rw [decide_eq_false h1, cond_false, if_neg (by simp)]
          by_cases h2 : t.ver > 1000
          · rw [decide_eq_true h2, if_pos (Or.inr h2)]; rfl
          · rw [decide_eq_false h2, if_neg (by omega), e7]
theorem rp_l (t : Term) (hb : t.fields.length ≤ 268435456) : ∀ k i acc, k + i = t.fields.length → acc.length = i → ref01_Parts_l1 t acc i = some (acc ++ (t.fields.map (·.2)).drop i)
  | 0, i, acc, h, ha => by
    rw [ref01_Parts_l1_eq]
    simp only [ref01_Parts_l1b, lt_f (by omega : ¬ i < t.fields.length), cond_false, ref01_Parts_j1]
    rw [List.drop_of_length_le (by simp; omega), List.append_nil]
  | k + 1, i, acc, h, ha => by
    obtain ⟨x, hx, _⟩ := dropc (by omega : i < t.fields.length)
    have hx2 : (t.fields.map (·.2))[i]? = some x.2 := by rw [List.getElem?_map, hx]; rfl
    obtain ⟨x', hx', hdr⟩ := dropc (by rw [List.length_map]; omega : i < (t.fields.map (·.2)).length)
    rw [hx2] at hx'; injection hx' with hx'; subst hx'
    have hap : appO 152 acc [x.2] = some (acc ++ [x.2]) := by
      unfold appO; rw [Nat.ble_eq_true_of_le (by simp; omega)]; rfl
    rw [ref01_Parts_l1_eq]
    simp only [ref01_Parts_l1b, lt_t (by omega : i < t.fields.length), cond_true, hx, Option.bind_some, hap]
    rw [rp_l t hb k (i + 1) (acc ++ [x.2]) (by omega) (by simp [ha]), hdr]; simp
theorem ref01_Parts_eq (t : Term) (hb : t.fields.length ≤ 268435456) : p_ref01_Parts t = some (partsT t) := by
  unfold partsT p_ref01_Parts
  by_cases h8 : t.kind = 8
  · rw [if_pos h8, h8]; rfl
  · have e8 : (t.kind == 8) = false := by simpa using h8
    rw [if_neg h8, e8, cond_false]
    have hl : ref01_Parts_j2 t true = some (t.fields.map (·.2)) := rp_l t hb t.fields.length 0 [] (by omega) rfl
    by_cases h9 : t.kind = 9
    · rw [if_pos (Or.inl h9), h9]; exact hl
    · have e9 : (t.kind == 9) = false := by simpa using h9
      rw [e9, cond_false]
      by_cases h10 : t.kind = 10
      · rw [if_pos (Or.inr h10), h10]; exact hl
      · have e10 : (t.kind == 10) = false := by simpa using h10
        rw [if_neg (by omega), e10]; rfl
def seS (c : Ct) (a : Int) : S_ref01_seen := if c.ok then ⟨c.n, c.dp, a, 0⟩ else ⟨c.n, c.dp, c.n, c.why⟩
def SeenOk (t : Term) : Prop := ∀ n dp a d, -4611686018427387904 ≤ n → n ≤ 16384 → -4611686018427387904 ≤ d → d ≤ 65 → p_ref01_seen_part ⟨n, dp, a, 0⟩ t d = some (seS (partF (bu t) n dp d) a)
theorem sp_l (l : List Term) (a d : Int) (hl : ∀ y, y ∈ l → SeenOk y) (hd : -4611686018427387904 ≤ d) (hd' : d ≤ 64) : ∀ k i n dp, k + i = l.length → -4611686018427387904 ≤ n → n ≤ 16384 → ref01_seen_part_l1 p_ref01_seen_part d l i n dp a 0 = some (seS (partsF ((l.map bu).drop i) n dp (d + 1)) a)
  | 0, i, n, dp, h, hn, hm => by
    rw [ref01_seen_part_l1_eq]
    simp only [ref01_seen_part_l1b, lt_f (by omega : ¬ i < l.length), cond_false]
    rw [List.drop_of_length_le (by simp; omega), partsF_nil]; rfl
  | k + 1, i, n, dp, h, hn, hm => by
    obtain ⟨x, hx, _⟩ := dropc (by omega : i < l.length)
    have hx2 : (l.map bu)[i]? = some (bu x) := by rw [List.getElem?_map, hx]; rfl
    obtain ⟨x', hx', hdr⟩ := dropc (by rw [List.length_map]; omega : i < (l.map bu).length)
    rw [hx2] at hx'; injection hx' with hx'; subst hx'
    have hp := hl x (List.mem_of_getElem? hx) n dp a (d + 1) hn hm (by omega) (by omega)
    have hw : IntKind.i64.wrap (d + 1) = d + 1 := w64_in (by omega) (by omega)
    rw [ref01_seen_part_l1_eq]
    simp only [ref01_seen_part_l1b, lt_t (by omega : i < l.length), cond_true, hx, Option.bind_some, hw, hp]
    rw [hdr, partsF_cons]
    have hf := part_facts (bu x) (d + 1) n dp
    cases hk : (partF (bu x) n dp (d + 1)).ok with
    | false =>
      have h1 := hf.bad hk
      have e : ((seS (partF (bu x) n dp (d + 1)) a).f_why != 0) = true := by simp only [seS, hk]; simpa using h1
      rw [e, cond_true, if_neg (by simp)]
    | true =>
      have h1 := hf.ok hk
      have h2 := hf.lo
      have e : seS (partF (bu x) n dp (d + 1)) a = ⟨(partF (bu x) n dp (d + 1)).n, (partF (bu x) n dp (d + 1)).dp, a, 0⟩ := by simp only [seS, hk]; rfl
      rw [e, if_pos rfl]
      show ref01_seen_part_l1 p_ref01_seen_part d l (i + 1) _ _ a 0 = _
      rw [sp_l l a d hl hd hd' k (i + 1) _ _ (by omega) (by omega) h1.1]
theorem seen_eq (t : Term) : bkT t ≤ 268435456 → SeenOk t := by
  induction t using Term.byParts with
  | _ t ih =>
  intro hb n dp a d hn hm hd hd'
  have hfl : t.fields.length ≤ 268435456 := by
    cases t with
    | mk k b i f s y r l dd c v =>
      have hsum : ∀ l : List (Str × Term), l.length ≤ bkEs l := by
        intro l; induction l with
        | nil => simp
        | cons x r ih => obtain ⟨s, x⟩ := x; rw [bkEs, List.length_cons]; omega
      have := hsum dd
      rw [bkT] at hb; show dd.length ≤ _; omega
  have hbp : ∀ u, u ∈ partsT t → bkT u ≤ 268435456 := by
    intro u hu
    cases t with
    | mk k b i f s y r l dd c v =>
      have h1 : ∀ {l : List Term} {u : Term}, u ∈ l → bkT u ≤ bkTs l := by
        intro l u h; induction l with
        | nil => cases h
        | cons x r ih => rw [bkTs]; rcases List.mem_cons.1 h with rfl | h; (· omega); (· have := ih h; omega)
      have h2 : ∀ {l : List (Str × Term)} {u : Term}, u ∈ l.map (·.2) → bkT u ≤ bkEs l := by
        intro l u h; induction l with
        | nil => cases h
        | cons x r ih => obtain ⟨s, x⟩ := x; rw [bkEs]; rcases List.mem_cons.1 h with rfl | h; (· show bkT u ≤ _; omega); (· have := ih h; omega)
      rw [bkT] at hb
      unfold partsT at hu
      split at hu
      · have := h1 hu; simp only [Term.list] at this; omega
      · split at hu
        · have := h2 hu; simp only [Term.fields] at this; omega
        · cases hu
  rw [e_ref01_seen_part, b_ref01_seen_part, partF_eq]
  simp only [ref01_own_eq, Option.bind_some]
  by_cases h : ownE (bu t) n d = 0
  · have h0 := own_zero h
    have hw : IntKind.i64.wrap (n + 1) = n + 1 := w64_in (by omega) (by omega)
    have e0 : ((0 : Int) != 0) = false := rfl
    rw [if_pos h, h, e0, cond_false]
    have hj : ∀ m, ref01_seen_part_j1 p_ref01_seen_part ⟨n, dp, a, 0⟩ t d m = some (seS (partsF ((partsT t).map bu) (n + 1) m (d + 1)) a) := by
      intro m
      simp only [ref01_seen_part_j1, ref01_Parts_eq t hfl, Option.bind_some, hw]
      exact sp_l (partsT t) a d (fun y hy => ih y hy (hbp y hy)) hd (by omega) (partsT t).length 0 (n + 1) m (by omega) (by omega) (by omega)
    rw [hj, hj, partsT_bu]
    by_cases hdd : d > dp
    · rw [decide_eq_true hdd, cond_true, show max dp d = d by omega]
    · rw [decide_eq_false hdd, cond_false, show max dp d = dp by omega]
  · rw [if_neg h]
    have e0 : (ownE (bu t) n d != 0) = true := by simpa using h
    rw [e0]; rfl
theorem ref01_Check_eq (t : Term) (hb : bkT t ≤ 268435456) : p_ref01_Check t = some (checkF (bu t)) := by
  simp only [p_ref01_Check, seen_eq t hb 0 0 0 1 (by omega) (by omega) (by omega) (by omega), Option.bind_some, checkF, seS]
  cases (partF (bu t) 0 0 1).ok <;> rfl
end Go.Proofs.Ythfdpaboekoncaa
