/- Terms and values: the plain law. -/
import Derived.Test.YthfdpaboekoncaaW7
import Derived.Test.YthfdpaboekoncaaK0
import Derived.Test.YthfdpaboekoncaaNR
import Derived.Test.YthfdpaboekoncaaN4
import Derived.Test.YthfdpaboekoncaaN10a
import Derived.Test.YthfdpaboekoncaaN10p
namespace Go.Proofs.Ythfdpaboekoncaa
open Go Aw
set_option linter.unusedVariables false
set_option linter.unusedSimpArgs false
set_option maxRecDepth 8000
theorem lo_bu (t : Term) : Fine (bu t) → lo t = bu t := by
  induction t using Term.byParts with
  | _ t ih =>
  intro hx
  have hp := hx.own.2
  have hn := hx.own.1
  rw [← partsT_bu] at hp
  have hm : ∀ u, u ∈ partsT t → lo u = bu u := fun u hu => ih u hu (hp _ (List.mem_map_of_mem hu))
  have hb := lo_c t
  generalize lo t = x at hb
  generalize bu t = y at hb hn
  cases hb with
  | alien hk => simp [nearE] at hn
  | list hk =>
    rw [List.map_congr_left (fun u hu => hm u (by unfold partsT; rw [if_pos hk]; exact hu))]
  | dict hk =>
    have : t.fields.map loE = t.fields.map buE := List.map_congr_left fun p hp => by
      have := hm p.2 (by unfold partsT; rw [if_neg (by omega), if_pos (Or.inl hk)]; exact List.mem_map_of_mem hp)
      unfold loE buE; rw [this]
    rw [this]
  | record hk =>
    have : t.fields.map loE = t.fields.map buE := List.map_congr_left fun p hp => by
      have := hm p.2 (by unfold partsT; rw [if_neg (by omega), if_pos (Or.inr hk)]; exact List.mem_map_of_mem hp)
      unfold loE buE; rw [this]
    rw [this]
  | _ => rfl
/-! ### the document's clean term -/
noncomputable def cbE (p : Str × Term) : Str × Term := (p.1, cl (bu p.2))
theorem kl_l (t : Term) (hl : ∀ u, u ∈ t.list → p_ref01_Clean u = some (cl (bu u))) (hb : t.list.length ≤ 1073741824) : ∀ k i, k + i = t.list.length → ref01_Clean_l1 p_ref01_Clean t i ((t.list.take i).map (fun u => cl (bu u))) = some (.mk t.kind false 0 0 [] [] 0 (t.list.map (fun u => cl (bu u))) [] [] 0)
  | 0, i, h => by
    rw [ref01_Clean_l1_eq]
    simp only [ref01_Clean_l1b, lt_f (by omega : ¬ i < t.list.length), cond_false, ref01_Clean_j1]
    rw [List.take_of_length_le (by omega)]
  | k + 1, i, h => by
    obtain ⟨x, hx, _⟩ := dropc (by omega : i < t.list.length)
    rw [ref01_Clean_l1_eq]
    simp only [ref01_Clean_l1b, lt_t (by omega : i < t.list.length), cond_true, hx, Option.bind_some, hl x (List.mem_of_getElem? hx), app1 (b := 152) (by omega) (show ((t.list.take i).map (fun u => cl (bu u))).length ≤ 1073741824 by simp; omega)]
    rw [show (t.list.take i).map (fun u => cl (bu u)) ++ [cl (bu x)] = (t.list.take (i + 1)).map (fun u => cl (bu u)) from take_snoc (f := fun u => cl (bu u)) hx]
    exact kl_l t hl hb k (i + 1) (by omega)
theorem ke_l (l : List (Str × Term)) (hl : ∀ u, u ∈ l → p_ref01_Clean u.2 = some (cl (bu u.2))) (hb : l.length ≤ 1073741824) : ∀ k i, k + i = l.length → ref01_cleaned_l1 p_ref01_Clean l ((l.take i).map cbE) i = some (l.map cbE)
  | 0, i, h => by
    rw [ref01_cleaned_l1_eq]
    simp only [ref01_cleaned_l1b, lt_f (by omega : ¬ i < l.length), cond_false]
    rw [List.take_of_length_le (by omega)]
  | k + 1, i, h => by
    obtain ⟨x, hx, _⟩ := dropc (by omega : i < l.length)
    rw [ref01_cleaned_l1_eq]
    simp only [ref01_cleaned_l1b, lt_t (by omega : i < l.length), cond_true, hx, Option.bind_some, hl x (List.mem_of_getElem? hx), app1 (b := 168) (x := (x.1, cl (bu x.2))) (by omega) (show ((l.take i).map cbE).length ≤ 1073741824 by simp; omega)]
    rw [show (l.take i).map cbE ++ [(x.1, cl (bu x.2))] = (l.take (i + 1)).map cbE from take_snoc (f := cbE) hx]
    exact ke_l l hl hb k (i + 1) (by omega)
theorem clean_eq (t : Term) : Fine (bu t) → p_ref01_Clean t = some (cl (bu t)) := by
  induction t using Term.byParts with
  | _ t ih =>
  intro hx
  have hp := hx.own.2
  have hn := hx.own.1
  rw [← partsT_bu] at hp
  have hm : ∀ u, u ∈ partsT t → p_ref01_Clean u = some (cl (bu u)) := fun u hu => ih u hu (hp _ (List.mem_map_of_mem hu))
  have hb := bu_c t
  rw [e_ref01_Clean, b_ref01_Clean]
  have hE : (t.kind = 9 ∨ t.kind = 10) → t.fields.length ≤ 1073741824 → p_ref01_cleaned t.fields = some (t.fields.map cbE) := fun hk hl => by
    rw [e_ref01_cleaned, b_ref01_cleaned]
    exact ke_l t.fields (fun u hu => hm _ (by unfold partsT; rw [if_neg (by omega), if_pos hk]; exact List.mem_map_of_mem hu)) hl t.fields.length 0 (by omega)
  have hD : (t.fields.map buE).map clE = t.fields.map cbE := by rw [List.map_map]; rfl
  generalize bu t = y at hb hn
  cases hb with
  | nothing hk => simp [nearE] at hn
  | alien hk => simp [nearE] at hn
  | bytes hk =>
    have hl := near_bytes hn
    simp only [hk, app0 (b := 1) (by omega) (show t.bytes.length ≤ 1073741824 by omega), Option.bind_some, ref01_Clean_j1]
    rw [cl]; rfl
  | list hk =>
    have hl := near_list hn
    rw [List.length_map] at hl
    have := kl_l t (fun u hu => hm u (by unfold partsT; rw [if_pos hk]; exact hu)) (by omega) t.list.length 0 (by omega)
    rw [List.take_zero, List.map_nil] at this
    simp only [hk] at this ⊢
    rw [cl, clL_map, List.map_map]
    exact this
  | dict hk =>
    have hl := near_dict hn
    rw [List.length_map] at hl
    simp only [hk, hE (.inl hk) (by omega), Option.bind_some, ref01_Clean_j1]
    rw [cl, clD_map, hD]; rfl
  | record hk =>
    have hl := (near_rec hn).2
    rw [List.length_map] at hl
    simp only [hk, hE (.inr hk) (by omega), Option.bind_some, ref01_Clean_j1]
    rw [cl, clD_map, hD]; rfl
  | _ hk => simp only [hk, ref01_Clean_j1]; rw [cl]; rfl
/-! ### a term is the same as itself -/
theorem sm_l2 (a : Term) (hl : ∀ u, u ∈ a.fields → p_law01_same u.2 u.2 = some true) : ∀ k i, k + i = a.fields.length → law01_same_l2 p_law01_same a a i = some true
  | 0, i, h => by
    rw [law01_same_l2_eq]
    simp only [law01_same_l2b, lt_f (by omega : ¬ i < a.fields.length), cond_false]
  | k + 1, i, h => by
    obtain ⟨x, hx, _⟩ := dropc (by omega : i < a.fields.length)
    rw [law01_same_l2_eq]
    simp only [law01_same_l2b, lt_t (by omega : i < a.fields.length), cond_true, hx, Option.bind_some, hl x (List.mem_of_getElem? hx), Bool.not_true, cond_false]
    exact sm_l2 a hl k (i + 1) (by omega)
theorem sm_l1 (a : Term) (hf : ∀ u, u ∈ a.fields → p_law01_same u.2 u.2 = some true) (hl : ∀ u, u ∈ a.list → p_law01_same u u = some true) : ∀ k i, k + i = a.list.length → law01_same_l1 p_law01_same a a i = some true
  | 0, i, h => by
    rw [law01_same_l1_eq]
    simp only [law01_same_l1b, lt_f (by omega : ¬ i < a.list.length), cond_false]
    exact sm_l2 a hf a.fields.length 0 (by omega)
  | k + 1, i, h => by
    obtain ⟨x, hx, _⟩ := dropc (by omega : i < a.list.length)
    rw [law01_same_l1_eq]
    simp only [law01_same_l1b, lt_t (by omega : i < a.list.length), cond_true, hx, Option.bind_some, hl x (List.mem_of_getElem? hx), Bool.not_true, cond_false]
    exact sm_l1 a hf hl k (i + 1) (by omega)
theorem cl_lists (x : V) : (∀ u, u ∈ (cl x).list → ∃ y, y ∈ x.parts ∧ u = cl y) ∧ (∀ u, u ∈ (cl x).fields → ∃ y, y ∈ x.parts ∧ u.2 = cl y) ∧ ((cl x).kind = 4 ∨ (cl x).float = 0) := by
  cases x with
  | list l =>
    rw [cl, clL_map]
    refine ⟨fun u hu => ?_, fun u hu => (by cases hu), .inr rfl⟩
    obtain ⟨y, hy, rfl⟩ := List.mem_map.1 hu
    exact ⟨y, hy, rfl⟩
  | dict l =>
    rw [cl, clD_map]
    refine ⟨fun u hu => (by cases hu), fun u hu => ?_, .inr rfl⟩
    obtain ⟨p, hp, rfl⟩ := List.mem_map.1 hu
    exact ⟨p.2, List.mem_map_of_mem hp, rfl⟩
  | record c v l =>
    rw [cl, clD_map]
    refine ⟨fun u hu => (by cases hu), fun u hu => ?_, .inr rfl⟩
    obtain ⟨p, hp, rfl⟩ := List.mem_map.1 hu
    exact ⟨p.2, List.mem_map_of_mem hp, rfl⟩
  | float f => rw [cl]; exact ⟨fun u hu => (by cases hu), fun u hu => (by cases hu), .inl rfl⟩
  | _ => rw [cl]; exact ⟨fun u hu => (by cases hu), fun u hu => (by cases hu), .inr rfl⟩
theorem same_refl (x : V) : Fine x → p_law01_same (cl x) (cl x) = some true := by
  induction x using V.byParts with
  | _ x ih =>
  intro hx
  have hp := hx.own.2
  have hS : p_mk_Same (cl x) (cl x) = some true := by
    obtain ⟨r, h1, h2⟩ := same_iff (cl x) (cl x) (by rw [bu_cl x hx]; exact hx)
    rw [h1, h2.2 rfl]
  obtain ⟨c1, c2, c3⟩ := cl_lists x
  have hl := sm_l1 (cl x) (fun u hu => by obtain ⟨y, hy, h⟩ := c2 u hu; rw [h]; exact ih y hy (hp y hy)) (fun u hu => by obtain ⟨y, hy, rfl⟩ := c1 u hu; exact ih y hy (hp y hy)) (cl x).list.length 0 (by omega)
  rw [e_law01_same, b_law01_same]
  simp only [hS, Option.bind_some, Bool.not_true, cond_false, beq_self_eq_true, bne_self_eq_false, law01_same_j1, law01_same_j2]
  rcases c3 with c3 | c3
  · rw [c3]; exact hl
  · rw [c3, show (FloatKind.f64.format.order 0 0 != some Ordering.eq) = false from rfl]
    cases ((cl x).kind != 4) <;> exact hl
theorem plain_ValueTerms (a0 : Term) (h : bkT a0 ≤ 1048576) (ok0 : okT a0) : p_law01_ValueTerms a0 = some true := by
  simp only [p_law01_ValueTerms, of_of (value_loose_eq a0 (by omega)), mk_Built_eq a0 (by omega), ref01_Check_eq a0 (by omega), Option.bind_some]
  by_cases hc : Can (bu a0)
  · have hf := can_fine hc
    have hp : p_value_Plain (bu a0) = some (cl (bu a0), 0) := by
      simp only [p_value_Plain, value_check_eq, check_can hc, Option.bind_some, value_plain_eq _ hf]; rfl
    have hof : ofF (lo a0) = (bu a0, 0) := by
      unfold ofF
      rw [lo_check, check_can hc, if_neg (by simp), lo_bu a0 hf]
    have hi : p_mk_Is (bu a0) (cl (bu a0)) = some true := is_built (bu_cl _ hf) hc
    simp only [hp, hof, check_can hc, Option.bind_some, bne_self_eq_false, cond_false, law01_ValueTerms_j1, clean_eq a0 hf, hi, Bool.not_true, same_refl _ hf, law01_ValueTerms_j2, spoil_can hc, spoilTO, cond_true]
  · have he := check_cannot hc
    have hp : p_value_Plain (bu a0) = some (.mk 0 false 0 0 [] [] 0 [] [] [] 0, (checkF (bu a0)).2) := by
      simp only [p_value_Plain, value_check_eq, Option.bind_some]
      rw [ne_t he, cond_true]
    have hof : ofF (lo a0) = (.nil, (checkF (bu a0)).2) := by
      unfold ofF
      rw [lo_check, if_pos he]
    simp only [hp, hof, Option.bind_some, bne_self_eq_false, cond_false, law01_ValueTerms_j1, ne_t he, cond_true]
    rfl
end Go.Proofs.Ythfdpaboekoncaa
