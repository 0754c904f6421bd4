/- Terms that stand for one value are one to the program, and only those. -/
import Derived.Test.YthfdpaboekoncaaN10q
namespace Go.Proofs.Ythfdpaboekoncaa
open Go Aw
set_option linter.unusedVariables false
set_option linter.unusedSimpArgs false
set_option maxRecDepth 8000
theorem bu_cl (x : V) : Fine x → bu (cl x) = x := by
  induction x using V.byParts with
  | _ x ih =>
  intro hx
  have hp := hx.own.2
  have hn := hx.own.1
  have hm : ∀ l : List V, (∀ u, u ∈ l → bu (cl u) = u) → (l.map cl).map bu = l := fun l h => by
    rw [List.map_map]
    conv => rhs; rw [← List.map_id l]
    exact List.map_congr_left fun u hu => h u hu
  have hd : ∀ l : List (Str × V), (∀ u, u ∈ l → bu (cl u.2) = u.2) → (l.map clE).map buE = l := fun l h => by
    rw [List.map_map]
    conv => rhs; rw [← List.map_id l]
    exact List.map_congr_left fun u hu => by obtain ⟨s, x⟩ := u; exact congrArg (Prod.mk s) (h _ hu)
  cases x with
  | nothing => simp [nearE] at hn
  | alien t => simp [nearE] at hn
  | list l => rw [cl, clL_map, bu, buTs_map, hm l (fun u hu => ih u hu (hp u hu))]; rfl
  | dict l => rw [cl, clD_map, bu, buEs_map, hd l (fun u hu => ih u.2 (List.mem_map_of_mem hu) (hp _ (List.mem_map_of_mem hu)))]; rfl
  | record c v l => rw [cl, clD_map, bu, buEs_map, hd l (fun u hu => ih u.2 (List.mem_map_of_mem hu) (hp _ (List.mem_map_of_mem hu)))]; rfl
  | _ => rw [cl, bu]; rfl
theorem bu_kindW {t : Term} (h : nearE (bu t) = 0) : kindOf (bu t) = t.kind ∧ 1 ≤ t.kind ∧ t.kind ≤ 10 := by
  have hb := bu_c t
  generalize bu t = x at hb h
  cases hb with
  | nothing hk => simp [nearE] at h
  | alien hk => simp [nearE] at h
  | _ hk => rw [hk]; exact ⟨rfl, by decide, by decide⟩
def SameOk (s t : Term) : Prop := ∃ r, p_mk_Same s t = some r ∧ (r = true ↔ bu s = bu t)
theorem drop_cons {α β : Type} {l : List α} {f : α → β} {i : Nat} {x : α} (h : l[i]? = some x) : (l.map f).drop i = f x :: (l.map f).drop (i + 1) := by
  obtain ⟨hi, rfl⟩ := List.getElem?_eq_some_iff.1 h
  rw [List.drop_eq_getElem_cons (by rw [List.length_map]; exact hi), List.getElem_map]
theorem sl_l {a b : List Term} (h : ∀ x, x ∈ a → ∀ y, y ∈ b → SameOk x y) (hl : a.length = b.length) : ∀ k i, k + i = a.length → ∃ r, mk_Lists_l1 p_mk_Same a b i = some r ∧ (r = true ↔ (a.map bu).drop i = (b.map bu).drop i)
  | 0, i, hk => by
    rw [mk_Lists_l1_eq]
    simp only [mk_Lists_l1b, lt_f (by omega : ¬ i < a.length), cond_false]
    exact ⟨true, rfl, by rw [List.drop_of_length_le (by simp; omega), List.drop_of_length_le (by simp; omega)]; simp⟩
  | k + 1, i, hk => by
    obtain ⟨x, hx, _⟩ := dropc (by omega : i < a.length)
    obtain ⟨y, hy, _⟩ := dropc (by omega : i < b.length)
    obtain ⟨r, h1, h2⟩ := h x (List.mem_of_getElem? hx) y (List.mem_of_getElem? hy)
    rw [mk_Lists_l1_eq]
    simp only [mk_Lists_l1b, lt_t (by omega : i < a.length), cond_true, hx, hy, Option.bind_some, h1]
    rw [drop_cons hx, drop_cons hy]
    cases r with
    | false =>
      refine ⟨false, rfl, ?_⟩
      have : ¬ bu x = bu y := fun h => by simp [h] at h2
      simp [this]
    | true =>
      obtain ⟨r, h3, h4⟩ := sl_l h hl k (i + 1) (by omega)
      refine ⟨r, h3, ?_⟩
      rw [h4, List.cons.injEq]
      simp [h2.1 rfl]
theorem se_l {a b : List (Str × Term)} (h : ∀ x, x ∈ a → ∀ y, y ∈ b → SameOk x.2 y.2) (hl : a.length = b.length) : ∀ k i, k + i = a.length → ∃ r, mk_Entries_l1 p_mk_Same a b i = some r ∧ (r = true ↔ (a.map buE).drop i = (b.map buE).drop i)
  | 0, i, hk => by
    rw [mk_Entries_l1_eq]
    simp only [mk_Entries_l1b, lt_f (by omega : ¬ i < a.length), cond_false]
    exact ⟨true, rfl, by rw [List.drop_of_length_le (by simp; omega), List.drop_of_length_le (by simp; omega)]; simp⟩
  | k + 1, i, hk => by
    obtain ⟨x, hx, _⟩ := dropc (by omega : i < a.length)
    obtain ⟨y, hy, _⟩ := dropc (by omega : i < b.length)
    obtain ⟨r, h1, h2⟩ := h x (List.mem_of_getElem? hx) y (List.mem_of_getElem? hy)
    rw [mk_Entries_l1_eq]
    simp only [mk_Entries_l1b, lt_t (by omega : i < a.length), cond_true, hx, hy, Option.bind_some, h1]
    rw [drop_cons hx, drop_cons hy]
    obtain ⟨s, x⟩ := x
    obtain ⟨q, y⟩ := y
    dsimp only at h1 h2
    have hE : buE (s, x) = buE (q, y) ↔ s = q ∧ bu x = bu y := by simp [buE]
    by_cases hs : s = q
    · subst hs
      simp only [beq_self_eq_true, Bool.not_true, cond_false]
      cases r with
      | false =>
        refine ⟨false, rfl, ?_⟩
        have : ¬ bu x = bu y := fun h => by simp [h] at h2
        simp [hE, this]
      | true =>
        obtain ⟨r, h3, h4⟩ := se_l h hl k (i + 1) (by omega)
        refine ⟨r, h3, ?_⟩
        rw [h4, List.cons.injEq, hE]
        simp [h2.1 rfl]
    · rw [show (!(s == q)) = true by simp [hs], cond_true]
      refine ⟨false, rfl, ?_⟩
      simp [hE, hs]
theorem same_iff (s : Term) : ∀ t, Fine (bu s) → SameOk s t := by
  induction s using Term.byParts with
  | _ s ih =>
  intro t hx
  have hp := hx.own.2
  have hn := hx.own.1
  rw [← partsT_bu] at hp
  have hk := bu_kindW hn
  unfold SameOk
  by_cases he : s.kind = t.kind
  · have hs : ∀ u, u ∈ partsT s → ∀ t, SameOk u t := fun u hu t => ih u hu t (hp _ (List.mem_map_of_mem hu))
    rw [e_mk_Same, b_mk_Same, show (s.kind != t.kind) = false by simp [he], cond_false]
    have hL : s.kind = 8 → ∃ r, p_mk_Lists s.list t.list = some r ∧ (r = true ↔ s.list.map bu = t.list.map bu) := fun h8 => by
      rw [e_mk_Lists, b_mk_Lists]
      by_cases hl : s.list.length = t.list.length
      · rw [show (((s.list.length : Nat) : Int) != ((t.list.length : Nat) : Int)) = false by simp [hl], cond_false]
        exact sl_l (fun x hx y _ => hs x (by unfold partsT; rw [if_pos h8]; exact hx) y) hl s.list.length 0 (by omega)
      · rw [show (((s.list.length : Nat) : Int) != ((t.list.length : Nat) : Int)) = true by simp; omega, cond_true]
        refine ⟨false, rfl, ?_⟩
        have : ¬ s.list.map bu = t.list.map bu := fun h => hl (by have := congrArg List.length h; simpa using this)
        simp [this]
    have hE : s.kind = 9 ∨ s.kind = 10 → ∃ r, p_mk_Entries s.fields t.fields = some r ∧ (r = true ↔ s.fields.map buE = t.fields.map buE) := fun h9 => by
      rw [e_mk_Entries, b_mk_Entries]
      by_cases hl : s.fields.length = t.fields.length
      · rw [show (((s.fields.length : Nat) : Int) != ((t.fields.length : Nat) : Int)) = false by simp [hl], cond_false]
        exact se_l (fun x hx y _ => hs _ (by unfold partsT; rw [if_neg (by omega), if_pos h9]; exact List.mem_map_of_mem hx) _) hl s.fields.length 0 (by omega)
      · rw [show (((s.fields.length : Nat) : Int) != ((t.fields.length : Nat) : Int)) = true by simp; omega, cond_true]
        refine ⟨false, rfl, ?_⟩
        have : ¬ s.fields.map buE = t.fields.map buE := fun h => hl (by have := congrArg List.length h; simpa using this)
        simp [this]
    have hb := bu_c s
    have hc := bu_c t
    generalize bu s = x at hb hn
    generalize bu t = y at hc
    cases hb with
    | nothing h => simp [nearE] at hn
    | alien h => simp [nearE] at hn
    | nil h => cases hc <;> first | (exfalso; omega) | skip
               simp only [mk_Same_j1, h]; exact ⟨_, rfl, by simp⟩
    | bool h => cases hc <;> first | (exfalso; omega) | skip
                simp only [mk_Same_j1, h]; exact ⟨_, rfl, by simp⟩
    | int h => cases hc <;> first | (exfalso; omega) | skip
               simp only [mk_Same_j1, h]; exact ⟨_, rfl, by simp⟩
    | float h => cases hc <;> first | (exfalso; omega) | skip
                 simp only [mk_Same_j1, h]; exact ⟨_, rfl, by simp; omega⟩
    | text h => cases hc <;> first | (exfalso; omega) | skip
                simp only [mk_Same_j1, h]; exact ⟨_, rfl, by simp⟩
    | bytes h => cases hc <;> first | (exfalso; omega) | skip
                 simp only [mk_Same_j1, h]; exact ⟨_, rfl, by simp⟩
    | ref h => cases hc <;> first | (exfalso; omega) | skip
               simp only [mk_Same_j1, h]; exact ⟨_, rfl, by simp⟩
    | list h =>
      cases hc <;> first | (exfalso; omega) | skip
      obtain ⟨r, h1, h2⟩ := hL h
      simp only [mk_Same_j1, h, h1, Option.bind_some]; exact ⟨r, rfl, by rw [h2, V.list.injEq]⟩
    | dict h =>
      cases hc <;> first | (exfalso; omega) | skip
      obtain ⟨r, h1, h2⟩ := hE (.inl h)
      simp only [mk_Same_j1, h, h1, Option.bind_some]; exact ⟨r, rfl, by rw [h2, V.dict.injEq]⟩
    | record h =>
      cases hc <;> first | (exfalso; omega) | skip
      obtain ⟨r, h1, h2⟩ := hE (.inr h)
      simp only [mk_Same_j1, h, h1, Option.bind_some]
      by_cases h3 : s.cls = t.cls
      · by_cases h4 : s.ver = t.ver
        · exact ⟨r, by rw [show (s.cls == t.cls) = true by simp [h3], show (s.ver == t.ver) = true by simp [h4]]; rfl, by rw [h2, V.record.injEq]; simp [h3, h4]⟩
        · exact ⟨false, by rw [show (s.cls == t.cls) = true by simp [h3], show (s.ver == t.ver) = false by simp [h4]]; rfl, by rw [V.record.injEq]; simp [h4]⟩
      · exact ⟨false, by rw [show (s.cls == t.cls) = false by simp [h3]]; rfl, by rw [V.record.injEq]; simp [h3]⟩
  · refine ⟨false, by rw [e_mk_Same, b_mk_Same, show (s.kind != t.kind) = true by simp [he]]; rfl, ?_⟩
    have : ¬ bu s = bu t := fun h => by
      have h2 := bu_kindW (t := t) (by rw [← h]; exact hn)
      rw [← h] at h2; omega
    simp [this]
theorem is_built {t : Term} {x : V} (h : bu t = x) (hc : Can x) : p_mk_Is x t = some true := by
  have hf := can_fine hc
  have h0 := mk_plain_eq x 0 0 1 (can_ok.2 hc) (by omega)
  have e : (1 : Int) - 1 = 0 := rfl
  rw [e] at h0
  have hb := bu_cl x hf
  obtain ⟨r, h1, h2⟩ := same_iff (cl x) t (by rw [hb]; exact hf)
  simp only [p_mk_Is, p_mk_Plain, h0, Option.bind_some, h1, h2.2 (by rw [hb, h])]
theorem Fine.near {x : V} : Fine x → Near x := by
  induction x using V.byParts with
  | _ x ih => exact fun h => .mk h.own.1 fun y hy => ih y hy (h.own.2 y hy)
theorem can_check {x : V} (h : (checkF x).2 = 0) : Can x := by
  rcases Classical.em (Can x) with hc | hc
  · exact hc
  · exact absurd h (check_cannot hc)
end Go.Proofs.Ythfdpaboekoncaa
