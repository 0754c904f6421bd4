/- Types among themselves: what is plainly of another type is sound. -/
import Derived.Test.YtiapdjdhaclmnaaC8
namespace Go.Proofs.Ytiapdjdhaclmnaa
open Go Aw
set_option linter.unusedVariables false
set_option linter.unusedSimpArgs false
set_option maxRecDepth 8000
/-! ### values that are the same are of the same types -/
theorem th_two {a b : Int} (h : th a b = 0) : a = 0 ∧ b = 0 := by
  unfold th at h
  split at h
  · exact ⟨by assumption, h⟩
  · exact absurd h (by assumption)
theorem cmpS_eq {a b : Str} (h : cmpS a b = 0) : a = b := by
  unfold cmpS at h
  split at h
  · cases h
  · split at h
    · rename_i h2; exact eq_of_beq h2
    · cases h
theorem ord_kind {x y : V} (h : ordF x y = 0) : kindOf x = kindOf y := by
  rcases Classical.em (kindOf x = kindOf y) with h2 | h2
  · exact h2
  · rw [ordF_ne h2] at h; exact c3_zero.1 h
theorem ord_third {x y c : V} (h : ordF x y = 0) : (ordF x c == 0) = (ordF y c == 0) := by
  rw [ord_key] at h
  have h1 := lexc_neg (key x) (key y)
  have key : ∀ a b c, lexc a b = 0 → lexc b a = 0 → lexc b c = 0 → lexc a c = 0 := by
    intro a b c h h2 h3
    have h4 := lexc_neg b c
    have t1 := (lexc_trans a b c (by omega) (by omega)).1
    have t2 := (lexc_trans c b a (by omega) (by omega)).1
    have h5 := lexc_neg a c
    omega
  have e : ordF x c = 0 ↔ ordF y c = 0 := by
    rw [ord_key, ord_key]
    exact ⟨fun h3 => key _ _ _ (by omega) h h3, fun h3 => key _ _ _ h (by omega) h3⟩
  by_cases h2 : ordF x c = 0
  · rw [e.1 h2, h2]
  · have h3 : ordF y c ≠ 0 := fun h => h2 (e.2 h)
    rw [beq_f h2, beq_f h3]
def Inv1 (f : Tst) : Prop := ∀ x y a b, Can x → Can y → ordF x y = 0 → (f x a).1 = (f y b).1
theorem any_inv {fs : List Tst} (h : ∀ f, f ∈ fs → Inv1 f) {x y : V} (a b : Int) (hx : Can x) (hy : Can y) (ho : ordF x y = 0) : anyG fs x a = anyG fs y b := by
  induction fs with
  | nil => rfl
  | cons f r ih => simp only [anyG]; rw [h f (by simp) x y a b hx hy ho, ih (fun g hg => h g (by simp [hg]))]
theorem list_inv {f : Tst} (h : Inv1 f) : ∀ (l k : List V) (a b : Int), (∀ x, x ∈ l → Can x) → (∀ x, x ∈ k → Can x) → ordL l k = 0 → (listG f l a).1 = (listG f k b).1
  | [], [], a, b, _, _, _ => rfl
  | [], y :: s, a, b, _, _, ho => by rw [ordL] at ho; cases ho
  | x :: r, [], a, b, _, _, ho => by rw [ordL] at ho; cases ho
  | x :: r, y :: s, a, b, hl, hk, ho => by
    rw [ordL] at ho
    obtain ⟨h1, h2⟩ := th_two ho
    simp only [listG, h x y a b (hl x (by simp)) (hk y (by simp)) h1]
    split
    · exact list_inv h r s _ _ (fun z hz => hl z (by simp [hz])) (fun z hz => hk z (by simp [hz])) h2
    · rfl
theorem dict_inv (q : Bool) (a a' : Int) : ∀ (m : Nat) (Z : List (Str × Bool × Tst)) (d e : List (Str × V)) (n n' : Int), Z.length + d.length ≤ m → (∀ z, z ∈ Z → Inv1 z.2.2) → (∀ x, x ∈ d → Can x.2) → (∀ x, x ∈ e → Can x.2) → ordD d e = 0 →
    (dictG q a Z d n).1 = (dictG q a' Z e n').1 := by
  intro m
  induction m with
  | zero =>
    intro Z d e n n' h hZ hd he ho
    cases Z with
    | cons z r => simp at h
    | nil =>
      cases d with
      | cons z r => simp at h
      | nil =>
        cases e with
        | nil => rw [dictG, dictG]
        | cons z r => rw [ordD] at ho; cases ho
  | succ m ih =>
    intro Z d e n n' h hZ hd he ho
    match Z, d, e with
    | [], [], [] => rw [dictG, dictG]
    | _, [], z :: r => rw [ordD] at ho; cases ho
    | _, (x, y) :: r, [] => rw [ordD] at ho; cases ho
    | (s, b, f) :: ts, [], [] =>
      rw [dictG, dictG]
      split
      · exact ih ts [] [] n n' (by simp at h ⊢; omega) (fun z hz => hZ z (by simp [hz])) (fun z hz => by cases hz) (fun z hz => by cases hz) (by rw [ordD])
      · rfl
    | [], (x, y) :: r, (x', y') :: r' =>
      rw [ordD] at ho
      obtain ⟨h1, h2⟩ := th_two ho
      rw [dictG, dictG]
      split
      · exact ih [] r r' _ _ (by simp at h ⊢; omega) hZ (fun z hz => hd z (by simp [hz])) (fun z hz => he z (by simp [hz])) h2
      · rfl
    | (s, b, f) :: ts, (x, y) :: r, (x', y') :: r' =>
      have ho' := ho
      rw [ordD] at ho
      obtain ⟨h1, h2⟩ := th_two ho
      obtain ⟨h3, h4⟩ := th_two h1
      have := cmpS_eq h3; subst this
      rw [dictG, dictG, hZ (s, b, f) (by simp) y y' n n' (hd (x, y) (by simp)) (he (x, y') (by simp)) h4]
      simp only [List.length_cons] at h
      split
      · split
        · exact ih ts ((x, y) :: r) ((x, y') :: r') n n' (by simp; omega) (fun z hz => hZ z (by simp [hz])) hd he ho'
        · rfl
      · split
        · split
          · exact ih ts r r' _ _ (by omega) (fun z hz => hZ z (by simp [hz])) (fun z hz => hd z (by simp [hz])) (fun z hz => he z (by simp [hz])) h2
          · rfl
        · split
          · exact ih ((s, b, f) :: ts) r r' _ _ (by simp; omega) hZ (fun z hz => hd z (by simp [hz])) (fun z hz => he z (by simp [hz])) h2
          · rfl
theorem isF_inv (t : Typ) : Inv1 (isF t) := by
  induction t using Typ.byParts with
  | _ t ih =>
  intro x y a b hx hy ho
  have hf : ∀ f, f ∈ t.parts.map isF → Inv1 f := fun f hf => by obtain ⟨u, hu, rfl⟩ := List.mem_map.1 hf; exact ih u hu
  have hk := ord_kind ho
  rw [isF_eq, isF_eq]
  unfold isG plc
  rw [any_inv hf a b hx hy ho, hk]
  split
  · rfl
  split
  · split <;> rfl
  split
  · have : sameF x (bu t.only) = sameF y (bu t.only) := by simp only [sameF, check_can hx, check_can hy, ord_third ho]
    rw [this]; split <;> rfl
  split
  · have : recOf t.cls x = recOf t.cls y := by
      cases x <;> cases y <;> first | rfl | (simp [kindOf] at hk; done) | skip
      rw [ordF] at ho
      have := cmpS_eq (th_two ho).1
      subst this; rfl
    rw [this]; split <;> rfl
  split
  · split <;> rfl
  split
  · cases x <;> cases y <;> first | rfl | (simp [kindOf] at hk; done) | skip
    rename_i l k
    rw [ordF] at ho
    show (match t.parts.map isF with | f :: _ => listG f l (a + 1) | [] => (false, a)).1 = (match t.parts.map isF with | f :: _ => listG f k (b + 1) | [] => (false, b)).1
    cases hp : t.parts.map isF with
    | nil => rfl
    | cons f r => exact list_inv (hf f (by rw [hp]; simp)) l k _ _ (fun z hz => hx.part hz) (fun z hz => hy.part hz) ho
  split
  · cases x <;> cases y <;> first | rfl | (simp [kindOf] at hk; done) | skip
    rename_i l k
    rw [ordF] at ho
    exact dict_inv _ _ _ _ _ l k _ _ (Nat.le_refl _) (fun z hz => hf _ (mem_zip3 hz)) (fun z hz => hx.part (List.mem_map_of_mem hz)) (fun z hz => hy.part (List.mem_map_of_mem hz)) ho
  · rfl
/-! ### lists that hold one -/
theorem has2_l (c : Typ) (l : List Typ) (h : ∀ x, x ∈ l → ∃ r, p_check_sub x c = some r) : ∀ k i, k + i = l.length → ∃ j : Int, slices_IndexFunc_api_Type_api_Type_check_sub_2_l1 p_check_sub_2 l c i = some j ∧ (j ≥ 0 ↔ ∃ x, x ∈ l.drop i ∧ p_check_sub x c = some false)
  | 0, i, hi => by
    refine ⟨-1, ?_, by rw [List.drop_of_length_le (by omega)]; simp⟩
    rw [slices_IndexFunc_api_Type_api_Type_check_sub_2_l1_eq]
    simp only [slices_IndexFunc_api_Type_api_Type_check_sub_2_l1b, lt_f (by omega : ¬ i < l.length), cond_false]
  | k + 1, i, hi => by
    obtain ⟨x, hx, hdr⟩ := dropc (by omega : i < l.length)
    obtain ⟨r, hr⟩ := h x (List.mem_of_getElem? hx)
    have hs : p_check_sub_2 x c = some (!r) := by rw [e_check_sub_2, b_check_sub_2, hr]; rfl
    rw [slices_IndexFunc_api_Type_api_Type_check_sub_2_l1_eq]
    simp only [slices_IndexFunc_api_Type_api_Type_check_sub_2_l1b, lt_t (by omega : i < l.length), cond_true, hx, hs, Option.bind_some]
    rw [hdr]
    cases r with
    | false => exact ⟨(i : Int), rfl, ⟨fun _ => ⟨x, by simp, hr⟩, fun _ => by omega⟩⟩
    | true =>
      obtain ⟨j, h1, h2⟩ := has2_l c l h k (i + 1) (by omega)
      refine ⟨j, h1, h2.trans ⟨fun ⟨y, hy, he⟩ => ⟨y, by simp [hy], he⟩, fun ⟨y, hy, he⟩ => ?_⟩⟩
      rcases List.mem_cons.1 hy with rfl | hy
      · rw [hr] at he; cases he
      · exact ⟨y, hy, he⟩
theorem has2 (c : Typ) (l : List Typ) (h : ∀ x, x ∈ l → ∃ r, p_check_sub x c = some r) : ∃ b, p_slices_ContainsFunc_api_Type_api_Type_check_sub_2 l c = some b ∧ (b = true ↔ ∃ x, x ∈ l ∧ p_check_sub x c = some false) := by
  obtain ⟨j, h1, h2⟩ := has2_l c l h l.length 0 (by omega)
  rw [List.drop_zero] at h2
  refine ⟨decide (j ≥ 0), ?_, by rw [decide_eq_true_iff]; exact h2⟩
  rw [e_slices_ContainsFunc_api_Type_api_Type_check_sub_2, b_slices_ContainsFunc_api_Type_api_Type_check_sub_2, e_slices_IndexFunc_api_Type_api_Type_check_sub_2, b_slices_IndexFunc_api_Type_api_Type_check_sub_2, h1]; rfl
theorem has3_l (c : Typ) (l : List Typ) (h : ∀ x, x ∈ l → ∃ r, p_check_sub c x = some r) : ∀ k i, k + i = l.length → ∃ j : Int, slices_IndexFunc_api_Type_api_Type_check_sub_3_l1 p_check_sub_3 l c i = some j ∧ (j ≥ 0 ↔ ∃ x, x ∈ l.drop i ∧ p_check_sub c x = some true)
  | 0, i, hi => by
    refine ⟨-1, ?_, by rw [List.drop_of_length_le (by omega)]; simp⟩
    rw [slices_IndexFunc_api_Type_api_Type_check_sub_3_l1_eq]
    simp only [slices_IndexFunc_api_Type_api_Type_check_sub_3_l1b, lt_f (by omega : ¬ i < l.length), cond_false]
  | k + 1, i, hi => by
    obtain ⟨x, hx, hdr⟩ := dropc (by omega : i < l.length)
    obtain ⟨r, hr⟩ := h x (List.mem_of_getElem? hx)
    have hs : p_check_sub_3 x c = some r := by rw [e_check_sub_3, b_check_sub_3, hr]; rfl
    rw [slices_IndexFunc_api_Type_api_Type_check_sub_3_l1_eq]
    simp only [slices_IndexFunc_api_Type_api_Type_check_sub_3_l1b, lt_t (by omega : i < l.length), cond_true, hx, hs, Option.bind_some]
    rw [hdr]
    cases r with
    | true => exact ⟨(i : Int), rfl, ⟨fun _ => ⟨x, by simp, hr⟩, fun _ => by omega⟩⟩
    | false =>
      obtain ⟨j, h1, h2⟩ := has3_l c l h k (i + 1) (by omega)
      refine ⟨j, h1, h2.trans ⟨fun ⟨y, hy, he⟩ => ⟨y, by simp [hy], he⟩, fun ⟨y, hy, he⟩ => ?_⟩⟩
      rcases List.mem_cons.1 hy with rfl | hy
      · rw [hr] at he; cases he
      · exact ⟨y, hy, he⟩
theorem has3 (c : Typ) (l : List Typ) (h : ∀ x, x ∈ l → ∃ r, p_check_sub c x = some r) : ∃ b, p_slices_ContainsFunc_api_Type_api_Type_check_sub_3 l c = some b ∧ (b = true ↔ ∃ x, x ∈ l ∧ p_check_sub c x = some true) := by
  obtain ⟨j, h1, h2⟩ := has3_l c l h l.length 0 (by omega)
  rw [List.drop_zero] at h2
  refine ⟨decide (j ≥ 0), ?_, by rw [decide_eq_true_iff]; exact h2⟩
  rw [e_slices_ContainsFunc_api_Type_api_Type_check_sub_3, b_slices_ContainsFunc_api_Type_api_Type_check_sub_3, e_slices_IndexFunc_api_Type_api_Type_check_sub_3, b_slices_IndexFunc_api_Type_api_Type_check_sub_3, h1]; rfl
/-! ### where a name stands -/
theorem at_l (n : List Str) (m : Str) : ∀ k i, k + i = n.length → ∃ r, slices_Index_string_string_l1 n m i = some r ∧
    ((r = -1 ∧ m ∉ n.drop i) ∨ ∃ j : Nat, r = (j : Int) ∧ i ≤ j ∧ n[j]? = some m)
  | 0, i, h => by
    refine ⟨-1, ?_, .inl ⟨rfl, by rw [List.drop_of_length_le (by omega)]; simp⟩⟩
    rw [slices_Index_string_string_l1_eq]
    simp only [slices_Index_string_string_l1b, lt_f (by omega : ¬ i < n.length), cond_false]
  | k + 1, i, h => by
    obtain ⟨s, hs, hdr⟩ := dropc (by omega : i < n.length)
    rw [slices_Index_string_string_l1_eq]
    simp only [slices_Index_string_string_l1b, lt_t (by omega : i < n.length), cond_true, hs, Option.bind_some]
    cases heq : m == s with
    | true =>
      have := eq_of_beq heq; subst this
      exact ⟨_, rfl, .inr ⟨i, rfl, Nat.le_refl _, hs⟩⟩
    | false =>
      simp only [cond_false]
      obtain ⟨r, h1, h2⟩ := at_l n m k (i + 1) (by omega)
      refine ⟨r, h1, ?_⟩
      rcases h2 with ⟨h3, h4⟩ | ⟨j, h3, h4, h5⟩
      · refine .inl ⟨h3, ?_⟩
        rw [hdr]
        intro hm
        rcases List.mem_cons.1 hm with rfl | hm
        · simp at heq
        · exact h4 hm
      · exact .inr ⟨j, h3, by omega, h5⟩
theorem at_eq (n : List Str) (m : Str) : ∃ r, p_slices_Index_string_string n m = some r ∧ ((r = -1 ∧ m ∉ n) ∨ ∃ j : Nat, r = (j : Int) ∧ n[j]? = some m) := by
  obtain ⟨r, h1, h2⟩ := at_l n m n.length 0 (by omega)
  rw [List.drop_zero] at h2
  refine ⟨r, h1, ?_⟩
  rcases h2 with h | ⟨j, h3, _, h5⟩
  · exact .inl h
  · exact .inr ⟨j, h3, h5⟩
theorem holds_eq (n : List Str) (m : Str) : ∃ b, p_slices_Contains_string_string n m = some b ∧ (b = true ↔ m ∈ n) := by
  obtain ⟨r, h1, h2⟩ := at_eq n m
  refine ⟨decide (r ≥ 0), by simp only [p_slices_Contains_string_string, h1, Option.bind_some], ?_⟩
  rw [decide_eq_true_iff]
  rcases h2 with ⟨rfl, h3⟩ | ⟨j, rfl, h3⟩
  · exact ⟨fun h => by omega, fun h => absurd h h3⟩
  · exact ⟨fun _ => List.mem_of_getElem? h3, fun _ => by omega⟩
theorem miss_l (n : List Str) (t : Typ) : ∀ k i, k + i = n.length → ∃ j : Int, slices_IndexFunc_string_string_check_dicts_1_l1 n t i = some j ∧ (j ≥ 0 ↔ ∃ s, s ∈ n.drop i ∧ s ∉ t.names)
  | 0, i, hi => by
    refine ⟨-1, ?_, by rw [List.drop_of_length_le (by omega)]; simp⟩
    rw [slices_IndexFunc_string_string_check_dicts_1_l1_eq]
    simp only [slices_IndexFunc_string_string_check_dicts_1_l1b, lt_f (by omega : ¬ i < n.length), cond_false]
  | k + 1, i, hi => by
    obtain ⟨x, hx, hdr⟩ := dropc (by omega : i < n.length)
    obtain ⟨b, hb, hm⟩ := holds_eq t.names x
    have hs : p_check_dicts_1 x t = some (!b) := by simp only [p_check_dicts_1, hb, Option.bind_some]
    rw [slices_IndexFunc_string_string_check_dicts_1_l1_eq]
    simp only [slices_IndexFunc_string_string_check_dicts_1_l1b, lt_t (by omega : i < n.length), cond_true, hx, hs, Option.bind_some]
    rw [hdr]
    cases b with
    | false => exact ⟨(i : Int), rfl, ⟨fun _ => ⟨x, by simp, fun h => by have := hm.2 h; cases this⟩, fun _ => by omega⟩⟩
    | true =>
      obtain ⟨j, h1, h2⟩ := miss_l n t k (i + 1) (by omega)
      refine ⟨j, h1, h2.trans ⟨fun ⟨y, hy, he⟩ => ⟨y, by simp [hy], he⟩, fun ⟨y, hy, he⟩ => ?_⟩⟩
      rcases List.mem_cons.1 hy with rfl | hy
      · exact absurd (hm.1 rfl) he
      · exact ⟨y, hy, he⟩
theorem miss_eq (n : List Str) (t : Typ) : ∃ b, p_slices_ContainsFunc_string_string_check_dicts_1 n t = some b ∧ (b = true ↔ ∃ s, s ∈ n ∧ s ∉ t.names) := by
  obtain ⟨j, h1, h2⟩ := miss_l n t n.length 0 (by omega)
  rw [List.drop_zero] at h2
  refine ⟨decide (j ≥ 0), ?_, by rw [decide_eq_true_iff]; exact h2⟩
  simp only [p_slices_ContainsFunc_string_string_check_dicts_1, p_slices_IndexFunc_string_string_check_dicts_1, h1, Option.bind_some]
end Go.Proofs.Ytiapdjdhaclmnaa
