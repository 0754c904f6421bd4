/- CheckSound: what is plainly of another type is sound; each type is of itself. -/
import Derived.Test.YtiapdjdhaclmnaaC9
namespace Go.Proofs.Ytiapdjdhaclmnaa
open Go Aw
set_option linter.unusedVariables false
set_option linter.unusedSimpArgs false
set_option maxRecDepth 8000
/-! ### rows of a type of dicts -/
theorem look_of_mem {F : Type} : ∀ {W : List (Str × Bool × F)}, SrtW W → ∀ {s : Str} {l : Bool} {u : F}, (s, l, u) ∈ W → lookG W s = some (l, u)
  | (s', l', u') :: W, h, s, l, u, hm => by
    obtain ⟨w1, w2⟩ := List.pairwise_cons.1 h
    rcases List.mem_cons.1 hm with he | hm
    · injection he with h1 h2; injection h2 with h2 h3
      subst h1 h2 h3
      simp [lookG]
    · rw [look_skip (w1 _ hm)]; exact look_of_mem w2 hm
theorem look_is {F : Type} : ∀ {W : List (Str × Bool × F)} {m : Str} {b : Bool} {u : F}, lookG W m = some (b, u) → (m, b, u) ∈ W
  | (s, c, w) :: W, m, b, u, h => by
    rw [lookG] at h
    split at h
    · rename_i he; have := eq_of_beq he; subst this
      injection h with h; injection h with h1 h2; subst h1 h2; simp
    · exact List.mem_cons_of_mem _ (look_is h)
theorem look_not {F : Type} : ∀ {W : List (Str × Bool × F)} {m : Str}, (∀ z, z ∈ W → z.1 ≠ m) → lookG W m = none
  | [], m, _ => rfl
  | (s, c, w) :: W, m, h => by
    rw [lookG, if_neg (by have := h (s, c, w) (by simp); simp; exact fun e => this e.symm)]
    exact look_not (fun z hz => h z (by simp [hz]))
theorem tz_at {t : Typ} (D : DT t) {j : Nat} (hj : j < t.names.length) : ∃ s l u, t.names[j]? = some s ∧ t.lacks[j]? = some l ∧ t.parts[j]? = some u ∧ (s, l, u) ∈ tz t := by
  have h1 := List.getElem?_eq_getElem hj
  have h2 := List.getElem?_eq_getElem (show j < t.lacks.length by rw [D.l]; exact hj)
  have h3 := List.getElem?_eq_getElem (show j < t.parts.length by rw [D.p]; exact hj)
  refine ⟨_, _, _, h1, h2, h3, ?_⟩
  have h4 : (tz t).drop j = _ := zip_drop h1 h2 h3
  exact List.mem_of_mem_drop (i := j) (by rw [h4]; exact List.mem_cons_self)
theorem tz_is {t : Typ} {s : Str} {l : Bool} {u : Typ} (h : (s, l, u) ∈ tz t) : ∃ j : Nat, t.names[j]? = some s ∧ t.lacks[j]? = some l ∧ t.parts[j]? = some u := by
  obtain ⟨j, hj⟩ := List.getElem?_of_mem h
  unfold tz at hj
  rw [List.getElem?_zip_eq_some] at hj
  obtain ⟨h1, h2⟩ := hj
  rw [List.getElem?_zip_eq_some] at h2
  exact ⟨j, h1, h2.1, h2.2⟩
theorem tz_name {t : Typ} {z : Tri} (h : z ∈ tz t) : z.1 ∈ t.names := (List.of_mem_zip (a := z.1) (b := z.2) h).1
theorem isB_dict {t : Typ} (hk : t.kind = 6) (d : List (Str × V)) : isB t (.dict d) = (dictG t.opn 0 ((tz t).map fun z => (z.1, z.2.1, isF z.2.2)) d 1).1 := by
  unfold isB
  rw [isF_eq]
  unfold isG
  rw [hk]
  simp only [show ¬ (6 : Int) = 1 by decide, show ¬ (6 : Int) = 3 by decide, show ¬ (6 : Int) = 4 by decide, show ¬ (6 : Int) = 8 by decide, show ¬ (6 : Int) = 7 by decide, show ¬ (6 : Int) = 5 by decide, if_false, if_true]
  rw [zip_f isF]; rfl
/-! ### the program's word on types of dicts -/
def DQ (a b : Typ) (j : Nat) : Prop := ∃ s lb ub, b.names[j]? = some s ∧ b.lacks[j]? = some lb ∧ b.parts[j]? = some ub ∧
  ((s ∉ a.names ∧ lb = true ∧ a.opn = false) ∨ ∃ ua la, (s, la, ua) ∈ tz a ∧ p_check_sub ua ub = some true ∧ (la = true → lb = true))
theorem dd_l (a b : Typ) (A : DT a) (B : DT b) (hs : ∀ u, u ∈ a.parts → ∀ w, w ∈ b.parts → ∃ r, p_check_sub u w = some r) : ∀ k i, k + i = b.names.length →
    ∃ r, check_dicts_l1 p_check_sub a b i = some r ∧ (r = true → ∀ j, i ≤ j → j < b.names.length → DQ a b j)
  | 0, i, h => by
    refine ⟨true, ?_, fun _ j h1 h2 => by omega⟩
    rw [check_dicts_l1_eq]
    simp only [check_dicts_l1b, lt_f (by omega : ¬ i < b.names.length), cond_false]
  | k + 1, i, h => by
    obtain ⟨s, lb, ub, e1, e2, e3, _⟩ := tz_at B (by omega : i < b.names.length)
    obtain ⟨r, hr, hrest⟩ := dd_l a b A B hs k (i + 1) (by omega)
    obtain ⟨x, hx, hcase⟩ := at_eq a.names s
    have next : ∀ j, DQ a b i → (r = true → i ≤ j → j < b.names.length → DQ a b j) := fun j hq hrt hij hj => by
      rcases Nat.lt_or_ge i j with hlt | hge
      · exact hrest hrt j (by omega) hj
      · have : j = i := by omega
        subst this; exact hq
    rw [check_dicts_l1_eq]
    simp only [check_dicts_l1b, lt_t (by omega : i < b.names.length), cond_true, e1, hx, Option.bind_some, e2, e3, check_dicts_j3, check_dicts_j4, check_dicts_j2, hr]
    rcases hcase with ⟨rfl, hno⟩ | ⟨m, rfl, hm⟩
    · have e : decide ((-1 : Int) < 0) = true := rfl
      simp only [e, cond_true]
      cases lb with
      | false => exact ⟨false, rfl, fun h => by cases h⟩
      | true =>
        simp only [Bool.not_true, cond_false]
        cases ho : a.opn with
        | true => exact ⟨false, rfl, fun h => by cases h⟩
        | false => exact ⟨r, rfl, fun hrt j hij hj => next j ⟨s, true, ub, e1, e2, e3, .inl ⟨hno, rfl, ho⟩⟩ hrt hij hj⟩
    · have e : decide ((m : Int) < 0) = false := decide_eq_false (by omega)
      obtain ⟨s', la, ua, f1, f2, f3, f4⟩ := tz_at A (List.getElem?_eq_some_iff.1 hm).1
      rw [hm] at f1; injection f1 with f1; subst f1
      obtain ⟨q, hq⟩ := hs ua (List.mem_of_getElem? f3) ub (List.mem_of_getElem? e3)
      simp only [e, cond_false, idxI_nat, f3, f2, Option.bind_some, hq]
      cases q with
      | false => exact ⟨false, rfl, fun h => by cases h⟩
      | true =>
        simp only [Bool.not_true, cond_false]
        cases la with
        | false => exact ⟨r, rfl, fun hrt j hij hj => next j ⟨s, lb, ub, e1, e2, e3, .inr ⟨ua, false, f4, hq, fun h => by cases h⟩⟩ hrt hij hj⟩
        | true =>
          simp only [cond_true]
          cases lb with
          | false => exact ⟨false, rfl, fun h => by cases h⟩
          | true => exact ⟨r, rfl, fun hrt j hij hj => next j ⟨s, true, ub, e1, e2, e3, .inr ⟨ua, true, f4, hq, fun _ => rfl⟩⟩ hrt hij hj⟩
theorem dicts_eq (a b : Typ) (A : DT a) (B : DT b) (hs : ∀ u, u ∈ a.parts → ∀ w, w ∈ b.parts → ∃ r, p_check_sub u w = some r) :
    ∃ r, p_check_dicts a b = some r ∧ (r = true → (b.opn = false → a.opn = false ∧ ∀ s, s ∈ a.names → s ∈ b.names) ∧ ∀ j, j < b.names.length → DQ a b j) := by
  obtain ⟨r, hr, hq⟩ := dd_l a b A B hs b.names.length 0 (by omega)
  rw [e_check_dicts, b_check_dicts]
  simp only [check_dicts_j1, check_dicts_j5, hr]
  cases hb : b.opn with
  | true => exact ⟨r, rfl, fun h => ⟨fun h => (by cases h), fun j hj => hq h j (by omega) hj⟩⟩
  | false =>
    simp only [Bool.not_false, cond_true]
    cases ha : a.opn with
    | true => exact ⟨false, rfl, fun h => by cases h⟩
    | false =>
      obtain ⟨c, hc, hm⟩ := miss_eq a.names b
      simp only [cond_false, hc, Option.bind_some]
      cases c with
      | true => exact ⟨false, rfl, fun h => by cases h⟩
      | false =>
        refine ⟨r, rfl, fun h => ⟨fun _ => ⟨by simp, fun s hs => ?_⟩, fun j hj => hq h j (by omega) hj⟩⟩
        rcases Classical.em (s ∈ b.names) with h | h
        · exact h
        · have := hm.2 ⟨s, hs, h⟩; cases this
theorem dict_sound {a b : Typ} (ha : VT a) (hb : VT b) (ka : a.kind = 6) (kb : b.kind = 6) (A : DT a) (B : DT b) (h1 : b.opn = false → a.opn = false ∧ ∀ s, s ∈ a.names → s ∈ b.names) (h2 : ∀ j, j < b.names.length → DQ a b j)
    (hs : ∀ u, u ∈ a.parts → ∀ w, w ∈ b.parts → p_check_sub u w = some true → ∀ v, Can v → isB u v = true → isB w v = true) (d : List (Str × V)) (hd : Can (.dict d)) (hi : isB a (.dict d) = true) : isB b (.dict d) = true := by
  have sa : SrtW (tz a) := srt_zip (srt_of (ha.risen ka)).1 _
  have sb : SrtW (tz b) := srt_zip (srt_of (hb.risen kb)).1 _
  have sd := (srt_of (near_risen hd.1.own)).1
  rw [isB_dict ka] at hi
  rw [isB_dict kb]
  have hbad := dict_bad a.opn 0 _ (tz a) d 1 (Nat.le_refl _) sa sd hi
  have hq : ∀ s lb ub, (s, lb, ub) ∈ tz b → (s ∉ a.names ∧ lb = true ∧ a.opn = false) ∨ ∃ ua la, (s, la, ua) ∈ tz a ∧ p_check_sub ua ub = some true ∧ (la = true → lb = true) := by
    intro s lb ub hm
    obtain ⟨j, g1, g2, g3⟩ := tz_is hm
    obtain ⟨s', lb', ub', k1, k2, k3, k4⟩ := h2 j (List.getElem?_eq_some_iff.1 g1).1
    rw [g1] at k1; rw [g2] at k2; rw [g3] at k3
    injection k1 with k1; injection k2 with k2; injection k3 with k3
    subst k1 k2 k3; exact k4
  refine dict_good b.opn 0 _ (tz b) d 1 (Nat.le_refl _) sb sd (fun p hp => ?_) (needs_le _ (tz b) _ (Nat.le_refl _) sb sd (fun z hz hl => ?_))
  · have hA := hbad.1 p hp
    cases hl : lookG (tz b) p.1 with
    | none =>
      cases ho : b.opn with
      | true => rfl
      | false =>
        obtain ⟨g1, g2⟩ := h1 ho
        cases hla : lookG (tz a) p.1 with
        | none => rw [hla] at hA; simp only [] at hA; rw [g1] at hA; cases hA
        | some q =>
          obtain ⟨la, ua⟩ := q
          have := g2 p.1 (tz_name (look_is hla))
          obtain ⟨j, hj⟩ := List.getElem?_of_mem this
          obtain ⟨s, l, u, f1, _, _, f4⟩ := tz_at B (List.getElem?_eq_some_iff.1 hj).1
          rw [hj] at f1; injection f1 with f1; subst f1
          rw [look_of_mem sb f4] at hl; cases hl
    | some q =>
      obtain ⟨lb, ub⟩ := q
      simp only []
      have hmb := look_is hl
      rcases hq _ _ _ hmb with ⟨g1, _, g3⟩ | ⟨ua, la, g1, g2, _⟩
      · have : lookG (tz a) p.1 = none := look_not (fun z hz he => g1 (by rw [← he]; exact tz_name hz))
        rw [this] at hA; simp only [] at hA; rw [g3] at hA; cases hA
      · rw [look_of_mem sa g1] at hA
        simp only [] at hA
        exact hs ua (mem_zip3 g1) ub (mem_zip3 hmb) g2 p.2 (hd.part (List.mem_map_of_mem hp)) hA
  · obtain ⟨s, lb, ub⟩ := z
    simp only [] at hl
    subst hl
    rcases hq _ _ _ hz with ⟨_, g2, _⟩ | ⟨ua, la, g1, _, g3⟩
    · cases g2
    · have hla : la = false := by
        cases la with
        | false => rfl
        | true => have := g3 rfl; cases this
      subst hla
      have h9 := hbad.2 _ g1 rfl
      exact h9
/-! ### sound -/
theorem isB_kind1 {t : Typ} (h : t.kind = 1) (v : V) : isB t v = true := by unfold isB; rw [isF_eq]; unfold isG; rw [h]; rfl
theorem isB_kind2 {t : Typ} (h : t.kind = 2) (v : V) : isB t v = false := by unfold isB; rw [isF_eq]; unfold isG; rw [h]; rfl
theorem isB_kind3 {t : Typ} (h : t.kind = 3) (v : V) : isB t v = (kindOf v == t.of) := by unfold isB; rw [isF_eq]; unfold isG; rw [h]; show (plc _ _).1 = _; unfold plc; split <;> simp_all
theorem isB_kind4 {t : Typ} (h : t.kind = 4) (v : V) : isB t v = sameF v (bu t.only) := by unfold isB; rw [isF_eq]; unfold isG; rw [h]; show (plc _ _).1 = _; unfold plc; split <;> simp_all
theorem isB_kind8 {t : Typ} (h : t.kind = 8) (v : V) : isB t v = recOf t.cls v := by unfold isB; rw [isF_eq]; unfold isG; rw [h]; show (plc _ _).1 = _; unfold plc; split <;> simp_all
theorem isB_kind7 {t : Typ} (h : t.kind = 7) (v : V) : isB t v = anyG (t.parts.map isF) v 0 := by unfold isB; rw [isF_eq]; unfold isG; rw [h]; show (plc _ _).1 = _; unfold plc; split <;> simp_all
theorem any_is {v : V} {a : Int} : ∀ {l : List Typ}, anyG (l.map isF) v a = true → ∃ u, u ∈ l ∧ isB u v = true
  | [], h => by cases h
  | x :: r, h => by
    rw [List.map_cons, anyG, isB_at, Bool.or_eq_true] at h
    rcases h with h | h
    · exact ⟨x, by simp, h⟩
    · obtain ⟨u, hu, hb⟩ := any_is h; exact ⟨u, by simp [hu], hb⟩
theorem isB_kind5 {t p : Typ} (h : t.kind = 5) (hp : t.parts = [p]) (l : List V) : isB t (.list l) = (listG (isF p) l 1).1 := by unfold isB; rw [isF_eq]; unfold isG; rw [h, hp]; rfl
theorem isB_list {t : Typ} (h : t.kind = 5) {v : V} (hb : isB t v = true) : ∃ l, v = .list l := by
  unfold isB at hb; rw [isF_eq] at hb; unfold isG at hb; rw [h] at hb
  cases v <;> first | exact ⟨_, rfl⟩ | (cases hb)
theorem isB_isdict {t : Typ} (h : t.kind = 6) {v : V} (hb : isB t v = true) : ∃ l, v = .dict l := by
  unfold isB at hb; rw [isF_eq] at hb; unfold isG at hb; rw [h] at hb
  cases v <;> first | exact ⟨_, rfl⟩ | (cases hb)
theorem all_is {p : Typ} : ∀ {l : List V} {n : Int}, (listG (isF p) l n).1 = true → ∀ x, x ∈ l → isB p x = true
  | y :: r, n, h, x, hx => by
    rw [listG, isB_at] at h
    cases hy : isB p y with
    | false => rw [hy] at h; simp at h
    | true =>
      rw [hy, if_pos rfl] at h
      rcases List.mem_cons.1 hx with rfl | hx
      · exact hy
      · exact all_is h x hx
def SubOk (a b : Typ) : Prop := ∃ r, p_check_sub a b = some r ∧ (r = true → ∀ v, Can v → isB a v = true → isB b v = true)
theorem sub_ok : ∀ (n : Nat) (a b : Typ), SizeOf.sizeOf a + SizeOf.sizeOf b ≤ n → VT a → VT b → bkTy a ≤ 268435456 → bkTy b ≤ 268435456 → SubOk a b := by
  intro n
  induction n with
  | zero => intro a b h; have : 0 < SizeOf.sizeOf a := by cases a; simp; omega
            omega
  | succ n ih =>
    intro a b hn va vb ba bb
    have Ba := tb ba
    have Bb := tb bb
    have Ka := va.know
    have Kb := vb.know
    unfold SubOk
    rw [e_check_sub, b_check_sub]
    simp only [check_sub_j1]
    by_cases hb1 : b.kind = 1
    · exact ⟨true, by simp [hb1], fun _ v _ _ => isB_kind1 hb1 v⟩
    by_cases ha2 : a.kind = 2
    · exact ⟨true, by simp [hb1, ha2], fun _ v _ h => by rw [isB_kind2 ha2] at h; cases h⟩
    by_cases ha7 : a.kind = 7
    · have hp : ∀ u, u ∈ a.parts → VT u := by cases Ka <;> first | assumption | (exfalso; omega)
      have hx : ∀ u, u ∈ a.parts → SubOk u b := fun u hu => ih u b (by have := typ_lt hu; omega) (hp u hu) vb (Ba.parts u hu) bb
      obtain ⟨c, hc, hm⟩ := has2 b a.parts (fun u hu => let ⟨r, h, _⟩ := hx u hu; ⟨r, h⟩)
      refine ⟨!c, by simp [beq_f hb1, ha7, hc], fun hr v hv hi => ?_⟩
      rw [isB_kind7 ha7] at hi
      obtain ⟨u, hu, hub⟩ := any_is hi
      obtain ⟨r, h1, h2⟩ := hx u hu
      cases r with
      | true => exact h2 rfl v hv hub
      | false => have := hm.2 ⟨u, hu, h1⟩; subst this; cases hr
    by_cases hb7 : b.kind = 7
    · have hp : ∀ u, u ∈ b.parts → VT u := by cases Kb <;> first | assumption | (exfalso; omega)
      have hx : ∀ u, u ∈ b.parts → SubOk a u := fun u hu => ih a u (by have := typ_lt hu; omega) va (hp u hu) ba (Bb.parts u hu)
      obtain ⟨c, hc, hm⟩ := has3 a b.parts (fun u hu => let ⟨r, h, _⟩ := hx u hu; ⟨r, h⟩)
      refine ⟨c, by simp [beq_f ha2, beq_f ha7, hb7, hc], fun hr v hv hi => ?_⟩
      obtain ⟨u, hu, h1⟩ := hm.1 hr
      obtain ⟨r, h3, h4⟩ := hx u hu
      rw [h1] at h3; injection h3 with h3
      rw [isB_kind7 hb7]
      exact any_mem 0 (h4 h3.symm v hv hi) hu
    by_cases hb2 : b.kind = 2
    · exact ⟨false, by simp [beq_f ha2, beq_f ha7, hb2], fun h => by cases h⟩
    cases Ka with
    | none h => exact absurd h ha2
    | union h _ => exact absurd h ha7
    | any h => exact ⟨false, by simp [beq_f hb1, beq_f hb7, beq_f hb2, h], fun h => by cases h⟩
    | only h ho =>
      have hf := check_fine ho
      have hc := can_check ho
      have e : (ofF (lo a.only)).1 = bu a.only := by rw [lo_bu _ hf.1, ofF, if_neg (by simp [ho])]
      have hi := check_is_eq b vb bb (bu a.only) 0 hc (by omega) (by have := hc.2.1; omega)
      refine ⟨isB b (bu a.only), ?_, fun hr v hv hv2 => ?_⟩
      · simp only [h, beq_f hb1, beq_f hb7, beq_f hb2, value_Of_eq a.only Ba.only, e, Option.bind_some, hi]; rfl
      · rw [isB_kind4 h] at hv2
        simp only [sameF, Bool.and_eq_true, beq_iff_eq] at hv2
        have := isF_inv b v (bu a.only) 0 0 hv hc hv2.2.2
        show (isF b v 0).1 = true
        rw [this]; exact hr
    | kind h =>
      by_cases hb3 : b.kind = 3
      · refine ⟨a.of == b.of, by simp [h, hb3], fun hr v hv hv2 => ?_⟩
        rw [isB_kind3 h] at hv2; rw [isB_kind3 hb3]
        have := eq_of_beq hr; rw [← this]; exact hv2
      · exact ⟨false, by simp [beq_f hb1, beq_f hb7, beq_f hb2, h, beq_f hb3], fun h => by cases h⟩
    | recd h =>
      by_cases hb3 : b.kind = 3
      · by_cases ho : b.of = 10
        · refine ⟨true, by simp [h, hb3, ho], fun hr v hv hv2 => ?_⟩
          rw [isB_kind8 h] at hv2; rw [isB_kind3 hb3, ho]
          cases v <;> first | rfl | (cases hv2)
        · exact ⟨false, by simp [h, hb3, beq_f ho], fun h => by cases h⟩
      · by_cases hb8 : b.kind = 8
        · refine ⟨a.cls == b.cls, by simp [h, hb8], fun hr v hv hv2 => ?_⟩
          rw [isB_kind8 h] at hv2; rw [isB_kind8 hb8]
          have := eq_of_beq hr; rw [← this]; exact hv2
        · exact ⟨false, by simp [beq_f hb1, beq_f hb7, beq_f hb2, h, beq_f hb3, beq_f hb8], fun h => by cases h⟩
    | list h hp =>
      obtain ⟨p, hp1, hp2⟩ := hp
      by_cases hb3 : b.kind = 3
      · by_cases ho : b.of = 8
        · refine ⟨true, by simp [h, hb3, ho], fun hr v hv hv2 => ?_⟩
          obtain ⟨l, rfl⟩ := isB_list h hv2
          rw [isB_kind3 hb3, ho]; rfl
        · exact ⟨false, by simp [h, hb3, beq_f ho], fun h => by cases h⟩
      · by_cases hb5 : b.kind = 5
        · obtain ⟨q, hq1, hq2⟩ : ∃ q, b.parts = [q] ∧ VT q := by cases Kb <;> first | assumption | (exfalso; omega)
          have hpm : p ∈ a.parts := by rw [hp1]; simp
          have hqm : q ∈ b.parts := by rw [hq1]; simp
          obtain ⟨r, h1, h2⟩ := ih p q (by have := typ_lt hpm; have := typ_lt hqm; omega) hp2 hq2 (Ba.parts p hpm) (Bb.parts q hqm)
          have h11 : p_check_sub_1_1 p q = some r := by rw [e_check_sub_1_1, b_check_sub_1_1, h1]; rfl
          have h1s : p_check_sub_1 q = some q := by simp only [p_check_sub_1, Typ.eta]
          refine ⟨r, by simp [h, hb5, hp1, hq1, h11, h1s], fun hr v hv hv2 => ?_⟩
          obtain ⟨l, rfl⟩ := isB_list h hv2
          rw [isB_kind5 h hp1] at hv2; rw [isB_kind5 hb5 hq1]
          exact list_all _ (fun x hx => h2 hr x (hv.part hx) (all_is hv2 x hx))
        · exact ⟨false, by simp [beq_f hb1, beq_f hb7, beq_f hb2, h, beq_f hb3, beq_f hb5], fun h => by cases h⟩
    | dict h hn1 hn2 hn3 hp =>
      by_cases hb3 : b.kind = 3
      · by_cases ho : b.of = 9
        · refine ⟨true, by simp [h, hb3, ho], fun hr v hv hv2 => ?_⟩
          obtain ⟨l, rfl⟩ := isB_isdict h hv2
          rw [isB_kind3 hb3, ho]; rfl
        · exact ⟨false, by simp [h, hb3, beq_f ho], fun h => by cases h⟩
      · by_cases hb6 : b.kind = 6
        · have D : DT a := ⟨hn1, hn2, hn3⟩
          obtain ⟨E, hq⟩ : DT b ∧ ∀ u, u ∈ b.parts → VT u := by
            cases Kb with
            | dict _ x1 x2 x3 x4 => exact ⟨⟨x1, x2, x3⟩, x4⟩
            | _ => exfalso; omega
          have hx : ∀ u, u ∈ a.parts → ∀ w, w ∈ b.parts → SubOk u w := fun u hu w hw => ih u w (by have := typ_lt hu; have := typ_lt hw; omega) (hp u hu) (hq w hw) (Ba.parts u hu) (Bb.parts w hw)
          obtain ⟨r, h1, h2⟩ := dicts_eq a b D E (fun u hu w hw => let ⟨r, h, _⟩ := hx u hu w hw; ⟨r, h⟩)
          refine ⟨r, by simp [h, hb6, h1, Typ.eta], fun hr v hv hv2 => ?_⟩
          obtain ⟨l, rfl⟩ := isB_isdict h hv2
          refine dict_sound va vb h hb6 D E (h2 hr).1 (h2 hr).2 (fun u hu w hw hsub => ?_) l hv hv2
          obtain ⟨r', h3, h4⟩ := hx u hu w hw
          rw [hsub] at h3; injection h3 with h3
          exact h4 h3.symm
        · exact ⟨false, by simp [beq_f hb1, beq_f hb7, beq_f hb2, h, beq_f hb3, beq_f hb6], fun h => by cases h⟩
end Go.Proofs.Ytiapdjdhaclmnaa
