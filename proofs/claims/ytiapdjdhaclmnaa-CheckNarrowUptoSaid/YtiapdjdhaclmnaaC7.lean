/- CheckNarrow: what is left is of the type; made narrow again it is the same. -/
import Derived.Test.YtiapdjdhaclmnaaC6
import Derived.Test.YtiapdjdhaclmnaaN10b
namespace Go.Proofs.Ytiapdjdhaclmnaa
open Go Aw
set_option linter.unusedVariables false
set_option linter.unusedSimpArgs false
set_option maxRecDepth 8000
/-! ### copies -/
theorem take_one {α : Type} {l : List α} {i : Nat} {x : α} (h : l[i]? = some x) : l.take i ++ [x] = l.take (i + 1) := by
  have := take_snoc (f := id) h
  simpa using this
theorem cp_l' (l : List V) (hb : l.length ≤ 4096) (hl : ∀ u, u ∈ l → p_value_copied u = some u) : ∀ k i, k + i = l.length → value_copied_l1 p_value_copied (.list l) (l.take i) i = some (.list l)
  | 0, i, h => by
    rw [value_copied_l1_eq]
    simp only [value_copied_l1b, V.asList, lt_f (by omega : ¬ i < l.length), cond_false]
    rw [List.take_of_length_le (by omega)]
  | k + 1, i, h => by
    obtain ⟨x, hx, _⟩ := dropc (by omega : i < l.length)
    rw [value_copied_l1_eq]
    simp only [value_copied_l1b, V.asList, lt_t (by omega : i < l.length), cond_true, hx, Option.bind_some, hl x (List.mem_of_getElem? hx), app1 (b := 16) (by omega) (show (l.take i).length ≤ 1073741824 by simp; omega), take_one hx]
    exact cp_l' l hb hl k (i + 1) (by omega)
theorem cp_d' (l : List (Str × V)) (hb : l.length ≤ 4096) (hl : ∀ u, u ∈ l → p_value_copied u.2 = some u.2) : ∀ k i, k + i = l.length → value_copiedDict_l1 p_value_copied l (l.take i) i = some l
  | 0, i, h => by
    rw [value_copiedDict_l1_eq]
    simp only [value_copiedDict_l1b, lt_f (by omega : ¬ i < l.length), cond_false]
    rw [List.take_of_length_le (by omega)]
  | k + 1, i, h => by
    obtain ⟨x, hx, _⟩ := dropc (by omega : i < l.length)
    rw [value_copiedDict_l1_eq]
    simp only [value_copiedDict_l1b, lt_t (by omega : i < l.length), cond_true, hx, Option.bind_some, hl x (List.mem_of_getElem? hx), app1 (b := 32) (by omega) (show (l.take i).length ≤ 1073741824 by simp; omega), take_one hx]
    exact cp_d' l hb hl k (i + 1) (by omega)
theorem value_copied_eq (x : V) : Fine x → p_value_copied x = some x := by
  induction x using V.byParts with
  | _ x ih =>
  intro hx
  have hp := hx.own.2
  have hn := hx.own.1
  rw [e_value_copied, b_value_copied]
  cases x with
  | nothing => simp [nearE] at hn
  | alien t => simp [nearE] at hn
  | bytes b => simp only [V.isBytes, V.asBytes, cond_true, app0 (by omega : 1 ≤ 1024) (show b.length ≤ 1073741824 by have := near_bytes hn; omega), Option.bind_some]
  | list l =>
    have hb := near_list hn
    simp only [V.isBytes, V.isList, V.asList, cond_true, cond_false, room_ok (by omega : 16 ≤ 1024) (show l.length ≤ 1073741824 by omega), Option.bind_some]
    exact cp_l' l hb (fun u hu => ih u hu (hp u hu)) l.length 0 (by omega)
  | dict l =>
    have hb := near_dict hn
    have : p_value_copiedDict l = some l := by
      rw [e_value_copiedDict, b_value_copiedDict, room_ok (by omega : 32 ≤ 1024) (show l.length ≤ 1073741824 by omega)]
      exact cp_d' l hb (fun u hu => ih u.2 (List.mem_map_of_mem hu) (hp _ (List.mem_map_of_mem hu))) l.length 0 (by omega)
    simp only [V.isBytes, V.isList, V.isDict, V.asDict, cond_true, cond_false, this, Option.bind_some]
  | record c v l =>
    have hb := (near_rec hn).2
    have : p_value_copiedDict l = some l := by
      rw [e_value_copiedDict, b_value_copiedDict, room_ok (by omega : 32 ≤ 1024) (show l.length ≤ 1073741824 by omega)]
      exact cp_d' l hb (fun u hu => ih u.2 (List.mem_map_of_mem hu) (hp _ (List.mem_map_of_mem hu))) l.length 0 (by omega)
    simp only [V.isBytes, V.isList, V.isDict, V.isRec, V.asRec, cond_true, cond_false, this, Option.bind_some]
  | _ => rfl
theorem value_Copy_eq {x : V} (h : Can x) : p_value_Copy x = some (x, 0) := by
  simp only [p_value_Copy, value_check_eq, check_can h, Option.bind_some, value_copied_eq x (can_fine h)]; rfl
/-! ### what is left is smaller -/
structure NOk (v y : V) : Prop where
  can : Can y
  cnt : cnt y ≤ cnt v
  dpt : dpt y ≤ dpt v
theorem dptL_pos (l : List V) : 0 ≤ dptL l := by
  induction l with
  | nil => simp [dptL]
  | cons z q ih => have := cnt_pos z; simp only [dptL]; omega
theorem fm_list {g : V → Option V} : ∀ {l : List V}, (∀ x, x ∈ l → ∀ z, g x = some z → cnt z ≤ cnt x ∧ dpt z ≤ dpt x) → cntL (l.filterMap g) ≤ cntL l ∧ dptL (l.filterMap g) ≤ dptL l
  | [], _ => ⟨Int.le_refl _, Int.le_refl _⟩
  | x :: r, h => by
    have ih := fm_list (g := g) (l := r) (fun y hy => h y (by simp [hy]))
    have hp := cnt_pos x
    rw [List.filterMap_cons]
    cases hg : g x with
    | none => simp only [cntL, dptL]; omega
    | some z => have := h x (by simp) z hg; simp only [cntL, dptL]; omega
theorem fm_dict {g : Str × V → Option (Str × V)} : ∀ {l : List (Str × V)}, (∀ x, x ∈ l → ∀ z, g x = some z → cnt z.2 ≤ cnt x.2 ∧ dpt z.2 ≤ dpt x.2) → cntD (l.filterMap g) ≤ cntD l ∧ dptD (l.filterMap g) ≤ dptD l
  | [], _ => ⟨Int.le_refl _, Int.le_refl _⟩
  | (s, x) :: r, h => by
    have ih := fm_dict (g := g) (l := r) (fun y hy => h y (by simp [hy]))
    have hp := cnt_pos x
    rw [List.filterMap_cons]
    cases hg : g (s, x) with
    | none => simp only [cntD, dptD]; omega
    | some z => obtain ⟨m, y⟩ := z; have := h (s, x) (by simp) _ hg; simp only [cntD, dptD] at this ⊢; omega
theorem names_sub {g : Str × V → Option (Str × V)} (hg : ∀ x z, g x = some z → z.1 = x.1) : ∀ l : List (Str × V), ((l.filterMap g).map (·.1)).Sublist (l.map (·.1))
  | [] => .slnil
  | x :: r => by
    have ih := names_sub hg r
    rw [List.filterMap_cons, List.map_cons]
    cases h : g x with
    | none => exact .cons _ ih
    | some z => rw [List.map_cons, hg x z h]; exact .cons_cons _ ih
theorem keep_name {q : Bool} {Z : List (Str × Bool × Nar)} (x z : Str × V) (h : keep1 q Z x = some z) : z.1 = x.1 := by
  unfold keep1 at h
  split at h
  · split at h
    · injection h with h; rw [← h]
    · cases h
  · split at h
    · injection h with h; rw [← h]
    · cases h
/-! ### types' rows -/
def tz (t : Typ) : List Tri := t.names.zip (t.lacks.zip t.parts)
theorem zip_f {F : Type} (f : Typ → F) (n : List Str) : ∀ (l : List Bool) (p : List Typ), n.zip (l.zip (p.map f)) = (n.zip (l.zip p)).map fun z => (z.1, z.2.1, f z.2.2) := by
  induction n with
  | nil => intro l p; rfl
  | cons s n ih =>
    intro l p
    cases l with
    | nil => rfl
    | cons b l =>
      cases p with
      | nil => rfl
      | cons u p => simp only [List.map_cons, List.zip_cons_cons, ih]
theorem look_map {F : Type} (f : Typ → F) : ∀ (W : List Tri) (m : Str), lookG (W.map fun z => (z.1, z.2.1, f z.2.2)) m = (lookG W m).map fun p => (p.1, f p.2)
  | [], m => rfl
  | (s, b, u) :: W, m => by
    rw [List.map_cons, lookG, lookG]
    split
    · rfl
    · exact look_map f W m
theorem needs_map {F : Type} (f : Typ → F) : ∀ (W : List Tri), needs (W.map fun z => (z.1, z.2.1, f z.2.2)) = needs W
  | [] => rfl
  | (s, b, u) :: W => by rw [List.map_cons, needs, needs, needs_map f W]
theorem hits_map {F : Type} (f : Typ → F) (W : List Tri) : ∀ l, hits (W.map fun z => (z.1, z.2.1, f z.2.2)) l = hits W l
  | [] => rfl
  | m :: r => by
    rw [hits, hits, hits_map f W r]
    congr 1
    unfold hit
    rw [look_map]
    cases lookG W m <;> rfl
theorem srt_zip : ∀ {n : List Str} (h : Srt n) (x : List (Bool × Typ)), SrtW (n.zip x)
  | [], _, x => .nil
  | s :: n, h, [] => .nil
  | s :: n, h, b :: x => by
    obtain ⟨h1, h2⟩ := List.pairwise_cons.1 h
    exact .cons (fun z hz => h1 _ (List.of_mem_zip (a := z.1) (b := z.2) hz).1) (srt_zip h2 x)
theorem look_mem : ∀ {W : List Tri} {m : Str} {b : Bool} {u : Typ}, lookG W m = some (b, u) → ∃ z, z ∈ W ∧ z.2.2 = u
  | (s, c, w) :: W, m, b, u, h => by
    rw [lookG] at h
    split at h
    · injection h with h; injection h with h1 h2; exact ⟨(s, c, w), by simp, h2⟩
    · obtain ⟨z, hz, he⟩ := look_mem h; exact ⟨z, by simp [hz], he⟩
theorem VT.risen {t : Typ} (h : VT t) (hk : t.kind = 6) : risen none t.names = true := by
  rcases h.cases with hl | ⟨_, hv, _⟩
  · simp [leafT, hk] at hl
  · simp [visT, hk] at hv; exact hv.2
theorem near_risen {d : List (Str × V)} (h : nearE (.dict d) = 0) : risen none (d.map (·.1)) = true := by
  simp only [nearE, fieldsE] at h
  split at h
  · cases h
  · split at h
    · assumption
    · cases h
/-! ### of the type -/
theorem any_mem {u : Typ} {v : V} (a : Int) (hB : isB u v = true) : ∀ {l : List Typ}, u ∈ l → anyG (l.map isF) v a = true
  | x :: r, h => by
    rw [List.map_cons, anyG, isB_at]
    rcases List.mem_cons.1 h with rfl | h
    · rw [hB]; rfl
    · rw [any_mem a hB h, Bool.or_true]
theorem list_all {p : Typ} : ∀ {l : List V} (n : Int), (∀ x, x ∈ l → isB p x = true) → (listG (isF p) l n).1 = true
  | [], n, _ => rfl
  | x :: r, n, h => by
    rw [listG, isB_at, if_pos (h x (by simp))]
    exact list_all _ (fun y hy => h y (by simp [hy]))
theorem first_mem (v : V) : ∀ {l : List Typ}, (firstG (l.map narF) v).2 = true → ∃ u, u ∈ l ∧ (narF u v).2 = true ∧ (firstG (l.map narF) v).1 = (narF u v).1
  | [], h => by cases h
  | x :: r, h => by
    rw [List.map_cons, firstG] at h ⊢
    cases hx : (narF x v).2 with
    | true => exact ⟨x, by simp, hx, by simp⟩
    | false =>
      rw [hx] at h
      simp only [Bool.false_eq_true, if_false] at h ⊢
      obtain ⟨u, h1, h2, h3⟩ := first_mem v h
      exact ⟨u, by simp [h1], h2, h3⟩
theorem nar_ok (t : Typ) : VT t → ∀ v, Can v → (narF t v).2 = true → NOk v (narF t v).1 ∧ isB t (narF t v).1 = true := by
  induction t using Typ.byParts with
  | _ t ih =>
  intro hv v hc hy
  rw [narF_eq] at hy ⊢
  unfold narG at hy ⊢
  cases hB : isB t v with
  | true => rw [if_pos (by simp)]; exact ⟨⟨hc, Int.le_refl _, Int.le_refl _⟩, hB⟩
  | false =>
    rw [hB] at hy
    simp only [Bool.false_eq_true, if_false] at hy ⊢
    have hisB : ∀ y, isB t y = (isG t.kind t.of t.only t.names t.lacks t.opn t.cls (t.parts.map isF) y 0).1 := fun y => by unfold isB; rw [isF_eq]
    have hK := hv.know
    cases hK with
    | union hk hp =>
      simp only [hk] at hy ⊢
      simp only [show ¬ (7 : Int) = 5 by decide, show ¬ (7 : Int) = 6 by decide, if_false, if_true] at hy ⊢
      obtain ⟨u, h1, h2, h3⟩ := first_mem v hy
      have := ih u h1 (hp u h1) v hc h2
      rw [h3]
      refine ⟨this.1, ?_⟩
      rw [hisB]; unfold isG; rw [hk]
      simp only [show ¬ (7 : Int) = 1 by decide, show ¬ (7 : Int) = 3 by decide, show ¬ (7 : Int) = 4 by decide, show ¬ (7 : Int) = 8 by decide, if_false, if_true, plc, any_mem 0 this.2 h1]
    | list hk hp =>
      obtain ⟨p, hp1, hp2⟩ := hp
      simp only [hk, hp1] at hy ⊢
      simp only [if_true] at hy ⊢
      cases v with
      | list l =>
        simp only [List.map_cons, List.map_nil] at hy ⊢
        have hel : ∀ x, x ∈ l → ∀ z, pick1 (narF p) x = some z → NOk x z ∧ isB p z = true := by
          intro x hx z hz
          unfold pick1 at hz
          split at hz
          · rename_i h; injection hz with hz; subst hz
            exact ih p (by rw [hp1]; simp) hp2 x (hc.part hx) h
          · cases hz
        have hin : ∀ z, z ∈ l.filterMap (pick1 (narF p)) → Can z ∧ isB p z = true := by
          intro z hz
          obtain ⟨x, hx, hg⟩ := List.mem_filterMap.1 hz
          have := hel x hx z hg
          exact ⟨this.1.can, this.2⟩
        have hfm := fm_list (g := pick1 (narF p)) (l := l) (fun x hx z hz => ⟨(hel x hx z hz).1.cnt, (hel x hx z hz).1.dpt⟩)
        have hlen := List.length_filterMap_le (pick1 (narF p)) l
        have hll := near_list hc.1.own
        have hcl : cnt (.list l) = 1 + cntL l := by rw [cnt]
        have hdl : dpt (.list l) = 1 + dptL l := by rw [dpt]
        have hcl' : cnt (.list (l.filterMap (pick1 (narF p)))) = 1 + cntL (l.filterMap (pick1 (narF p))) := by rw [cnt]
        have hdl' : dpt (.list (l.filterMap (pick1 (narF p)))) = 1 + dptL (l.filterMap (pick1 (narF p))) := by rw [dpt]
        have hcc := hc.2
        refine ⟨⟨⟨.mk ?_ (fun y hy => (hin y hy).1.1), by omega, by omega⟩, by omega, by omega⟩, ?_⟩
        · simp only [nearE]; rw [if_neg (by omega)]
        · rw [hisB]; unfold isG; rw [hk, hp1]
          exact list_all _ (fun x hx => (hin x hx).2)
      | _ => cases hy
    | dict hk hn hpl hll hp =>
      simp only [hk] at hy ⊢
      simp only [show ¬ (6 : Int) = 5 by decide, if_false, if_true] at hy ⊢
      cases v with
      | dict d =>
        simp only [] at hy ⊢
        rw [zip_f narF] at hy ⊢
        unfold dnarG at hy ⊢
        split at hy
        · cases hy
        · rename_i hneed
          rw [if_neg hneed]
          rw [needs_map, hits_map] at hneed
          have hkeep : ∀ x, x ∈ d → ∀ z, keep1 t.opn ((t.names.zip (t.lacks.zip t.parts)).map fun z => (z.1, z.2.1, narF z.2.2)) x = some z →
              NOk x.2 z.2 ∧ (match lookG (tz t) z.1 with | none => t.opn = true | some (_, u) => isB u z.2 = true) := by
            intro x hx z hz
            have hcx : Can x.2 := hc.part (List.mem_map_of_mem hx)
            have hnm := keep_name x z hz
            unfold keep1 at hz
            rw [look_map] at hz
            rw [hnm]
            show _ ∧ (match lookG (t.names.zip (t.lacks.zip t.parts)) x.1 with | none => t.opn = true | some (_, u) => isB u z.2 = true)
            cases hlk : lookG (t.names.zip (t.lacks.zip t.parts)) x.1 with
            | none =>
              rw [hlk] at hz
              simp only [Option.map_none] at hz
              split at hz
              · rename_i ho; injection hz with hz; subst hz
                exact ⟨⟨hcx, Int.le_refl _, Int.le_refl _⟩, ho⟩
              · cases hz
            | some bu' =>
              obtain ⟨b, u⟩ := bu'
              rw [hlk] at hz
              simp only [Option.map_some] at hz
              split at hz
              · rename_i ho; injection hz with hz; subst hz
                obtain ⟨z0, hz0, he⟩ := look_mem hlk
                have hu : u ∈ t.parts := by rw [← he]; exact mem_zip3 hz0
                exact ih u hu (hp u hu) x.2 hcx ho
              · cases hz
          generalize hO : d.filterMap (keep1 t.opn ((t.names.zip (t.lacks.zip t.parts)).map fun z => (z.1, z.2.1, narF z.2.2))) = out at hneed ⊢
          have hin : ∀ z, z ∈ out → Can z.2 ∧ (match lookG (tz t) z.1 with | none => t.opn = true | some (_, u) => isB u z.2 = true) := by
            intro z hz
            rw [← hO] at hz
            obtain ⟨x, hx, hg⟩ := List.mem_filterMap.1 hz
            have := hkeep x hx z hg
            exact ⟨this.1.can, this.2⟩
          have hfm := fm_dict (l := d) (fun x hx z hz => ⟨(hkeep x hx z hz).1.cnt, (hkeep x hx z hz).1.dpt⟩)
          rw [hO] at hfm
          have hsub := names_sub (g := keep1 t.opn ((t.names.zip (t.lacks.zip t.parts)).map fun z => (z.1, z.2.1, narF z.2.2))) keep_name d
          rw [hO] at hsub
          have hdl := near_dict hc.1.own
          have hrd := near_risen hc.1.own
          have hso : Srt (out.map (·.1)) := List.Pairwise.sublist hsub (srt_of hrd).1
          have hlen := hsub.length_le
          simp only [List.length_map] at hlen
          have hcl : cnt (.dict d) = 1 + cntD d := by rw [cnt]
          have hdl2 : dpt (.dict d) = 1 + dptD d := by rw [dpt]
          have hcl' : cnt (.dict out) = 1 + cntD out := by rw [cnt]
          have hdl' : dpt (.dict out) = 1 + dptD out := by rw [dpt]
          have hcc := hc.2
          show NOk (.dict d) (.dict out) ∧ isB t (.dict out) = true
          refine ⟨⟨⟨.mk ?_ (fun y hy => ?_), by omega, by omega⟩, by omega, by omega⟩, ?_⟩
          · simp only [nearE, fieldsE, List.length_map]
            rw [if_neg (by omega), if_pos (risen_of hso (fun s hs => risen_name hrd s (hsub.subset hs)) (fun q hq => by cases hq))]
          · obtain ⟨z, hz, rfl⟩ := List.mem_map.1 hy
            exact (hin z hz).1.1
          · rw [hisB]; unfold isG; rw [hk]
            simp only [show ¬ (6 : Int) = 1 by decide, show ¬ (6 : Int) = 3 by decide, show ¬ (6 : Int) = 4 by decide, show ¬ (6 : Int) = 8 by decide, show ¬ (6 : Int) = 7 by decide, show ¬ (6 : Int) = 5 by decide, if_false, if_true]
            rw [zip_f isF]
            exact dict_good t.opn 0 _ (tz t) out _ (Nat.le_refl _) (srt_zip (srt_of (hv.risen hk)).1 _) hso (fun p hp => (hin p hp).2) (by show needs (t.names.zip (t.lacks.zip t.parts)) ≤ hits (t.names.zip (t.lacks.zip t.parts)) _; omega)
      | _ => cases hy
    | any hk => rw [hisB] at hB; unfold isG at hB; rw [hk] at hB; cases hB
    | _ hk => simp [hk] at hy
/-! ### the law -/
noncomputable def narA (v : V) (t : Typ) : V × Bool × Int :=
  if (checkF v).2 ≠ 0 then (.nil, false, (checkF v).2) else if validT t then (if (narF t v).2 then ((narF t v).1, true, 0) else (.nil, false, 0)) else (.nil, false, 70)
theorem check_Narrow_eq (v : V) (t : Typ) (h : bkTy t ≤ 268435456) : p_check_Narrow v t = some (narA v t) := by
  simp only [p_check_Narrow, Typ.eta, check_can_eq2 v t h, Option.bind_some, narA]
  by_cases hx : (checkF v).2 = 0
  · simp only [hx, ne_eq, not_true_eq_false, if_false]
    cases hv : validT t with
    | false => rfl
    | true =>
      have hc := can_check hx
      have hn := check_narrow_eq t (vt_valid hv) h v hc
      simp only [if_true, bne_self_eq_false, cond_false, hn, Option.bind_some]
      cases hk : (narF t v).2 with
      | false => rfl
      | true =>
        have := nar_ok t (vt_valid hv) v hc hk
        simp only [Bool.not_true, cond_false, value_Copy_eq this.1.can, Option.bind_some, if_true]
  · simp only [hx, ne_eq, not_false_eq_true, if_true, ne_t hx, cond_true]
theorem nar_yes {t : Typ} {v : V} (h : isB t v = true) : narF t v = (v, true) := by rw [narF_eq]; unfold narG; rw [if_pos h]
theorem same_self {x : V} (h : Can x) : p_mk_Same (cl x) (cl x) = some true := by
  have := same_cl (cl x)
  rw [lo_cl x (can_fine h)] at this
  exact this (can_fine h)
theorem mk_Plain_eq {x : V} (h : Can x) : p_mk_Plain x = some (cl x) := by
  have h0 := mk_plain_eq x 0 0 1 (can_ok.2 h) (by omega)
  have e : (1 : Int) - 1 = 0 := rfl
  rw [e] at h0
  simp only [p_mk_Plain, h0, Option.bind_some]
theorem mk_Is_bu {t : Term} (h : Can (bu t)) : p_mk_Is (bu t) t = some true := by
  have hl := lo_bu t (can_fine h)
  have := same_cl t (by rw [hl]; exact can_fine h)
  rw [hl] at this
  simp only [p_mk_Is, mk_Plain_eq h, Option.bind_some, this]
theorem plain_CheckNarrow (a0 : Term) (a1 : Typ) (h : bkT a0 + bkTy a1 ≤ 1048576) (ok0 : okT a0) (ok1 : okTy a1) : p_law07_CheckNarrow a0 a1 = some true := by
  have ht : bkTy a1 ≤ 268435456 := by omega
  have one : p_check_Narrow (V.list ([(V.text ([97] : Str)), (V.int 1)] : (List V))) (Typ.mk 5 0 (Term.mk 0 false 0 0 [] [] 0 [] [] [] 0) ([(Typ.mk 3 3 (Term.mk 0 false 0 0 [] [] 0 [] [] [] 0) [] [] [] false [])] : (List Typ)) [] [] false []) = some (.list [.int 1], true, 0) := by
    have b1 : bkTy (Typ.mk 5 0 (Term.mk 0 false 0 0 [] [] 0 [] [] [] 0) ([(Typ.mk 3 3 (Term.mk 0 false 0 0 [] [] 0 [] [] [] 0) [] [] [] false [])] : (List Typ)) [] [] false []) ≤ 268435456 := by
      simp [bkTy, bkT, bkTs, bkEs, bkTys]
    have hc : checkF (V.list ([(V.text ([97] : Str)), (V.int 1)] : (List V))) = (0, 0) := by simp [checkF, partF, partsF, ownE, nearE]
    have hv : validT (Typ.mk 5 0 (Term.mk 0 false 0 0 [] [] 0 [] [] [] 0) ([(Typ.mk 3 3 (Term.mk 0 false 0 0 [] [] 0 [] [] [] 0) [] [] [] false [])] : (List Typ)) [] [] false []) = true := by
      simp [validT, fitF_eq, fitsF_cons, fitsF_nil, leafT, visT, Typ.kind, Typ.of, Typ.parts]
    have hn : narF (Typ.mk 5 0 (Term.mk 0 false 0 0 [] [] 0 [] [] [] 0) ([(Typ.mk 3 3 (Term.mk 0 false 0 0 [] [] 0 [] [] [] 0) [] [] [] false [])] : (List Typ)) [] [] false []) (V.list ([(V.text ([97] : Str)), (V.int 1)] : (List V))) = (.list [.int 1], true) := by
      simp [narF_eq, narG, isB, isF_eq, isG, Typ.kind, Typ.of, Typ.parts, Typ.names, Typ.lacks, Typ.opn, Typ.cls, Typ.only, listG, pick1, plc, kindOf, cnt]
    rw [check_Narrow_eq _ _ b1]
    simp [narA, hc, hv, hn]
  simp only [p_law07_CheckNarrow, Typ.eta, mk_Built_eq a0 (by omega), check_Narrow_eq _ a1 ht, check_Is_eq _ a1 ht, Option.bind_some, law07_CheckNarrow_j1, one]
  generalize hx : bu a0 = x
  by_cases hck : (checkF x).2 = 0
  · cases hv : validT a1 with
    | false => simp [narA, isA, hck, hv]
    | true =>
      have hc := can_check hck
      have hT := vt_valid hv
      cases hB : isB a1 x with
      | true =>
        have hn := nar_yes hB
        have hB' : (isF a1 x 0).1 = true := hB
        have e1 : narA x a1 = (x, true, 0) := by simp [narA, hck, hv, hn]
        have e2 : isA x a1 = (true, (isF a1 x 0).2, 0) := by simp [isA, hck, hv, hB']
        have e3 : p_mk_Is x a0 = some true := by rw [← hx]; exact mk_Is_bu (by rw [hx]; exact hc)
        rw [e1, e2]
        simp only [bne_self_eq_false, cond_false, cond_true, Bool.not_true, e3, Option.bind_some, e1, e2, beq_self_eq_true, mk_Plain_eq hc, same_self hc]
      | false =>
        have hB' : (isF a1 x 0).1 = false := hB
        have e2 : isA x a1 = (false, (isF a1 x 0).2, 0) := by simp [isA, hck, hv, hB']
        cases hk : (narF a1 x).2 with
        | false =>
          have e1 : narA x a1 = (.nil, false, 0) := by simp [narA, hck, hv, hk]
          rw [e1, e2]
          rfl
        | true =>
          have hok := nar_ok a1 hT x hc hk
          have e1 : narA x a1 = ((narF a1 x).1, true, 0) := by simp [narA, hck, hv, hk]
          rw [e1, e2]
          generalize (narF a1 x).1 = y at hok
          have hcy := hok.1.can
          have hyk : (checkF y).2 = 0 := by rw [check_can hcy]
          have hBy : (isF a1 y 0).1 = true := hok.2
          have f1 : narA y a1 = (y, true, 0) := by simp [narA, hyk, hv, nar_yes hok.2]
          have f2 : isA y a1 = (true, (isF a1 y 0).2, 0) := by simp [isA, hyk, hv, hBy]
          simp only [bne_self_eq_false, cond_false, cond_true, Bool.not_true, Option.bind_some, f1, f2, beq_self_eq_true, mk_Plain_eq hcy, same_self hcy]
  · have e1 : narA x a1 = (.nil, false, (checkF x).2) := by simp [narA, hck]
    have e2 : isA x a1 = (false, 0, (checkF x).2) := by simp [isA, hck]
    rw [e1, e2]
    simp
end Go.Proofs.Ytiapdjdhaclmnaa
