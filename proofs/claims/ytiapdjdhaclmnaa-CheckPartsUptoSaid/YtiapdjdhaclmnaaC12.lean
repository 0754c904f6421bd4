/- CheckParts: unions, lists and dicts by their parts. -/
import Derived.Test.YtiapdjdhaclmnaaC5
namespace Go.Proofs.Ytiapdjdhaclmnaa
open Go Aw
set_option linter.unusedVariables false
set_option linter.unusedSimpArgs false
set_option maxRecDepth 8000
abbrev T00 : Term := Term.mk 0 false 0 0 [] [] 0 [] [] [] 0
abbrev tU (a b : Typ) : Typ := Typ.mk 7 0 T00 ([a, b] : (List Typ)) [] [] false []
abbrev tD (a : Typ) (o : Bool) : Typ := Typ.mk 6 0 T00 ([a] : (List Typ)) ([([97] : Str)] : (List Str)) ([false] : (List Bool)) o []
abbrev tL (a : Typ) : Typ := Typ.mk 5 0 T00 ([a] : (List Typ)) [] [] false []
abbrev vD (v : V) : V := V.dict ([(([97] : Str), v), (([122] : Str), (V.bool true))] : (List (Str × V)))
theorem bk_tU (a b : Typ) : bkTy (tU a b) = bkTy a + bkTy b + bkT T00 + 8 := by simp only [tU, bkTy, bkTys, List.map_nil, List.sum_nil, List.length_nil]; omega
theorem bk_tD (a : Typ) (o : Bool) : bkTy (tD a o) = bkTy a + bkT T00 + 11 := by
  simp only [tD, bkTy, bkTys, List.map_cons, List.map_nil, List.sum_cons, List.sum_nil, List.length_nil, List.length_cons]; omega
theorem bk_tL (a : Typ) : bkTy (tL a) = bkTy a + bkT T00 + 8 := by simp only [tL, bkTy, bkTys, List.map_nil, List.sum_nil, List.length_nil]; omega
theorem bk_T00 : bkT T00 ≤ 100 := by simp [bkT, bkTs, bkEs]
theorem isB_U (a b : Typ) (v : V) : isB (tU a b) v = (isB a v || isB b v) := by
  unfold isB; rw [isF_eq]; simp only [tU, Typ.kind, Typ.of, Typ.only, Typ.parts, Typ.names, Typ.lacks, Typ.opn, Typ.cls, isG, List.map_cons, List.map_nil, anyG, plc]
  cases (isF a v 0).1 <;> cases (isF b v 0).1 <;> rfl
theorem isB_D (a : Typ) (o : Bool) (v : V) : isB (tD a o) (vD v) = (isB a v && o) := by
  unfold isB; rw [isF_eq]
  simp only [tD, Typ.kind, Typ.of, Typ.only, Typ.parts, Typ.names, Typ.lacks, Typ.opn, Typ.cls, isG, List.map_cons, List.map_nil, List.zip_cons_cons, List.zip_nil_right, show ¬ ((6 : Int) = 1) by omega, show ¬ ((6 : Int) = 3) by omega, show ¬ ((6 : Int) = 4) by omega, show ¬ ((6 : Int) = 8) by omega, show ¬ ((6 : Int) = 7) by omega, show ¬ ((6 : Int) = 5) by omega, if_true, if_false]
  rw [dictG]
  have e1 : Op.bytesLess ([97] : Str) [97] = false := by decide
  have e2 : (([97] : Str) == [97]) = true := by decide
  rw [if_neg (by rw [e1]; simp), if_pos e2]
  have hp := isF_same a v (0 + 1) 0
  rw [hp]
  cases hb : (isF a v 0).1 with
  | false => simp
  | true => cases o <;> simp [dictG]
theorem isB_L (a : Typ) (l : List V) : isB (tL a) (.list l) = l.all (fun x => isB a x) := by
  unfold isB; rw [isF_eq]
  simp only [tL, Typ.kind, Typ.of, Typ.only, Typ.parts, Typ.names, Typ.lacks, Typ.opn, Typ.cls, isG, List.map_cons, List.map_nil, show ¬ ((5 : Int) = 1) by omega, show ¬ ((5 : Int) = 3) by omega, show ¬ ((5 : Int) = 4) by omega, show ¬ ((5 : Int) = 8) by omega, show ¬ ((5 : Int) = 7) by omega, if_true, if_false]
  have : ∀ (l : List V) (n : Int), (listG (isF a) l n).1 = l.all (fun x => (isF a x 0).1) := by
    intro l
    induction l with
    | nil => intro n; rfl
    | cons x r ih =>
      intro n
      rw [listG, List.all_cons, isF_same a x n 0]
      cases hb : (isF a x 0).1 with
      | false => simp [isF_same a x n 0, hb]
      | true => simp [ih]
  exact this l _
/-- Just the word. -/
theorem isA_1 (v : V) (t : Typ) : (isA v t).1 = (decide ((checkF v).2 = 0) && (validT t && isB t v)) := by
  unfold isA
  by_cases h : (checkF v).2 = 0
  · rw [if_neg (by simp [h])]
    cases hv : validT t <;> simp [h, hv, isB]
  · rw [if_pos h]; simp [h]
theorem isA_e (v : V) (t : Typ) : (isA v t).2.2 = if (checkF v).2 ≠ 0 then (checkF v).2 else if validT t then 0 else 70 := by
  unfold isA; split
  · rfl
  · split <;> rfl
theorem isA_e0 (v : V) (t : Typ) : (isA v t).2.2 = 0 ↔ (checkF v).2 = 0 ∧ validT t = true := by
  rw [isA_e]
  by_cases h : (checkF v).2 = 0
  · rw [if_neg (by simp [h])]
    cases hv : validT t <;> simp [h]
  · rw [if_pos h]; simp [h]
theorem check_vD {v : V} (h : (checkF v).2 = 0) : (checkF (vD v)).2 = 0 ∨ (checkF (vD v)).2 = 2 := by
  have hv := can_check h
  rcases Classical.em (Can (vD v)) with hc | hc
  · exact .inl (by rw [check_can hc])
  · refine .inr (size_long (.mk rfl (fun z hz => ?_)) hc)
    simp only [vD, V.parts, List.map_cons, List.map_nil] at hz
    rcases List.mem_cons.1 hz with rfl | hz
    · exact hv.1
    · rcases List.mem_cons.1 hz with rfl | hz
      · exact .mk rfl (by simp [V.parts])
      · cases hz
theorem fits_more {d d' k : Int} (hk : 0 ≤ k) : ∀ (l : List Typ), (∀ u, u ∈ l → ∀ left, (fitF u left d).1 = true → fitF u (left + k) d' = (true, (fitF u left d).2 + k)) → ∀ left, (fitsF l left d).1 = true → fitsF l (left + k) d' = (true, (fitsF l left d).2 + k)
  | [], _, left, _ => by rw [fitsF_nil, fitsF_nil]
  | x :: r, h, left, hx => by
    rw [fitsF_cons] at hx ⊢
    rw [fitsF_cons]
    cases h1 : (fitF x left d).1 with
    | false => rw [if_neg (by simp [h1])] at hx; cases hx
    | true =>
      rw [if_pos h1] at hx
      rw [h x (by simp) left h1, if_pos rfl, if_pos rfl]
      exact fits_more hk r (fun u hu => h u (by simp [hu])) _ hx
theorem fit_more (t : Typ) : ∀ left d k d', 0 ≤ k → d' ≤ d → (fitF t left d).1 = true → fitF t (left + k) d' = (true, (fitF t left d).2 + k) := by
  induction t using Typ.byParts with
  | _ t ih =>
  intro left d k d' hk hd h
  rw [fitF_eq] at h ⊢
  rw [fitF_eq]
  split at h
  · cases h
  · rename_i hc
    rw [if_neg (by omega), if_neg hc]
    split at h
    · rename_i hl; rw [if_pos hl, if_pos hl]; simp only [Prod.mk.injEq, true_and]; omega
    · rename_i hl
      rw [if_neg hl, if_neg hl]
      split at h
      · rename_i hv
        rw [if_pos hv, if_pos hv]
        have := fits_more (d := d + 1) (d' := d' + 1) hk t.parts (fun u hu left hx => ih u hu left (d + 1) k (d' + 1) hk (by omega) hx) (left - 1) h
        rw [show left + k - 1 = left - 1 + k by omega]; exact this
      · cases h
theorem valid_L {a : Typ} (h : validT (tL a) = true) : validT a = true := by
  unfold validT at h ⊢
  rw [fitF_eq] at h
  have hv : visT (tL a) = true := rfl
  have hl : leafT (tL a) = false := by simp [leafT, tL, Typ.kind, Typ.of, Typ.only, Typ.cls]
  rw [if_neg (by omega), if_neg (by simp [hl]), if_pos hv] at h
  have h2 : (fitF a (16384 - 1) (1 + 1)).1 = true := by
    have hp : (tL a).parts = [a] := rfl
    rw [hp, fitsF_cons] at h
    cases hk : (fitF a (16384 - 1) (1 + 1)).1 with
    | true => rfl
    | false => rw [hk] at h; cases h
  have := fit_more a _ _ 1 1 (by omega) (by omega) h2
  rw [show ((16384 : Int) - 1 + 1) = 16384 by omega] at this
  rw [this]

theorem cpt_l (a0 : S_arr2_Typ) (a1 : List Term) (a2 : Bool) (h0 : bkTy a0.f_0 ≤ 2000000) (h1 : bkTy a0.f_1 ≤ 2000000) (hl : ∀ t, t ∈ a1 → bkT t ≤ 268435456) (hlen : a1.length ≤ 1048576) : ∀ k i, k + i = a1.length →
    law07_CheckParts_l1 a0 a1 a2 ((a1.take i).map bu) ((a1.take i).all fun t => decide ((checkF (bu t)).2 = 0) && (validT a0.f_0 && isB a0.f_0 (bu t))) i = some true
  | 0, i, h => by
    have hi : i = a1.length := by omega
    subst hi
    have bT := bk_T00
    have hb1 : bkTy (tL a0.f_0) ≤ 268435456 := by have := bk_tL a0.f_0; omega
    have hb2 : bkTy (tL (Typ.mk 2 0 T00 [] [] [] false [])) ≤ 268435456 := by
      have h1 := bk_tL (Typ.mk 2 0 T00 [] [] [] false [])
      have h2 : bkTy (Typ.mk 2 0 T00 [] [] [] false []) = bkT T00 + 8 := by rw [bkTy_mk]; simp [Typ.only, Typ.parts, Typ.names, Typ.lacks, Typ.cls, bkTys]
      omega
    rw [law07_CheckParts_l1_eq]
    simp only [law07_CheckParts_l1b, lt_f (by omega : ¬ a1.length < a1.length), cond_false]
    rw [show (Typ.mk 5 0 (Term.mk 0 false 0 0 [] [] 0 [] [] [] 0) ([(a0.f_0)] : (List Typ)) [] [] false []) = tL a0.f_0 from rfl, show (Typ.mk 5 0 (Term.mk 0 false 0 0 [] [] 0 [] [] [] 0) ([(Typ.mk 2 0 (Term.mk 0 false 0 0 [] [] 0 [] [] [] 0) [] [] [] false [])] : (List Typ)) [] [] false []) = tL (Typ.mk 2 0 T00 [] [] [] false []) from rfl]
    rw [check_Is_eq _ _ hb1, Option.bind_some, check_Is_eq _ _ hb2, Option.bind_some, List.take_length]
    have hone : isA (V.list []) (tL (Typ.mk 2 0 T00 [] [] [] false [])) = (true, 0, 0) := by
      have hc : (checkF (V.list [])).2 = 0 := by simp [checkF, partF, partsF, ownE, nearE]
      have hv : validT (tL (Typ.mk 2 0 T00 [] [] [] false [])) = true := by simp [validT, fitF_eq, fitsF_cons, fitsF_nil, leafT, visT, Typ.kind, Typ.of, Typ.parts]
      unfold isA
      rw [if_neg (by simp [hc]), if_pos hv, isF_eq]
      simp [isG, Typ.kind, Typ.parts, listG]
    rw [hone]
    by_cases he : (isA (V.list (a1.map bu)) (tL a0.f_0)).2.2 = 0
    · have hb := (isA_e0 _ _).1 he
      have hcan := can_check hb.1
      have hval := valid_L hb.2
      have hw : (isA (V.list (a1.map bu)) (tL a0.f_0)).1 = (a1.all fun t => decide ((checkF (bu t)).2 = 0) && (validT a0.f_0 && isB a0.f_0 (bu t))) := by
        rw [isA_1, hb.1, hb.2, isB_L, hval, List.all_map]
        simp only [decide_true, Bool.true_and]
        apply Bool.eq_iff_iff.2
        simp only [List.all_eq_true, Function.comp]
        constructor
        · intro hx t ht
          have hct : (checkF (bu t)).2 = 0 := by rw [check_can (hcan.part (List.mem_map_of_mem ht))]
          simp [hct, hx t ht]
        · intro hx t ht
          have := hx t ht
          simp only [Bool.and_eq_true] at this
          exact this.2
      rw [he, hw]
      simp
    · rw [ne_t he]; rfl
  | k + 1, i, h => by
    obtain ⟨x, hx, hdr⟩ := dropc (by omega : i < a1.length)
    have hxm : x ∈ a1 := List.mem_of_getElem? hx
    have bT := bk_T00
    have hb0 : bkTy a0.f_0 ≤ 268435456 := by omega
    have hb1 : bkTy a0.f_1 ≤ 268435456 := by omega
    have hbU : bkTy (tU a0.f_0 a0.f_1) ≤ 268435456 := by have := bk_tU a0.f_0 a0.f_1; omega
    have hbD : bkTy (tD a0.f_0 a2) ≤ 268435456 := by have := bk_tD a0.f_0 a2; omega
    have hrec := cpt_l a0 a1 a2 h0 h1 hl hlen k (i + 1) (by omega)
    have ht1 : a1.take (i + 1) = a1.take i ++ [x] := by rw [List.take_add_one, hx]; rfl
    rw [ht1, List.map_append, List.all_append] at hrec
    simp only [List.map_cons, List.map_nil, List.all_cons, List.all_nil, Bool.and_true] at hrec
    have happ : appO 16 ((a1.take i).map bu) [bu x] = some ((a1.take i).map bu ++ [bu x]) := app1 (by omega) (by simp; omega)
    have hj4 : ∀ s, s = (((a1.take i).all fun t => decide ((checkF (bu t)).2 = 0) && (validT a0.f_0 && isB a0.f_0 (bu t))) && (decide ((checkF (bu x)).2 = 0) && (validT a0.f_0 && isB a0.f_0 (bu x)))) →
        law07_CheckParts_j4 (law07_CheckParts_l1 a0 a1 a2) ((a1.take i).map bu) i (bu x) s = some true := by
      intro s hs
      subst hs
      simp only [law07_CheckParts_j4, happ, Option.bind_some]
      exact hrec
    rw [law07_CheckParts_l1_eq]
    simp only [law07_CheckParts_l1b, lt_t (by omega : i < a1.length), cond_true, hx, Option.bind_some, mk_Built_eq x (hl x hxm), check_Is_eq _ a0.f_0 hb0, check_Is_eq _ a0.f_1 hb1]
    rw [show (Typ.mk 7 0 (Term.mk 0 false 0 0 [] [] 0 [] [] [] 0) ([(a0.f_0), (a0.f_1)] : (List Typ)) [] [] false []) = tU a0.f_0 a0.f_1 from rfl, check_Is_eq _ _ hbU, Option.bind_some]
    generalize hA : ((a1.take i).all fun t => decide ((checkF (bu t)).2 = 0) && (validT a0.f_0 && isB a0.f_0 (bu t))) = A at hj4
    have eA := isA_e (bu x) a0.f_0
    have eB := isA_e (bu x) a0.f_1
    have eU := isA_e (bu x) (tU a0.f_0 a0.f_1)
    have wA := isA_1 (bu x) a0.f_0
    have wB := isA_1 (bu x) a0.f_1
    have wU := isA_1 (bu x) (tU a0.f_0 a0.f_1)
    have eD := isA_e (vD (bu x)) (tD a0.f_0 a2)
    have wD := isA_1 (vD (bu x)) (tD a0.f_0 a2)
    rw [isB_U] at wU
    rw [isB_D] at wD
    -- behind the first question
    have hj1 : ∀ s, (s = true → (isA (bu x) (tU a0.f_0 a0.f_1)).2.2 = 70) → law07_CheckParts_j1 (law07_CheckParts_l1 a0 a1 a2) a0 a2 ((a1.take i).map bu) A i (bu x) (isA (bu x) a0.f_0) (isA (bu x) (tU a0.f_0 a0.f_1)) s = some true := by
      intro s hs
      simp only [law07_CheckParts_j1]
      cases s with
      | true => rw [cond_true, hs rfl]; rfl
      | false =>
        rw [cond_false, show (Typ.mk 6 0 (Term.mk 0 false 0 0 [] [] 0 [] [] [] 0) ([(a0.f_0)] : (List Typ)) ([([97] : Str)] : (List Str)) ([false] : (List Bool)) a2 []) = tD a0.f_0 a2 from rfl, check_Is_eq _ _ hbD, Option.bind_some]
        by_cases hc : (checkF (bu x)).2 = 0
        · rw [if_neg (by simp [hc])] at eA
          cases hv : validT a0.f_0 with
          | true =>
            rw [hv] at eA wA hj4
            simp only [if_true] at eA
            simp only [hc, decide_true, Bool.true_and] at wA hj4
            have hin : law07_CheckParts_j3 (law07_CheckParts_l1 a0 a1 a2) ((a1.take i).map bu) A i (bu x) (isA (bu x) a0.f_0) (isA (vD (bu x)) (tD a0.f_0 a2)) ((isA (vD (bu x)) (tD a0.f_0 a2)).2.2 != 0) = some true := by
              simp only [law07_CheckParts_j3]
              by_cases hd : (isA (vD (bu x)) (tD a0.f_0 a2)).2.2 = 0
              · rw [hd]
                simp only [bne_self_eq_false, cond_false, eA, beq_self_eq_true, cond_true]
                cases hAv : A with
                | true => rw [cond_true]; rw [hAv] at hj4; exact hj4 _ (by rw [wA]; simp)
                | false => rw [cond_false]; rw [hAv] at hj4; exact hj4 _ (by simp)
              · rw [ne_t hd, cond_true]
                have : (isA (vD (bu x)) (tD a0.f_0 a2)).2.2 = 70 ∨ (isA (vD (bu x)) (tD a0.f_0 a2)).2.2 = 2 := by
                  rcases check_vD hc with h2 | h2
                  · rw [if_neg (by simp [h2])] at eD
                    cases hvd : validT (tD a0.f_0 a2) with
                    | true => rw [hvd] at eD; exact absurd (by simpa using eD) hd
                    | false => rw [hvd] at eD; exact .inl (by simpa using eD)
                  · rw [if_pos (by rw [h2]; simp), h2] at eD; exact .inr eD
                rcases this with h2 | h2 <;> rw [h2] <;> rfl
            rw [eA]
            simp only [beq_self_eq_true, cond_true]
            by_cases hd : (isA (vD (bu x)) (tD a0.f_0 a2)).2.2 = 0
            · have hd0 := (isA_e0 _ _).1 hd
              simp only [hd0.1, hd0.2, decide_true, Bool.true_and] at wD
              rw [hd, wA]
              simp only [beq_self_eq_true, cond_true]
              rw [hd] at hin
              cases hp : isB a0.f_0 (bu x) with
              | true =>
                rw [cond_true]
                have : (!((isA (vD (bu x)) (tD a0.f_0 a2)).1 == a2)) = false := by rw [wD, hp]; simp
                simp only [this, law07_CheckParts_j2, cond_false, eA, beq_self_eq_true, cond_true, hd]; exact hin
              | false =>
                rw [cond_false]
                have : (!((isA (vD (bu x)) (tD a0.f_0 a2)).1 == false)) = false := by rw [wD, hp]; simp
                simp only [this, law07_CheckParts_j2, cond_false, eA, beq_self_eq_true, cond_true, hd]; exact hin
            · have : ((isA (vD (bu x)) (tD a0.f_0 a2)).2.2 == 0) = false := eq_t hd
              rw [this, cond_false]
              simp only [law07_CheckParts_j2, cond_false, eA, beq_self_eq_true, cond_true]; exact hin
          | false =>
            rw [hv] at eA
            simp only [Bool.false_eq_true, if_false] at eA
            rw [hv] at hj4
            simp only [Bool.false_and, Bool.and_false] at hj4
            have e7 : ((70 : Int) == 0) = false := rfl
            rw [eA, e7]
            simp only [cond_false, law07_CheckParts_j2, law07_CheckParts_j3, eA, e7]
            cases A with
            | true => rw [cond_true]; exact hj4 _ rfl
            | false => rw [cond_false]; exact hj4 _ rfl
        · rw [if_pos hc] at eA
          have hne : ((isA (bu x) a0.f_0).2.2 == 0) = false := by rw [eA]; exact eq_t hc
          simp only [hne, cond_false, law07_CheckParts_j2, law07_CheckParts_j3]
          simp only [hc, decide_false, Bool.false_and, Bool.and_false] at hj4
          cases A with
          | true => rw [cond_true]; exact hj4 _ rfl
          | false => rw [cond_false]; exact hj4 _ rfl
    have h70 : (checkF (bu x)).2 = 0 → (isA (bu x) (tU a0.f_0 a0.f_1)).2.2 ≠ 0 → (isA (bu x) (tU a0.f_0 a0.f_1)).2.2 = 70 := by
      intro hc hn
      rw [if_neg (by simp [hc])] at eU
      cases hv : validT (tU a0.f_0 a0.f_1) with
      | true => rw [hv] at eU; exact absurd (by simpa using eU) hn
      | false => rw [hv] at eU; simpa using eU
    by_cases hA0 : (isA (bu x) a0.f_0).2.2 = 0
    · rw [hA0]
      simp only [beq_self_eq_true, cond_true]
      have a1' := (isA_e0 _ _).1 hA0
      by_cases hB0 : (isA (bu x) a0.f_1).2.2 = 0
      · rw [hB0]
        simp only [beq_self_eq_true, cond_true]
        have b1' := (isA_e0 _ _).1 hB0
        by_cases hU0 : (isA (bu x) (tU a0.f_0 a0.f_1)).2.2 = 0
        · rw [hU0]
          have u1' := (isA_e0 _ _).1 hU0
          simp only [a1'.1, a1'.2, b1'.2, u1'.2, decide_true, Bool.true_and] at wA wB wU
          simp only [bne_self_eq_false, cond_false, wA, wB, wU]
          cases hp : isB a0.f_0 (bu x) with
          | true => rw [cond_true]; exact hj1 _ (by simp)
          | false => rw [cond_false]; exact hj1 _ (by simp)
        · rw [ne_t hU0, cond_true]; exact hj1 _ (fun _ => h70 a1'.1 hU0)
      · rw [eq_t hB0, cond_false]; exact hj1 _ (fun h => by cases h)
    · rw [eq_t hA0, cond_false]; exact hj1 _ (fun h => by cases h)
theorem plain_CheckParts (a0 : S_arr2_Typ) (a1 : List Term) (a2 : Bool) (h : bkTy a0.f_0 + bkTy a0.f_1 + (a1.map bkT).sum ≤ 1048576) (ok0 : okTy a0.f_0 ∧ okTy a0.f_1) (ok1 : ∀ a, a ∈ a1 → okT a) (ok2 : True) : p_law07_CheckParts a0 a1 a2 = some true := by
  have hl : ∀ t, t ∈ a1 → bkT t ≤ 268435456 := fun t ht => by
    have := bkTs_mem ht
    rw [bkTs_eq] at this; omega
  have hlen : a1.length ≤ 1048576 := by
    have := bkTs_len a1
    rw [bkTs_eq] at this; omega
  have := cpt_l a0 a1 a2 (by omega) (by omega) hl hlen a1.length 0 (by omega)
  simpa [p_law07_CheckParts] using this
end Go.Proofs.Ytiapdjdhaclmnaa
