/- CheckTypes: Valid and Is are the document's. -/
import Derived.Test.YtiapdjdhaclmnaaC3
namespace Go.Proofs.Ytiapdjdhaclmnaa
open Go Aw
set_option linter.unusedVariables false
set_option linter.unusedSimpArgs false
set_option maxRecDepth 8000
/-! ### bounds of terms -/
theorem len_of_bk {t : Term} (h : bkT t ≤ 268435456) : t.fields.length ≤ 268435456 := by have := len_fields t; omega
theorem bk_parts {t u : Term} (h : u ∈ partsT t) : bkT u < bkT t := by
  unfold partsT at h
  split at h
  · exact bk_list h
  · split at h
    · obtain ⟨z, hz, rfl⟩ := List.mem_map.1 h; exact bk_fields hz
    · cases h
/-! ### how many parts -/
theorem rpt_l (l : List Term) (hl : ∀ u, u ∈ l → p_ref07_parts u = some (cnt (bu u))) : ∀ k i n, k + i = l.length → 0 ≤ n → n + cntL ((l.map bu).drop i) ≤ 1099511627776 → ref07_parts_l1 p_ref07_parts l n i = some (n + cntL ((l.map bu).drop i))
  | 0, i, n, h, h0, h1 => by
    rw [ref07_parts_l1_eq]
    simp only [ref07_parts_l1b, lt_f (by omega : ¬ i < l.length), cond_false]
    rw [List.drop_of_length_le (by simp; omega), cntL]; simp
  | k + 1, i, n, h, h0, h1 => by
    obtain ⟨x, hx, hdr⟩ := dropc (by omega : i < l.length)
    have hx2 : (l.map bu)[i]? = some (bu x) := by rw [List.getElem?_map, hx]; rfl
    obtain ⟨x', hx', hdr⟩ := dropc (by rw [List.length_map]; omega : i < (l.map bu).length)
    rw [hx2] at hx'; injection hx' with hx'; subst hx'
    rw [hdr] at h1 ⊢
    simp only [cntL] at h1 ⊢
    have hp := cntL_pos ((l.map bu).drop (i + 1))
    have hcp := cnt_pos (bu x)
    have hw : IntKind.i64.wrap (n + cnt (bu x)) = n + cnt (bu x) := w64_in (by omega) (by omega)
    rw [ref07_parts_l1_eq]
    simp only [ref07_parts_l1b, lt_t (by omega : i < l.length), cond_true, hx, Option.bind_some, hl x (List.mem_of_getElem? hx), hw]
    rw [rpt_l l hl k (i + 1) _ (by omega) (by omega) (by omega)]
    congr 1; omega
theorem ref07_parts_eq (t : Term) : bkT t ≤ 268435456 → cnt (bu t) ≤ 16384 → p_ref07_parts t = some (cnt (bu t)) := by
  induction t using Term.byParts with
  | _ t ih =>
  intro hb hc
  have he := cnt_eq (bu t)
  rw [← partsT_bu] at he
  have hl : ∀ u, u ∈ partsT t → p_ref07_parts u = some (cnt (bu u)) := fun u hu => by
    have h1 := bk_parts hu
    have h2 := (cnt_mem (List.mem_map_of_mem (f := bu) hu)).1
    exact ih u hu (by omega) (by omega)
  rw [e_ref07_parts, b_ref07_parts, ref01_Parts_eq t (len_of_bk hb)]
  simp only [Option.bind_some]
  rw [rpt_l (partsT t) hl (partsT t).length 0 1 (by omega) (by omega) (by rw [List.drop_zero]; omega), List.drop_zero]
  congr 1; omega
/-! ### is -/
/-- A term whose value can be. -/
structure CT (t : Term) : Prop where
  ok : okT t
  can : Can (bu t)
  bk : bkT t ≤ 268435456
theorem CT.ft {t : Term} (h : CT t) : FT t := ⟨h.ok, can_fine h.can⟩
theorem CT.list {t : Term} (h : CT t) (hk : t.kind = 8) {u : Term} (hu : u ∈ t.list) : CT u := by
  have hp : u ∈ partsT t := by unfold partsT; rw [if_pos hk]; exact hu
  exact ⟨okTs_mem ((okT_mk t).1 h.ok).2.2.2.2.1 u hu, h.can.part (by rw [← partsT_bu]; exact List.mem_map_of_mem hp), by have := bk_parts hp; have := h.bk; omega⟩
theorem CT.fields {t : Term} (h : CT t) (hk : t.kind = 9) {u : Str × Term} (hu : u ∈ t.fields) : CT u.2 := by
  have hp : u.2 ∈ partsT t := by unfold partsT; rw [if_neg (by omega), if_pos (Or.inl hk)]; exact List.mem_map_of_mem hu
  exact ⟨okEs_mem ((okT_mk t).1 h.ok).2.2.2.2.2.1 u hu, h.can.part (by rw [← partsT_bu]; exact List.mem_map_of_mem hp), by have := bk_parts hp; have := h.bk; omega⟩
theorem bu_list {t : Term} (h : t.kind = 8) : bu t = .list (t.list.map bu) := by
  have hb := bu_c t
  generalize bu t = x at hb
  cases hb <;> first | rfl | (exfalso; omega)
theorem bu_dict {t : Term} (h : t.kind = 9) : bu t = .dict (t.fields.map buE) := by
  have hb := bu_c t
  generalize bu t = x at hb
  cases hb <;> first | rfl | (exfalso; omega)
theorem CT.pc {t : Term} (h : CT t) : p_ref07_parts t = some (cnt (bu t)) := ref07_parts_eq t h.bk h.can.2.1
def IsR (t : Typ) : Prop := ∀ v a, CT v → 0 ≤ a → a + cnt (bu v) ≤ 1099511627776 → p_ref07_is v t a = some (isF t (bu v) a)
theorem plc_r (b : Bool) (a : Int) : ref07_is_j1 a b = some (plc b a) := by cases b <;> rfl
theorem ru_l (t : Typ) (v : Term) (a : Int) (hv : CT v) (h0 : 0 ≤ a) (h1 : a + cnt (bu v) ≤ 1099511627776) (hl : ∀ u, u ∈ t.parts → IsR u) : ∀ k i b, k + i = t.parts.length → ref07_is_l1 p_ref07_is v t a b i = some (plc (b || anyG ((t.parts.drop i).map isF) (bu v) a) a)
  | 0, i, b, h => by
    rw [ref07_is_l1_eq]
    simp only [ref07_is_l1b, lt_f (by omega : ¬ i < t.parts.length), cond_false, plc_r]
    rw [List.drop_of_length_le (by omega), List.map_nil, anyG, Bool.or_false]
  | k + 1, i, b, h => by
    obtain ⟨x, hx, hdr⟩ := dropc (by omega : i < t.parts.length)
    rw [ref07_is_l1_eq]
    simp only [ref07_is_l1b, lt_t (by omega : i < t.parts.length), cond_true, hx, Option.bind_some, hl x (List.mem_of_getElem? hx) v a hv h0 h1, ref07_is_j2]
    rw [ru_l t v a hv h0 h1 hl k (i + 1) _ (by omega), ru_l t v a hv h0 h1 hl k (i + 1) _ (by omega), hdr, List.map_cons, anyG]
    cases b <;> simp
theorem rl_l (v : Term) (t p : Typ) (hp : t.parts = [p]) (ht : IsR p) (hc : ∀ y, y ∈ v.list → CT y) : ∀ k i n, k + i = v.list.length → 0 ≤ n → n + cntL ((v.list.map bu).drop i) ≤ 1099511627776 → ref07_list_l1 p_ref07_is v t n i = some (listG (isF p) ((v.list.map bu).drop i) n)
  | 0, i, n, h, h0, h1 => by
    rw [ref07_list_l1_eq]
    simp only [ref07_list_l1b, lt_f (by omega : ¬ i < v.list.length), cond_false]
    rw [List.drop_of_length_le (by simp; omega)]; rfl
  | k + 1, i, n, h, h0, h1 => by
    obtain ⟨x, hx, _⟩ := dropc (by omega : i < v.list.length)
    have hx2 : (v.list.map bu)[i]? = some (bu x) := by rw [List.getElem?_map, hx]; rfl
    obtain ⟨x', hx', hdr⟩ := dropc (by rw [List.length_map]; omega : i < (v.list.map bu).length)
    rw [hx2] at hx'; injection hx' with hx'; subst hx'
    have hcx := hc x (List.mem_of_getElem? hx)
    have hcp := cnt_pos (bu x)
    rw [hdr] at h1 ⊢
    simp only [cntL] at h1
    have hpp := cntL_pos ((v.list.map bu).drop (i + 1))
    have hw : IntKind.i64.wrap (n + cnt (bu x)) = n + cnt (bu x) := w64_in (by omega) (by omega)
    have hp0 : t.parts[0]? = some p := by rw [hp]; rfl
    rw [ref07_list_l1_eq]
    simp only [ref07_list_l1b, lt_t (by omega : i < v.list.length), cond_true, hx, hp0, Option.bind_some, ht x n hcx h0 (by omega), hcx.pc, hw]
    rw [listG]
    cases (isF p (bu x) n).1 with
    | false => rfl
    | true => simp only [Bool.not_true, cond_false, if_true]; exact rl_l v t p hp ht hc k (i + 1) _ (by omega) (by omega) (by omega)
theorem rd_ll (t : Typ) (D : DT t) (v : Term) (hd : v.fields.length ≤ 4096) (a : Int) (hl : ∀ u, u ∈ t.parts → IsR u) (hc : ∀ y, y ∈ v.fields → CT y.2) :
    ∀ m i k n, (t.names.length - i) + (v.fields.length - k) ≤ m → i ≤ t.names.length → k ≤ v.fields.length → 0 ≤ n → n + cntD ((v.fields.map buE).drop k) ≤ 1099511627776 →
      ref07_dict_l1 p_ref07_is v t a n (i : Nat) (k : Nat) = some (dictG t.opn a ((zips t).drop i) ((v.fields.map buE).drop k) n) := by
  intro m
  induction m with
  | zero =>
    intro i k n hm hi hk h0 h1
    rw [ref07_dict_l1_eq]
    simp only [ref07_dict_l1b, lt_f (by omega : ¬ k < v.fields.length), lt_f (by omega : ¬ i < t.names.length), cond_false, ref07_dict_j1]
    rw [List.drop_of_length_le (by simp; omega : (v.fields.map buE).length ≤ k), zips_end (by omega), dictG]
  | succ m ih =>
    intro i k n hm hi hk h0 h1
    have hw2 : IntKind.i64.wrap ((k : Int) + 1) = ((k + 1 : Nat) : Int) := by rw [w64_in (by omega) (by omega)]; omega
    have hw3 : IntKind.i64.wrap ((i : Int) + 1) = ((i + 1 : Nat) : Int) := by have := D.n; rw [w64_in (by omega) (by omega)]; omega
    rw [ref07_dict_l1_eq]
    simp only [ref07_dict_l1b]
    by_cases hkd : k < v.fields.length
    · obtain ⟨x, hx, _⟩ := dropc hkd
      have hx2 : (v.fields.map buE)[k]? = some (buE x) := by rw [List.getElem?_map, hx]; rfl
      obtain ⟨x', hx', hdr⟩ := dropc (by rw [List.length_map]; omega : k < (v.fields.map buE).length)
      rw [hx2] at hx'; injection hx' with hx'; subst hx'
      obtain ⟨nm, y⟩ := x
      have hcy : CT y := hc _ (List.mem_of_getElem? hx)
      have hcp := cnt_pos (bu y)
      have h1' := h1
      rw [hdr] at h1'
      have hbe : buE (nm, y) = (nm, bu y) := rfl
      rw [hbe] at h1' hdr
      simp only [cntD] at h1'
      have hpp : 0 ≤ cntD ((v.fields.map buE).drop (k + 1)) := by rw [cntD_map]; exact cntL_pos _
      have hw1 : IntKind.i64.wrap (n + cnt (bu y)) = n + cnt (bu y) := w64_in (by omega) (by omega)
      have j3 : ∀ j : Nat, i ≤ j → j ≤ t.names.length → ref07_dict_j3 (ref07_dict_l1 p_ref07_is v t a) v n (k : Nat) (j : Nat) = some (dictG t.opn a ((zips t).drop j) ((v.fields.map buE).drop (k + 1)) (n + cnt (bu y))) := by
        intro j hj hj'
        simp only [ref07_dict_j3, idxI_nat, hx, Option.bind_some, hcy.pc, hw1, hw2]
        exact ih j (k + 1) (n + cnt (bu y)) (by omega) hj' (by omega) (by omega) (by omega)
      have hne : (((k : Nat) : Int) == ((v.fields.length : Nat) : Int)) = false := by simp; omega
      rw [lt_t hkd, hdr]
      simp only [cond_true, ref07_dict_j1, hne, cond_false]
      by_cases hin : i < t.names.length
      · obtain ⟨s, b, u, e1, e2, e3, e4⟩ := D.at_ hin
        have hne2 : (((i : Nat) : Int) == ((t.names.length : Nat) : Int)) = false := by simp; omega
        rw [lt_t hin, e4, dictG]
        simp only [cond_true, idxI_nat, e1, hx, Option.bind_some, ref07_dict_j2, e2, hw3, hne2, cond_false, ref07_dict_j4, e3]
        cases hls : Op.bytesLess s nm with
        | true =>
          simp only [cond_true, if_true]
          cases b with
          | false => rfl
          | true =>
            simp only [Bool.not_true, cond_false, if_true]
            rw [← hdr]
            exact ih (i + 1) k n (by omega) (by omega) hk h0 h1
        | false =>
          simp only [cond_false, Bool.false_eq_true, if_false, Bool.false_or]
          cases heq : s == nm with
          | true =>
            simp only [Bool.not_true, cond_false, hl u (List.mem_of_getElem? e3) y n hcy h0 (by omega), Option.bind_some, if_true]
            cases (isF u (bu y) n).1 with
            | false => rfl
            | true => simp only [Bool.not_true, cond_false, if_true]; exact j3 (i + 1) (by omega) (by omega)
          | false =>
            simp only [Bool.not_false, cond_true, Bool.false_eq_true, if_false]
            cases ho : t.opn with
            | false => rfl
            | true =>
              simp only [Bool.not_true, cond_false, if_true]
              rw [← e4, ← ho]; exact j3 i (Nat.le_refl _) hi
      · have hne2 : (((i : Nat) : Int) == ((t.names.length : Nat) : Int)) = true := by simp; omega
        rw [lt_f hin]
        simp only [cond_false, ref07_dict_j2, hne2, cond_true, ref07_dict_j4]
        rw [zips_end (by omega), dictG]
        cases ho : t.opn with
        | false => rfl
        | true =>
          simp only [Bool.not_true, cond_false, if_true]
          have := j3 i (Nat.le_refl _) hi
          rw [zips_end (by omega), ho] at this; exact this
    · have hne : (((k : Nat) : Int) == ((v.fields.length : Nat) : Int)) = true := by simp; omega
      rw [lt_f hkd, List.drop_of_length_le (by simp; omega : (v.fields.map buE).length ≤ k)]
      simp only [cond_false]
      by_cases hin : i < t.names.length
      · obtain ⟨s, b, u, e1, e2, e3, e4⟩ := D.at_ hin
        rw [lt_t hin, e4, dictG]
        simp only [cond_true, ref07_dict_j1, lt_t hin, hne, ref07_dict_j2, idxI_nat, e2, Option.bind_some, hw3]
        cases b with
        | false => rfl
        | true =>
          simp only [Bool.not_true, cond_false, if_true]
          have := ih (i + 1) k n (by omega) (by omega) hk h0 h1
          rw [List.drop_of_length_le (by simp; omega : (v.fields.map buE).length ≤ k)] at this; exact this
      · rw [lt_f hin]
        simp only [cond_false, ref07_dict_j1]
        rw [zips_end (by omega), dictG]
theorem ref07_is_eq (t : Typ) : VT t → bkTy t ≤ 268435456 → okTy t → IsR t := by
  induction t using Typ.byParts with
  | _ t ih =>
  intro hv hb hok v a hc h0 h1
  have B := tb hb
  have hK := hv.know
  have hokp : okT t.only ∧ ∀ u, u ∈ t.parts → okTy u := by
    cases t with
    | mk k o y p n l q c =>
      rw [okTy] at hok
      refine ⟨hok.2.2.1, fun u hu => ?_⟩
      have : ∀ {l : List Typ}, okTys l → ∀ u, u ∈ l → okTy u := by
        intro l
        induction l with
        | nil => intro _ u hu; cases hu
        | cons x r ih =>
          intro h u hu
          rw [okTys] at h
          rcases List.mem_cons.1 hu with rfl | hu
          · exact h.1
          · exact ih h.2 u hu
      exact this hok.2.2.2 u hu
  have hw : IntKind.i64.wrap (a + 1) = a + 1 := by have := cnt_pos (bu v); exact w64_in (by omega) (by omega)
  have hkk := bu_kind (can_fine hc.can)
  have hnr := hc.can.1
  rw [e_ref07_is, b_ref07_is, isF_eq]
  unfold isG
  cases hK with
  | any hk => simp [hk, plc_r, plc]
  | none hk => simp [hk, plc_r, plc]
  | kind hk => simp [hk, plc_r, hkk.1]
  | only hk ho =>
    have hf := check_fine ho
    have hcv := check_can hc.can
    simp [hk, plc_r, ref01_Compare_eq v t.only hc.ft ⟨hokp.1, hf.1⟩, sameF, ho, hcv]
  | recd hk =>
    have hr : recOf t.cls (bu v) = (bif v.kind == 10 then v.cls == t.cls else false) := by
      have hb := bu_c v
      generalize bu v = x at hb
      cases hb with
      | record h => simp [recOf, h]
      | alien h => have : (v.kind == 10) = false := by simp; omega
                   simp [recOf, this]
      | _ h => simp [recOf, h]
    rw [hr]
    by_cases h10 : v.kind = 10
    · simp [hk, plc_r, h10]
    · have : (v.kind == 10) = false := by simpa using h10
      simp [hk, plc_r, this]
  | union hk hp =>
    have := ru_l t v a hc h0 h1 (fun u hu => ih u hu (hp u hu) (B.parts u hu) (hokp.2 u hu)) t.parts.length 0 false (by omega)
    rw [List.drop_zero, Bool.false_or] at this
    simp [hk, this]
  | list hk hp =>
    obtain ⟨p, hp1, hp2⟩ := hp
    by_cases h8 : v.kind = 8
    · have hbl := bu_list h8
      have hcl : cnt (bu v) = 1 + cntL (v.list.map bu) := by rw [hbl, cnt]
      have hcp := cntL_pos (v.list.map bu)
      have hL : p_ref07_list v t a = some (listG (isF p) (v.list.map bu) (a + 1)) := by
        rw [e_ref07_list, b_ref07_list, hw]
        have := rl_l v t p hp1 (ih p (by rw [hp1]; simp) hp2 (B.parts p (by rw [hp1]; simp)) (hokp.2 p (by rw [hp1]; simp))) (fun y hy => hc.list h8 hy) v.list.length 0 (a + 1) (by omega) (by omega) (by rw [List.drop_zero]; omega)
        rw [List.drop_zero] at this; exact this
      rw [hbl, Typ.eta, hk, h8, hp1]
      show Option.bind (p_ref07_list v t a) (fun x => some (x.1, x.2)) = _
      rw [hL]; rfl
    · have h8' : (v.kind == 8) = false := by simpa using h8
      have : ∀ l, bu v ≠ .list l := fun l h => by rw [h] at hkk; simp [kindOf] at hkk; omega
      simp only [hk, h8']
      cases hbv : bu v <;> first | (exact absurd hbv (this _)) | simp [plc_r, plc]
  | dict hk hn hpl hll hp =>
    by_cases h9 : v.kind = 9
    · have hbl := bu_dict h9
      have hcl : cnt (bu v) = 1 + cntD (v.fields.map buE) := by rw [hbl, cnt]
      have hdl : v.fields.length ≤ 4096 := by have := near_dict (by rw [← hbl]; exact hnr.own); rwa [List.length_map] at this
      have hL : p_ref07_dict v t a = some (dictG t.opn a (zips t) (v.fields.map buE) (a + 1)) := by
        rw [e_ref07_dict, b_ref07_dict, hw]
        have := rd_ll t ⟨hn, hpl, hll⟩ v hdl a (fun u hu => ih u hu (hp u hu) (B.parts u hu) (hokp.2 u hu)) (fun y hy => hc.fields h9 hy) _ 0 0 (a + 1) (Nat.le_refl _) (by omega) (by omega) (by omega) (by rw [List.drop_zero]; omega)
        rw [List.drop_zero, List.drop_zero] at this; exact this
      rw [hbl, Typ.eta, hk, h9]
      show Option.bind (p_ref07_dict v t a) (fun x => some (x.1, x.2)) = _
      rw [hL]; rfl
    · have h9' : (v.kind == 9) = false := by simpa using h9
      have : ∀ l, bu v ≠ .dict l := fun l h => by rw [h] at hkk; simp [kindOf] at hkk; omega
      simp only [hk, h9']
      cases hbv : bu v <;> first | (exact absurd hbv (this _)) | simp [plc_r, plc]
theorem ref07_Is_eq (v : Term) (t : Typ) (hv : bkT v ≤ 268435456) (ov : okT v) (h : bkTy t ≤ 268435456) (ot : okTy t) : p_ref07_Is v t = some (isA (bu v) t) := by
  simp only [p_ref07_Is, Typ.eta, ref01_Check_eq v hv, ref07_Valid_eq t h, Option.bind_some, isA]
  by_cases hx : (checkF (bu v)).2 = 0
  · simp only [hx, ne_eq, not_true_eq_false, if_false]
    cases hval : validT t with
    | false => rfl
    | true =>
      have hc := can_check hx
      have := ref07_is_eq t (vt_valid hval) h ot v 0 ⟨ov, hc, hv⟩ (by omega) (by have := hc.2.1; omega)
      simp [this]
  · simp only [hx, ne_eq, not_false_eq_true, if_true, ne_t hx, cond_true]
theorem plain_CheckTypes (a0 : Term) (a1 : Typ) (h : bkT a0 + bkTy a1 ≤ 1048576) (ok0 : okT a0) (ok1 : okTy a1) : p_law07_CheckTypes a0 a1 = some true := by
  have one : isA (.int 1) (Typ.mk 3 3 (Term.mk 0 false 0 0 [] [] 0 [] [] [] 0) [] [] [] false []) = (true, 0, 0) := by
    have hc : checkF (.int 1) = (0, 0) := by simp [checkF, partF, ownE, nearE]
    have hv : validT (Typ.mk 3 3 (Term.mk 0 false 0 0 [] [] 0 [] [] [] 0) [] [] [] false []) = true := by
      simp [validT, fitF_eq, leafT, Typ.kind, Typ.of]
    have hi : isF (Typ.mk 3 3 (Term.mk 0 false 0 0 [] [] 0 [] [] [] 0) [] [] [] false []) (.int 1) 0 = (true, 0) := by
      rw [isF_eq]; rfl
    simp [isA, hc, hv, hi]
  have b1 : bkTy (Typ.mk 3 3 (Term.mk 0 false 0 0 [] [] 0 [] [] [] 0) [] [] [] false []) ≤ 268435456 := by
    simp [bkTy, bkT, bkTs, bkEs, bkTys]
  simp only [p_law07_CheckTypes, Typ.eta, mk_Built_eq a0 (by omega), check_Is_eq _ a1 (by omega), ref07_Is_eq a0 a1 (by omega) ok0 (by omega) ok1, check_Is_eq _ _ b1, check_Valid_eq a1 (by omega), ref07_Valid_eq a1 (by omega), Option.bind_some, one, beq_self_eq_true, cond_true]
end Go.Proofs.Ytiapdjdhaclmnaa
