/- CheckSound: each type is of itself; the law. -/
import Derived.Test.YtiapdjdhaclmnaaC10
namespace Go.Proofs.Ytiapdjdhaclmnaa
open Go Aw
set_option linter.unusedVariables false
set_option linter.unusedSimpArgs false
set_option maxRecDepth 8000
inductive In : Typ → Typ → Prop
  | refl {t : Typ} : In t t
  | part {x b q : Typ} : b.kind = 7 → q ∈ b.parts → In x q → In x b
theorem in_part {x b p : Typ} (h : In x b) (hx : x.kind = 7) (hp : p ∈ x.parts) : In p b := by
  induction h with
  | refl => exact .part hx hp .refl
  | part h1 h2 _ ih => exact .part h1 h2 ih
theorem srt_inj {l : List Str} (h : Srt l) {i j : Nat} {s : Str} (hi : l[i]? = some s) (hj : l[j]? = some s) : i = j := by
  obtain ⟨i1, i2⟩ := List.getElem?_eq_some_iff.1 hi
  obtain ⟨j1, j2⟩ := List.getElem?_eq_some_iff.1 hj
  have hp := List.pairwise_iff_getElem.1 h
  rcases Nat.lt_trichotomy i j with hlt | he | hgt
  · have := hp i j i1 j1 hlt
    rw [i2, j2] at this; exact absurd this (ltS_irr s)
  · exact he
  · have := hp j i j1 i1 hgt
    rw [i2, j2] at this; exact absurd this (ltS_irr s)
theorem ds_l (t : Typ) (D : DT t) (hs : Srt t.names) (hp : ∀ u, u ∈ t.parts → p_check_sub u u = some true) : ∀ k i, k + i = t.names.length → check_dicts_l1 p_check_sub t t i = some true
  | 0, i, h => by
    rw [check_dicts_l1_eq]
    simp only [check_dicts_l1b, lt_f (by omega : ¬ i < t.names.length), cond_false]
  | k + 1, i, h => by
    obtain ⟨s, l, u, e1, e2, e3, _⟩ := tz_at D (by omega : i < t.names.length)
    obtain ⟨x, hx, hcase⟩ := at_eq t.names s
    have hrest := ds_l t D hs hp k (i + 1) (by omega)
    rcases hcase with ⟨_, hno⟩ | ⟨m, rfl, hm⟩
    · exact absurd (List.mem_of_getElem? e1) hno
    · have := srt_inj hs hm e1
      subst this
      have e : decide ((m : Int) < 0) = false := decide_eq_false (by omega)
      rw [check_dicts_l1_eq]
      simp only [check_dicts_l1b, lt_t (by omega : m < t.names.length), cond_true, e1, hx, Option.bind_some, e2, e3, check_dicts_j3, check_dicts_j4, check_dicts_j2, e, cond_false, idxI_nat, hp u (List.mem_of_getElem? e3), hrest, Bool.not_true]
      cases l <;> rfl
theorem dicts_self (t : Typ) (D : DT t) (hs : Srt t.names) (hp : ∀ u, u ∈ t.parts → p_check_sub u u = some true) : p_check_dicts t t = some true := by
  have hl := ds_l t D hs hp t.names.length 0 (by omega)
  rw [e_check_dicts, b_check_dicts]
  simp only [check_dicts_j1, check_dicts_j5, hl]
  cases ho : t.opn with
  | true => rfl
  | false =>
    obtain ⟨c, hc, hm⟩ := miss_eq t.names t
    simp only [Bool.not_false, cond_true, cond_false, hc, Option.bind_some]
    cases c with
    | true => obtain ⟨s, h1, h2⟩ := hm.1 rfl; exact absurd h1 h2
    | false => rfl
theorem ord_self (x : V) : ordF x x = 0 := by
  have h := lexc_neg (key x) (key x)
  rw [ord_key]; omega
theorem in_ok : ∀ (n : Nat) (a b : Typ), SizeOf.sizeOf a + SizeOf.sizeOf b ≤ n → VT a → VT b → bkTy a ≤ 268435456 → bkTy b ≤ 268435456 → In a b → p_check_sub a b = some true := by
  intro n
  induction n with
  | zero => intro a b h; have : 0 < SizeOf.sizeOf a := by cases a; simp; omega
            omega
  | succ n ih =>
    intro a b hn va vb ba bb hin
    have Ba := tb ba
    have Bb := tb bb
    have Ka := va.know
    have Kb := vb.know
    rw [e_check_sub, b_check_sub]
    simp only [check_sub_j1]
    by_cases hb1 : b.kind = 1
    · simp [hb1]
    by_cases ha2 : a.kind = 2
    · simp [beq_f hb1, ha2]
    by_cases ha7 : a.kind = 7
    · have hp : ∀ u, u ∈ a.parts → VT u := by cases Ka <;> first | assumption | (exfalso; omega)
      have hx : ∀ u, u ∈ a.parts → p_check_sub u b = some true := fun u hu => ih u b (by have := typ_lt hu; omega) (hp u hu) vb (Ba.parts u hu) bb (in_part hin ha7 hu)
      obtain ⟨c, hc, hm⟩ := has2 b a.parts (fun u hu => ⟨true, hx u hu⟩)
      have : c = false := by
        cases c with
        | false => rfl
        | true => obtain ⟨u, hu, h1⟩ := hm.1 rfl; rw [hx u hu] at h1; cases h1
      subst this
      simp [beq_f hb1, ha7, hc]
    by_cases hb7 : b.kind = 7
    · have hp : ∀ u, u ∈ b.parts → VT u := by cases Kb <;> first | assumption | (exfalso; omega)
      obtain ⟨c, hc, hm⟩ := has3 a b.parts (fun u hu => let ⟨r, h, _⟩ := sub_ok _ a u (Nat.le_refl _) va (hp u hu) ba (Bb.parts u hu); ⟨r, h⟩)
      have : c = true := by
        cases hin with
        | refl => exact absurd hb7 ha7
        | part h1 h2 h3 => exact hm.2 ⟨_, h2, ih a _ (by have := typ_lt h2; omega) va (hp _ h2) ba (Bb.parts _ h2) h3⟩
      subst this
      simp [beq_f ha2, beq_f ha7, hb7, hc]
    have hab : a = b := by
      cases hin with
      | refl => rfl
      | part h1 _ _ => exact absurd h1 hb7
    subst hab
    cases Ka with
    | none h => exact absurd h ha2
    | union h _ => exact absurd h ha7
    | any h => exact absurd h hb1
    | only h ho =>
      have hf := check_fine ho
      have hc := can_check ho
      have e : (ofF (lo a.only)).1 = bu a.only := by rw [lo_bu _ hf.1, ofF, if_neg (by simp [ho])]
      have hi := check_is_eq a vb bb (bu a.only) 0 hc (by omega) (by have := hc.2.1; omega)
      have hB : (isF a (bu a.only) 0).1 = true := by
        show isB a (bu a.only) = true
        rw [isB_kind4 h]
        simp [sameF, ho, ord_self]
      simp only [h, beq_f hb1, beq_f hb7, value_Of_eq a.only Ba.only, e, Option.bind_some, hi, hB]; rfl
    | kind h => simp [h]
    | recd h => simp [h]
    | list h hp =>
      obtain ⟨p, hp1, hp2⟩ := hp
      have hpm : p ∈ a.parts := by rw [hp1]; simp
      have h1 := ih p p (by have := typ_lt hpm; omega) hp2 hp2 (Ba.parts p hpm) (Ba.parts p hpm) .refl
      have h11 : p_check_sub_1_1 p p = some true := by rw [e_check_sub_1_1, b_check_sub_1_1, h1]; rfl
      have h1s : p_check_sub_1 p = some p := by simp only [p_check_sub_1, Typ.eta]
      simp [h, hp1, h11, h1s]
    | dict h hn1 hn2 hn3 hp =>
      have hd := dicts_self a ⟨hn1, hn2, hn3⟩ (srt_of (va.risen h)).1 (fun u hu => ih u u (by have := typ_lt hu; omega) (hp u hu) (hp u hu) (Ba.parts u hu) (Ba.parts u hu) .refl)
      simp [h, hd, Typ.eta]
/-! ### the law -/
theorem check_Sub_eq (a b : Typ) (ha : bkTy a ≤ 268435456) (hb : bkTy b ≤ 268435456) :
    ∃ r : Bool × Int, p_check_Sub a b = some r ∧ (r.2 = 0 → validT a = true ∧ validT b = true ∧ p_check_sub a b = some r.1) ∧ (validT a = true → validT b = true → r.2 = 0) := by
  simp only [p_check_Sub, check_Sub_j1, Typ.eta, check_valid_eq a ha, check_valid_eq b hb, Option.bind_some]
  cases h1 : validT a with
  | false => exact ⟨(false, 70), rfl, fun h => (by cases h), fun h => by cases h⟩
  | true =>
    cases h2 : validT b with
    | false => exact ⟨(false, 70), rfl, fun h => (by cases h), fun _ h => by cases h⟩
    | true =>
      obtain ⟨r, hr, _⟩ := sub_ok _ a b (Nat.le_refl _) (vt_valid h1) (vt_valid h2) ha hb
      exact ⟨(r, 0), by simp [hr], fun _ => ⟨rfl, rfl, hr⟩, fun _ _ => rfl⟩
theorem sub_self (t : Typ) (ht : bkTy t ≤ 268435456) (hv : validT t = true) : p_check_Sub t t = some (true, 0) := by
  obtain ⟨r, h1, h2, h3⟩ := check_Sub_eq t t ht ht
  have h0 := h3 hv hv
  have h4 := (h2 h0).2.2
  rw [in_ok _ t t (Nat.le_refl _) (vt_valid hv) (vt_valid hv) ht ht .refl] at h4
  injection h4 with h4
  rw [h1]
  obtain ⟨x, y⟩ := r
  simp only at h0 h4
  rw [← h4, h0]
theorem one_eq : law07_CheckSound_j2 = some true := by
  have ba : bkTy (Typ.mk 4 0 (Term.mk 1 false 0 0 [] [] 0 [] [] [] 0) [] [] [] false []) ≤ 268435456 := by simp [bkTy, bkT, bkTs, bkEs, bkTys]
  have bb : bkTy (Typ.mk 3 1 (Term.mk 0 false 0 0 [] [] 0 [] [] [] 0) [] [] [] false []) ≤ 268435456 := by simp [bkTy, bkT, bkTs, bkEs, bkTys]
  have hbu : bu (Term.mk 1 false 0 0 [] [] 0 [] [] [] 0) = .nil := by rw [bu]; rfl
  have hcn : checkF V.nil = (0, 0) := by simp [checkF, partF, ownE, nearE]
  have va : validT (Typ.mk 4 0 (Term.mk 1 false 0 0 [] [] 0 [] [] [] 0) [] [] [] false []) = true := by
    simp [validT, fitF_eq, leafT, Typ.kind, Typ.only, hbu, hcn]
  have vb : validT (Typ.mk 3 1 (Term.mk 0 false 0 0 [] [] 0 [] [] [] 0) [] [] [] false []) = true := by
    simp [validT, fitF_eq, leafT, Typ.kind, Typ.of]
  have hs : p_check_sub (Typ.mk 4 0 (Term.mk 1 false 0 0 [] [] 0 [] [] [] 0) [] [] [] false []) (Typ.mk 3 1 (Term.mk 0 false 0 0 [] [] 0 [] [] [] 0) [] [] [] false []) = some true := by
    have hlo : lo (Term.mk 1 false 0 0 [] [] 0 [] [] [] 0) = .nil := by rw [lo]; rfl
    have hof : p_value_Of (Term.mk 1 false 0 0 [] [] 0 [] [] [] 0) = some (.nil, 0) := by
      rw [value_Of_eq _ (by simp [bkT, bkTs, bkEs]), hlo, ofF, hcn]; rfl
    have hc : Can .nil := can_check (by rw [hcn])
    have hi := check_is_eq _ (vt_valid vb) bb .nil 0 hc (by omega) (by have := hc.2.1; omega)
    rw [e_check_sub, b_check_sub]
    simp only [check_sub_j1]
    have hB : (isF (Typ.mk 3 1 (Term.mk 0 false 0 0 [] [] 0 [] [] [] 0) [] [] [] false []) .nil 0).1 = true := by
      show isB _ .nil = true
      rw [isB_kind3 rfl]; rfl
    simp [Typ.kind, Typ.only, hof, hi, hB]
  obtain ⟨r, h1, h2, h3⟩ := check_Sub_eq _ _ ba bb
  have h0 := h3 va vb
  have h4 := (h2 h0).2.2
  rw [hs] at h4
  injection h4 with h4
  simp only [law07_CheckSound_j2, h1, Option.bind_some, ← h4, h0]
  rfl
theorem self2 (a b : Typ) (ha : bkTy a ≤ 268435456) (hb : bkTy b ≤ 268435456) (va : validT a = true) (vb : validT b = true) : law07_CheckSound_l2 a b 0 = some true := by
  have h2 : law07_CheckSound_l2 a b 2 = some true := by
    rw [law07_CheckSound_l2_eq]; simp only [law07_CheckSound_l2b]; exact one_eq
  have h1 : law07_CheckSound_l2 a b 1 = some true := by
    rw [law07_CheckSound_l2_eq]; simp only [law07_CheckSound_l2b]
    have e : idxI [a, b] 1 = some b := rfl
    rw [e]
    simp only [Option.bind_some, sub_self b hb vb, law07_CheckSound_j3]
    exact h2
  rw [law07_CheckSound_l2_eq]; simp only [law07_CheckSound_l2b]
  have e : idxI [a, b] 0 = some a := rfl
  rw [e]
  simp only [Option.bind_some, sub_self a ha va, law07_CheckSound_j3]
  exact h1
theorem cs_l (a b : Typ) (l : List Term) (ha : bkTy a ≤ 268435456) (hb : bkTy b ≤ 268435456) (hl : ∀ t, t ∈ l → bkT t ≤ 268435456) (r : Bool × Int)
    (h2 : r.2 = 0 → validT a = true ∧ validT b = true ∧ p_check_sub a b = some r.1) : ∀ k i, k + i = l.length → law07_CheckSound_l1 a b l r i = some true
  | 0, i, h => by
    rw [law07_CheckSound_l1_eq]
    simp only [law07_CheckSound_l1b, lt_f (by omega : ¬ i < l.length), cond_false]
    by_cases h0 : r.2 = 0
    · obtain ⟨va, vb, _⟩ := h2 h0
      rw [beq_t h0, cond_true, self2 a b ha hb va vb]
    · rw [beq_f h0, cond_false, one_eq]
  | k + 1, i, h => by
    obtain ⟨t, ht, _⟩ := dropc (by omega : i < l.length)
    have hrest := cs_l a b l ha hb hl r h2 k (i + 1) (by omega)
    rw [law07_CheckSound_l1_eq]
    simp only [law07_CheckSound_l1b, lt_t (by omega : i < l.length), cond_true, ht, Option.bind_some, Typ.eta, mk_Built_eq t (hl t (List.mem_of_getElem? ht)), check_Is_eq _ a ha, check_Is_eq _ b hb, law07_CheckSound_j1, hrest]
    by_cases h0 : r.2 = 0
    · obtain ⟨va, vb, hs⟩ := h2 h0
      rw [beq_t h0, cond_true]
      by_cases hx : (checkF (bu t)).2 = 0
      · have hc := can_check hx
        have e1 : isA (bu t) a = ((isF a (bu t) 0).1, (isF a (bu t) 0).2, 0) := by simp [isA, hx, va]
        have e2 : isA (bu t) b = ((isF b (bu t) 0).1, (isF b (bu t) 0).2, 0) := by simp [isA, hx, vb]
        rw [e1, e2]
        simp only [beq_self_eq_true, cond_true, bne_self_eq_false, cond_false]
        cases hr : r.1 with
        | false => rfl
        | true =>
          cases hp : (isF a (bu t) 0).1 with
          | false => rfl
          | true =>
            obtain ⟨r', g1, g2⟩ := sub_ok _ a b (Nat.le_refl _) (vt_valid va) (vt_valid vb) ha hb
            rw [hs] at g1; injection g1 with g1
            have := g2 (by rw [← g1, hr]) (bu t) hc hp
            have hq : (isF b (bu t) 0).1 = true := this
            rw [hq]; rfl
      · have e1 : isA (bu t) a = (false, 0, (checkF (bu t)).2) := by simp [isA, hx]
        rw [e1]
        simp only [beq_f hx, cond_false]
    · rw [beq_f h0]; rfl
theorem plain_CheckSound (a0 a1 : Typ) (a2 : List Term) (h : bkTy a0 + (bkTy a1 + (a2.map bkT).sum) ≤ 1048576) (ok0 : okTy a0) (ok1 : okTy a1) (ok2 : ∀ a, a ∈ a2 → okT a) : p_law07_CheckSound a0 a1 a2 = some true := by
  have ha : bkTy a0 ≤ 268435456 := by omega
  have hb : bkTy a1 ≤ 268435456 := by omega
  have hl : ∀ t, t ∈ a2 → bkT t ≤ 268435456 := fun t ht => by
    have := bkTs_mem ht
    rw [bkTs_eq] at this; omega
  obtain ⟨r, h1, h2, _⟩ := check_Sub_eq a0 a1 ha hb
  simp only [p_law07_CheckSound, Typ.eta, h1, Option.bind_some]
  exact cs_l a0 a1 a2 ha hb hl r h2 a2.length 0 (by omega)
end Go.Proofs.Ytiapdjdhaclmnaa
