/- Values that are of a type: what both say, and the program's word. -/
import Derived.Test.YtiapdjdhaclmnaaC1
namespace Go.Proofs.Ytiapdjdhaclmnaa
open Go Aw
set_option linter.unusedVariables false
set_option linter.unusedSimpArgs false
set_option maxRecDepth 8000
abbrev Tst := V → Int → Bool × Int
def plc (b : Bool) (a : Int) : Bool × Int := if b then (true, 0) else (false, a)
def anyG : List Tst → V → Int → Bool
  | [], _, _ => false
  | f :: r, v, a => (f v a).1 || anyG r v a
def listG (f : Tst) : List V → Int → Bool × Int
  | [], _ => (true, 0)
  | x :: r, n => if (f x n).1 then listG f r (n + cnt x) else (false, (f x n).2)
def dictG (q : Bool) (a : Int) : List (Str × Bool × Tst) → List (Str × V) → Int → Bool × Int
  | [], [], _ => (true, 0)
  | (s, l, f) :: ts, [], n => if l then dictG q a ts [] n else (false, a)
  | [], (m, x) :: r, n => if q then dictG q a [] r (n + cnt x) else (false, a)
  | (s, l, f) :: ts, (m, x) :: r, n =>
    if Op.bytesLess s m then (if l then dictG q a ts ((m, x) :: r) n else (false, a))
    else if s == m then (if (f x n).1 then dictG q a ts r (n + cnt x) else (false, (f x n).2))
    else if q then dictG q a ((s, l, f) :: ts) r (n + cnt x) else (false, a)
termination_by ts fs => ts.length + fs.length
decreasing_by all_goals (simp only [List.length_cons, List.length_nil]; omega)
def recOf (c : Str) : V → Bool
  | .record c' _ _ => c' == c
  | _ => false
noncomputable def isG (k o : Int) (y : Term) (n : List Str) (l : List Bool) (q : Bool) (c : Str) (fs : List Tst) (v : V) (a : Int) : Bool × Int :=
  if k = 1 then (true, 0) else if k = 3 then plc (kindOf v == o) a else if k = 4 then plc (sameF v (bu y)) a else if k = 8 then plc (recOf c v) a else if k = 7 then plc (anyG fs v a) a
  else if k = 5 then (match v with | .list x => (match fs with | f :: _ => listG f x (a + 1) | [] => (false, a)) | _ => (false, a))
  else if k = 6 then (match v with | .dict d => dictG q a (n.zip (l.zip fs)) d (a + 1) | _ => (false, a))
  else (false, a)
mutual
noncomputable def isF : Typ → Tst
  | .mk k o y p n l q c => isG k o y n l q c (isFs p)
noncomputable def isFs : List Typ → List Tst
  | [] => []
  | x :: r => isF x :: isFs r
end
theorem isFs_map : ∀ l, isFs l = l.map isF
  | [] => by rw [isFs]; rfl
  | x :: r => by rw [isFs, isFs_map r]; rfl
theorem isF_eq (t : Typ) (v : V) (a : Int) : isF t v a = isG t.kind t.of t.only t.names t.lacks t.opn t.cls (t.parts.map isF) v a := by cases t; rw [isF, isFs_map]; rfl
/-! ### types that can be, part by part -/
def VT (t : Typ) : Prop := ∃ left d, (fitF t left d).1 = true
theorem fitsF_ok {d : Int} : ∀ {l : List Typ} {left : Int}, (fitsF l left d).1 = true → ∀ u, u ∈ l → VT u
  | x :: r, left, h, u, hu => by
    rw [fitsF_cons] at h
    cases hk : (fitF x left d).1 with
    | false => rw [if_neg (by simp [hk])] at h; cases h
    | true =>
      rw [if_pos hk] at h
      rcases List.mem_cons.1 hu with rfl | hu
      · exact ⟨left, d, hk⟩
      · exact fitsF_ok h u hu
theorem VT.cases {t : Typ} (h : VT t) : leafT t = true ∨ (leafT t = false ∧ visT t = true ∧ ∀ u, u ∈ t.parts → VT u) := by
  obtain ⟨left, d, h⟩ := h
  rw [fitF_eq] at h
  split at h
  · cases h
  · cases hl : leafT t with
    | true => exact .inl rfl
    | false =>
      rw [if_neg (by simp [hl])] at h
      cases hv : visT t with
      | false => rw [if_neg (by simp [hv])] at h; cases h
      | true => rw [if_pos hv] at h; exact .inr ⟨rfl, rfl, fitsF_ok h⟩
theorem vt_valid {t : Typ} (h : validT t = true) : VT t := ⟨_, _, h⟩
/-- What is known of a type that can be. -/
inductive VK (t : Typ) : Prop
  | any : t.kind = 1 → VK t
  | none : t.kind = 2 → VK t
  | kind : t.kind = 3 → VK t
  | only : t.kind = 4 → (checkF (bu t.only)).2 = 0 → VK t
  | list : t.kind = 5 → (∃ p, t.parts = [p] ∧ VT p) → VK t
  | dict : t.kind = 6 → t.names.length ≤ 4096 → t.parts.length = t.names.length → t.lacks.length = t.names.length → (∀ u, u ∈ t.parts → VT u) → VK t
  | union : t.kind = 7 → (∀ u, u ∈ t.parts → VT u) → VK t
  | recd : t.kind = 8 → VK t
theorem VT.know {t : Typ} (h : VT t) : VK t := by
  rcases h.cases with hl | ⟨hl, hv, hp⟩
  · simp only [leafT, Bool.or_eq_true, Bool.and_eq_true, beq_iff_eq, decide_eq_true_eq] at hl
    rcases hl with (((h | h) | ⟨⟨h, _⟩, _⟩) | ⟨h, h2⟩) | ⟨h, _⟩
    · exact .any h
    · exact .none h
    · exact .kind h
    · exact .only h h2
    · exact .recd h
  · simp only [visT, Bool.or_eq_true, Bool.and_eq_true, beq_iff_eq, decide_eq_true_eq] at hv
    rcases hv with (⟨h, h2⟩ | ⟨h, _⟩) | ⟨⟨⟨⟨h, h2⟩, h3⟩, h4⟩, _⟩
    · obtain ⟨p, hp'⟩ := List.length_eq_one_iff.1 h2
      exact .list h ⟨p, hp', hp p (by rw [hp']; simp)⟩
    · exact .union h hp
    · exact .dict h h2 h3 h4 hp
/-! ### parts of values that can be -/
theorem cnt_mem : ∀ {l : List V} {y : V}, y ∈ l → cnt y ≤ cntL l ∧ dpt y ≤ dptL l
  | x :: r, y, h => by
    have hp : 0 ≤ cntL r ∧ 0 ≤ dptL r := by
      clear h
      induction r with
      | nil => simp [cntL, dptL]
      | cons z q ih => have := cnt_pos z; simp only [cntL, dptL]; omega
    have hx := cnt_pos x
    simp only [cntL, dptL]
    rcases List.mem_cons.1 h with rfl | h
    · omega
    · have := cnt_mem h; omega
theorem Can.part {x y : V} (h : Can x) (hy : y ∈ x.parts) : Can y := by
  have h1 := cnt_mem hy
  have h2 := cnt_eq x
  have h3 := dpt_eq x
  obtain ⟨a, b, c⟩ := h
  exact ⟨a.part y hy, by omega, by omega⟩
theorem cntL_pos (l : List V) : 0 ≤ cntL l := by
  induction l with
  | nil => simp [cntL]
  | cons z q ih => have := cnt_pos z; simp only [cntL]; omega
theorem check_parts_eq {x : V} (h : Can x) : p_check_parts x = some (cnt x) := by
  simp only [p_check_parts, value_Size_eq, size_can h, Option.bind_some]
theorem lo_bu (t : Term) : Fine (bu t) → lo t = bu t := by
  induction t using Term.byParts with
  | _ t ih =>
  intro hx
  have hp := hx.own.2
  have hn := hx.own.1
  rw [← partsT_bu] at hp
  have hs : ∀ u, u ∈ partsT t → lo u = bu u := fun u hu => ih u hu (hp _ (List.mem_map_of_mem hu))
  have hb := lo_c t
  generalize lo t = x at hb
  generalize bu t = y at hb hn
  cases hb with
  | list hk => exact congrArg V.list (List.map_congr_left fun u hu => hs u (by unfold partsT; rw [if_pos hk]; exact hu))
  | dict hk => exact congrArg V.dict (List.map_congr_left fun u hu => congrArg (Prod.mk u.1) (hs _ (by unfold partsT; rw [if_neg (by omega), if_pos (Or.inl hk)]; exact List.mem_map_of_mem hu)))
  | record hk => exact congrArg (V.record t.cls t.ver) (List.map_congr_left fun u hu => congrArg (Prod.mk u.1) (hs _ (by unfold partsT; rw [if_neg (by omega), if_pos (Or.inr hk)]; exact List.mem_map_of_mem hu)))
  | alien => simp [nearE] at hn
  | _ => rfl
/-! ### the program's -/
def IsOk (t : Typ) : Prop := ∀ v a, Can v → 0 ≤ a → a + cnt v ≤ 1099511627776 → p_check_is v t a = some (isF t v a)
theorem plc_j (b : Bool) (a : Int) : check_is_j1 a b = some (plc b a) := by cases b <;> rfl
theorem iu_l (t : Typ) (v : V) (a : Int) (hv : Can v) (h0 : 0 ≤ a) (h1 : a + cnt v ≤ 1099511627776) (hl : ∀ u, u ∈ t.parts → IsOk u) : ∀ k i, k + i = t.parts.length → check_is_l1 p_check_is v t a i = some (plc (anyG ((t.parts.drop i).map isF) v a) a)
  | 0, i, h => by
    rw [check_is_l1_eq]
    simp only [check_is_l1b, lt_f (by omega : ¬ i < t.parts.length), cond_false, plc_j]
    rw [List.drop_of_length_le (by omega)]; rfl
  | k + 1, i, h => by
    obtain ⟨x, hx, hdr⟩ := dropc (by omega : i < t.parts.length)
    rw [check_is_l1_eq]
    simp only [check_is_l1b, lt_t (by omega : i < t.parts.length), cond_true, hx, Option.bind_some, Typ.eta, hl x (List.mem_of_getElem? hx) v a hv h0 h1]
    rw [hdr, List.map_cons, anyG]
    cases (isF x v a).1 with
    | true => rfl
    | false => simp only [cond_false, Bool.false_or]; exact iu_l t v a hv h0 h1 hl k (i + 1) (by omega)
theorem li_l (l : List V) (t : Typ) (ht : IsOk t) (hc : ∀ y, y ∈ l → Can y) : ∀ k i n, k + i = l.length → 0 ≤ n → n + cntL (l.drop i) ≤ 1099511627776 → check_listed_l1 p_check_is l t n i = some (listG (isF t) (l.drop i) n)
  | 0, i, n, h, h0, h1 => by
    rw [check_listed_l1_eq]
    simp only [check_listed_l1b, lt_f (by omega : ¬ i < l.length), cond_false]
    rw [List.drop_of_length_le (by omega)]; rfl
  | k + 1, i, n, h, h0, h1 => by
    obtain ⟨x, hx, hdr⟩ := dropc (by omega : i < l.length)
    have hcx := hc x (List.mem_of_getElem? hx)
    have hcp := cnt_pos x
    rw [hdr] at h1 ⊢
    simp only [cntL] at h1
    have hp := cntL_pos (l.drop (i + 1))
    have hw : IntKind.i64.wrap (n + cnt x) = n + cnt x := w64_in (by omega) (by omega)
    rw [check_listed_l1_eq]
    simp only [check_listed_l1b, lt_t (by omega : i < l.length), cond_true, hx, Option.bind_some, Typ.eta, ht x n hcx h0 (by omega), check_parts_eq hcx, hw]
    rw [listG]
    cases (isF t x n).1 with
    | false => rfl
    | true => simp only [Bool.not_true, cond_false, if_true]; exact li_l l t ht hc k (i + 1) _ (by omega) (by omega) (by omega)
/-- What stands at a place of three rows. -/
theorem zip_drop {α β γ : Type} {n : List α} {l : List β} {p : List γ} {i : Nat} {x : α} {y : β} {z : γ} (hx : n[i]? = some x) (hy : l[i]? = some y) (hz : p[i]? = some z) : (n.zip (l.zip p)).drop i = (x, y, z) :: (n.zip (l.zip p)).drop (i + 1) := by
  obtain ⟨h1, rfl⟩ := List.getElem?_eq_some_iff.1 hx
  obtain ⟨h2, rfl⟩ := List.getElem?_eq_some_iff.1 hy
  obtain ⟨h3, rfl⟩ := List.getElem?_eq_some_iff.1 hz
  rw [List.drop_eq_getElem_cons (by simp only [List.length_zip]; omega)]
  simp
theorem zip_end {α β γ : Type} {n : List α} {l : List β} {p : List γ} {i : Nat} (h : n.length ≤ i) : (n.zip (l.zip p)).drop i = [] := List.drop_of_length_le (by simp only [List.length_zip]; omega)
structure DT (t : Typ) : Prop where
  n : t.names.length ≤ 4096
  p : t.parts.length = t.names.length
  l : t.lacks.length = t.names.length
noncomputable def zips (t : Typ) : List (Str × Bool × Tst) := t.names.zip (t.lacks.zip (t.parts.map isF))
theorem DT.at_ {t : Typ} (h : DT t) {i : Nat} (hi : i < t.names.length) : ∃ s b u, t.names[i]? = some s ∧ t.lacks[i]? = some b ∧ t.parts[i]? = some u ∧ (zips t).drop i = (s, b, isF u) :: (zips t).drop (i + 1) := by
  have h1 := List.getElem?_eq_getElem hi
  have h2 := List.getElem?_eq_getElem (show i < t.lacks.length by rw [h.l]; exact hi)
  have h3 := List.getElem?_eq_getElem (show i < t.parts.length by rw [h.p]; exact hi)
  exact ⟨_, _, _, h1, h2, h3, zip_drop h1 h2 (by rw [List.getElem?_map, h3]; rfl)⟩
theorem zips_end {t : Typ} {i : Nat} (h : t.names.length ≤ i) : (zips t).drop i = [] := zip_end h
theorem lt_ti {i : Nat} {n : Nat} (h : i < n) : decide ((i : Int) < (n : Int)) = true := decide_eq_true (by omega)
theorem fl_l3 (t : Typ) (D : DT t) (a : Int) : ∀ k i n, k + i = t.names.length → check_fielded_l3 t a (i : Nat) = some (dictG t.opn a ((zips t).drop i) [] n)
  | 0, i, n, h => by
    rw [check_fielded_l3_eq]
    simp only [check_fielded_l3b, lt_f (by omega : ¬ i < t.names.length), cond_false]
    rw [zips_end (by omega), dictG]
  | k + 1, i, n, h => by
    obtain ⟨s, b, u, h1, h2, h3, h4⟩ := D.at_ (by omega : i < t.names.length)
    have hw : IntKind.i64.wrap ((i : Int) + 1) = ((i + 1 : Nat) : Int) := by rw [w64_in (by omega) (by have := D.n; omega)]; omega
    rw [check_fielded_l3_eq]
    simp only [check_fielded_l3b, lt_t (by omega : i < t.names.length), cond_true, idxI_nat, h2, Option.bind_some, hw]
    rw [h4, dictG]
    cases b with
    | false => rfl
    | true => simp only [Bool.not_true, cond_false, if_true]; exact fl_l3 t D a k (i + 1) n (by omega)
theorem fl_l (t : Typ) (D : DT t) (d : List (Str × V)) (hd : d.length ≤ 4096) (a : Int) (hl : ∀ u, u ∈ t.parts → IsOk u) (hc : ∀ y, y ∈ d → Can y.2) :
    ∀ m i k n, (t.names.length - i) + (d.length - k) ≤ m → i ≤ t.names.length → k ≤ d.length → 0 ≤ n → n + cntD (d.drop k) ≤ 1099511627776 →
      check_fielded_l1 p_check_is d t a (i : Nat) n (k : Nat) = some (dictG t.opn a ((zips t).drop i) (d.drop k) n) ∧
      ∀ x, d[k]? = some x → check_fielded_l2 p_check_is (check_fielded_l1 p_check_is d t a) t a n (k : Nat) x (i : Nat) = some (dictG t.opn a ((zips t).drop i) (d.drop k) n) := by
  intro m
  induction m with
  | zero =>
    intro i k n hm hi hk h0 h1
    have hkd : ¬ k < d.length := by omega
    refine ⟨?_, fun x hx => absurd (List.getElem?_eq_some_iff.1 hx).1 hkd⟩
    rw [check_fielded_l1_eq]
    simp only [check_fielded_l1b, lt_f hkd, cond_false]
    rw [List.drop_of_length_le (by omega : d.length ≤ k)]
    exact fl_l3 t D a (t.names.length - i) i n (by omega)
  | succ m ih =>
    intro i k n hm hi hk h0 h1
    have L2 : ∀ x, d[k]? = some x → check_fielded_l2 p_check_is (check_fielded_l1 p_check_is d t a) t a n (k : Nat) x (i : Nat) = some (dictG t.opn a ((zips t).drop i) (d.drop k) n) := by
      intro x hx
      obtain ⟨hkd, hxe⟩ := List.getElem?_eq_some_iff.1 hx
      have hdr : d.drop k = x :: d.drop (k + 1) := by rw [List.drop_eq_getElem_cons hkd, hxe]
      obtain ⟨nm, v⟩ := x
      have hcv : Can v := hc _ (List.mem_of_getElem? hx)
      have hcp := cnt_pos v
      have h1' := h1
      rw [hdr] at h1'
      simp only [cntD] at h1'
      have hpp : 0 ≤ cntD (d.drop (k + 1)) := by rw [cntD_map]; exact cntL_pos _
      have hw1 : IntKind.i64.wrap (n + cnt v) = n + cnt v := w64_in (by omega) (by omega)
      have hw2 : IntKind.i64.wrap ((k : Int) + 1) = ((k + 1 : Nat) : Int) := by rw [w64_in (by omega) (by omega)]; omega
      have hw3 : IntKind.i64.wrap ((i : Int) + 1) = ((i + 1 : Nat) : Int) := by have := D.n; rw [w64_in (by omega) (by omega)]; omega
      have j2 : ∀ j : Nat, i ≤ j → j ≤ t.names.length → check_fielded_j2 (check_fielded_l1 p_check_is d t a) n (k : Nat) (nm, v) (j : Nat) = some (dictG t.opn a ((zips t).drop j) (d.drop (k + 1)) (n + cnt v)) := by
        intro j hj hj'
        simp only [check_fielded_j2, check_parts_eq hcv, Option.bind_some, hw1, hw2]
        exact (ih j (k + 1) (n + cnt v) (by omega) hj' (by omega) (by omega) (by omega)).1
      rw [check_fielded_l2_eq, hdr]
      simp only [check_fielded_l2b]
      by_cases hin : i < t.names.length
      · obtain ⟨s, b, u, e1, e2, e3, e4⟩ := D.at_ hin
        rw [lt_t hin, e4, dictG]
        simp only [cond_true, idxI_nat, e1, Option.bind_some, check_fielded_j1]
        cases hls : Op.bytesLess s nm with
        | true =>
          simp only [cond_true, e2, Option.bind_some, hw3, if_true]
          cases b with
          | false => rfl
          | true =>
            simp only [Bool.not_true, cond_false, if_true]
            rw [← hdr]
            exact (ih (i + 1) k n (by omega) (by omega) hk h0 h1).2 _ hx
        | false =>
          have lte : decide (((i : Nat) : Int) < (t.names.length : Int)) = true := lt_t hin
          simp only [cond_false, lte, cond_true, e1, Option.bind_some, check_fielded_j3, Bool.false_eq_true, if_false]
          cases heq : s == nm with
          | true =>
            simp only [cond_true, idxI_nat, e3, Option.bind_some, hl u (List.mem_of_getElem? e3) v n hcv h0 (by omega), hw3, if_true]
            cases (isF u v n).1 with
            | false => rfl
            | true => simp only [Bool.not_true, cond_false, if_true]; exact j2 (i + 1) (by omega) (by omega)
          | false =>
            simp only [cond_false, Bool.false_eq_true, if_false]
            cases ho : t.opn with
            | false => rfl
            | true =>
              simp only [Bool.not_true, cond_false, if_true]
              rw [← e4, ← ho]; exact j2 i (Nat.le_refl _) hi
      · rw [lt_f hin]
        simp only [cond_false, check_fielded_j1, lt_f hin, check_fielded_j3]
        rw [zips_end (by omega), dictG]
        cases ho : t.opn with
        | false => rfl
        | true =>
          simp only [Bool.not_true, cond_false, if_true]
          have := j2 i (Nat.le_refl _) hi
          rw [zips_end (by omega), ho] at this; exact this
    refine ⟨?_, L2⟩
    by_cases hkd : k < d.length
    · obtain ⟨x, hx, _⟩ := dropc hkd
      rw [check_fielded_l1_eq]
      simp only [check_fielded_l1b, lt_t hkd, cond_true, idxI_nat, hx, Option.bind_some]
      exact L2 x hx
    · rw [check_fielded_l1_eq]
      simp only [check_fielded_l1b, lt_f hkd, cond_false]
      rw [List.drop_of_length_le (by omega : d.length ≤ k)]
      exact fl_l3 t D a (t.names.length - i) i n (by omega)
theorem check_is_eq (t : Typ) : VT t → bkTy t ≤ 268435456 → IsOk t := by
  induction t using Typ.byParts with
  | _ t ih =>
  intro hv hb v a hc h0 h1
  have B := tb hb
  have hK := hv.know
  have hw : IntKind.i64.wrap (a + 1) = a + 1 := by have := cnt_pos v; exact w64_in (by omega) (by omega)
  have hnr := hc.1
  rw [e_check_is, b_check_is, isF_eq]
  unfold isG
  cases hK with
  | any hk => simp [hk, plc_j, plc]
  | none hk => simp [hk, plc_j, plc]
  | kind hk => simp [hk, plc_j, value_Kind_eq]
  | only hk ho =>
    have hf := check_fine ho
    have e : (ofF (lo t.only)).1 = bu t.only := by rw [lo_bu _ hf.1, ofF, if_neg (by simp [ho])]
    simp [hk, plc_j, value_Of_eq t.only B.only, value_Same_eq, e]
  | recd hk =>
    cases v with
    | nothing => have := hnr.own; simp [nearE] at this
    | _ => simp [hk, plc_j, recOf]
  | union hk hp =>
    have := iu_l t v a hc h0 h1 (fun u hu => ih u hu (hp u hu) (B.parts u hu)) t.parts.length 0 (by omega)
    rw [List.drop_zero] at this
    simp [hk, this]
  | list hk hp =>
    obtain ⟨p, hp1, hp2⟩ := hp
    cases v with
    | list l =>
      have hcl : cnt (.list l) = 1 + cntL l := by rw [cnt]
      have hcp := cntL_pos l
      have hL : p_check_listed l p a = some (listG (isF p) l (a + 1)) := by
        rw [e_check_listed, b_check_listed, hw]
        have := li_l l p (ih p (by rw [hp1]; simp) hp2 (B.parts p (by rw [hp1]; simp))) (fun y hy => hc.part hy) l.length 0 (a + 1) (by omega) (by omega) (by rw [List.drop_zero]; omega)
        rw [List.drop_zero] at this; exact this
      rw [hk, hp1]
      show Option.bind (p_check_listed l p a) (fun x => some (x.1, x.2)) = _
      rw [hL]; rfl
    | _ => simp [hk, plc_j, plc]
  | dict hk hn hpl hll hp =>
    cases v with
    | dict d =>
      have hcl : cnt (.dict d) = 1 + cntD d := by rw [cnt]
      have hdl := near_dict hnr.own
      have hL : p_check_fielded d t a = some (dictG t.opn a (zips t) d (a + 1)) := by
        rw [e_check_fielded, b_check_fielded, hw]
        have := (fl_l t ⟨hn, hpl, hll⟩ d hdl a (fun u hu => ih u hu (hp u hu) (B.parts u hu)) (fun y hy => hc.part (List.mem_map_of_mem hy)) _ 0 0 (a + 1) (Nat.le_refl _) (by omega) (by omega) (by omega) (by rw [List.drop_zero]; omega)).1
        rw [List.drop_zero, List.drop_zero] at this; exact this
      have e : (fun x : Typ => x) (Typ.mk t.kind t.of t.only t.parts t.names t.lacks t.opn t.cls) = t := Typ.eta t
      (try rw [Typ.eta]); rw [hk]
      show Option.bind (p_check_fielded d t a) (fun x => some (x.1, x.2)) = _
      rw [hL]; rfl
    | _ => simp [hk, plc_j, plc]
/-- What Is says. -/
noncomputable def isA (v : V) (t : Typ) : Bool × Int × Int := if (checkF v).2 ≠ 0 then (false, 0, (checkF v).2) else if validT t then ((isF t v 0).1, (isF t v 0).2, 0) else (false, 0, 70)
theorem check_can_eq2 (v : V) (t : Typ) (h : bkTy t ≤ 268435456) : p_check_can v t = some (if (checkF v).2 ≠ 0 then (checkF v).2 else if validT t then 0 else 70) := by
  simp only [p_check_can, value_Check_eq, Option.bind_some, Typ.eta, check_valid_eq t h]
  by_cases hx : (checkF v).2 = 0
  · rw [if_neg (by simp [hx]), hx]
    cases validT t <;> rfl
  · rw [if_pos hx, ne_t hx]; rfl
theorem can_check {v : V} (h : (checkF v).2 = 0) : Can v := by
  rcases Classical.em (Can v) with hc | hc
  · exact hc
  · exact absurd h (check_cannot hc)
theorem check_Is_eq (v : V) (t : Typ) (h : bkTy t ≤ 268435456) : p_check_Is v t = some (isA v t) := by
  simp only [p_check_Is, Typ.eta, check_can_eq2 v t h, Option.bind_some, isA]
  by_cases hx : (checkF v).2 = 0
  · simp only [hx, ne_eq, not_true_eq_false, if_false]
    cases hv : validT t with
    | false => rfl
    | true =>
      have hc := can_check hx
      have := check_is_eq t (vt_valid hv) h v 0 hc (by omega) (by have := hc.2.1; omega)
      simp [this]
  · simp only [hx, ne_eq, not_false_eq_true, if_true, ne_t hx, cond_true]
end Go.Proofs.Ytiapdjdhaclmnaa
