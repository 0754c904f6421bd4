/- Types that can be: the program's word and the document's. -/
import Derived.Test.YtiapdjdhaclmnaaN8
import Derived.Test.YtiapdjdhaclmnaaN10a
namespace Go.Proofs.Ytiapdjdhaclmnaa
open Go Aw
set_option linter.unusedVariables false
set_option linter.unusedSimpArgs false
set_option maxRecDepth 8000
theorem Typ.eta (t : Typ) : Typ.mk t.kind t.of t.only t.parts t.names t.lacks t.opn t.cls = t := by cases t; rfl
theorem check_one (s : Str) : (checkF (.dict [(s, .nil)])).2 = if nameOk s then 0 else 8 := by
  have ho : ∀ n d, n < 16384 → d ≤ 64 → ownE (.dict [(s, .nil)]) n d = if nameOk s then 0 else 8 := by
    intro n d h1 h2
    have : ¬ (16384 ≤ n ∨ 64 < d) := by omega
    simp only [ownE, if_neg this, nearE, fieldsE, List.map_cons, List.map_nil, List.length_cons, List.length_nil, risen, Bool.and_true]
    rfl
  have hn : ownE .nil 1 2 = 0 := rfl
  unfold checkF
  rw [partF_eq, ho 0 1 (by omega) (by omega)]
  cases nameOk s with
  | true =>
    simp only [if_true, V.parts, List.map_cons, List.map_nil, partsF_cons, partsF_nil]
    rw [partF_eq]
    simp [V.parts, partsF_nil, ownE, nearE]
  | false => simp
theorem check_name_eq (s : Str) : p_check_name s = some (nameOk s) := by
  simp only [p_check_name, value_Check_eq, Option.bind_some, check_one]
  cases nameOk s <;> rfl
/-! ### what is asked of one type -/
noncomputable def leafT (t : Typ) : Bool :=
  t.kind == 1 || t.kind == 2 || (t.kind == 3 && decide (1 ≤ t.of) && decide (t.of ≤ 10)) || (t.kind == 4 && (checkF (bu t.only)).2 == 0) || (t.kind == 8 && nameOk t.cls)
def visT (t : Typ) : Bool :=
  (t.kind == 5 && t.parts.length == 1) || (t.kind == 7 && decide (1 < t.parts.length)) ||
    (t.kind == 6 && decide (t.names.length ≤ 4096) && t.parts.length == t.names.length && t.lacks.length == t.names.length && risen none t.names)
mutual
noncomputable def fitF : Typ → Int → Int → Bool × Int
  | .mk k o y p n l q c, left, d =>
    if left - 1 < 0 ∨ 64 < d then (false, left - 1) else if leafT (.mk k o y p n l q c) then (true, left - 1) else if visT (.mk k o y p n l q c) then fitsF p (left - 1) (d + 1) else (false, left - 1)
noncomputable def fitsF : List Typ → Int → Int → Bool × Int
  | [], left, d => (true, left)
  | x :: r, left, d => if (fitF x left d).1 then fitsF r (fitF x left d).2 d else (false, (fitF x left d).2)
end
theorem fitF_eq (t : Typ) (left d : Int) : fitF t left d = if left - 1 < 0 ∨ 64 < d then (false, left - 1) else if leafT t then (true, left - 1) else if visT t then fitsF t.parts (left - 1) (d + 1) else (false, left - 1) := by
  cases t; rw [fitF]; rfl
theorem fitsF_cons (x : Typ) (r : List Typ) (left d : Int) : fitsF (x :: r) left d = if (fitF x left d).1 then fitsF r (fitF x left d).2 d else (false, (fitF x left d).2) := by rw [fitsF]
theorem fitsF_nil (left d : Int) : fitsF [] left d = (true, left) := by rw [fitsF]
theorem typ_lt {t u : Typ} (h : u ∈ t.parts) : SizeOf.sizeOf u < SizeOf.sizeOf t := by
  cases t; have := List.sizeOf_lt_of_mem h; simp [Typ.parts] at this ⊢; omega
theorem Typ.byParts {P : Typ → Prop} (h : ∀ t, (∀ u, u ∈ t.parts → P u) → P t) (t : Typ) : P t := h t (fun u hu => Typ.byParts h u)
termination_by SizeOf.sizeOf t
decreasing_by exact typ_lt hu
theorem fits_left {d : Int} : ∀ (l : List Typ), (∀ u, u ∈ l → ∀ left, (fitF u left d).2 ≤ left ∧ ((fitF u left d).1 = true → 0 ≤ (fitF u left d).2)) → ∀ left, (fitsF l left d).2 ≤ left ∧ (0 ≤ left → (fitsF l left d).1 = true → 0 ≤ (fitsF l left d).2)
  | [], _, left => by rw [fitsF_nil]; exact ⟨Int.le_refl _, fun h _ => h⟩
  | x :: r, h, left => by
    have h1 := h x (by simp) left
    have h2 := fits_left r (fun u hu => h u (by simp [hu])) (fitF x left d).2
    rw [fitsF_cons]
    split
    · rename_i hc; exact ⟨by omega, fun _ => h2.2 (h1.2 hc)⟩
    · exact ⟨h1.1, fun _ h => by cases h⟩
theorem fit_left (t : Typ) : ∀ left d, (fitF t left d).2 ≤ left ∧ ((fitF t left d).1 = true → 0 ≤ (fitF t left d).2) := by
  induction t using Typ.byParts with
  | _ t ih =>
  intro left d
  rw [fitF_eq]
  split
  · exact ⟨by simp only []; omega, fun h => by cases h⟩
  · split
    · exact ⟨by simp only []; omega, fun _ => by simp only []; omega⟩
    · split
      · have := fits_left (d := d + 1) t.parts (fun u hu left => ih u hu left (d + 1)) (left - 1)
        exact ⟨by omega, this.2 (by omega)⟩
      · exact ⟨by simp only []; omega, fun h => by cases h⟩
/-! ### bulk of types -/
theorem bkTys_mem : ∀ {l : List Typ} {u : Typ}, u ∈ l → bkTy u ≤ bkTys l
  | x :: r, u, h => by
    rw [bkTys]; rcases List.mem_cons.1 h with rfl | h
    · omega
    · have := bkTys_mem h; omega
theorem bkTy_mk (t : Typ) : bkTy t = bkT t.only + bkTys t.parts + (t.names.map (fun s => s.length + 1)).sum + t.lacks.length + t.cls.length + 8 := by cases t; rw [bkTy]; rfl
theorem bkTys_len : ∀ (l : List Typ), l.length ≤ bkTys l
  | [] => by simp
  | x :: r => by have := bkTys_len r; have := bkTy_mk x; rw [bkTys, List.length_cons]; omega
theorem sum_len : ∀ (l : List Str), l.length ≤ (l.map (fun s => s.length + 1)).sum
  | [] => by simp
  | x :: r => by have := sum_len r; rw [List.length_cons, List.map_cons, List.sum_cons]; omega
structure TB (t : Typ) : Prop where
  only : bkT t.only ≤ 268435456
  parts : ∀ u, u ∈ t.parts → bkTy u ≤ 268435456
  np : t.parts.length ≤ 268435456
  nn : t.names.length ≤ 268435456
  nl : t.lacks.length ≤ 268435456
theorem tb {t : Typ} (h : bkTy t ≤ 268435456) : TB t := by
  have h1 := bkTy_mk t
  have h2 := sum_len t.names
  have h3 := bkTys_len t.parts
  exact ⟨by omega, fun u hu => by have := bkTys_mem hu; omega, by omega, by omega, by omega⟩
/-! ### the program's -/
def FitOk (t : Typ) : Prop := ∀ left d, 0 ≤ left → left ≤ 16384 → 0 ≤ d → d ≤ 65 → p_check_room_can ⟨left⟩ t d = some ((fitF t left d).1, ⟨(fitF t left d).2⟩)
theorem ca_ll (l : List Typ) (d : Int) (hl : ∀ u, u ∈ l → FitOk u) (hd : 0 ≤ d) (hd' : d ≤ 64) : ∀ k i left, k + i = l.length → 0 ≤ left → left ≤ 16384 →
    check_room_all_l1 p_check_room_can l d i left = some ((fitsF (l.drop i) left (d + 1)).1, ⟨(fitsF (l.drop i) left (d + 1)).2⟩)
  | 0, i, left, h, h0, h1 => by
    rw [check_room_all_l1_eq]
    simp only [check_room_all_l1b, lt_f (by omega : ¬ i < l.length), cond_false]
    rw [List.drop_of_length_le (by omega), fitsF_nil]
  | k + 1, i, left, h, h0, h1 => by
    obtain ⟨x, hx, hdr⟩ := dropc (by omega : i < l.length)
    have hp := hl x (List.mem_of_getElem? hx) left (d + 1) h0 h1 (by omega) (by omega)
    have hw : IntKind.i64.wrap (d + 1) = d + 1 := w64_in (by omega) (by omega)
    have hf := fit_left x left (d + 1)
    rw [check_room_all_l1_eq]
    simp only [check_room_all_l1b, lt_t (by omega : i < l.length), cond_true, hx, Option.bind_some, Typ.eta, hw, hp]
    rw [hdr, fitsF_cons]
    cases hk : (fitF x left (d + 1)).1 with
    | false => simp
    | true =>
      have h2 := hf.2 hk
      simp only [Bool.not_true, cond_false, if_true]
      exact ca_ll l d hl hd hd' k (i + 1) _ (by omega) h2 (by omega)
theorem check_room_all_eq (l : List Typ) (d left : Int) (hl : ∀ u, u ∈ l → FitOk u) (hd : 0 ≤ d) (hd' : d ≤ 64) (h0 : 0 ≤ left) (h1 : left ≤ 16384) :
    p_check_room_all ⟨left⟩ l d = some ((fitsF l left (d + 1)).1, ⟨(fitsF l left (d + 1)).2⟩) := by
  rw [e_check_room_all, b_check_room_all]
  exact ca_ll l d hl hd hd' l.length 0 left (by omega) h0 h1
/-- Names of a type, one by one. -/
theorem names_round (l : List Str) (i : Nat) (hi : i < l.length) (hb : l.length ≤ 268435456) {β : Type} (no : β) (g : Option β) (s : Str) (hs : l[i]? = some s) (yes : Bool → Option β)
    (hg : g = yes (risen (prevOf l (i + 1)) (l.drop (i + 1)))) (hno : yes false = some no) :
    (bif !(nameOk s) then some no else (bif decide (((i : Nat) : Int) > 0) then Option.bind (idxI l (IntKind.i64.wrap (((i : Nat) : Int) - 1))) fun y => (bif (Op.bytesLess s y || s == y) then some no else g) else g)) = yes (risen (prevOf l i) (l.drop i)) := by
  rw [risen_step hs]
  cases hn : nameOk s with
  | false => rw [Bool.false_and]; exact hno.symm
  | true =>
    simp only [Bool.not_true, cond_false, Bool.true_and]
    by_cases h0 : i = 0
    · subst h0
      have e : decide (((0 : Nat) : Int) > 0) = false := rfl
      rw [e, hg]
      simp only [cond_false, prevOf, if_pos, Bool.true_and]
    · have e : decide ((i : Int) > 0) = true := decide_eq_true (by omega)
      have hw : IntKind.i64.wrap ((i : Int) - 1) = ((i - 1 : Nat) : Int) := by rw [w64_in (by omega) (by omega)]; omega
      obtain ⟨y, hy, _⟩ := dropc (by omega : i - 1 < l.length)
      rw [e, hw, idxI_nat, hy]
      have hp : prevOf l i = some y := by simp only [prevOf, if_neg h0, hy]
      simp only [cond_true, Option.bind_some, hp, hg]
      show (bif leB s y then _ else _) = _
      cases leB s y with
      | true => simp only [cond_true, Bool.not_true, Bool.false_and]; exact hno.symm
      | false => simp only [cond_false, Bool.not_false, Bool.true_and]
theorem cn_l (t : Typ) (left d : Int) (r : Bool × S_check_room) (hr : p_check_room_all ⟨IntKind.i64.wrap (left - 1)⟩ t.parts d = some r) (hb : t.names.length ≤ 268435456) : ∀ k i, k + i = t.names.length →
    check_room_can_l1 p_check_room_all ⟨left⟩ t d i = if risen (prevOf t.names i) (t.names.drop i) then some r else some (false, ⟨IntKind.i64.wrap (left - 1)⟩)
  | 0, i, h => by
    rw [check_room_can_l1_eq]
    simp only [check_room_can_l1b, lt_f (by omega : ¬ i < t.names.length), cond_false, hr, Option.bind_some]
    rw [List.drop_of_length_le (by omega), risen_nil]; rfl
  | k + 1, i, h => by
    obtain ⟨s, hs, _⟩ := dropc (by omega : i < t.names.length)
    have := names_round t.names i (by omega) hb (no := (false, (⟨IntKind.i64.wrap (left - 1)⟩ : S_check_room))) _ s hs (fun b => if b then some r else some (false, ⟨IntKind.i64.wrap (left - 1)⟩)) (cn_l t left d r hr hb k (i + 1) (by omega)) rfl
    rw [check_room_can_l1_eq]
    simp only [check_room_can_l1b, lt_t (by omega : i < t.names.length), cond_true, hs, Option.bind_some, check_name_eq, check_room_can_j4, cond_false]
    exact this
theorem gt_t {a b : Int} (h : a > b) : decide (a > b) = true := decide_eq_true h
theorem beq_t {a b : Int} (h : a = b) : (a == b) = true := by simpa using h
theorem beq_f {a b : Int} (h : ¬ a = b) : (a == b) = false := by simpa using h
/-- The kinds of types. -/
theorem kinds (k : Int) : k = 1 ∨ k = 2 ∨ k = 3 ∨ k = 4 ∨ k = 5 ∨ k = 6 ∨ k = 7 ∨ k = 8 ∨ (k ≠ 1 ∧ k ≠ 2 ∧ k ≠ 3 ∧ k ≠ 4 ∧ k ≠ 5 ∧ k ≠ 6 ∧ k ≠ 7 ∧ k ≠ 8) := by omega
theorem value_Of_eq (t : Term) (h : bkT t ≤ 268435456) : p_value_Of t = some (ofF (lo t)) := of_of (value_loose_eq t h)
theorem ofF_2 (x : V) : (ofF x).2 = (checkF x).2 := by unfold ofF; split <;> (try rfl); rename_i h; simp at h; rw [h]
theorem check_can_eq (t : Typ) : bkTy t ≤ 268435456 → FitOk t := by
  induction t using Typ.byParts with
  | _ t ih =>
  intro hb left d h0 h1 hd hd'
  have B := tb hb
  have hw : IntKind.i64.wrap (left - 1) = left - 1 := w64_in (by omega) (by omega)
  rw [e_check_room_can, b_check_room_can, fitF_eq]
  simp only [hw]
  by_cases hl : left - 1 < 0
  · rw [decide_eq_true hl, if_pos (Or.inl hl)]; simp only [cond_true, check_room_can_j1, hw]
  · rw [decide_eq_false hl, cond_false]
    by_cases hdd : 64 < d
    · rw [decide_eq_true (show d > 64 from hdd), if_pos (Or.inr hdd)]; simp only [cond_true, check_room_can_j1, hw]
    · rw [decide_eq_false (show ¬ d > 64 from hdd), if_neg (by omega)]
      have hall := check_room_all_eq t.parts d (left - 1) (fun u hu => ih u hu (B.parts u hu)) hd (by omega) (by omega) (by omega)
      have hnm := cn_l t left d _ (by rw [hw]; exact hall) B.nn t.names.length 0 (by omega)
      rw [hw] at hnm
      simp only [cond_false, check_room_can_j1, check_room_can_j2, hw]
      generalize hF : fitsF t.parts (left - 1) (d + 1) = F at hall hnm
      rcases kinds t.kind with h | h | h | h | h | h | h | h | h
      · simp [leafT, h]
      · simp [leafT, h]
      · simp only [leafT, visT, h]
        by_cases a : 1 ≤ t.of
        · by_cases b : t.of ≤ 10
          · simp [a, b]
          · simp [a, b]
        · simp [a]
      · simp only [leafT, visT, h, value_Of_eq t.only B.only, Option.bind_some, ofF_2, lo_check]
        cases hc : (checkF (bu t.only)).2 == 0 <;> simp_all
      · simp only [leafT, visT, h]
        by_cases a : t.parts.length = 1
        · have a' : (((t.parts.length : Nat) : Int) == 1) = true := by simp [a]
          simp [a, hall]
        · have a' : (((t.parts.length : Nat) : Int) == 1) = false := by simp; omega
          simp [a, a']
      · simp only [leafT, visT, h]
        have e0 : risen (prevOf t.names 0) (List.drop 0 t.names) = risen none t.names := rfl
        rw [e0] at hnm
        by_cases a : t.names.length ≤ 4096
        · have a' : decide (((t.names.length : Nat) : Int) > 4096) = false := decide_eq_false (by omega)
          by_cases b : t.parts.length = t.names.length
          · have b' : (((t.parts.length : Nat) : Int) != ((t.names.length : Nat) : Int)) = false := by simp [b]
            by_cases c : t.lacks.length = t.names.length
            · have c' : (((t.lacks.length : Nat) : Int) != ((t.names.length : Nat) : Int)) = false := by simp [c]
              cases hc : risen none t.names with
              | true => simp [a', b', c', check_room_can_j3, hnm, hc, a, b, c]
              | false => simp [a', b', c', check_room_can_j3, hnm, hc]
            · have c' : (((t.lacks.length : Nat) : Int) != ((t.names.length : Nat) : Int)) = true := by simp; omega
              simp [a', b', c', check_room_can_j3, hw, c]
          · have b' : (((t.parts.length : Nat) : Int) != ((t.names.length : Nat) : Int)) = true := by simp; omega
            simp [a', b', check_room_can_j3, hw, b]
        · have a' : decide (((t.names.length : Nat) : Int) > 4096) = true := decide_eq_true (by omega)
          simp [a', check_room_can_j3, hw, a]
      · simp only [leafT, visT, h]
        by_cases a : 1 < t.parts.length
        · have a' : decide (((t.parts.length : Nat) : Int) > 1) = true := decide_eq_true (by omega)
          simp [a, a', hall]
        · have a' : decide (((t.parts.length : Nat) : Int) > 1) = false := decide_eq_false (by omega)
          simp [a, a']
      · simp only [leafT, visT, h, check_name_eq, Option.bind_some]
        cases hc : nameOk t.cls <;> simp [hc]
      · obtain ⟨g1, g2, g3, g4, g5, g6, g7, g8⟩ := h
        simp only [leafT, visT, beq_f g1, beq_f g2, beq_f g3, beq_f g4, beq_f g5, beq_f g6, beq_f g7, beq_f g8, cond_false, Bool.false_and, Bool.or_self, Bool.false_eq_true, if_false]
noncomputable def validT (t : Typ) : Bool := (fitF t 16384 1).1
theorem check_valid_eq (t : Typ) (h : bkTy t ≤ 268435456) : p_check_valid t = some (validT t) := by
  simp only [p_check_valid, Typ.eta, check_can_eq t h 16384 1 (by omega) (by omega) (by omega) (by omega), Option.bind_some]; rfl
end Go.Proofs.Ytiapdjdhaclmnaa
