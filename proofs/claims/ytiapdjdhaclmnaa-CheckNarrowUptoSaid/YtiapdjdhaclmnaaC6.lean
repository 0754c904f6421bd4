/- Values made narrow: the program's. -/
import Derived.Test.YtiapdjdhaclmnaaC5
namespace Go.Proofs.Ytiapdjdhaclmnaa
open Go Aw
set_option linter.unusedVariables false
set_option linter.unusedSimpArgs false
set_option maxRecDepth 8000
abbrev Nar := V → V × Bool
def firstG : List Nar → V → V × Bool
  | [], _ => (.nil, false)
  | f :: r, v => if (f v).2 then ((f v).1, true) else firstG r v
def pick1 (f : Nar) (x : V) : Option V := if (f x).2 then some (f x).1 else none
def keep1 (q : Bool) (Z : List (Str × Bool × Nar)) (p : Str × V) : Option (Str × V) :=
  match lookG Z p.1 with
  | none => if q then some p else none
  | some (_, f) => if (f p.2).2 then some (p.1, (f p.2).1) else none
def dnarG (q : Bool) (Z : List (Str × Bool × Nar)) (d : List (Str × V)) : V × Bool :=
  if needs Z - hits Z ((d.filterMap (keep1 q Z)).map (·.1)) > 0 then (.nil, false) else (.dict (d.filterMap (keep1 q Z)), true)
noncomputable def narG (b : V → Bool) (k : Int) (q : Bool) (n : List Str) (l : List Bool) (fs : List Nar) (v : V) : V × Bool :=
  if b v then (v, true)
  else if k = 5 then (match v with | .list x => (match fs with | f :: _ => (.list (x.filterMap (pick1 f)), true) | [] => (.nil, false)) | _ => (.nil, false))
  else if k = 6 then (match v with | .dict d => dnarG q (n.zip (l.zip fs)) d | _ => (.nil, false))
  else if k = 7 then firstG fs v
  else (.nil, false)
mutual
noncomputable def narF : Typ → Nar
  | .mk k o y p n l q c => narG (isB (.mk k o y p n l q c)) k q n l (narFs p)
noncomputable def narFs : List Typ → List Nar
  | [] => []
  | x :: r => narF x :: narFs r
end
theorem narFs_map : ∀ l, narFs l = l.map narF
  | [] => by rw [narFs]; rfl
  | x :: r => by rw [narFs, narFs_map r]; rfl
theorem narF_eq (t : Typ) (v : V) : narF t v = narG (isB t) t.kind t.opn t.names t.lacks (t.parts.map narF) v := by cases t; rw [narF, narFs_map]; rfl
/-! ### the program's -/
def NarOk (t : Typ) : Prop := ∀ v, Can v → p_check_narrow v t = some (narF t v)
theorem nu_l (t : Typ) (v : V) (hv : Can v) (hl : ∀ u, u ∈ t.parts → NarOk u) : ∀ k i, k + i = t.parts.length → check_narrow_l2 p_check_narrow v t i = some (firstG ((t.parts.drop i).map narF) v)
  | 0, i, h => by
    rw [check_narrow_l2_eq]
    simp only [check_narrow_l2b, lt_f (by omega : ¬ i < t.parts.length), cond_false, check_narrow_j1]
    rw [List.drop_of_length_le (by omega)]; rfl
  | k + 1, i, h => by
    obtain ⟨x, hx, hdr⟩ := dropc (by omega : i < t.parts.length)
    rw [check_narrow_l2_eq]
    simp only [check_narrow_l2b, lt_t (by omega : i < t.parts.length), cond_true, hx, Option.bind_some, Typ.eta, hl x (List.mem_of_getElem? hx) v hv]
    rw [hdr, List.map_cons, firstG]
    cases (narF x v).2 with
    | true => rfl
    | false => simp only [cond_false, Bool.false_eq_true, if_false]; exact nu_l t v hv hl k (i + 1) (by omega)
theorem nl_l (t p : Typ) (hp : t.parts = [p]) (l : List V) (hb : l.length ≤ 4096) (ht : NarOk p) (hc : ∀ y, y ∈ l → Can y) : ∀ k i acc, k + i = l.length → acc.length ≤ i → check_narrow_l1 p_check_narrow (.list l) t acc i = some (.list (acc ++ (l.drop i).filterMap (pick1 (narF p))), true)
  | 0, i, acc, h, ha => by
    rw [check_narrow_l1_eq]
    simp only [check_narrow_l1b, V.asList, lt_f (by omega : ¬ i < l.length), cond_false]
    rw [List.drop_of_length_le (by omega)]; simp
  | k + 1, i, acc, h, ha => by
    obtain ⟨x, hx, hdr⟩ := dropc (by omega : i < l.length)
    have hp0 : t.parts[0]? = some p := by rw [hp]; rfl
    rw [check_narrow_l1_eq]
    simp only [check_narrow_l1b, V.asList, lt_t (by omega : i < l.length), cond_true, hx, hp0, Option.bind_some, ht x (hc x (List.mem_of_getElem? hx)), check_narrow_j2]
    rw [hdr, List.filterMap_cons, pick1]
    cases (narF p x).2 with
    | true =>
      simp only [cond_true, if_true, app1 (b := 16) (x := (narF p x).1) (by omega) (show acc.length ≤ 1073741824 by omega), Option.bind_some]
      rw [nl_l t p hp l hb ht hc k (i + 1) _ (by omega) (by simp; omega), List.append_assoc]; rfl
    | false =>
      simp only [cond_false, Bool.false_eq_true, if_false]
      exact nl_l t p hp l hb ht hc k (i + 1) acc (by omega) (by omega)
noncomputable def zipn (t : Typ) : List (Str × Bool × Nar) := t.names.zip (t.lacks.zip (t.parts.map narF))
theorem DT.atn {t : Typ} (h : DT t) {i : Nat} (hi : i < t.names.length) : ∃ s b u, t.names[i]? = some s ∧ t.lacks[i]? = some b ∧ t.parts[i]? = some u ∧ (zipn t).drop i = (s, b, narF u) :: (zipn t).drop (i + 1) := by
  have h1 := List.getElem?_eq_getElem hi
  have h2 := List.getElem?_eq_getElem (show i < t.lacks.length by rw [h.l]; exact hi)
  have h3 := List.getElem?_eq_getElem (show i < t.parts.length by rw [h.p]; exact hi)
  exact ⟨_, _, _, h1, h2, h3, zip_drop h1 h2 (by rw [List.getElem?_map, h3]; rfl)⟩
theorem zipn_end {t : Typ} {i : Nat} (h : t.names.length ≤ i) : (zipn t).drop i = [] := zip_end h
theorem ix_l (t : Typ) (D : DT t) (m : Str) : ∀ k i, k + i = t.names.length → ∃ r, slices_Index_string_string_l1 t.names m i = some r ∧
    ((r = -1 ∧ lookG ((zipn t).drop i) m = none) ∨ ∃ (j : Nat) (u : Typ) (b : Bool), r = (j : Int) ∧ t.parts[j]? = some u ∧ t.lacks[j]? = some b ∧ lookG ((zipn t).drop i) m = some (b, narF u))
  | 0, i, h => by
    refine ⟨-1, ?_, .inl ⟨rfl, by rw [zipn_end (by omega)]; rfl⟩⟩
    rw [slices_Index_string_string_l1_eq]
    simp only [slices_Index_string_string_l1b, lt_f (by omega : ¬ i < t.names.length), cond_false]
  | k + 1, i, h => by
    obtain ⟨s, b, u, h1, h2, h3, h4⟩ := D.atn (by omega : i < t.names.length)
    rw [slices_Index_string_string_l1_eq]
    simp only [slices_Index_string_string_l1b, lt_t (by omega : i < t.names.length), cond_true, h1, Option.bind_some]
    rw [h4, lookG]
    cases heq : m == s with
    | true => exact ⟨_, rfl, .inr ⟨i, u, b, rfl, h3, h2, by simp⟩⟩
    | false =>
      simp only [cond_false, Bool.false_eq_true, if_false]
      exact ix_l t D m k (i + 1) (by omega)
theorem nd_l2 (t : Typ) (D : DT t) (d : List (Str × V)) (hd : d.length ≤ 4096) (hl : ∀ u, u ∈ t.parts → NarOk u) (hc : ∀ y, y ∈ d → Can y.2) : ∀ k i acc m, k + i = d.length → acc.length ≤ i → -(i : Int) ≤ m → m ≤ 4096 →
    check_narrowed_l2 p_check_narrow d t acc m i = some (if m - hits (zipn t) (((d.drop i).filterMap (keep1 t.opn (zipn t))).map (·.1)) > 0 then (.nil, false) else (.dict (acc ++ (d.drop i).filterMap (keep1 t.opn (zipn t))), true))
  | 0, i, acc, m, h, ha, h0, h1 => by
    rw [check_narrowed_l2_eq]
    simp only [check_narrowed_l2b, lt_f (by omega : ¬ i < d.length), cond_false]
    rw [List.drop_of_length_le (by omega)]
    simp only [List.filterMap_nil, List.map_nil, hits, Int.sub_zero, List.append_nil]
    by_cases hm : m > 0
    · rw [decide_eq_true hm, if_pos hm]; rfl
    · rw [decide_eq_false hm, if_neg hm]; rfl
  | k + 1, i, acc, m, h, ha, h0, h1 => by
    obtain ⟨x, hx, hdr⟩ := dropc (by omega : i < d.length)
    have hcx := hc x (List.mem_of_getElem? hx)
    obtain ⟨r, hr, hcase⟩ := ix_l t D x.1 t.names.length 0 (by omega)
    rw [List.drop_zero] at hcase
    have hix : p_slices_Index_string_string t.names x.1 = some r := hr
    have ha' : acc.length ≤ 1073741824 := by omega
    rw [check_narrowed_l2_eq]
    simp only [check_narrowed_l2b, lt_t (by omega : i < d.length), cond_true, hx, Option.bind_some, hix, check_narrowed_j2]
    rw [hdr, List.filterMap_cons]
    rcases hcase with ⟨rfl, hno⟩ | ⟨j, u, b, rfl, e1, e2, e3⟩
    · have e : decide ((-1 : Int) < 0) = true := rfl
      have hk : keep1 t.opn (zipn t) x = if t.opn then some x else none := by unfold keep1; rw [hno]
      have hh : hit (zipn t) x.1 = 0 := by unfold hit; rw [hno]
      rw [e, hk]
      cases ho : t.opn with
      | true =>
        have := nd_l2 t D d hd hl hc k (i + 1) (acc ++ [x]) m (by omega) (by simp; omega) (by omega) h1
        rw [ho] at this
        simp only [cond_true, if_true, app1 (b := 32) (x := x) (by omega) ha', Option.bind_some, List.map_cons, hits, hh, this, List.append_assoc, List.singleton_append, Int.zero_add]
      | false =>
        have := nd_l2 t D d hd hl hc k (i + 1) acc m (by omega) (by omega) (by omega) h1
        rw [ho] at this
        simp only [cond_true, cond_false, Bool.false_eq_true, if_false, this]
    · have e : decide ((j : Int) < 0) = false := decide_eq_false (by omega)
      have hk : keep1 t.opn (zipn t) x = if (narF u x.2).2 then some (x.1, (narF u x.2).1) else none := by unfold keep1; rw [e3]
      have hh : hit (zipn t) x.1 = need1 b := by unfold hit; rw [e3]
      have hw : IntKind.i64.wrap (m - 1) = m - 1 := w64_in (by omega) (by omega)
      rw [e, hk]
      simp only [cond_false, idxI_nat, e1, Option.bind_some, hl u (List.mem_of_getElem? e1) x.2 hcx]
      cases hok : (narF u x.2).2 with
      | true =>
        simp only [cond_true, if_true, app1 (b := 32) (x := (x.1, (narF u x.2).1)) (by omega) ha', Option.bind_some, e2, List.map_cons, hits, hh]
        cases b with
        | true =>
          have := nd_l2 t D d hd hl hc k (i + 1) (acc ++ [(x.1, (narF u x.2).1)]) m (by omega) (by simp; omega) (by omega) h1
          simp only [Bool.not_true, cond_false, this, List.append_assoc, List.singleton_append, need1, if_true, Int.zero_add]
        | false =>
          have := nd_l2 t D d hd hl hc k (i + 1) (acc ++ [(x.1, (narF u x.2).1)]) (m - 1) (by omega) (by simp; omega) (by omega) (by omega)
          simp only [Bool.not_false, cond_true, hw, this, List.append_assoc, List.singleton_append, need1, Bool.false_eq_true, if_false, Int.sub_sub]
      | false =>
        have := nd_l2 t D d hd hl hc k (i + 1) acc m (by omega) (by omega) (by omega) h1
        simp only [cond_false, Bool.false_eq_true, if_false, this]
theorem nd_l1 (t : Typ) (D : DT t) (d : List (Str × V)) : ∀ (k i : Nat) (m : Int), k + i = t.names.length → 0 ≤ m → m ≤ i → ∃ m', 0 ≤ m' ∧ m' ≤ 4096 ∧ m' = m + needs ((zipn t).drop i) ∧ check_narrowed_l1 p_check_narrow d t m (i : Nat) = check_narrowed_l2 p_check_narrow d t [] m' 0
  | 0, i, m, h, h0, h1 => by
    have := D.n
    refine ⟨m, h0, by omega, by rw [zipn_end (by omega)]; simp [needs], ?_⟩
    rw [check_narrowed_l1_eq]
    simp only [check_narrowed_l1b, lt_f (by omega : ¬ i < t.names.length), cond_false]
  | k + 1, i, m, h, h0, h1 => by
    obtain ⟨s, b, u, e1, e2, e3, e4⟩ := D.atn (by omega : i < t.names.length)
    have hn := D.n
    have hw2 : IntKind.i64.wrap ((i : Int) + 1) = ((i + 1 : Nat) : Int) := by rw [w64_in (by omega) (by omega)]; omega
    have hw : IntKind.i64.wrap (m + 1) = m + 1 := w64_in (by omega) (by omega)
    rw [check_narrowed_l1_eq]
    simp only [check_narrowed_l1b, lt_t (by omega : i < t.names.length), cond_true, idxI_nat, e2, Option.bind_some, check_narrowed_j1, hw2]
    rw [e4]
    cases b with
    | true =>
      obtain ⟨m', a1, a2, a3, a4⟩ := nd_l1 t D d k (i + 1) m (by omega) h0 (by omega)
      exact ⟨m', a1, a2, by simp only [needs, need1, if_true]; omega, a4⟩
    | false =>
      obtain ⟨m', a1, a2, a3, a4⟩ := nd_l1 t D d k (i + 1) (m + 1) (by omega) (by omega) (by omega)
      refine ⟨m', a1, a2, by simp only [needs, need1, Bool.false_eq_true, if_false]; omega, ?_⟩
      simp only [Bool.not_false, cond_true, hw]; exact a4
theorem check_narrowed_eq (t : Typ) (D : DT t) (d : List (Str × V)) (hd : d.length ≤ 4096) (hl : ∀ u, u ∈ t.parts → NarOk u) (hc : ∀ y, y ∈ d → Can y.2) : p_check_narrowed d t = some (dnarG t.opn (zipn t) d) := by
  rw [e_check_narrowed, b_check_narrowed]
  obtain ⟨m', a1, a2, a3, a4⟩ := nd_l1 t D d t.names.length 0 0 (by omega) (by omega) (by omega)
  rw [show (0 : Int) = ((0 : Nat) : Int) from rfl] at *
  have h := nd_l2 t D d hd hl hc d.length 0 [] m' (by omega) (by simp) (by omega) a2
  rw [List.drop_zero] at h a3
  rw [a4, h, a3]
  simp [dnarG]
theorem check_narrow_eq (t : Typ) : VT t → bkTy t ≤ 268435456 → NarOk t := by
  induction t using Typ.byParts with
  | _ t ih =>
  intro hv hb v hc
  have B := tb hb
  have his := check_is_eq t hv hb v 0 hc (by omega) (by have := hc.2.1; omega)
  have hB : (isF t v 0).1 = isB t v := rfl
  have hK := hv.know
  rw [e_check_narrow, b_check_narrow, narF_eq]
  unfold narG
  simp only [Typ.eta, his, Option.bind_some, hB]
  cases hyes : isB t v with
  | true => rfl
  | false =>
    simp only [cond_false, Bool.false_eq_true, if_false]
    cases hK with
    | union hk hp =>
      have := nu_l t v hc (fun u hu => ih u hu (hp u hu) (B.parts u hu)) t.parts.length 0 (by omega)
      rw [List.drop_zero] at this
      simp [hk, this]
    | list hk hp =>
      obtain ⟨p, hp1, hp2⟩ := hp
      cases v with
      | list l =>
        have := nl_l t p hp1 l (near_list hc.1.own) (ih p (by rw [hp1]; simp) hp2 (B.parts p (by rw [hp1]; simp))) (fun y hy => hc.part hy) l.length 0 [] (by omega) (by simp)
        rw [List.drop_zero, List.nil_append] at this
        simp [hk, hp1, this]
      | _ => simp [hk, check_narrow_j1]
    | dict hk hn hpl hll hp =>
      cases v with
      | dict d =>
        have := check_narrowed_eq t ⟨hn, hpl, hll⟩ d (near_dict hc.1.own) (fun u hu => ih u hu (hp u hu) (B.parts u hu)) (fun y hy => hc.part (List.mem_map_of_mem hy))
        simp [hk, this, zipn]
      | _ => simp [hk, check_narrow_j1]
    | _ hk => simp [hk, check_narrow_j1]
end Go.Proofs.Ytiapdjdhaclmnaa
