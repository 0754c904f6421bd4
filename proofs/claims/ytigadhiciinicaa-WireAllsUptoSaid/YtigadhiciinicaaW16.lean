/- The document's reader: whole values. -/
import Derived.Test.YtigadhiciinicaaW15
namespace Go.Proofs.Ytigadhiciinicaa
open Go Aw
set_option linter.unusedVariables false
set_option linter.unusedSimpArgs false
set_option maxRecDepth 8000
abbrev t0 (k : Int) : Term := .mk k false 0 0 [] [] 0 [] [] [] 0
theorem term_lost {st : R3} {x : Int} (h : st.f_why ≠ 0) : p_ref03_reading_term st x = some (st, t0 0) := by
  rw [e_ref03_reading_term]
  simp only [b_ref03_reading_term]; rw [ne_t h]; rfl
abbrev Q3 (b : Str) : V × Nat → Str → R3 × Term → Prop := fun x r' a => ∃ k', Sx b k' r' ∧ x.2 ≤ 16384 ∧ a = (g3 b k' x.2, cl x.1)
def VOK3 (b : Str) (f : Nat → Str → Rs (V × Nat)) (d : Int) : Prop := ∀ (k n : Nat) (r : Str), Sx b k r → n ≤ 16384 → An3 b (p_ref03_reading_term (g3 b k n) d) (f n r) (Q3 b)
theorem items_lost {t : Term} {d : Int} {x : R3 × Int} {i : Int} {acc : List Term} {st : R3} (h : st.f_why ≠ 0) : ∃ a', ref03_reading_body_l2 p_ref03_reading_term t d x i st.f_b st.f_at st.f_n st.f_place st.f_why acc = some a' ∧ a'.1 = st := by
  rw [ref03_reading_body_l2_eq]
  simp only [ref03_reading_body_l2b]
  cases decide (i < x.2) with
  | true => rw [cond_true, eq_t h]; exact ⟨_, rfl, rfl⟩
  | false => rw [cond_false]; exact ⟨_, rfl, rfl⟩
theorem items3 {b : Str} {f : Nat → Str → Rs (V × Nat)} {d : Int} {x1 : R3 × Int} {m : Nat} (hx : x1.2 = (m : Nat)) (hm : m ≤ 4096) (hf : VOK3 b f (IntKind.i64.wrap (d + 1))) : ∀ (j i : Nat) (acc : List Term) (k n : Nat) (r : Str), i + j = m → acc.length ≤ i → Sx b k r → n ≤ 16384 →
    An3 b (ref03_reading_body_l2 p_ref03_reading_term (t0 8) d x1 (i : Nat) b (k : Nat) (n : Nat) 0 0 acc) (itemsS f j n r) (fun x r' a => ∃ k', Sx b k' r' ∧ x.2 ≤ 16384 ∧ a = (g3 b k' x.2, .mk 8 false 0 0 [] [] 0 (acc ++ x.1.map cl) [] [] 0))
  | 0, i, acc, k, n, r, hj, ha, hs, hn => by
    rw [ref03_reading_body_l2_eq]
    simp only [ref03_reading_body_l2b]
    rw [hx, decide_eq_false (by omega), cond_false, itemsS]
    exact ⟨_, rfl, k, hs, hn, by simp only [List.map_nil, List.append_nil]; try rfl⟩
  | j + 1, i, acc, k, n, r, hj, ha, hs, hn => by
    rw [ref03_reading_body_l2_eq]
    simp only [ref03_reading_body_l2b]
    rw [hx, decide_eq_true (by omega), cond_true, itemsS, show ((0 : Int) == 0) = true from rfl]
    simp only [ref03_reading_body_j4, cond_true]
    refine an3_bind (hf k n r hs hn) ?_ ?_
    · rintro ⟨x, n1⟩ r1 a hfx ⟨k1, hs1, hn1, rfl⟩
      have hw : IntKind.u64.wrap ((i : Int) + 1) = ((i + 1 : Nat) : Int) := by rw [show (i : Int) + 1 = ((i + 1 : Nat) : Int) by omega, wu_nat (by omega)]
      simp only []
      rw [app1 (by omega) (by omega), Option.bind_some, hw]
      refine an3_map1 (items3 hx hm hf j (i + 1) (acc ++ [cl x]) k1 n1 r1 (by omega) (by simp only [List.length_append, List.length_cons, List.length_nil]; omega) hs1 hn1) ?_
      rintro ⟨y, n2⟩ r2 a ⟨k2, h1, h2, rfl⟩
      exact ⟨k2, h1, h2, by simp⟩
    · intro a ha'
      rw [app1 (by omega) (by omega), Option.bind_some]
      exact items_lost ha'
theorem flds_lost {p d : Int} {x : R3 × Int} {i : Int} {acc : List (Str × Term)} {st : R3} (h : st.f_why ≠ 0) : ∃ a', ref03_reading_fields_l1 p_ref03_reading_term p d x acc i st.f_b st.f_at st.f_n st.f_place st.f_why = some a' ∧ a'.1 = st := by
  rw [ref03_reading_fields_l1_eq]
  simp only [ref03_reading_fields_l1b]
  cases decide (i < x.2) with
  | true => rw [cond_true, eq_t h]; exact ⟨_, rfl, rfl⟩
  | false => rw [cond_false]; exact ⟨_, rfl, rfl⟩
def LastOk (acc : List (Str × Term)) (last : Str) : Prop := (acc = [] ∧ last = []) ∨ ∃ pre t, acc = pre ++ [(last, t)]
theorem leB_nil {s : Str} (h : nameOk s = true) : leB s [] = false := by
  have := nameOk_len h
  cases s with
  | nil => simp at this
  | cons a t => rfl
theorem flds_step_lost {p d : Int} {x : R3 × Int} {y : R3 × Str} {i : Int} {acc : List (Str × Term)} {st : R3} (h : st.f_why ≠ 0) (hl : acc.length ≤ 1073741824) : ∃ a', ref03_reading_fields_j2 p_ref03_reading_term (ref03_reading_fields_l1 p_ref03_reading_term p d x) d acc i y st.f_b st.f_at st.f_n st.f_place st.f_why = some a' ∧ a'.1 = st := by
  simp only [ref03_reading_fields_j2]
  rw [show (⟨st.f_b, st.f_at, st.f_n, st.f_place, st.f_why⟩ : R3) = st from rfl, term_lost h, Option.bind_some, app1 (by omega) hl, Option.bind_some]
  exact flds_lost h
theorem flds3 {b : Str} {f : Nat → Str → Rs (V × Nat)} {d : Int} {x1 : R3 × Int} {m part : Nat} (hb : b.length ≤ 1099511627776) (hx : x1.2 = (m : Nat)) (hm : m ≤ 4096) (hf : VOK3 b f (IntKind.i64.wrap (d + 1))) : ∀ (j i : Nat) (acc : List (Str × Term)) (last : Str) (k n : Nat) (r : Str), i + j = m → acc.length ≤ i → LastOk acc last → Sx b k r → n ≤ 16384 →
    An3 b (ref03_reading_fields_l1 p_ref03_reading_term ((b.length - part : Nat) : Int) d x1 acc (i : Nat) b (k : Nat) (n : Nat) 0 0) (fldsS f part j last n r) (fun x r' a => ∃ k', Sx b k' r' ∧ x.2 ≤ 16384 ∧ a = (g3 b k' x.2, acc ++ x.1.map clE))
  | 0, i, acc, last, k, n, r, hj, ha, hla, hs, hn => by
    rw [ref03_reading_fields_l1_eq]
    simp only [ref03_reading_fields_l1b]
    rw [hx, decide_eq_false (by omega), cond_false, fldsS]
    exact ⟨_, rfl, k, hs, hn, by simp only [List.map_nil, List.append_nil]; try rfl⟩
  | j + 1, i, acc, last, k, n, r, hj, ha, hla, hs, hn => by
    rw [ref03_reading_fields_l1_eq]
    simp only [ref03_reading_fields_l1b]
    rw [hx, decide_eq_true (by omega), cond_true, fldsS, show ((0 : Int) == 0) = true from rfl]
    simp only [ref03_reading_fields_j1, cond_true]
    refine an3_bind (name3 hs hb) ?_ ?_
    · rintro s r0 a hsx ⟨k0, hs0, rfl⟩
      have hnm := (nameS_inv hsx).2
      simp only [show ((0 : Int) == 0) = true from rfl, cond_true]
      -- behind the question
      have hj : ∀ q : Bool, q = leB s last → An3 b (ref03_reading_fields_j3 p_ref03_reading_term (ref03_reading_fields_l1 p_ref03_reading_term ((b.length - part : Nat) : Int) d x1) ((b.length - part : Nat) : Int) d acc (i : Nat) (g3 b k0 n, s) q)
          (if leB s last then .bad part 8 else (f n r0).bind fun x r => (fldsS f part j s x.2 r).bind fun y r => .ok ((s, x.1) :: y.1, y.2) r) (fun x r' a => ∃ k', Sx b k' r' ∧ x.2 ≤ 16384 ∧ a = (g3 b k' x.2, acc ++ x.1.map clE)) := by
        intro q hq
        subst hq
        cases hle : leB s last with
        | true =>
          rw [if_pos rfl]
          simp only [ref03_reading_fields_j3, cond_true]
          rw [bad3, Option.bind_some]
          obtain ⟨a', e1, e2⟩ := flds_step_lost (p := ((b.length - part : Nat) : Int)) (d := d) (x := x1) (y := (g3 b k0 n, s)) (i := (i : Nat)) (acc := acc) (st := ⟨b, (k0 : Nat), (n : Nat), ((b.length - part : Nat) : Int), 8⟩) (show (8 : Int) ≠ 0 by decide) (by omega)
          exact ⟨by decide, a', e1, by rw [e2], by rw [e2]⟩
        | false =>
          rw [if_neg (by simp)]
          simp only [ref03_reading_fields_j3, cond_false, ref03_reading_fields_j2]
          refine an3_bind (hf k0 n r0 hs0 hn) ?_ ?_
          · rintro ⟨x, n1⟩ r1 a hfx ⟨k1, hs1, hn1, rfl⟩
            have hw : IntKind.u64.wrap ((i : Int) + 1) = ((i + 1 : Nat) : Int) := by rw [show (i : Int) + 1 = ((i + 1 : Nat) : Int) by omega, wu_nat (by omega)]
            simp only []
            rw [app1 (by omega) (by omega), Option.bind_some, hw]
            refine an3_map1 (flds3 hb hx hm hf j (i + 1) (acc ++ [(s, cl x)]) s k1 n1 r1 (by omega) (by simp only [List.length_append, List.length_cons, List.length_nil]; omega) (.inr ⟨acc, cl x, rfl⟩) hs1 hn1) ?_
            rintro ⟨y, n2⟩ r2 a ⟨k2, h1, h2, rfl⟩
            exact ⟨k2, h1, h2, by simp [clE]⟩
          · intro a ha'
            rw [app1 (by omega) (by omega), Option.bind_some]
            exact flds_lost ha'
      rcases hla with ⟨rfl, rfl⟩ | ⟨pre, t, rfl⟩
      · rw [decide_eq_false (by simp), cond_false]
        exact hj _ (leB_nil hnm).symm
      · have hlen : (pre ++ [(last, t)]).length = pre.length + 1 := by simp
        rw [hlen] at ha
        rw [decide_eq_true (by omega), cond_true, hlen, w64_in (by omega) (by omega), show ((pre.length + 1 : Nat) : Int) - 1 = (pre.length : Nat) by omega, idxI_nat]
        rw [show (pre ++ [(last, t)])[pre.length]? = some (last, t) by simp, Option.bind_some]
        exact hj _ rfl
    · intro a ha'
      simp only [eq_t ha', cond_false, ref03_reading_fields_j3]
      exact flds_step_lost ha' (by omega)
theorem fields_lost {st : R3} {p d : Int} (h : st.f_why ≠ 0) : ∃ a', p_ref03_reading_fields st p d = some a' ∧ a'.1 = st := by
  rw [e_ref03_reading_fields]
  simp only [b_ref03_reading_fields]
  rw [long_lost h, Option.bind_some]
  exact flds_lost h
theorem most3_eq (part lim : Nat) (r : Str) : mostS part lim r = (nmS r).bind fun m r => if lim < m then .bad part 2 else .ok m r := rfl
theorem fields3 {b r : Str} {f : Nat → Str → Rs (V × Nat)} {d : Int} {k n part : Nat} (hb : b.length ≤ 1099511627776) (hf : VOK3 b f (IntKind.i64.wrap (d + 1))) (hs : Sx b k r) (hn : n ≤ 16384) :
    An3 b (p_ref03_reading_fields (g3 b k n) ((b.length - part : Nat) : Int) d) ((mostS part 4096 r).bind fun m r => fldsS f part m [] n r) (fun x r' a => ∃ k', Sx b k' r' ∧ x.2 ≤ 16384 ∧ a = (g3 b k' x.2, x.1.map clE)) := by
  rw [e_ref03_reading_fields, most3_eq]
  simp only [b_ref03_reading_fields]
  refine an3_bind (long3 (lim := 4096) (w := 2) hs hb (by decide)) ?_ ?_
  · rintro m r1 a hm ⟨k1, hs1, rfl⟩
    exact flds3 (m := m) hb rfl (mostS_inv (part := part) hm).2 hf m 0 [] [] k1 n r1 (by omega) (by simp) (.inl ⟨rfl, rfl⟩) hs1 hn
  · intro a ha
    exact flds_lost ha
theorem float3_l {b : Str} {n : Nat} {t : Term} (hb : b.length ≤ 1099511627776) : ∀ (j i acc k : Nat) (r : Str), i + j = 8 → acc < 256 ^ i → Sx b k r →
    An3 b (ref03_reading_body_l1 t (acc : Nat) (i : Nat) b (k : Nat) (n : Nat) 0 0) (takeS j r) (fun s r' a => ∃ k', Sx b k' r' ∧ a = (g3 b k' n, .mk t.kind t.bool t.int (s.foldl (fun a c => a * 256 + c.toNat) acc) t.text t.bytes t.ref [] t.fields t.cls t.ver))
  | 0, i, acc, k, r, h, ha, hs => by
    rw [ref03_reading_body_l1_eq]
    simp only [ref03_reading_body_l1b]
    rw [decide_eq_false (by omega), cond_false, takeS, if_neg (by omega)]
    exact ⟨_, rfl, k, hs, rfl⟩
  | j + 1, i, acc, k, r, h, ha, hs => by
    have lost : ∀ (j : Nat) (i acc : Int) (st : R3), i + j = 8 → 0 ≤ i → st.f_why ≠ 0 → ∃ a', ref03_reading_body_l1 t acc i st.f_b st.f_at st.f_n st.f_place st.f_why = some a' ∧ a'.1 = st := by
      intro j
      induction j with
      | zero =>
        intro i acc st h0 hp hw
        rw [ref03_reading_body_l1_eq]
        simp only [ref03_reading_body_l1b]
        rw [decide_eq_false (by omega), cond_false]
        exact ⟨_, rfl, rfl⟩
      | succ j ih =>
        intro i acc st h0 hp hw
        rw [ref03_reading_body_l1_eq]
        simp only [ref03_reading_body_l1b]
        rw [show (⟨st.f_b, st.f_at, st.f_n, st.f_place, st.f_why⟩ : R3) = st from rfl, one_lost hw, Option.bind_some]
        cases hd : decide (i < 8) with
        | true =>
          have := of_decide_eq_true hd
          rw [cond_true]
          rw [show IntKind.i64.wrap (i + 1) = i + 1 from w64_in (by omega) (by omega)]
          exact ih (i + 1) _ st (by omega) (by omega) hw
        | false => rw [cond_false]; exact ⟨_, rfl, rfl⟩
    rw [ref03_reading_body_l1_eq]
    simp only [ref03_reading_body_l1b]
    rw [decide_eq_true (by omega), cond_true, one3 hs hb]
    have hi : IntKind.i64.wrap ((i : Int) + 1) = ((i + 1 : Nat) : Int) := by rw [w64_in (by omega) (by omega)]; omega
    cases r with
    | nil =>
      rw [Option.bind_some, takeS, if_pos (by simp)]
      obtain ⟨a', e1, e2⟩ := lost j (IntKind.i64.wrap ((i : Int) + 1)) (IntKind.u64.wrap ((IntKind.u64.wrap ((acc : Int) * 256)) + ((0 : UInt8).toNat : Int))) ⟨b, (k : Nat), (n : Nat), (b.length : Nat), 4⟩ (by rw [hi]; omega) (by rw [hi]; omega) (show (4 : Int) ≠ 0 by decide)
      exact ⟨by decide, a', e1, by rw [e2]; rfl, by rw [e2]⟩
    | cons c r =>
      have hc := c.toNat_lt
      have hsr : Sx b (k + 1) r := hs.go (c := [c]) (r' := r) rfl
      have h7 : 256 ^ i ≤ 256 ^ 7 := Nat.pow_le_pow_right (by omega) (by omega)
      have e7 : (256 : Nat) ^ 7 = 72057594037927936 := by decide
      have ew : IntKind.u64.wrap ((IntKind.u64.wrap ((acc : Int) * 256)) + (c.toNat : Int)) = ((acc * 256 + c.toNat : Nat) : Int) := by
        rw [show (acc : Int) * 256 = ((acc * 256 : Nat) : Int) by omega, wu_nat (by omega), show ((acc * 256 : Nat) : Int) + (c.toNat : Int) = ((acc * 256 + c.toNat : Nat) : Int) by omega, wu_nat (by omega)]
      simp only []
      rw [Option.bind_some]
      dsimp only
      rw [ew, hi]
      have hr := float3_l hb (t := t) (n := n) j (i + 1) (acc * 256 + c.toNat) (k + 1) r (by omega) (by rw [Nat.pow_succ]; omega) hsr
      unfold takeS at hr ⊢
      rw [List.length_cons]
      by_cases hlt : r.length < j
      · rw [if_pos hlt] at hr
        rw [if_pos (by omega)]; exact hr
      · rw [if_neg hlt] at hr
        rw [if_neg (by omega)]
        obtain ⟨a, h1, k', h2, rfl⟩ := hr
        exact ⟨_, h1, k', h2, rfl⟩
theorem unzig3 {m : Nat} (h : m < 18446744073709551616) : (bif (Int.tmod (m : Int) 2) == 1 then IntKind.i64.wrap ((IntKind.i64.wrap (0 - (IntKind.i64.wrap (IntKind.u64.wrap (Int.tdiv (m : Int) 2))))) - 1) else IntKind.i64.wrap (IntKind.u64.wrap (Int.tdiv (m : Int) 2))) = unzig m := by
  have e1 : Int.tmod (m : Int) 2 = ((m % 2 : Nat) : Int) := rfl
  have e2 : Int.tdiv (m : Int) 2 = ((m / 2 : Nat) : Int) := rfl
  have e3 : IntKind.i64.wrap ((m / 2 : Nat) : Int) = ((m / 2 : Nat) : Int) := w64_in (by omega) (by omega)
  have e4 : IntKind.i64.wrap (0 - ((m / 2 : Nat) : Int)) = 0 - ((m / 2 : Nat) : Int) := w64_in (by omega) (by omega)
  have e5 : IntKind.i64.wrap (0 - ((m / 2 : Nat) : Int) - 1) = 0 - ((m / 2 : Nat) : Int) - 1 := w64_in (by omega) (by omega)
  rw [e1, e2, wu_nat (by omega), e3, e4, e5]
  unfold unzig
  by_cases hm : m % 2 = 0
  · rw [if_pos hm, hm]; rfl
  · rw [if_neg hm, show m % 2 = 1 by omega]
    show (0 - ((m / 2 : Nat) : Int)) - 1 = _
    omega
end Go.Proofs.Ytigadhiciinicaa
