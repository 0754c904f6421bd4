/- The document's reader reads as the plain one does; the law on values one behind the other. -/
import Derived.Test.YtigadhiciinicaaW16
namespace Go.Proofs.Ytigadhiciinicaa
open Go Aw
set_option linter.unusedVariables false
set_option linter.unusedSimpArgs false
set_option maxRecDepth 8000
theorem some_bad {b r : Str} {k n m p : Nat} {w : Int} (h : Sx b k r) (hb : b.length ≤ 1099511627776) (hm : m ≤ 1099511627776) (ht : takeS m r = .bad p w) : p_ref03_reading_some (g3 b k n) (m : Nat) = some (⟨b, (k : Nat), (n : Nat), (b.length : Nat), 4⟩, []) ∧ p = 0 ∧ w = 4 := by
  have hl := h.len
  unfold takeS at ht
  split at ht
  · rename_i hlt
    injection ht with h1 h2
    refine ⟨?_, h1.symm, h2.symm⟩
    simp only [p_ref03_reading_some, show ((0 : Int) != 0) = false from rfl, cond_false]
    have e0 : IntKind.u64.wrap (IntKind.i64.wrap (((b.length : Nat) : Int) - (k : Int))) = ((r.length : Nat) : Int) := by
      rw [w64_in (by omega) (by omega), show ((b.length : Nat) : Int) - (k : Int) = ((r.length : Nat) : Int) by omega, wu_nat (by omega)]
    rw [e0, decide_eq_true (by omega), cond_true, bad3, Option.bind_some]
  · cases ht
theorem body3 {b r : Str} {f : Nat → Str → Rs (V × Nat)} {d : Int} {k n part tag : Nat} (hb : b.length ≤ 1099511627776) (hp : part ≤ b.length) (h1 : 1 ≤ tag) (h10 : tag ≤ 10) (hf : VOK3 b f (IntKind.i64.wrap (d + 1))) (hs : Sx b k r) (hn : n ≤ 16384) :
    An3 b (p_ref03_reading_body (g3 b k n) (t0 (tag : Nat)) ((b.length - part : Nat) : Int) d) (bodyS f tag part n r) (Q3 b) := by
  have hl := hs.len
  rw [e_ref03_reading_body]
  have cases10 : tag = 1 ∨ tag = 2 ∨ tag = 3 ∨ tag = 4 ∨ tag = 5 ∨ tag = 6 ∨ tag = 7 ∨ tag = 8 ∨ tag = 9 ∨ tag = 10 := by omega
  rcases cases10 with rfl | rfl | rfl | rfl | rfl | rfl | rfl | rfl | rfl | rfl
  · exact ⟨_, rfl, k, hs, hn, rfl⟩
  · show An3 b (Option.bind (p_ref03_reading_one (g3 b k n)) fun x17 => bif ((x17.1).f_why == 0) then ref03_reading_body_j2 (t0 2) x17 (decide (((x17.2).toNat : Int) > (((1 : UInt8)).toNat : Int))) else ref03_reading_body_j2 (t0 2) x17 false) (boolS n r) (Q3 b)
    rw [one3 hs hb]
    cases r with
    | nil => exact ⟨by decide, _, rfl, rfl, rfl⟩
    | cons e r =>
      simp only [List.length_cons] at hl
      simp only [Option.bind_some, show ((0 : Int) == 0) = true from rfl, cond_true]
      rw [show boolS n (e :: r) = if 1 < e.toNat then .bad (r.length + 1) 30 else .ok (.bool (e.toNat == 1), n) r from rfl]
      have c1 : (((1 : UInt8)).toNat : Int) = 1 := rfl
      rw [c1]
      by_cases he : 1 < e.toNat
      · rw [decide_eq_true (by omega), if_pos he]
        simp only [ref03_reading_body_j2, cond_true]
        rw [bad3, Option.bind_some]
        have : IntKind.i64.wrap (((k + 1 : Nat) : Int) - 1) = ((b.length - (r.length + 1) : Nat) : Int) := by rw [w64_in (by omega) (by omega)]; omega
        rw [this]
        exact ⟨by decide, _, rfl, rfl, rfl⟩
      · rw [decide_eq_false (by omega), if_neg he]
        simp only [ref03_reading_body_j2, cond_false, c1]
        have hbeq : (((e.toNat : Nat) : Int) == 1) = (e.toNat == 1) := by
          by_cases h1 : e.toNat = 1
          · rw [h1]; rfl
          · rw [beq_false_of_ne h1, beq_false_of_ne (by omega)]
        rw [hbeq]
        exact ⟨_, rfl, k + 1, hs.go (c := [e]) (r' := r) rfl, hn, rfl⟩
  · show An3 b (Option.bind (p_ref03_reading_number (g3 b k n)) fun x23 => bif ((Int.tmod x23.2 2) == 1) then _ else _) ((nmS r).bind fun m r => .ok (.int (unzig m), n) r) (Q3 b)
    refine an3_bind (number3 hs hb) ?_ ?_
    · rintro m r1 a hm ⟨k1, hs1, rfl⟩
      have hz := unzig3 (nmS_inv hm).2
      dsimp only
      cases hc : (Int.tmod (m : Int) 2 == 1) with
      | true =>
        rw [hc, cond_true] at hz
        rw [cond_true, hz]
        exact ⟨_, rfl, k1, hs1, hn, rfl⟩
      | false =>
        rw [hc, cond_false] at hz
        rw [cond_false, hz]
        exact ⟨_, rfl, k1, hs1, hn, rfl⟩
    · intro a ha
      cases (Int.tmod a.2 2 == 1)
      · rw [cond_false]; exact ⟨_, rfl, rfl⟩
      · rw [cond_true]; exact ⟨_, rfl, rfl⟩
  · show An3 b (ref03_reading_body_l1 (t0 4) ((0 : Nat) : Int) ((0 : Nat) : Int) b (k : Nat) (n : Nat) 0 0) ((takeS 8 r).bind fun s r => .ok (.float (beS s), n) r) (Q3 b)
    refine an3_map1 (float3_l hb 8 0 0 k r (by omega) (by decide) hs) ?_
    rintro s r1 a ⟨k1, hs1, rfl⟩
    exact ⟨k1, hs1, hn, rfl⟩
  · show An3 b (Option.bind (p_ref03_reading_long (g3 b k n) ((65536 : Nat) : Int) ((b.length - part : Nat) : Int) 2) fun x37 => Option.bind (p_ref03_reading_some (x37.1) x37.2) fun x38 => _) ((mostS part 65536 r).bind fun m r => (takeS m r).bind fun s r => .ok (.text s, n) r) (Q3 b)
    rw [most3_eq]
    refine an3_bind (long3 hs hb (by decide)) ?_ ?_
    · rintro m r1 a hm ⟨k1, hs1, rfl⟩
      have := (mostS_inv (part := part) hm).2
      refine an3_mapr (g := fun s => (V.text s, n)) (some3 hs1 hb (by omega)) ?_ ?_
      · rintro s r2 a ⟨k2, hs2, rfl⟩
        exact ⟨_, rfl, k2, hs2, hn, rfl⟩
      · intro a ha
        exact ⟨_, rfl, rfl⟩
    · intro a ha
      rw [some_lost ha, Option.bind_some]
      exact ⟨_, rfl, rfl⟩
  · show An3 b (Option.bind (p_ref03_reading_long (g3 b k n) ((65536 : Nat) : Int) ((b.length - part : Nat) : Int) 2) fun x37 => Option.bind (p_ref03_reading_some (x37.1) x37.2) fun x38 => Option.bind (smallO (x38.2).length) fun x40 => _) ((mostS part 65536 r).bind fun m r => (takeS m r).bind fun s r => .ok (.bytes s, n) r) (Q3 b)
    have sm : ∀ x : Nat, x ≤ 65536 → smallO x = some () := fun x h => by unfold smallO; rw [Nat.ble_eq_true_of_le (by omega)]; rfl
    rw [most3_eq]
    refine an3_bind (long3 hs hb (by decide)) ?_ ?_
    · rintro m r1 a hm ⟨k1, hs1, rfl⟩
      have hm6 := (mostS_inv (part := part) hm).2
      have h3 := some3 (n := n) hs1 hb (show m ≤ 1099511627776 by omega)
      cases ht : takeS m r1 with
      | ok s r2 =>
        rw [ht] at h3
        obtain ⟨a, e1, k2, hs2', rfl⟩ := h3
        have := (takeS_inv ht).2
        dsimp only
        rw [e1, Option.bind_some, sm _ (by simp only []; omega), Option.bind_some]
        exact ⟨_, rfl, k2, hs2', hn, rfl⟩
      | bad p w =>
        obtain ⟨e1, e2⟩ := some_bad (n := n) hs1 hb (show m ≤ 1099511627776 by omega) ht
        dsimp only
        rw [e1, Option.bind_some, sm _ (by simp), Option.bind_some]
        obtain ⟨rfl, rfl⟩ := e2
        exact ⟨by decide, _, rfl, rfl, rfl⟩
    · intro a ha
      rw [some_lost ha, Option.bind_some, sm _ (by simp), Option.bind_some]
      exact ⟨_, rfl, rfl⟩
  · show An3 b (Option.bind (p_ref03_reading_number (g3 b k n)) fun x42 => _) ((nmS r).bind fun m r => .ok (.ref (m : Int), n) r) (Q3 b)
    refine an3_mapr (g := fun m : Nat => (V.ref (m : Int), n)) (number3 hs hb) ?_ ?_
    · rintro m r1 a ⟨k1, hs1, rfl⟩
      exact ⟨_, rfl, k1, hs1, hn, rfl⟩
    · intro a ha
      exact ⟨_, rfl, rfl⟩
  · show An3 b (Option.bind (p_ref03_reading_long (g3 b k n) ((4096 : Nat) : Int) ((b.length - part : Nat) : Int) 2) fun x44 => ref03_reading_body_l2 p_ref03_reading_term (t0 8) d x44 ((0 : Nat) : Int) ((x44.1).f_b) ((x44.1).f_at) ((x44.1).f_n) ((x44.1).f_place) ((x44.1).f_why) []) ((mostS part 4096 r).bind fun m r => (itemsS f m n r).bind fun x r => .ok (.list x.1, x.2) r) (Q3 b)
    rw [most3_eq]
    refine an3_bind (long3 hs hb (by decide)) ?_ ?_
    · rintro m r1 a hm ⟨k1, hs1, rfl⟩
      refine an3_map1 (items3 (m := m) rfl (mostS_inv (part := part) hm).2 hf m 0 [] k1 n r1 (by omega) (by simp) hs1 hn) ?_
      rintro ⟨y, n2⟩ r2 a ⟨k2, h1, h2, rfl⟩
      exact ⟨k2, h1, h2, by rw [cl, clL_map]; rfl⟩
    · intro a ha
      exact items_lost ha
  · show An3 b (Option.bind (p_ref03_reading_fields (g3 b k n) ((b.length - part : Nat) : Int) d) fun x58 => _) ((mostS part 4096 r).bind fun m r => (fldsS f part m [] n r).bind fun x r => .ok (.dict x.1, x.2) r) (Q3 b)
    rw [← bind_assoc']
    refine an3_mapr (g := fun x : List (Str × V) × Nat => (V.dict x.1, x.2)) (fields3 hb hf hs hn) ?_ ?_
    · rintro ⟨y, n2⟩ r2 a ⟨k2, h1, h2, rfl⟩
      exact ⟨_, rfl, k2, h1, h2, by rw [cl, clD_map]; rfl⟩
    · intro a ha
      exact ⟨_, rfl, rfl⟩
  · show An3 b (Option.bind (p_ref03_reading_name (g3 b k n) ((b.length - part : Nat) : Int)) fun x60 => Option.bind (p_ref03_reading_number (x60.1)) fun x61 => bif ((x61.1).f_why == 0) then (bif (decide (x61.2 < 1)) then ref03_reading_body_j6 p_ref03_reading_fields (t0 10) ((b.length - part : Nat) : Int) d x60 x61 true else ref03_reading_body_j6 p_ref03_reading_fields (t0 10) ((b.length - part : Nat) : Int) d x60 x61 (decide (x61.2 > 1000))) else ref03_reading_body_j6 p_ref03_reading_fields (t0 10) ((b.length - part : Nat) : Int) d x60 x61 false)
      ((nameS part r).bind fun s r => (nmS r).bind fun v r => if v < 1 ∨ 1000 < v then .bad part 1 else (mostS part 4096 r).bind fun m r => (fldsS f part m [] n r).bind fun x r => .ok (.record s (v : Int) x.1, x.2) r) (Q3 b)
    have tail : ∀ (x60 : R3 × Str) (x61 : R3 × Int) (st : R3), st.f_why ≠ 0 → ∃ a', ref03_reading_body_j5 p_ref03_reading_fields (t0 10) ((b.length - part : Nat) : Int) d x60 x61 st.f_b st.f_at st.f_n st.f_place st.f_why = some a' ∧ a'.1 = st := by
      intro x60 x61 st h
      simp only [ref03_reading_body_j5]
      obtain ⟨a, e1, e2⟩ := fields_lost (p := ((b.length - part : Nat) : Int)) (d := d) h
      rw [show (⟨st.f_b, st.f_at, st.f_n, st.f_place, st.f_why⟩ : R3) = st from rfl, e1, Option.bind_some, e2]
      exact ⟨_, rfl, rfl⟩
    refine an3_bind (name3 hs hb) ?_ ?_
    · rintro s r1 a hsx ⟨k1, hs1, rfl⟩
      refine an3_bind (number3 hs1 hb) ?_ ?_
      · rintro v r2 a hv ⟨k2, hs2, rfl⟩
        simp only [show ((0 : Int) == 0) = true from rfl, cond_true]
        have hbadj : An3 b (ref03_reading_body_j6 p_ref03_reading_fields (t0 10) ((b.length - part : Nat) : Int) d (g3 b k1 n, s) (g3 b k2 n, (v : Int)) true) (.bad part 1 : Rs (V × Nat)) (Q3 b) := by
          simp only [ref03_reading_body_j6, cond_true]
          rw [bad3, Option.bind_some]
          obtain ⟨a', e1, e2⟩ := tail (g3 b k1 n, s) (g3 b k2 n, (v : Int)) ⟨b, (k2 : Nat), (n : Nat), ((b.length - part : Nat) : Int), 1⟩ (show (1 : Int) ≠ 0 by decide)
          exact ⟨by decide, a', e1, by rw [e2], by rw [e2]⟩
        by_cases hbad : v < 1 ∨ 1000 < v
        · rw [if_pos hbad]
          by_cases h1 : v < 1
          · rw [decide_eq_true (by omega), cond_true]; exact hbadj
          · rw [decide_eq_false (by omega), cond_false, decide_eq_true (by omega)]; exact hbadj
        · rw [if_neg hbad, decide_eq_false (by omega), cond_false, decide_eq_false (by omega)]
          simp only [ref03_reading_body_j6, cond_false, ref03_reading_body_j5]
          rw [w64_in (by omega) (by omega), ← bind_assoc']
          refine an3_mapr (g := fun x : List (Str × V) × Nat => (V.record s (v : Int) x.1, x.2)) (fields3 hb hf hs2 hn) ?_ ?_
          · rintro ⟨y, n2⟩ r3 a ⟨k3, h1, h2, rfl⟩
            exact ⟨_, rfl, k3, h1, h2, by rw [cl, clD_map]; rfl⟩
          · intro a ha
            exact ⟨_, rfl, rfl⟩
      · intro a ha
        simp only [eq_t ha, cond_false, ref03_reading_body_j6]
        exact tail _ _ _ ha
    · intro a ha
      rw [number_lost ha, Option.bind_some]
      simp only [eq_t ha, cond_false, ref03_reading_body_j6]
      exact tail _ _ _ ha
theorem bind_pair {A B : Type} (o : Option (A × B)) : (Option.bind o fun x => some (x.1, x.2)) = o := by cases o <;> rfl
theorem term3 {b : Str} (hb : b.length ≤ 1099511627776) : ∀ (d : Nat), d ≤ 64 → VOK3 b (valS d) ((65 - d : Nat) : Int) := by
  intro d
  induction d with
  | zero =>
    intro _ k n r hs hn
    have hl := hs.len
    rw [e_ref03_reading_term]
    simp only [b_ref03_reading_term, show ((0 : Int) != 0) = false from rfl, cond_false]
    cases r with
    | nil =>
      simp only [List.length_nil] at hl
      rw [show (((k : Nat) : Int) == ((b.length : Nat) : Int)) = true by simp; omega, cond_true, bad3, Option.bind_some, valS]
      exact ⟨by decide, _, rfl, by simp only; omega, rfl⟩
    | cons c r =>
      simp only [List.length_cons] at hl
      rw [show (((k : Nat) : Int) == ((b.length : Nat) : Int)) = false by simp; omega, cond_false, valS]
      have hj : An3 b (ref03_reading_term_j1 p_ref03_reading_body (g3 b k n) ((65 - 0 : Nat) : Int) true) (.bad (r.length + 1) 2 : Rs (V × Nat)) (Q3 b) := by
        simp only [ref03_reading_term_j1, cond_true]
        rw [bad3, Option.bind_some]
        exact ⟨by decide, _, rfl, by simp only; omega, rfl⟩
      by_cases h1 : 16384 ≤ n
      · rw [decide_eq_true (by omega), cond_true]; exact hj
      · rw [decide_eq_false (by omega), cond_false, decide_eq_true (by omega)]; exact hj
  | succ d ih =>
    intro hd k n r hs hn
    have hl := hs.len
    have ih := ih (by omega)
    rw [e_ref03_reading_term]
    simp only [b_ref03_reading_term, show ((0 : Int) != 0) = false from rfl, cond_false]
    cases r with
    | nil =>
      simp only [List.length_nil] at hl
      rw [show (((k : Nat) : Int) == ((b.length : Nat) : Int)) = true by simp; omega, cond_true, bad3, Option.bind_some, valS]
      exact ⟨by decide, _, rfl, by simp only; omega, rfl⟩
    | cons c r =>
      simp only [List.length_cons] at hl
      have hc := c.toNat_lt
      have hsr : Sx b (k + 1) r := hs.go (c := [c]) (r' := r) rfl
      rw [show (((k : Nat) : Int) == ((b.length : Nat) : Int)) = false by simp; omega, cond_false, valS]
      by_cases h1 : 16384 ≤ n
      · rw [decide_eq_true (by omega), cond_true, if_pos h1]
        simp only [ref03_reading_term_j1, cond_true]
        rw [bad3, Option.bind_some]
        exact ⟨by decide, _, rfl, by simp only; omega, rfl⟩
      rw [decide_eq_false (by omega), cond_false, decide_eq_false (by omega), if_neg h1]
      have hw2 : IntKind.i64.wrap ((n : Int) + 1) = ((n + 1 : Nat) : Int) := by rw [w64_in (by omega) (by omega)]; omega
      simp only [ref03_reading_term_j1, cond_false]
      rw [hw2, show (⟨b, (k : Nat), ((n + 1 : Nat) : Int), 0, 0⟩ : R3) = g3 b k (n + 1) from rfl, one3 hs hb]
      simp only [Option.bind_some]
      have c1 : (((1 : UInt8)).toNat : Int) = 1 := rfl
      have c10 : (((10 : UInt8)).toNat : Int) = 10 := rfl
      rw [c1, c10]
      by_cases hbad : c.toNat < 1 ∨ 10 < c.toNat
      · rw [if_pos hbad]
        have hj : An3 b (ref03_reading_term_j2 p_ref03_reading_body (g3 b k n) ((65 - (d + 1) : Nat) : Int) (g3 b (k + 1) (n + 1), c) true) (.bad (r.length + 1) 30 : Rs (V × Nat)) (Q3 b) := by
          simp only [ref03_reading_term_j2, cond_true]
          rw [bad3, Option.bind_some]
          exact ⟨by decide, _, rfl, by simp only; omega, rfl⟩
        by_cases h2 : c.toNat < 1
        · rw [decide_eq_true (by omega), cond_true]; exact hj
        · rw [decide_eq_false (by omega), cond_false, decide_eq_true (by omega)]; exact hj
      rw [if_neg hbad, decide_eq_false (by omega), cond_false, decide_eq_false (by omega)]
      simp only [ref03_reading_term_j2, cond_false]
      rw [bind_pair]
      have hf : VOK3 b (valS d) (IntKind.i64.wrap (((65 - (d + 1) : Nat) : Int) + 1)) := by
        rw [w64_in (by omega) (by omega), show ((65 - (d + 1) : Nat) : Int) + 1 = ((65 - d : Nat) : Int) by omega]; exact ih
      rw [show ((k : Nat) : Int) = ((b.length - (r.length + 1) : Nat) : Int) by omega]
      exact body3 hb (by omega) (by omega) (by omega) hf hsr (by omega)
end Go.Proofs.Ytigadhiciinicaa
