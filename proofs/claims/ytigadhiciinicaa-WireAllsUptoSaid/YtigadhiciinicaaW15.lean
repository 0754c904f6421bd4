/- The document's reader: numbers, runs of bytes, names. -/
import Derived.Test.YtigadhiciinicaaW9a
import Derived.Test.YtigadhiciinicaaNRn
namespace Go.Proofs.Ytigadhiciinicaa
open Go Aw
set_option linter.unusedVariables false
set_option linter.unusedSimpArgs false
set_option maxRecDepth 8000
abbrev R3 := S_ref03_reading
def An3 {A B : Type} (b : Str) (o : Option (R3 × A)) (s : Rs B) (Q : B → Str → R3 × A → Prop) : Prop := match s with
  | .ok x r => ∃ a, o = some a ∧ Q x r a
  | .bad p w => w ≠ 0 ∧ ∃ a, o = some a ∧ a.1.f_place = ((b.length - p : Nat) : Int) ∧ a.1.f_why = w
theorem an3_bind {A B A' B' : Type} {b : Str} {o : Option (R3 × A)} {s : Rs B} {Q : B → Str → R3 × A → Prop} {g : R3 × A → Option (R3 × A')} {k : B → Str → Rs B'} {Q' : B' → Str → R3 × A' → Prop}
    (h : An3 b o s Q) (hk : ∀ x r a, s = .ok x r → Q x r a → An3 b (g a) (k x r) Q') (hl : ∀ a, a.1.f_why ≠ 0 → ∃ a', g a = some a' ∧ a'.1 = a.1) : An3 b (Option.bind o g) (s.bind k) Q' := by
  cases s with
  | ok x r =>
    obtain ⟨a, h1, h2⟩ := h
    rw [h1, Option.bind_some]
    exact hk x r a rfl h2
  | bad p w =>
    obtain ⟨hw, a, h1, h2, h3⟩ := h
    rw [h1, Option.bind_some]
    obtain ⟨a', e1, e2⟩ := hl a (by rw [h3]; exact hw)
    exact ⟨hw, a', e1, by rw [e2]; exact h2, by rw [e2]; exact h3⟩
theorem an3_mapr {A B A' B' : Type} {b : Str} {o : Option (R3 × A)} {s : Rs B} {Q : B → Str → R3 × A → Prop} {g : B → B'} {k : R3 × A → Option (R3 × A')} {Q' : B' → Str → R3 × A' → Prop} (h : An3 b o s Q)
    (hk : ∀ x r a, Q x r a → ∃ a', k a = some a' ∧ Q' (g x) r a') (hl : ∀ a, a.1.f_why ≠ 0 → ∃ a', k a = some a' ∧ a'.1 = a.1) : An3 b (Option.bind o k) (s.bind fun x r => .ok (g x) r) Q' :=
  an3_bind h (fun x r a _ hq => hk x r a hq) hl
theorem an3_map1 {A B B' : Type} {b : Str} {o : Option (R3 × A)} {s : Rs B} {Q : B → Str → R3 × A → Prop} {g : B → B'} {Q' : B' → Str → R3 × A → Prop} (h : An3 b o s Q)
    (hk : ∀ x r a, Q x r a → Q' (g x) r a) : An3 b o (s.bind fun x r => .ok (g x) r) Q' := by
  cases s with
  | ok x r => obtain ⟨a, h1, h2⟩ := h; exact ⟨a, h1, hk _ _ _ h2⟩
  | bad p w => exact h
abbrev g3 (b : Str) (k n : Nat) : R3 := ⟨b, (k : Nat), (n : Nat), 0, 0⟩
theorem bad3 (b : Str) (k n : Nat) (p w : Int) : p_ref03_reading_bad (g3 b k n) p w = some ⟨b, (k : Nat), (n : Nat), p, w⟩ := rfl
theorem one_lost {st : R3} (h : st.f_why ≠ 0) : p_ref03_reading_one st = some (st, 0) := by
  simp only [p_ref03_reading_one]; rw [ne_t h]; rfl
theorem one3 {b r : Str} {k n : Nat} (h : Sx b k r) (hb : b.length ≤ 1099511627776) : p_ref03_reading_one (g3 b k n) = match r with
    | [] => some (⟨b, (k : Nat), (n : Nat), (b.length : Nat), 4⟩, 0)
    | c :: _ => some (g3 b (k + 1) n, c) := by
  have hl := h.len
  cases r with
  | nil =>
    simp only [List.length_nil] at hl
    simp only [p_ref03_reading_one, show ((0 : Int) != 0) = false from rfl, cond_false]
    rw [show (((k : Nat) : Int) == ((b.length : Nat) : Int)) = true by simp; omega, cond_true, bad3, Option.bind_some]
  | cons c r =>
    simp only [List.length_cons] at hl
    simp only [p_ref03_reading_one, show ((0 : Int) != 0) = false from rfl, cond_false]
    have e1 : IntKind.i64.wrap ((k : Int) + 1) = ((k + 1 : Nat) : Int) := by rw [w64_in (by omega) (by omega)]; omega
    have e2 : IntKind.i64.wrap (((k + 1 : Nat) : Int) - 1) = (k : Int) := by rw [w64_in (by omega) (by omega)]; omega
    rw [show (((k : Nat) : Int) == ((b.length : Nat) : Int)) = false by simp; omega, cond_false, e1, e2, h.head, Option.bind_some]
abbrev QN3 (b : Str) (n : Nat) : Nat → Str → R3 × Int → Prop := fun m r' a => ∃ k', Sx b k' r' ∧ a = (g3 b k' n, (m : Int))
theorem number_lost {st : R3} (h : st.f_why ≠ 0) : p_ref03_reading_number st = some (st, 0) := by
  simp only [p_ref03_reading_number]
  rw [ref03_reading_number_l1_eq]
  simp only [ref03_reading_number_l1b]
  rw [show (decide ((0 : Int) < 10)) = true from rfl, cond_true, one_lost h, Option.bind_some]
  simp only [ne_t h, cond_true]
theorem shl_sum {acc c i : Nat} (h64 : acc + c * 2 ^ (7 * i) < 18446744073709551616) (hi : i ≤ 9) : IntKind.u64.wrap ((acc : Int) + shlK .u64 (c : Int) (IntKind.u64.wrap (IntKind.i64.wrap (7 * (i : Int))))) = ((acc + c * 2 ^ (7 * i) : Nat) : Int) := by
  rw [w64_in (by omega) (by omega), show 7 * (i : Int) = ((7 * i : Nat) : Int) by omega, wu_nat (by omega), shl_nat (by omega) (by omega), show (acc : Int) + ((c * 2 ^ (7 * i) : Nat) : Int) = ((acc + c * 2 ^ (7 * i) : Nat) : Int) by omega, wu_nat h64]
theorem mod128 (c : UInt8) : (UInt8.ofInt (Int.tmod (c.toNat : Int) (((128 : UInt8)).toNat : Int))).toNat = c.toNat % 128 := by
  have hc := c.toNat_lt
  have e : Int.tmod (c.toNat : Int) (((128 : UInt8)).toNat : Int) = ((c.toNat % 128 : Nat) : Int) := rfl
  rw [e, u8_ofInt]; omega
theorem num3_l {b : Str} {n k0 fr : Nat} {a0 : R3} (hb : b.length ≤ 1099511627776) (ha : a0.f_at = ((k0 : Nat) : Int)) (hfr : k0 = b.length - fr) : ∀ (j i acc k : Nat) (r : Str), j + i = 10 → i ≤ 9 → Sx b k r → acc < 2 ^ (7 * i) →
    An3 b (ref03_reading_number_l1 a0 (acc : Nat) (i : Nat) b (k : Nat) (n : Nat) 0 0) (numS fr j i acc r) (QN3 b n)
  | 0, i, acc, k, r, hj, hi, hs, hacc => by omega
  | j + 1, i, acc, k, r, hj, hi, hs, hacc => by
    rw [ref03_reading_number_l1_eq]
    simp only [ref03_reading_number_l1b]
    rw [decide_eq_true (by omega), cond_true, one3 hs hb]
    cases r with
    | nil =>
      rw [Option.bind_some, numS]
      exact ⟨by decide, _, rfl, rfl, rfl⟩
    | cons c r =>
      have hc := c.toNat_lt
      have hsr := hs.go (c := [c]) (r' := r) rfl
      simp only []
      rw [Option.bind_some, numS]
      simp only [show ((0 : Int) != 0) = false from rfl, cond_false]
      have c1 : (((1 : UInt8)).toNat : Int) = 1 := rfl
      have c0 : (((0 : UInt8)).toNat : Int) = 0 := rfl
      have c128 : (((128 : UInt8)).toNat : Int) = 128 := rfl
      have hjt : ∀ s : Bool, s = true → An3 b (ref03_reading_number_j1 (ref03_reading_number_l1 a0) a0 (acc : Nat) (i : Nat) (g3 b (k + 1) n, c) s) (.bad fr 31 : Rs Nat) (QN3 b n) := by
        intro s hs'
        subst hs'
        simp only [ref03_reading_number_j1, cond_true]
        rw [bad3, Option.bind_some]
        exact ⟨by decide, _, rfl, by rw [ha, hfr], rfl⟩
      have hjf : ∀ s : Bool, s = false → ¬ ((i = 9 ∧ 1 < c.toNat) ∨ (0 < i ∧ c.toNat = 0)) → An3 b (ref03_reading_number_j1 (ref03_reading_number_l1 a0) a0 (acc : Nat) (i : Nat) (g3 b (k + 1) n, c) s)
          (if c.toNat < 128 then .ok (acc + c.toNat % 128 * 2 ^ (7 * i)) r else numS fr j (i + 1) (acc + c.toNat % 128 * 2 ^ (7 * i)) r) (QN3 b n) := by
        intro s hs' hno
        subst hs'
        have hp : 2 ^ (7 * (i + 1)) = 128 * 2 ^ (7 * i) := by rw [show 7 * (i + 1) = 7 * i + 7 by omega, Nat.pow_add, Nat.mul_comm]
        have hlt : acc + c.toNat % 128 * 2 ^ (7 * i) < 2 ^ (7 * (i + 1)) := by
          have h7 : c.toNat % 128 * 2 ^ (7 * i) ≤ 127 * 2 ^ (7 * i) := Nat.mul_le_mul_right _ (by omega)
          rw [hp]; omega
        have h64 : acc + c.toNat % 128 * 2 ^ (7 * i) < 18446744073709551616 := by
          rcases Nat.lt_or_ge i 9 with h9 | h9
          · have : 2 ^ (7 * (i + 1)) ≤ 2 ^ 63 := Nat.pow_le_pow_right (by omega) (by omega)
            omega
          · have h9 : i = 9 := by omega
            subst h9
            have : c.toNat ≤ 1 := by
              rcases Nat.lt_or_ge 1 c.toNat with h1 | h1
              · exact absurd (.inl ⟨rfl, h1⟩) hno
              · exact h1
            have := Nat.mul_le_mul_right (2 ^ (7 * 9)) (Nat.le_trans (Nat.mod_le c.toNat 128) this)
            rw [show (2 : Nat) ^ (7 * 9) = 9223372036854775808 by decide] at *
            omega
        have hw1 : IntKind.i64.wrap (((i : Nat) : Int) + 1) = ((i + 1 : Nat) : Int) := by rw [w64_in (by omega) (by omega)]; omega
        have hneg : negO (IntKind.u64.wrap (IntKind.i64.wrap (7 * (i : Int)))) = some () := by
          rw [w64_in (by omega) (by omega), show 7 * (i : Int) = ((7 * i : Nat) : Int) by omega, wu_nat (by omega)]
          unfold negO; rw [decide_eq_true (by omega)]; rfl
        have hnz : nzO (((128 : UInt8)).toNat : Int) = some () := rfl
        simp only [ref03_reading_number_j1, cond_false]
        rw [hnz, Option.bind_some, hneg, Option.bind_some, mod128, shl_sum h64 hi, hw1]
        by_cases h128 : c.toNat < 128
        · rw [if_pos h128, decide_eq_true (by rw [c128]; omega), cond_true]
          exact ⟨_, rfl, k + 1, hsr, rfl⟩
        · rw [if_neg h128, decide_eq_false (by rw [c128]; omega), cond_false]
          have hi8 : i + 1 ≤ 9 := by
            rcases Nat.lt_or_ge i 9 with h9 | h9
            · exact h9
            · exact absurd (.inl ⟨by omega, by omega⟩) hno
          exact num3_l hb ha hfr j (i + 1) _ (k + 1) r (by omega) hi8 hsr hlt
      by_cases hbad : (i = 9 ∧ 1 < c.toNat) ∨ (0 < i ∧ c.toNat = 0)
      · rw [if_pos hbad]
        by_cases h9 : i = 9
        · rw [show (((i : Nat) : Int) == 9) = true by simp; omega, cond_true, c1]
          by_cases hc1 : 1 < c.toNat
          · rw [decide_eq_true (by omega), cond_true]; exact hjt _ rfl
          · rw [decide_eq_false (by omega), cond_false, decide_eq_true (by omega), cond_true]
            exact hjt _ (by rw [c0]; simp; omega)
        · rw [show (((i : Nat) : Int) == 9) = false by simp; omega, cond_false, decide_eq_true (by omega), cond_true]
          exact hjt _ (by rw [c0]; simp; omega)
      · rw [if_neg hbad]
        by_cases h9 : i = 9
        · rw [show (((i : Nat) : Int) == 9) = true by simp; omega, cond_true, c1, decide_eq_false (by omega), cond_false, decide_eq_true (by omega), cond_true]
          exact hjf _ (by rw [c0]; simp; omega) hbad
        · rw [show (((i : Nat) : Int) == 9) = false by simp; omega, cond_false]
          by_cases h0 : 0 < i
          · rw [decide_eq_true (by omega), cond_true]; exact hjf _ (by rw [c0]; simp; omega) hbad
          · rw [decide_eq_false (by omega), cond_false]; exact hjf _ rfl hbad
theorem number3 {b r : Str} {k n : Nat} (h : Sx b k r) (hb : b.length ≤ 1099511627776) : An3 b (p_ref03_reading_number (g3 b k n)) (nmS r) (QN3 b n) := by
  have hl := h.len
  exact num3_l (a0 := g3 b k n) hb rfl (by omega) 10 0 0 k r rfl (by omega) h (by simp)
theorem long_lost {st : R3} {x y z : Int} (h : st.f_why ≠ 0) : p_ref03_reading_long st x y z = some (st, 0) := by
  simp only [p_ref03_reading_long]
  rw [number_lost h, Option.bind_some]
  simp only [eq_t h, cond_false, ref03_reading_long_j2, ref03_reading_long_j1]
theorem long3 {b r : Str} {k n part lim : Nat} {w : Int} (h : Sx b k r) (hb : b.length ≤ 1099511627776) (hw : w ≠ 0) : An3 b (p_ref03_reading_long (g3 b k n) (lim : Nat) ((b.length - part : Nat) : Int) w) ((nmS r).bind fun m r => if lim < m then .bad part w else .ok m r) (QN3 b n) := by
  simp only [p_ref03_reading_long]
  refine an3_bind (number3 h hb) ?_ ?_
  · rintro m r1 a hm ⟨k', hs, rfl⟩
    simp only [show ((0 : Int) == 0) = true from rfl, cond_true]
    by_cases hlt : lim < m
    · rw [if_pos hlt, decide_eq_true (by omega)]
      simp only [ref03_reading_long_j2, cond_true]
      rw [bad3, Option.bind_some]
      exact ⟨hw, _, rfl, rfl, rfl⟩
    · rw [if_neg hlt, decide_eq_false (by omega)]
      simp only [ref03_reading_long_j2, cond_false, ref03_reading_long_j1]
      exact ⟨_, rfl, k', hs, rfl⟩
  · intro a ha
    simp only [eq_t ha, cond_false, ref03_reading_long_j2, ref03_reading_long_j1]
    exact ⟨_, rfl, rfl⟩
theorem some_lost {st : R3} {x : Int} (h : st.f_why ≠ 0) : p_ref03_reading_some st x = some (st, []) := by
  simp only [p_ref03_reading_some]; rw [ne_t h]; rfl
theorem some3 {b r : Str} {k n m : Nat} (h : Sx b k r) (hb : b.length ≤ 1099511627776) (hm : m ≤ 1099511627776) : An3 b (p_ref03_reading_some (g3 b k n) (m : Nat)) (takeS m r) (fun s r' a => ∃ k', Sx b k' r' ∧ a = (g3 b k' n, s)) := by
  have hl := h.len
  simp only [p_ref03_reading_some, takeS, show ((0 : Int) != 0) = false from rfl, cond_false]
  have e0 : IntKind.u64.wrap (IntKind.i64.wrap (((b.length : Nat) : Int) - (k : Int))) = ((r.length : Nat) : Int) := by
    rw [w64_in (by omega) (by omega), show ((b.length : Nat) : Int) - (k : Int) = ((r.length : Nat) : Int) by omega, wu_nat (by omega)]
  rw [e0]
  by_cases hlt : r.length < m
  · rw [if_pos hlt, decide_eq_true (by omega), cond_true, bad3, Option.bind_some]
    exact ⟨by decide, _, rfl, rfl, rfl⟩
  · rw [if_neg hlt, decide_eq_false (by omega), cond_false]
    have e4 : IntKind.i64.wrap ((m : Nat) : Int) = ((m : Nat) : Int) := w64_in (by omega) (by omega)
    have e1 : IntKind.i64.wrap (((k : Nat) : Int) + ((m : Nat) : Int)) = ((k + m : Nat) : Int) := by rw [w64_in (by omega) (by omega)]; omega
    have e2 : IntKind.i64.wrap (((k + m : Nat) : Int) - ((m : Nat) : Int)) = ((k : Nat) : Int) := by rw [w64_in (by omega) (by omega)]; omega
    have e3 : cutO b ((k : Nat) : Int) ((k + m : Nat) : Int) = some (r.take m) := by
      unfold cutO
      rw [decide_eq_true (by omega), decide_eq_true (by omega), decide_eq_true (by omega)]
      simp only [Bool.and_self, cond_true, Int.toNat_natCast, Option.some.injEq]
      rw [List.drop_take, h.2]; congr 1; omega
    rw [e4, e1, e2, e3, Option.bind_some]
    refine ⟨_, rfl, k + m, ⟨by omega, ?_⟩, rfl⟩
    rw [← List.drop_drop, h.2]
theorem name_lost {st : R3} {x : Int} (h : st.f_why ≠ 0) : p_ref03_reading_name st x = some (st, []) := by
  simp only [p_ref03_reading_name]
  rw [long_lost h, Option.bind_some]
  simp only [eq_t h, cond_false, ref03_reading_name_j4, ref03_reading_name_j1]
  rw [show (⟨st.f_b, st.f_at, st.f_n, st.f_place, st.f_why⟩ : R3) = st from rfl, some_lost h, Option.bind_some]
  simp only [eq_t h, cond_false, ref03_reading_name_j3, ref03_reading_name_j2]
theorem name_tail {b : Str} {part : Nat} {x : R3 × Int} {st : R3} (h : st.f_why ≠ 0) : ∃ a', ref03_reading_name_j1 ((b.length - part : Nat) : Int) x st.f_b st.f_at st.f_n st.f_place st.f_why = some a' ∧ a'.1 = st := by
  simp only [ref03_reading_name_j1]
  rw [show (⟨st.f_b, st.f_at, st.f_n, st.f_place, st.f_why⟩ : R3) = st from rfl, some_lost h, Option.bind_some]
  simp only [eq_t h, cond_false, ref03_reading_name_j3, ref03_reading_name_j2]
  exact ⟨_, rfl, rfl⟩
theorem nameS_eq (part : Nat) (r : Str) : nameS part r = ((nmS r).bind fun m r => if 32 < m then .bad part 8 else .ok m r).bind fun m r => if m < 1 then .bad part 8 else (takeS m r).bind fun s r => if nameOk s then .ok s r else .bad part 8 := by
  unfold nameS
  cases nmS r with
  | bad p w => rfl
  | ok m r =>
    show (if m < 1 ∨ 32 < m then _ else _) = ((if 32 < m then (.bad part 8) else .ok m r : Rs Nat)).bind _
    by_cases h1 : 32 < m
    · rw [if_pos (.inr h1), if_pos h1]; rfl
    · rw [if_neg h1]
      show _ = (if m < 1 then _ else _)
      by_cases h2 : m < 1
      · rw [if_pos (.inl h2), if_pos h2]
      · rw [if_neg (by omega), if_neg h2]
theorem name3 {b r : Str} {k n part : Nat} (h : Sx b k r) (hb : b.length ≤ 1099511627776) : An3 b (p_ref03_reading_name (g3 b k n) ((b.length - part : Nat) : Int)) (nameS part r) (fun s r' a => ∃ k', Sx b k' r' ∧ a = (g3 b k' n, s)) := by
  rw [nameS_eq]
  simp only [p_ref03_reading_name]
  refine an3_bind (long3 (lim := 32) (w := 8) h hb (by decide)) ?_ ?_
  · rintro m r1 a hm ⟨k', hs, rfl⟩
    have hm32 : m ≤ 32 := by
      obtain ⟨y, r2, _, h2⟩ := bind_ok hm
      split at h2
      · cases h2
      · injection h2 with h2 _; omega
    simp only [show ((0 : Int) == 0) = true from rfl, cond_true]
    by_cases h1 : m < 1
    · rw [if_pos h1, show (((m : Nat) : Int) == 0) = true by simp; omega]
      simp only [ref03_reading_name_j4, cond_true]
      rw [bad3, Option.bind_some]
      obtain ⟨a', e1, e2⟩ := name_tail (b := b) (part := part) (x := (g3 b k' n, (m : Int))) (st := ⟨b, (k' : Nat), (n : Nat), ((b.length - part : Nat) : Int), 8⟩) (show (8 : Int) ≠ 0 by decide)
      exact ⟨by decide, a', e1, by rw [e2], by rw [e2]⟩
    · rw [if_neg h1, show (((m : Nat) : Int) == 0) = false by simp; omega]
      simp only [ref03_reading_name_j4, cond_false, ref03_reading_name_j1]
      refine an3_bind (some3 hs hb (by omega)) ?_ ?_
      · rintro s r2 a hs2 ⟨k2, hs3, rfl⟩
        simp only [show ((0 : Int) == 0) = true from rfl, cond_true, ref01_Name_eq, Option.bind_some]
        cases hn : nameOk s with
        | true =>
          simp only [Bool.not_true, ref03_reading_name_j3, cond_false, ref03_reading_name_j2]
          exact ⟨_, rfl, k2, hs3, rfl⟩
        | false =>
          simp only [Bool.not_false, ref03_reading_name_j3, cond_true]
          rw [bad3, Option.bind_some]
          simp only [ref03_reading_name_j2]
          exact ⟨by decide, _, rfl, rfl, rfl⟩
      · intro a ha
        simp only [eq_t ha, cond_false, ref03_reading_name_j3, ref03_reading_name_j2]
        exact ⟨_, rfl, rfl⟩
  · intro a ha
    simp only [eq_t ha, cond_false, ref03_reading_name_j4]
    exact name_tail ha
end Go.Proofs.Ytigadhiciinicaa
