/- The program's reader reads as the plain one does. -/
import Derived.Test.YtigadhiciinicaaW4
namespace Go.Proofs.Ytigadhiciinicaa
open Go Aw
set_option linter.unusedVariables false
set_option linter.unusedSimpArgs false
set_option maxRecDepth 8000
abbrev Rdr := S_wire_reader
abbrev Flt := S_wire_fault
def Ans {A B : Type} (b : Str) (o : Option (Xr (Flt × Rdr) A)) (s : Rs B) (Q : B → Str → A → Prop) : Prop := match s with
  | .ok x r => ∃ a, o = some (.ret a) ∧ Q x r a
  | .bad p w => ∃ st, o = some (.pan (⟨((b.length - p : Nat) : Int), w⟩, st))
theorem ans_bind {A B A' B' : Type} {b : Str} {o : Option (Xr (Flt × Rdr) A)} {s : Rs B} {Q : B → Str → A → Prop} {g : A → Option (Xr (Flt × Rdr) A')} {k : B → Str → Rs B'} {Q' : B' → Str → A' → Prop}
    (h : Ans b o s Q) (hk : ∀ x r a, s = .ok x r → Q x r a → Ans b (g a) (k x r) Q') : Ans b (xbind o (fun s => (s.1, (s.2))) g) (s.bind k) Q' := by
  cases s with
  | ok x r =>
    obtain ⟨a, h1, h2⟩ := h
    rw [h1, xbind_ret]
    exact hk x r a rfl h2
  | bad p w =>
    obtain ⟨st, h1⟩ := h
    rw [h1, xbind_pan]
    exact ⟨st, rfl⟩
theorem ans_mono {A B : Type} {b : Str} {o : Option (Xr (Flt × Rdr) A)} {s : Rs B} {Q Q' : B → Str → A → Prop} (h : Ans b o s Q) (hq : ∀ x r a, Q x r a → Q' x r a) : Ans b o s Q' := by
  cases s with
  | ok x r => obtain ⟨a, h1, h2⟩ := h; exact ⟨a, h1, hq _ _ _ h2⟩
  | bad p w => exact h
/-- From place k on stands r. -/
def Sx (b : Str) (k : Nat) (r : Str) : Prop := k ≤ b.length ∧ b.drop k = r
theorem Sx.len {b r : Str} {k : Nat} (h : Sx b k r) : b.length = k + r.length := by
  obtain ⟨h1, rfl⟩ := h
  rw [List.length_drop]; omega
theorem Sx.go {b r r' c : Str} {k : Nat} (h : Sx b k r) (he : r = c ++ r') : Sx b (k + c.length) r' := by
  have hl := h.len
  obtain ⟨h1, h2⟩ := h
  refine ⟨by rw [he, List.length_append] at hl; omega, ?_⟩
  rw [← List.drop_drop, h2, he, List.drop_left]
theorem Sx.head {b r : Str} {c : UInt8} {k : Nat} (h : Sx b k (c :: r)) : idxI b (k : Int) = some c := by
  rw [idxI_nat]
  have := congrArg List.head? h.2
  rw [List.head?_drop] at this
  simpa using this
theorem fail_eq (a0 : Rdr) (a1 a2 : Int) : p_wire_reader_fail a0 a1 a2 = some (.pan (⟨a1, a2⟩, a0)) := rfl
theorem byte_eq {b r : Str} {k n : Nat} {mk : Bool} (h : Sx b k r) (hb : b.length ≤ 1099511627776) : p_wire_reader_byte ⟨b, (k : Nat), (n : Nat), mk⟩ = match r with
    | [] => some (.pan (⟨(b.length : Nat), 4⟩, ⟨b, (k : Nat), (n : Nat), mk⟩))
    | c :: _ => some (.ret (c, ⟨b, ((k + 1 : Nat) : Int), (n : Nat), mk⟩)) := by
  have hl := h.len
  cases r with
  | nil =>
    simp only [List.length_nil] at hl
    simp only [p_wire_reader_byte]
    rw [show (((k : Nat) : Int) == ((b.length : Nat) : Int)) = true by simp; omega, cond_true, fail_eq, xbind_pan]
    simp only []
    rw [show (k : Nat) = b.length by omega]
  | cons c r =>
    simp only [List.length_cons] at hl
    simp only [p_wire_reader_byte]
    rw [show (((k : Nat) : Int) == ((b.length : Nat) : Int)) = false by simp; omega, cond_false, h.head, Option.bind_some, w64_in (by omega) (by omega)]
    rfl
abbrev QN (b : Str) (n : Nat) (mk : Bool) : Nat → Str → (Int × Rdr) → Prop := fun m r' a => ∃ k', Sx b k' r' ∧ a = ((m : Int), ⟨b, ((k' : Nat) : Int), (n : Nat), mk⟩)
theorem num_l {b : Str} {n k0 fr : Nat} {mk : Bool} {a0 : Rdr} (hb : b.length ≤ 1099511627776) (ha : a0.f_at = ((k0 : Nat) : Int)) (hfr : k0 = b.length - fr) : ∀ (j i acc k : Nat) (r : Str), j + i = 10 → i ≤ 9 → Sx b k r → acc < 2 ^ (7 * i) →
    Ans b (wire_reader_number_l1 a0 (acc : Nat) (i : Nat) b (k : Nat) (n : Nat) mk) (numS fr j i acc r) (QN b n mk)
  | 0, i, acc, k, r, hj, hi, hs, hacc => by omega
  | j + 1, i, acc, k, r, hj, hi, hs, hacc => by
    rw [wire_reader_number_l1_eq]
    simp only [wire_reader_number_l1b]
    rw [byte_eq hs hb]
    cases r with
    | nil =>
      rw [xbind_pan, numS]
      exact ⟨_, rfl⟩
    | cons c r =>
      have hc := c.toNat_lt
      have hsr := hs.go (c := [c]) (r' := r) rfl
      simp only []
      rw [xbind_ret, numS]
      dsimp only
      have hw : IntKind.i64.wrap (7 * ((i : Nat) : Int)) = ((7 * i : Nat) : Int) := by rw [w64_in (by omega) (by omega)]; omega
      have hw1 : IntKind.i64.wrap (((i : Nat) : Int) + 1) = ((i + 1 : Nat) : Int) := by rw [w64_in (by omega) (by omega)]; omega
      have hneg : negO ((7 * i : Nat) : Int) = some () := by unfold negO; rw [decide_eq_true (by omega)]; rfl
      have c1 : (((1 : UInt8)).toNat : Int) = 1 := rfl
      have c0 : (((0 : UInt8)).toNat : Int) = 0 := rfl
      have c128 : (((128 : UInt8)).toNat : Int) = 128 := rfl
      -- behind the question
      have hjt : ∀ s : Bool, s = true → Ans b (wire_reader_number_j1 (wire_reader_number_l1 a0) a0 (acc : Nat) (i : Nat) (c, ⟨b, ((k + 1 : Nat) : Int), (n : Nat), mk⟩) s) (.bad fr 31 : Rs Nat) (QN b n mk) := by
        intro s hs'
        subst hs'
        simp only [wire_reader_number_j1, cond_true, fail_eq, xbind_pan]
        exact ⟨_, by rw [ha, hfr]⟩
      have hjf : ∀ s : Bool, s = false → ¬ ((i = 9 ∧ 1 < c.toNat) ∨ (0 < i ∧ c.toNat = 0)) → Ans b (wire_reader_number_j1 (wire_reader_number_l1 a0) a0 (acc : Nat) (i : Nat) (c, ⟨b, ((k + 1 : Nat) : Int), (n : Nat), mk⟩) s)
          (if c.toNat < 128 then .ok (acc + c.toNat % 128 * 2 ^ (7 * i)) r else numS fr j (i + 1) (acc + c.toNat % 128 * 2 ^ (7 * i)) r) (QN b n mk) := by
        intro s hs' hno
        subst hs'
        have hp : 2 ^ (7 * (i + 1)) = 128 * 2 ^ (7 * i) := by rw [show 7 * (i + 1) = 7 * i + 7 by omega, Nat.pow_add, Nat.mul_comm]
        have hlt : acc + c.toNat % 128 * 2 ^ (7 * i) < 2 ^ (7 * (i + 1)) := by
          have h7 : c.toNat % 128 * 2 ^ (7 * i) ≤ 127 * 2 ^ (7 * i) := Nat.mul_le_mul_right _ (by omega)
          rw [hp]; omega
        have h64 : acc + c.toNat % 128 * 2 ^ (7 * i) < 18446744073709551616 := by
          rcases Nat.lt_or_ge i 9 with h9 | h9
          · have : 2 ^ (7 * (i + 1)) ≤ 2 ^ 63 := Nat.pow_le_pow_right (by omega) (by omega)
            omega
          · have h9 : i = 9 := by omega
            subst h9
            have : c.toNat ≤ 1 := by
              rcases Nat.lt_or_ge 1 c.toNat with h1 | h1
              · exact absurd (.inl ⟨rfl, h1⟩) hno
              · exact h1
            have := Nat.mul_le_mul_right (2 ^ (7 * 9)) (Nat.le_trans (Nat.mod_le c.toNat 128) this)
            rw [show (2 : Nat) ^ (7 * 9) = 9223372036854775808 by decide] at *
            omega
        have hor : orK .u64 ((acc : Nat) : Int) (shlK .u64 (((UInt8.ofInt (andR .u8 (c.toNat : Int) (((127 : UInt8)).toNat : Int)))).toNat : Int) ((7 * i : Nat) : Int)) = ((acc + c.toNat % 128 * 2 ^ (7 * i) : Nat) : Int) := by
          rw [and127]; exact or_add hacc h64 (by omega)
        simp only [wire_reader_number_j1, cond_false, hw, hneg, Option.bind_some, c128, hor, hw1]
        by_cases h128 : c.toNat < 128
        · rw [if_pos h128, decide_eq_true (by omega), cond_true]
          exact ⟨_, rfl, k + 1, hsr, rfl⟩
        · rw [if_neg h128, decide_eq_false (by omega), cond_false]
          have hi8 : i + 1 ≤ 9 := by
            rcases Nat.lt_or_ge i 9 with h9 | h9
            · exact h9
            · exact absurd (.inl ⟨by omega, by omega⟩) hno
          exact num_l hb ha hfr j (i + 1) _ (k + 1) r (by omega) hi8 hsr hlt
      by_cases hbad : (i = 9 ∧ 1 < c.toNat) ∨ (0 < i ∧ c.toNat = 0)
      · rw [if_pos hbad]
        by_cases h9 : i = 9
        · rw [show (((i : Nat) : Int) == 9) = true by simp; omega, cond_true, c1]
          by_cases hc1 : 1 < c.toNat
          · rw [decide_eq_true (by omega), cond_true]; exact hjt _ rfl
          · rw [decide_eq_false (by omega), cond_false, decide_eq_true (by omega), cond_true]
            exact hjt _ (by rw [c0]; simp; omega)
        · rw [show (((i : Nat) : Int) == 9) = false by simp; omega, cond_false, decide_eq_true (by omega), cond_true]
          exact hjt _ (by rw [c0]; simp; omega)
      · rw [if_neg hbad]
        by_cases h9 : i = 9
        · rw [show (((i : Nat) : Int) == 9) = true by simp; omega, cond_true, c1, decide_eq_false (by omega), cond_false, decide_eq_true (by omega), cond_true]
          exact hjf _ (by rw [c0]; simp; omega) hbad
        · rw [show (((i : Nat) : Int) == 9) = false by simp; omega, cond_false]
          by_cases h0 : 0 < i
          · rw [decide_eq_true (by omega), cond_true]; exact hjf _ (by rw [c0]; simp; omega) hbad
          · rw [decide_eq_false (by omega), cond_false]; exact hjf _ rfl hbad
theorem number_eq {b r : Str} {k n : Nat} {mk : Bool} (h : Sx b k r) (hb : b.length ≤ 1099511627776) : Ans b (p_wire_reader_number ⟨b, (k : Nat), (n : Nat), mk⟩) (nmS r) (QN b n mk) := by
  have hl := h.len
  exact num_l (a0 := ⟨b, (k : Nat), (n : Nat), mk⟩) hb rfl (by omega) 10 0 0 k r rfl (by omega) h (by simp)
theorem take_eq {b r : Str} {k n m : Nat} {mk : Bool} (h : Sx b k r) (hb : b.length ≤ 1099511627776) (hm : m ≤ 1099511627776) : Ans b (p_wire_reader_take ⟨b, (k : Nat), (n : Nat), mk⟩ (m : Nat)) (takeS m r) (fun s r' a => ∃ k', Sx b k' r' ∧ a = (s, ⟨b, ((k' : Nat) : Int), (n : Nat), mk⟩)) := by
  have hl := h.len
  simp only [p_wire_reader_take, takeS]
  rw [w64_in (by omega) (by omega)]
  by_cases hlt : r.length < m
  · rw [if_pos hlt, decide_eq_true (by omega), cond_true, fail_eq, xbind_pan]
    exact ⟨_, rfl⟩
  · rw [if_neg hlt, decide_eq_false (by omega), cond_false]
    have e1 : IntKind.i64.wrap (((k : Nat) : Int) + ((m : Nat) : Int)) = ((k + m : Nat) : Int) := by rw [w64_in (by omega) (by omega)]; omega
    have e2 : IntKind.i64.wrap (((k + m : Nat) : Int) - ((m : Nat) : Int)) = ((k : Nat) : Int) := by rw [w64_in (by omega) (by omega)]; omega
    have e3 : cutO b ((k : Nat) : Int) ((k + m : Nat) : Int) = some (r.take m) := by
      unfold cutO
      rw [decide_eq_true (by omega), decide_eq_true (by omega), decide_eq_true (by omega)]
      simp only [Bool.and_self, cond_true, Int.toNat_natCast, Option.some.injEq]
      rw [List.drop_take, h.2]; congr 1; omega
    rw [e1, e2, e3, Option.bind_some]
    refine ⟨_, rfl, k + m, ⟨by omega, ?_⟩, rfl⟩
    rw [← List.drop_drop, h.2]
theorem most_eq {b r : Str} {k n part lim : Nat} {mk : Bool} (h : Sx b k r) (hb : b.length ≤ 1099511627776) (hlim : lim ≤ 65536) (hp : part ≤ b.length) : Ans b (p_wire_reader_most ⟨b, (k : Nat), (n : Nat), mk⟩ ((b.length - part : Nat) : Int) (lim : Nat)) (mostS part lim r) (QN b n mk) := by
  simp only [p_wire_reader_most, mostS]
  refine ans_bind (number_eq h hb) ?_
  rintro m r1 a hm ⟨k', hs, rfl⟩
  simp only []
  rw [wu_nat (by omega)]
  by_cases hlt : lim < m
  · rw [if_pos hlt, decide_eq_true (by omega), cond_true, fail_eq, xbind_pan]
    exact ⟨_, rfl⟩
  · rw [if_neg hlt, decide_eq_false (by omega), cond_false, w64_in (by omega) (by omega)]
    exact ⟨_, rfl, k', hs, rfl⟩
theorem check_oneW (s : Str) : (checkF (.dict [(s, .nil)])).2 = if nameOk s then 0 else 8 := by
  have ho : ∀ n d, n < 16384 → d ≤ 64 → ownE (.dict [(s, .nil)]) n d = if nameOk s then 0 else 8 := by
    intro n d h1 h2
    have : ¬ (16384 ≤ n ∨ 64 < d) := by omega
    simp only [ownE, if_neg this, nearE, fieldsE, List.map_cons, List.map_nil, List.length_cons, List.length_nil, risen, Bool.and_true]
    rfl
  have hn : ownE .nil 1 2 = 0 := rfl
  unfold checkF
  rw [partF_eq, ho 0 1 (by omega) (by omega)]
  cases nameOk s with
  | true =>
    simp only [if_true, V.parts, List.map_cons, List.map_nil, partsF_cons, partsF_nil]
    rw [partF_eq]
    simp [V.parts, partsF_nil, ownE, nearE]
  | false => simp
theorem name_eq {b r : Str} {k n part : Nat} {mk : Bool} (h : Sx b k r) (hb : b.length ≤ 1099511627776) (hp : part ≤ b.length) : Ans b (p_wire_reader_name ⟨b, (k : Nat), (n : Nat), mk⟩ ((b.length - part : Nat) : Int)) (nameS part r) (fun s r' a => ∃ k', Sx b k' r' ∧ a = (s, ⟨b, ((k' : Nat) : Int), (n : Nat), mk⟩)) := by
  simp only [p_wire_reader_name, nameS]
  refine ans_bind (number_eq h hb) ?_
  rintro m r1 a hm ⟨k', hs, rfl⟩
  obtain ⟨_, hm64⟩ := nmS_inv hm
  simp only []
  by_cases hbad : m < 1 ∨ 32 < m
  · rw [if_pos hbad]
    have hj : ∀ s : Bool, s = true → Ans b (wire_reader_name_j1 ((b.length - part : Nat) : Int) ((m : Int), (⟨b, ((k' : Nat) : Int), (n : Nat), mk⟩ : Rdr)) s) (.bad part 8 : Rs Str) (fun s r' a => ∃ k', Sx b k' r' ∧ a = (s, ⟨b, ((k' : Nat) : Int), (n : Nat), mk⟩)) := by
      intro s hs'
      subst hs'
      simp only [wire_reader_name_j1, cond_true, fail_eq, xbind_pan]
      exact ⟨_, rfl⟩
    by_cases h1 : m < 1
    · rw [decide_eq_true (by omega), cond_true]; exact hj _ rfl
    · rw [decide_eq_false (by omega), cond_false]; exact hj _ (decide_eq_true (by omega))
  · rw [if_neg hbad, decide_eq_false (by omega), cond_false, decide_eq_false (by omega)]
    simp only [wire_reader_name_j1, cond_false]
    rw [w64_in (by omega) (by omega)]
    refine ans_bind (take_eq hs hb (by omega)) ?_
    rintro s r2 a hs2 ⟨k2, hs3, rfl⟩
    simp only [value_Check_eq, Option.bind_some, check_oneW]
    cases hn : nameOk s with
    | true => exact ⟨_, rfl, k2, hs3, rfl⟩
    | false => exact ⟨_, rfl⟩
end Go.Proofs.Ytigadhiciinicaa
