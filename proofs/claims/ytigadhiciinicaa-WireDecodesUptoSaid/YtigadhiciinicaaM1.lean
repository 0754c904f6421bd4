/- Plain laws, one behind the other. -/
import Derived.Test.YtigadhiciinicaaM0
namespace Go.Proofs.Ytigadhiciinicaa
open Go Aw
set_option linter.unusedVariables false
set_option linter.unusedSimpArgs false
set_option maxRecDepth 8000
abbrev Rdr := S_wire_reader
abbrev Flt := S_wire_fault
def Ans {A B : Type} (b : Str) (o : Option (Xr (Flt × Rdr) A)) (s : Rs B) (Q : B → Str → A → Prop) : Prop := match s with
  | .ok x r => ∃ a, o = some (.ret a) ∧ Q x r a
  | .bad p w => ∃ st, o = some (.pan (⟨((b.length - p : Nat) : Int), w⟩, st))
theorem ans_bind {A B A' B' : Type} {b : Str} {o : Option (Xr (Flt × Rdr) A)} {s : Rs B} {Q : B → Str → A → Prop} {g : A → Option (Xr (Flt × Rdr) A')} {k : B → Str → Rs B'} {Q' : B' → Str → A' → Prop}
    (h : Ans b o s Q) (hk : ∀ x r a, s = .ok x r → Q x r a → Ans b (g a) (k x r) Q') : Ans b (xbind o (fun s => (s.1, (s.2))) g) (s.bind k) Q' := by
  cases s with
  | ok x r =>
    obtain ⟨a, h1, h2⟩ := h
    rw [h1, xbind_ret]
    exact hk x r a rfl h2
  | bad p w =>
    obtain ⟨st, h1⟩ := h
    rw [h1, xbind_pan]
    exact ⟨st, rfl⟩
theorem ans_mono {A B : Type} {b : Str} {o : Option (Xr (Flt × Rdr) A)} {s : Rs B} {Q Q' : B → Str → A → Prop} (h : Ans b o s Q) (hq : ∀ x r a, Q x r a → Q' x r a) : Ans b o s Q' := by
  cases s with
  | ok x r => obtain ⟨a, h1, h2⟩ := h; exact ⟨a, h1, hq _ _ _ h2⟩
  | bad p w => exact h
/-- From place k on stands r. -/
def Sx (b : Str) (k : Nat) (r : Str) : Prop := k ≤ b.length ∧ b.drop k = r
theorem Sx.len {b r : Str} {k : Nat} (h : Sx b k r) : b.length = k + r.length := by
  obtain ⟨h1, rfl⟩ := h
  rw [List.length_drop]; omega
theorem Sx.go {b r r' c : Str} {k : Nat} (h : Sx b k r) (he : r = c ++ r') : Sx b (k + c.length) r' := by
  have hl := h.len
  obtain ⟨h1, h2⟩ := h
  refine ⟨by rw [he, List.length_append] at hl; omega, ?_⟩
  rw [← List.drop_drop, h2, he, List.drop_left]
theorem Sx.head {b r : Str} {c : UInt8} {k : Nat} (h : Sx b k (c :: r)) : idxI b (k : Int) = some c := by
  rw [idxI_nat]
  have := congrArg List.head? h.2
  rw [List.head?_drop] at this
  simpa using this
theorem fail_eq (a0 : Rdr) (a1 a2 : Int) : p_wire_reader_fail a0 a1 a2 = some (.pan (⟨a1, a2⟩, a0)) := rfl
theorem byte_eq {b r : Str} {k n : Nat} {mk : Bool} (h : Sx b k r) (hb : b.length ≤ 1099511627776) : p_wire_reader_byte ⟨b, (k : Nat), (n : Nat), mk⟩ = match r with
    | [] => some (.pan (⟨(b.length : Nat), 4⟩, ⟨b, (k : Nat), (n : Nat), mk⟩))
    | c :: _ => some (.ret (c, ⟨b, ((k + 1 : Nat) : Int), (n : Nat), mk⟩)) := by
  have hl := h.len
  cases r with
  | nil =>
    simp only [List.length_nil] at hl
    simp only [p_wire_reader_byte]
    rw [show (((k : Nat) : Int) == ((b.length : Nat) : Int)) = true by simp; omega, cond_true, fail_eq, xbind_pan]
    simp only []
    rw [show (k : Nat) = b.length by omega]
  | cons c r =>
    simp only [List.length_cons] at hl
    simp only [p_wire_reader_byte]
    rw [show (((k : Nat) : Int) == ((b.length : Nat) : Int)) = false by simp; omega, cond_false, h.head, Option.bind_some, w64_in (by omega) (by omega)]
    rfl
abbrev QN (b : Str) (n : Nat) (mk : Bool) : Nat → Str → (Int × Rdr) → Prop := fun m r' a => ∃ k', Sx b k' r' ∧ a = ((m : Int), ⟨b, ((k' : Nat) : Int), (n : Nat), mk⟩)
theorem num_l {b : Str} {n k0 fr : Nat} {mk : Bool} {a0 : Rdr} (hb : b.length ≤ 1099511627776) (ha : a0.f_at = ((k0 : Nat) : Int)) (hfr : k0 = b.length - fr) : ∀ (j i acc k : Nat) (r : Str), j + i = 10 → i ≤ 9 → Sx b k r → acc < 2 ^ (7 * i) →
    Ans b (wire_reader_number_l1 a0 (acc : Nat) (i : Nat) b (k : Nat) (n : Nat) mk) (numS fr j i acc r) (QN b n mk)
  | 0, i, acc, k, r, hj, hi, hs, hacc => by omega
  | j + 1, i, acc, k, r, hj, hi, hs, hacc => by
    rw [wire_reader_number_l1_eq]
    simp only [wire_reader_number_l1b]
    rw [byte_eq hs hb]
    cases r with
    | nil =>
      rw [xbind_pan, numS]
      exact ⟨_, rfl⟩
    | cons c r =>
      have hc := c.toNat_lt
      have hsr := hs.go (c := [c]) (r' := r) rfl
      simp only []
      rw [xbind_ret, numS]
      dsimp only
      have hw : IntKind.i64.wrap (7 * ((i : Nat) : Int)) = ((7 * i : Nat) : Int) := by rw [w64_in (by omega) (by omega)]; omega
      have hw1 : IntKind.i64.wrap (((i : Nat) : Int) + 1) = ((i + 1 : Nat) : Int) := by rw [w64_in (by omega) (by omega)]; omega
      have hneg : negO ((7 * i : Nat) : Int) = some () := by unfold negO; rw [decide_eq_true (by omega)]; rfl
      have c1 : (((1 : UInt8)).toNat : Int) = 1 := rfl
      have c0 : (((0 : UInt8)).toNat : Int) = 0 := rfl
      have c128 : (((128 : UInt8)).toNat : Int) = 128 := rfl
      -- behind the question
      have hjt : ∀ s : Bool, s = true → Ans b (wire_reader_number_j1 (wire_reader_number_l1 a0) a0 (acc : Nat) (i : Nat) (c, ⟨b, ((k + 1 : Nat) : Int), (n : Nat), mk⟩) s) (.bad fr 31 : Rs Nat) (QN b n mk) := by
        intro s hs'
        subst hs'
        simp only [wire_reader_number_j1, cond_true, fail_eq, xbind_pan]
        exact ⟨_, by rw [ha, hfr]⟩
      have hjf : ∀ s : Bool, s = false → ¬ ((i = 9 ∧ 1 < c.toNat) ∨ (0 < i ∧ c.toNat = 0)) → Ans b (wire_reader_number_j1 (wire_reader_number_l1 a0) a0 (acc : Nat) (i : Nat) (c, ⟨b, ((k + 1 : Nat) : Int), (n : Nat), mk⟩) s)
          (if c.toNat < 128 then .ok (acc + c.toNat % 128 * 2 ^ (7 * i)) r else numS fr j (i + 1) (acc + c.toNat % 128 * 2 ^ (7 * i)) r) (QN b n mk) := by
        intro s hs' hno
        subst hs'
        have hp : 2 ^ (7 * (i + 1)) = 128 * 2 ^ (7 * i) := by rw [show 7 * (i + 1) = 7 * i + 7 by omega, Nat.pow_add, Nat.mul_comm]
        have hlt : acc + c.toNat % 128 * 2 ^ (7 * i) < 2 ^ (7 * (i + 1)) := by
          have h7 : c.toNat % 128 * 2 ^ (7 * i) ≤ 127 * 2 ^ (7 * i) := Nat.mul_le_mul_right _ (by omega)
          rw [hp]; omega
        have h64 : acc + c.toNat % 128 * 2 ^ (7 * i) < 18446744073709551616 := by
          rcases Nat.lt_or_ge i 9 with h9 | h9
          · have : 2 ^ (7 * (i + 1)) ≤ 2 ^ 63 := Nat.pow_le_pow_right (by omega) (by omega)
            omega
          · have h9 : i = 9 := by omega
            subst h9
            have : c.toNat ≤ 1 := by
              rcases Nat.lt_or_ge 1 c.toNat with h1 | h1
              · exact absurd (.inl ⟨rfl, h1⟩) hno
              · exact h1
            have := Nat.mul_le_mul_right (2 ^ (7 * 9)) (Nat.le_trans (Nat.mod_le c.toNat 128) this)
            rw [show (2 : Nat) ^ (7 * 9) = 9223372036854775808 by decide] at *
            omega
        have hor : orK .u64 ((acc : Nat) : Int) (shlK .u64 (((UInt8.ofInt (andR .u8 (c.toNat : Int) (((127 : UInt8)).toNat : Int)))).toNat : Int) ((7 * i : Nat) : Int)) = ((acc + c.toNat % 128 * 2 ^ (7 * i) : Nat) : Int) := by
          rw [and127]; exact or_add hacc h64 (by omega)
        simp only [wire_reader_number_j1, cond_false, hw, hneg, Option.bind_some, c128, hor, hw1]
        by_cases h128 : c.toNat < 128
        · rw [if_pos h128, decide_eq_true (by omega), cond_true]
          exact ⟨_, rfl, k + 1, hsr, rfl⟩
        · rw [if_neg h128, decide_eq_false (by omega), cond_false]
          have hi8 : i + 1 ≤ 9 := by
            rcases Nat.lt_or_ge i 9 with h9 | h9
            · exact h9
            · exact absurd (.inl ⟨by omega, by omega⟩) hno
          exact num_l hb ha hfr j (i + 1) _ (k + 1) r (by omega) hi8 hsr hlt
      by_cases hbad : (i = 9 ∧ 1 < c.toNat) ∨ (0 < i ∧ c.toNat = 0)
      · rw [if_pos hbad]
        by_cases h9 : i = 9
        · rw [show (((i : Nat) : Int) == 9) = true by simp; omega, cond_true, c1]
          by_cases hc1 : 1 < c.toNat
          · rw [decide_eq_true (by omega), cond_true]; exact hjt _ rfl
          · rw [decide_eq_false (by omega), cond_false, decide_eq_true (by omega), cond_true]
            exact hjt _ (by rw [c0]; simp; omega)
        · rw [show (((i : Nat) : Int) == 9) = false by simp; omega, cond_false, decide_eq_true (by omega), cond_true]
          exact hjt _ (by rw [c0]; simp; omega)
      · rw [if_neg hbad]
        by_cases h9 : i = 9
        · rw [show (((i : Nat) : Int) == 9) = true by simp; omega, cond_true, c1, decide_eq_false (by omega), cond_false, decide_eq_true (by omega), cond_true]
          exact hjf _ (by rw [c0]; simp; omega) hbad
        · rw [show (((i : Nat) : Int) == 9) = false by simp; omega, cond_false]
          by_cases h0 : 0 < i
          · rw [decide_eq_true (by omega), cond_true]; exact hjf _ (by rw [c0]; simp; omega) hbad
          · rw [decide_eq_false (by omega), cond_false]; exact hjf _ rfl hbad
theorem number_eq {b r : Str} {k n : Nat} {mk : Bool} (h : Sx b k r) (hb : b.length ≤ 1099511627776) : Ans b (p_wire_reader_number ⟨b, (k : Nat), (n : Nat), mk⟩) (nmS r) (QN b n mk) := by
  have hl := h.len
  exact num_l (a0 := ⟨b, (k : Nat), (n : Nat), mk⟩) hb rfl (by omega) 10 0 0 k r rfl (by omega) h (by simp)
theorem take_eq {b r : Str} {k n m : Nat} {mk : Bool} (h : Sx b k r) (hb : b.length ≤ 1099511627776) (hm : m ≤ 1099511627776) : Ans b (p_wire_reader_take ⟨b, (k : Nat), (n : Nat), mk⟩ (m : Nat)) (takeS m r) (fun s r' a => ∃ k', Sx b k' r' ∧ a = (s, ⟨b, ((k' : Nat) : Int), (n : Nat), mk⟩)) := by
  have hl := h.len
  simp only [p_wire_reader_take, takeS]
  rw [w64_in (by omega) (by omega)]
  by_cases hlt : r.length < m
  · rw [if_pos hlt, decide_eq_true (by omega), cond_true, fail_eq, xbind_pan]
    exact ⟨_, rfl⟩
  · rw [if_neg hlt, decide_eq_false (by omega), cond_false]
    have e1 : IntKind.i64.wrap (((k : Nat) : Int) + ((m : Nat) : Int)) = ((k + m : Nat) : Int) := by rw [w64_in (by omega) (by omega)]; omega
    have e2 : IntKind.i64.wrap (((k + m : Nat) : Int) - ((m : Nat) : Int)) = ((k : Nat) : Int) := by rw [w64_in (by omega) (by omega)]; omega
    have e3 : cutO b ((k : Nat) : Int) ((k + m : Nat) : Int) = some (r.take m) := by
      unfold cutO
      rw [decide_eq_true (by omega), decide_eq_true (by omega), decide_eq_true (by omega)]
      simp only [Bool.and_self, cond_true, Int.toNat_natCast, Option.some.injEq]
      rw [List.drop_take, h.2]; congr 1; omega
    rw [e1, e2, e3, Option.bind_some]
    refine ⟨_, rfl, k + m, ⟨by omega, ?_⟩, rfl⟩
    rw [← List.drop_drop, h.2]
theorem most_eq {b r : Str} {k n part lim : Nat} {mk : Bool} (h : Sx b k r) (hb : b.length ≤ 1099511627776) (hlim : lim ≤ 65536) (hp : part ≤ b.length) : Ans b (p_wire_reader_most ⟨b, (k : Nat), (n : Nat), mk⟩ ((b.length - part : Nat) : Int) (lim : Nat)) (mostS part lim r) (QN b n mk) := by
  simp only [p_wire_reader_most, mostS]
  refine ans_bind (number_eq h hb) ?_
  rintro m r1 a hm ⟨k', hs, rfl⟩
  simp only []
  rw [wu_nat (by omega)]
  by_cases hlt : lim < m
  · rw [if_pos hlt, decide_eq_true (by omega), cond_true, fail_eq, xbind_pan]
    exact ⟨_, rfl⟩
  · rw [if_neg hlt, decide_eq_false (by omega), cond_false, w64_in (by omega) (by omega)]
    exact ⟨_, rfl, k', hs, rfl⟩
theorem check_oneW (s : Str) : (checkF (.dict [(s, .nil)])).2 = if nameOk s then 0 else 8 := by
  have ho : ∀ n d, n < 16384 → d ≤ 64 → ownE (.dict [(s, .nil)]) n d = if nameOk s then 0 else 8 := by
    intro n d h1 h2
    have : ¬ (16384 ≤ n ∨ 64 < d) := by omega
    simp only [ownE, if_neg this, nearE, fieldsE, List.map_cons, List.map_nil, List.length_cons, List.length_nil, risen, Bool.and_true]
    rfl
  have hn : ownE .nil 1 2 = 0 := rfl
  unfold checkF
  rw [partF_eq, ho 0 1 (by omega) (by omega)]
  cases nameOk s with
  | true =>
    simp only [if_true, V.parts, List.map_cons, List.map_nil, partsF_cons, partsF_nil]
    rw [partF_eq]
    simp [V.parts, partsF_nil, ownE, nearE]
  | false => simp
theorem name_eq {b r : Str} {k n part : Nat} {mk : Bool} (h : Sx b k r) (hb : b.length ≤ 1099511627776) (hp : part ≤ b.length) : Ans b (p_wire_reader_name ⟨b, (k : Nat), (n : Nat), mk⟩ ((b.length - part : Nat) : Int)) (nameS part r) (fun s r' a => ∃ k', Sx b k' r' ∧ a = (s, ⟨b, ((k' : Nat) : Int), (n : Nat), mk⟩)) := by
  simp only [p_wire_reader_name, nameS]
  refine ans_bind (number_eq h hb) ?_
  rintro m r1 a hm ⟨k', hs, rfl⟩
  obtain ⟨_, hm64⟩ := nmS_inv hm
  simp only []
  by_cases hbad : m < 1 ∨ 32 < m
  · rw [if_pos hbad]
    have hj : ∀ s : Bool, s = true → Ans b (wire_reader_name_j1 ((b.length - part : Nat) : Int) ((m : Int), (⟨b, ((k' : Nat) : Int), (n : Nat), mk⟩ : Rdr)) s) (.bad part 8 : Rs Str) (fun s r' a => ∃ k', Sx b k' r' ∧ a = (s, ⟨b, ((k' : Nat) : Int), (n : Nat), mk⟩)) := by
      intro s hs'
      subst hs'
      simp only [wire_reader_name_j1, cond_true, fail_eq, xbind_pan]
      exact ⟨_, rfl⟩
    by_cases h1 : m < 1
    · rw [decide_eq_true (by omega), cond_true]; exact hj _ rfl
    · rw [decide_eq_false (by omega), cond_false]; exact hj _ (decide_eq_true (by omega))
  · rw [if_neg hbad, decide_eq_false (by omega), cond_false, decide_eq_false (by omega)]
    simp only [wire_reader_name_j1, cond_false]
    rw [w64_in (by omega) (by omega)]
    refine ans_bind (take_eq hs hb (by omega)) ?_
    rintro s r2 a hs2 ⟨k2, hs3, rfl⟩
    simp only [value_Check_eq, Option.bind_some, check_oneW]
    cases hn : nameOk s with
    | true => exact ⟨_, rfl, k2, hs3, rfl⟩
    | false => exact ⟨_, rfl⟩
end Go.Proofs.Ytigadhiciinicaa

namespace Go.Proofs.Ytigadhiciinicaa
open Go Aw
set_option linter.unusedVariables false
set_option linter.unusedSimpArgs false
set_option maxRecDepth 8000
theorem ans_mapr {A A' B B' : Type} {b : Str} {o : Option (Xr (Flt × Rdr) A)} {s : Rs B} {Q : B → Str → A → Prop} {g : B → B'} {k : A → Option (Xr (Flt × Rdr) A')} {Q' : B' → Str → A' → Prop} (h : Ans b o s Q)
    (hk : ∀ x r a, Q x r a → ∃ a', k a = some (.ret a') ∧ Q' (g x) r a') : Ans b (xbind o (fun s => (s.1, (s.2))) k) (s.bind fun x r => .ok (g x) r) Q' :=
  ans_bind h (fun x r a _ hq => hk x r a hq)
theorem ans_map1 {A B B' : Type} {b : Str} {o : Option (Xr (Flt × Rdr) A)} {s : Rs B} {Q : B → Str → A → Prop} {g : B → B'} {Q' : B' → Str → A → Prop} (h : Ans b o s Q)
    (hk : ∀ x r a, Q x r a → Q' (g x) r a) : Ans b o (s.bind fun x r => .ok (g x) r) Q' := by
  cases s with
  | ok x r => obtain ⟨a, h1, h2⟩ := h; exact ⟨a, h1, hk _ _ _ h2⟩
  | bad p w => exact h
/-- A value is made. -/
def MkP (mk : Bool) : Prop := mk = true
abbrev QV (b : Str) (mk : Bool) : V × Nat → Str → (V × Rdr) → Prop := fun x r' a => ∃ k' v, Sx b k' r' ∧ x.2 ≤ 16384 ∧ (MkP mk → v = x.1) ∧ a = (v, ⟨b, ((k' : Nat) : Int), (x.2 : Nat), mk⟩)
def VOK (b : Str) (mk : Bool) (f : Nat → Str → Rs (V × Nat)) (a1 : Int) : Prop := ∀ (k n : Nat) (r : Str), Sx b k r → n ≤ 16384 → Ans b (p_wire_reader_value ⟨b, (k : Nat), (n : Nat), mk⟩ a1) (f n r) (QV b mk)
theorem items_l {b : Str} {mk : Bool} {f : Nat → Str → Rs (V × Nat)} {a2 : Int} {x1 : Int × Rdr} {m : Nat} (hx : x1.1 = (m : Nat)) (hm : m ≤ 4096) (hf : VOK b mk f (IntKind.i64.wrap (a2 + 1))) : ∀ (j i : Nat) (acc : List V) (k n : Nat) (r : Str), i + j = m → acc.length ≤ i → Sx b k r → n ≤ 16384 →
    Ans b (wire_reader_list_l1 p_wire_reader_value a2 x1 acc (i : Nat) b (k : Nat) (n : Nat) mk) (itemsS f j n r) (fun x r' a => ∃ k' v, Sx b k' r' ∧ x.2 ≤ 16384 ∧ (MkP mk → v = .list (acc ++ x.1)) ∧ a = (v, ⟨b, ((k' : Nat) : Int), (x.2 : Nat), mk⟩))
  | 0, i, acc, k, n, r, hj, ha, hs, hn => by
    rw [wire_reader_list_l1_eq]
    simp only [wire_reader_list_l1b]
    rw [hx, decide_eq_false (by omega), cond_false, itemsS]
    exact ⟨_, rfl, k, _, hs, hn, fun _ => by simp only [List.append_nil], rfl⟩
  | j + 1, i, acc, k, n, r, hj, ha, hs, hn => by
    rw [wire_reader_list_l1_eq]
    simp only [wire_reader_list_l1b]
    rw [hx, decide_eq_true (by omega), cond_true, itemsS]
    refine ans_bind (hf k n r hs hn) ?_
    rintro ⟨x, n1⟩ r1 a hfx ⟨k1, v, hs1, hn1, hv, rfl⟩
    have hw : IntKind.i64.wrap ((i : Int) + 1) = ((i + 1 : Nat) : Int) := by rw [w64_in (by omega) (by omega)]; omega
    cases mk with
    | true =>
      have hv := hv rfl
      dsimp only at hv
      subst hv
      simp only [cond_true]
      rw [app1 (by omega) (by omega), Option.bind_some]
      simp only [wire_reader_list_j1, hw]
      refine ans_map1 (items_l hx hm hf j (i + 1) (acc ++ [v]) k1 n1 r1 (by omega) (by simp only [List.length_append, List.length_cons, List.length_nil]; omega) hs1 hn1) ?_
      rintro ⟨y, n2⟩ r2 a ⟨k2, v2, h1, h2, h3, rfl⟩
      exact ⟨k2, v2, h1, h2, fun h => by rw [h3 h]; simp, rfl⟩
    | false =>
      simp only [cond_false]
      simp only [wire_reader_list_j1, hw]
      refine ans_map1 (items_l hx hm hf j (i + 1) acc k1 n1 r1 (by omega) (by omega) hs1 hn1) ?_
      rintro ⟨y, n2⟩ r2 a ⟨k2, v2, h1, h2, h3, rfl⟩
      exact ⟨k2, v2, h1, h2, fun h => (nomatch (show false = true from h)), rfl⟩
theorem flds_l {b : Str} {mk : Bool} {f : Nat → Str → Rs (V × Nat)} {a2 : Int} {x1 : Int × Rdr} {m part : Nat} (hb : b.length ≤ 1099511627776) (hp : part ≤ b.length) (hx : x1.1 = (m : Nat)) (hm : m ≤ 4096) (hf : VOK b mk f (IntKind.i64.wrap (a2 + 1))) : ∀ (j i : Nat) (acc : List (Str × V)) (last : Str) (k n : Nat) (r : Str), i + j = m → acc.length ≤ i → Sx b k r → n ≤ 16384 →
    Ans b (wire_reader_fields_l1 p_wire_reader_value ((b.length - part : Nat) : Int) a2 x1 acc last (i : Nat) b (k : Nat) (n : Nat) mk) (fldsS f part j last n r) (fun x r' a => ∃ k' v, Sx b k' r' ∧ x.2 ≤ 16384 ∧ (MkP mk → v = acc ++ x.1) ∧ a = (v, ⟨b, ((k' : Nat) : Int), (x.2 : Nat), mk⟩))
  | 0, i, acc, last, k, n, r, hj, ha, hs, hn => by
    rw [wire_reader_fields_l1_eq]
    simp only [wire_reader_fields_l1b]
    rw [hx, decide_eq_false (by omega), cond_false, fldsS]
    exact ⟨_, rfl, k, _, hs, hn, fun _ => by simp only [List.append_nil], rfl⟩
  | j + 1, i, acc, last, k, n, r, hj, ha, hs, hn => by
    rw [wire_reader_fields_l1_eq]
    simp only [wire_reader_fields_l1b]
    rw [hx, decide_eq_true (by omega), cond_true, fldsS]
    refine ans_bind (name_eq hs hb hp) ?_
    rintro s r0 a hsx ⟨k0, hs0, rfl⟩
    simp only []
    rw [show (Op.bytesLess s last || s == last) = leB s last from rfl]
    cases hle : leB s last with
    | true =>
      rw [cond_true, if_pos rfl, fail_eq, xbind_pan]
      exact ⟨_, rfl⟩
    | false =>
      rw [cond_false, if_neg (by simp)]
      refine ans_bind (hf k0 n r0 hs0 hn) ?_
      rintro ⟨x, n1⟩ r1 a hfx ⟨k1, v, hs1, hn1, hv, rfl⟩
      have hw : IntKind.i64.wrap ((i : Int) + 1) = ((i + 1 : Nat) : Int) := by rw [w64_in (by omega) (by omega)]; omega
      cases mk with
      | true =>
        have hv := hv rfl
        dsimp only at hv
        subst hv
        simp only [cond_true]
        rw [app1 (by omega) (by omega), Option.bind_some]
        simp only [wire_reader_fields_j1, hw]
        refine ans_map1 (flds_l hb hp hx hm hf j (i + 1) (acc ++ [(s, v)]) s k1 n1 r1 (by omega) (by simp only [List.length_append, List.length_cons, List.length_nil]; omega) hs1 hn1) ?_
        rintro ⟨y, n2⟩ r2 a ⟨k2, v2, h1, h2, h3, rfl⟩
        exact ⟨k2, v2, h1, h2, fun h => by rw [h3 h]; simp, rfl⟩
      | false =>
        simp only [cond_false]
        simp only [wire_reader_fields_j1, hw]
        refine ans_map1 (flds_l hb hp hx hm hf j (i + 1) acc s k1 n1 r1 (by omega) (by omega) hs1 hn1) ?_
        rintro ⟨y, n2⟩ r2 a ⟨k2, v2, h1, h2, h3, rfl⟩
        exact ⟨k2, v2, h1, h2, fun h => (nomatch (show false = true from h)), rfl⟩
theorem list_eq {b r : Str} {mk : Bool} {f : Nat → Str → Rs (V × Nat)} {a2 : Int} {k n part : Nat} (hb : b.length ≤ 1099511627776) (hp : part ≤ b.length) (hf : VOK b mk f (IntKind.i64.wrap (a2 + 1))) (hs : Sx b k r) (hn : n ≤ 16384) :
    Ans b (p_wire_reader_list ⟨b, (k : Nat), (n : Nat), mk⟩ ((b.length - part : Nat) : Int) a2) ((mostS part 4096 r).bind fun m r => (itemsS f m n r).bind fun x r => .ok (.list x.1, x.2) r) (QV b mk) := by
  rw [e_wire_reader_list]
  simp only [b_wire_reader_list]
  refine ans_bind (most_eq (lim := 4096) hs hb (by omega) hp) ?_
  rintro m r1 a hm ⟨k1, hs1, rfl⟩
  refine ans_map1 (items_l (m := m) rfl (mostS_inv hm).2 hf m 0 [] k1 n r1 (by omega) (by simp) hs1 hn) ?_
  rintro ⟨y, n2⟩ r2 a ⟨k2, v2, h1, h2, h3, rfl⟩
  exact ⟨k2, v2, h1, h2, h3, rfl⟩
abbrev QD (b : Str) (mk : Bool) : List (Str × V) × Nat → Str → (List (Str × V) × Rdr) → Prop := fun x r' a => ∃ k' v, Sx b k' r' ∧ x.2 ≤ 16384 ∧ (MkP mk → v = x.1) ∧ a = (v, ⟨b, ((k' : Nat) : Int), (x.2 : Nat), mk⟩)
theorem fields_eq {b r : Str} {mk : Bool} {f : Nat → Str → Rs (V × Nat)} {a2 : Int} {k n part : Nat} (hb : b.length ≤ 1099511627776) (hp : part ≤ b.length) (hf : VOK b mk f (IntKind.i64.wrap (a2 + 1))) (hs : Sx b k r) (hn : n ≤ 16384) :
    Ans b (p_wire_reader_fields ⟨b, (k : Nat), (n : Nat), mk⟩ ((b.length - part : Nat) : Int) a2) ((mostS part 4096 r).bind fun m r => fldsS f part m [] n r) (QD b mk) := by
  rw [e_wire_reader_fields]
  simp only [b_wire_reader_fields]
  refine ans_bind (most_eq (lim := 4096) hs hb (by omega) hp) ?_
  rintro m r1 a hm ⟨k1, hs1, rfl⟩
  refine ans_mono (flds_l (m := m) hb hp rfl (mostS_inv hm).2 hf m 0 [] [] k1 n r1 (by omega) (by simp) hs1 hn) ?_
  rintro ⟨y, n2⟩ r2 a ⟨k2, v2, h1, h2, h3, rfl⟩
  exact ⟨k2, v2, h1, h2, h3, rfl⟩
theorem bind_assoc' {α β γ : Type} (o : Rs α) (f : α → Str → Rs β) (g : β → Str → Rs γ) : (o.bind f).bind g = o.bind fun x r => (f x r).bind g := by cases o <;> rfl
theorem record_eq {b r : Str} {mk : Bool} {f : Nat → Str → Rs (V × Nat)} {a2 : Int} {k n part : Nat} (hb : b.length ≤ 1099511627776) (hp : part ≤ b.length) (hf : VOK b mk f (IntKind.i64.wrap (a2 + 1))) (hs : Sx b k r) (hn : n ≤ 16384) :
    Ans b (p_wire_reader_record ⟨b, (k : Nat), (n : Nat), mk⟩ ((b.length - part : Nat) : Int) a2) ((nameS part r).bind fun s r => (nmS r).bind fun v r => if v < 1 ∨ 1000 < v then .bad part 1 else (mostS part 4096 r).bind fun m r => (fldsS f part m [] n r).bind fun x r => .ok (.record s (v : Int) x.1, x.2) r) (QV b mk) := by
  rw [e_wire_reader_record]
  simp only [b_wire_reader_record]
  refine ans_bind (name_eq hs hb hp) ?_
  rintro s r1 a hm ⟨k1, hs1, rfl⟩
  refine ans_bind (number_eq hs1 hb) ?_
  rintro v r2 a hv ⟨k2, hs2, rfl⟩
  simp only []
  by_cases hbad : v < 1 ∨ 1000 < v
  · rw [if_pos hbad]
    have hj : ∀ x s : Bool, s = true → Ans b (wire_reader_record_j1 p_wire_reader_fields ((b.length - part : Nat) : Int) a2 (‹Str›, (⟨b, (k1 : Nat), (n : Nat), mk⟩ : Rdr)) ((v : Int), (⟨b, (k2 : Nat), (n : Nat), mk⟩ : Rdr)) s) (.bad part 1 : Rs (V × Nat)) (QV b mk) := by
      intro _ s' hs'
      subst hs'
      simp only [wire_reader_record_j1, cond_true, fail_eq, xbind_pan]
      exact ⟨_, rfl⟩
    by_cases h1 : v < 1
    · rw [decide_eq_true (by omega), cond_true]
      simp only [wire_reader_record_j1, cond_true, fail_eq, xbind_pan]
      exact ⟨_, rfl⟩
    · rw [decide_eq_false (by omega), cond_false, decide_eq_true (by omega)]
      simp only [wire_reader_record_j1, cond_true, fail_eq, xbind_pan]
      exact ⟨_, rfl⟩
  · rw [if_neg hbad, decide_eq_false (by omega), cond_false, decide_eq_false (by omega)]
    simp only [wire_reader_record_j1, cond_false]
    rw [w64_in (by omega) (by omega), ← bind_assoc']
    refine ans_mapr (g := fun x => (V.record s (v : Int) x.1, x.2)) (fields_eq hb hp hf hs2 hn) ?_
    rintro ⟨y, n2⟩ r3 a ⟨k3, v3, h1, h2, h3, rfl⟩
    exact ⟨_, rfl, k3, _, h1, h2, fun h => by rw [h3 h], rfl⟩
theorem beS_snoc (s : Str) (c : UInt8) : beS (s ++ [c]) = beS s * 256 + c.toNat := by simp [beS, List.foldl_append]
theorem float_l {s : Str} {rd : Rdr} (hs : s.length = 8) : ∀ (j i : Nat), i + j = 8 → beS (s.take i) < 256 ^ i → wire_reader_value_l1 (s, rd) ((beS (s.take i) : Nat) : Int) i = some (.ret (.float (beS s), rd))
  | 0, i, h, _ => by
    rw [wire_reader_value_l1_eq]
    simp only [wire_reader_value_l1b]
    rw [decide_eq_false (by omega), cond_false, List.take_of_length_le (by omega), Int.toNat_natCast]
  | j + 1, i, h, hb => by
    rw [wire_reader_value_l1_eq]
    simp only [wire_reader_value_l1b]
    rw [decide_eq_true (by omega), cond_true, List.getElem?_eq_getElem (by omega), Option.bind_some]
    have hc := (s[i]'(by omega)).toNat_lt
    have ht : s.take (i + 1) = s.take i ++ [s[i]'(by omega)] := List.take_succ_eq_append_getElem (by omega)
    have h7 : 256 ^ i ≤ 256 ^ 7 := Nat.pow_le_pow_right (by omega) (by omega)
    have e7 : (256 : Nat) ^ 7 = 72057594037927936 := by decide
    have e : orK .u64 (shlK .u64 ((beS (s.take i) : Nat) : Int) 8) ((s[i]'(by omega)).toNat : Int) = ((beS (s.take (i + 1)) : Nat) : Int) := by
      rw [show (8 : Int) = ((8 : Nat) : Int) from rfl, shl_nat (by omega) (by omega), or_nat (by omega) (by omega), ht, beS_snoc]
      have := Nat.two_pow_add_eq_or_of_lt (i := 8) (b := (s[i]'(by omega)).toNat) hc (beS (s.take i))
      rw [Nat.mul_comm _ (2 ^ 8), ← this, Nat.mul_comm (2 ^ 8)]
    rw [e]
    refine float_l hs j (i + 1) (by omega) ?_
    rw [ht, beS_snoc, Nat.pow_succ]; omega
theorem value_eq {b : Str} {mk : Bool} (hb : b.length ≤ 1099511627776) : ∀ (d : Nat), d ≤ 64 → VOK b mk (valS d) ((65 - d : Nat) : Int) := by
  intro d
  induction d with
  | zero =>
    intro _ k n r hs hn
    have hl := hs.len
    rw [e_wire_reader_value]
    simp only [b_wire_reader_value]
    cases r with
    | nil =>
      simp only [List.length_nil] at hl
      rw [show (((k : Nat) : Int) == ((b.length : Nat) : Int)) = true by simp; omega, cond_true, fail_eq, xbind_pan, valS]
      exact ⟨_, by rw [show b.length - 0 = k by omega]⟩
    | cons c r =>
      simp only [List.length_cons] at hl
      rw [show (((k : Nat) : Int) == ((b.length : Nat) : Int)) = false by simp; omega, cond_false, valS]
      have hj : Ans b (wire_reader_value_j1 p_wire_reader_record p_wire_reader_fields p_wire_reader_list ⟨b, (k : Nat), (n : Nat), mk⟩ ((65 - 0 : Nat) : Int) true) (.bad (r.length + 1) 2 : Rs (V × Nat)) (QV b mk) := by
        simp only [wire_reader_value_j1, cond_true, fail_eq, xbind_pan]
        exact ⟨_, by rw [show b.length - (r.length + 1) = k by omega]⟩
      by_cases h1 : 16384 ≤ n
      · rw [decide_eq_true (by omega), cond_true]; exact hj
      · rw [decide_eq_false (by omega), cond_false, decide_eq_true (by omega)]; exact hj
  | succ d ih =>
    intro hd k n r hs hn
    have hl := hs.len
    have ih := ih (by omega)
    rw [e_wire_reader_value]
    simp only [b_wire_reader_value]
    cases r with
    | nil =>
      simp only [List.length_nil] at hl
      rw [show (((k : Nat) : Int) == ((b.length : Nat) : Int)) = true by simp; omega, cond_true, fail_eq, xbind_pan, valS]
      exact ⟨_, by rw [show b.length - 0 = k by omega]⟩
    | cons c r =>
      simp only [List.length_cons] at hl
      have hc := c.toNat_lt
      have hsr := hs.go (c := [c]) (r' := r) rfl
      have hsr : Sx b (k + 1) r := hsr
      rw [show (((k : Nat) : Int) == ((b.length : Nat) : Int)) = false by simp; omega, cond_false, valS]
      by_cases h1 : 16384 ≤ n
      · rw [decide_eq_true (by omega), cond_true, if_pos h1]
        simp only [wire_reader_value_j1, cond_true, fail_eq, xbind_pan]
        exact ⟨_, by rw [show b.length - (r.length + 1) = k by omega]⟩
      rw [decide_eq_false (by omega), cond_false, decide_eq_false (by omega), if_neg h1]
      simp only [wire_reader_value_j1, cond_false]
      rw [hs.head, Option.bind_some]
      have hpart : (k : Int) = ((b.length - (r.length + 1) : Nat) : Int) := by omega
      by_cases hbad : c.toNat < 1 ∨ 10 < c.toNat
      · rw [if_pos hbad]
        have hj : Ans b (wire_reader_value_j2 p_wire_reader_record p_wire_reader_fields p_wire_reader_list ⟨b, (k : Nat), (n : Nat), mk⟩ ((65 - (d + 1) : Nat) : Int) c true) (.bad (r.length + 1) 30 : Rs (V × Nat)) (QV b mk) := by
          simp only [wire_reader_value_j2, cond_true, fail_eq, xbind_pan]
          exact ⟨_, by rw [show b.length - (r.length + 1) = k by omega]⟩
        by_cases h2 : c.toNat < 1
        · rw [decide_eq_true (by omega), cond_true]; exact hj
        · rw [decide_eq_false (by omega), cond_false, decide_eq_true (by omega)]; exact hj
      rw [if_neg hbad, decide_eq_false (by omega), cond_false, decide_eq_false (by omega)]
      simp only [wire_reader_value_j2, cond_false]
      have hw1 : IntKind.i64.wrap ((k : Int) + 1) = ((k + 1 : Nat) : Int) := by rw [w64_in (by omega) (by omega)]; omega
      have hw2 : IntKind.i64.wrap ((n : Int) + 1) = ((n + 1 : Nat) : Int) := by rw [w64_in (by omega) (by omega)]; omega
      have hf : VOK b mk (valS d) (IntKind.i64.wrap (((65 - (d + 1) : Nat) : Int) + 1)) := by
        rw [w64_in (by omega) (by omega), show ((65 - (d + 1) : Nat) : Int) + 1 = ((65 - d : Nat) : Int) by omega]; exact ih
      have tg : ∀ t : Nat, (((c.toNat : Nat) : Int) == ((t : Nat) : Int)) = decide (c.toNat = t) := by
        intro t
        by_cases ht : c.toNat = t
        · rw [decide_eq_true ht, ht]; simp
        · rw [decide_eq_false ht]; simp; omega
      rw [hw1, hw2]
      unfold bodyS
      by_cases t2 : c.toNat = 2
      · rw [show (((c.toNat : Nat) : Int) == 2) = true by rw [t2]; rfl, cond_true, if_pos t2, byte_eq hsr hb]
        cases r with
        | nil => rw [xbind_pan]; exact ⟨_, rfl⟩
        | cons e r =>
          simp only [List.length_cons] at hl
          simp only []
          rw [xbind_ret]
          dsimp only
          rw [show boolS (n + 1) (e :: r) = if 1 < e.toNat then .bad (r.length + 1) 30 else .ok (.bool (e.toNat == 1), n + 1) r from rfl]
          have c1 : (((1 : UInt8)).toNat : Int) = 1 := rfl
          rw [c1]
          by_cases he : 1 < e.toNat
          · rw [decide_eq_true (by omega), cond_true, if_pos he, fail_eq, xbind_pan]
            have : IntKind.i64.wrap (((k + 1 + 1 : Nat) : Int) - 1) = ((b.length - (r.length + 1) : Nat) : Int) := by rw [w64_in (by omega) (by omega)]; omega
            rw [this]
            exact ⟨_, rfl⟩
          · rw [decide_eq_false (by omega), cond_false, if_neg he]
            refine ⟨_, rfl, k + 1 + 1, _, hsr.go (c := [e]) (r' := r) rfl, by simp only; omega, fun _ => ?_, rfl⟩
            congr 1
            by_cases h1 : e.toNat = 1
            · rw [h1]; rfl
            · rw [beq_false_of_ne h1, beq_false_of_ne (by omega)]
      rw [show (((c.toNat : Nat) : Int) == 2) = false from beq_false_of_ne (by omega), cond_false, if_neg t2]
      by_cases t3 : c.toNat = 3
      · rw [show (((c.toNat : Nat) : Int) == 3) = true by rw [t3]; rfl, cond_true, if_pos t3]
        refine ans_bind (number_eq hsr hb) ?_
        rintro m r1 a hm ⟨k1, hs1, rfl⟩
        simp only []
        rw [dezig m (nmS_inv hm).2]
        exact ⟨_, rfl, k1, _, hs1, by simp only; omega, fun _ => rfl, rfl⟩
      rw [show (((c.toNat : Nat) : Int) == 3) = false from beq_false_of_ne (by omega), cond_false, if_neg t3]
      by_cases t4 : c.toNat = 4
      · rw [show (((c.toNat : Nat) : Int) == 4) = true by rw [t4]; rfl, cond_true, if_pos t4]
        refine ans_bind (take_eq (m := 8) hsr hb (by omega)) ?_
        rintro s r1 a hm ⟨k1, hs1, rfl⟩
        have := float_l (s := s) (rd := ⟨b, (k1 : Nat), ((n + 1 : Nat) : Int), mk⟩) (takeS_inv hm).2 8 0 (by omega) (by simp [beS])
        exact ⟨_, this, k1, _, hs1, by simp only; omega, fun _ => rfl, rfl⟩
      rw [show (((c.toNat : Nat) : Int) == 4) = false from beq_false_of_ne (by omega), cond_false, if_neg t4]
      by_cases t5 : c.toNat = 5
      · rw [show (((c.toNat : Nat) : Int) == 5) = true by rw [t5]; rfl, cond_true, if_pos t5, hpart]
        refine ans_bind (most_eq (lim := 65536) hsr hb (by omega) (by omega)) ?_
        rintro m r1 a hm ⟨k1, hs1, rfl⟩
        refine ans_bind (take_eq hs1 hb (by have := (mostS_inv hm).2; omega)) ?_
        rintro s r2 a hm2 ⟨k2, hs2, rfl⟩
        exact ⟨_, rfl, k2, _, hs2, by simp only; omega, fun _ => rfl, rfl⟩
      rw [show (((c.toNat : Nat) : Int) == 5) = false from beq_false_of_ne (by omega), cond_false, if_neg t5]
      by_cases t6 : c.toNat = 6
      · rw [show (((c.toNat : Nat) : Int) == 6) = true by rw [t6]; rfl, cond_true, if_pos t6, hpart]
        refine ans_bind (most_eq (lim := 65536) hsr hb (by omega) (by omega)) ?_
        rintro m r1 a hm ⟨k1, hs1, rfl⟩
        have hm1 := (mostS_inv hm).2
        refine ans_bind (take_eq hs1 hb (by omega)) ?_
        rintro s r2 a hm2 ⟨k2, hs2, rfl⟩
        have := (takeS_inv hm2).2
        simp only []
        rw [app0 (by omega) (by omega), Option.bind_some]
        exact ⟨_, rfl, k2, _, hs2, by simp only; omega, fun _ => rfl, rfl⟩
      rw [show (((c.toNat : Nat) : Int) == 6) = false from beq_false_of_ne (by omega), cond_false, if_neg t6]
      by_cases t7 : c.toNat = 7
      · rw [show (((c.toNat : Nat) : Int) == 7) = true by rw [t7]; rfl, cond_true, if_pos t7]
        refine ans_bind (number_eq hsr hb) ?_
        rintro m r1 a hm ⟨k1, hs1, rfl⟩
        exact ⟨_, rfl, k1, _, hs1, by simp only; omega, fun _ => rfl, rfl⟩
      rw [show (((c.toNat : Nat) : Int) == 7) = false from beq_false_of_ne (by omega), cond_false, if_neg t7]
      have ret : ∀ (o : Option (Xr (Flt × Rdr) (V × Rdr))) (s : Rs (V × Nat)), Ans b o s (QV b mk) → Ans b (xbind o (fun s => (s.1, (s.2))) fun x => some (.ret (x.1, (x.2)))) s (QV b mk) := by
        intro o s h
        cases s with
        | ok x r => obtain ⟨a, e1, e2⟩ := h; exact ⟨a, by rw [e1, xbind_ret], e2⟩
        | bad p w => obtain ⟨st, e1⟩ := h; exact ⟨st, by rw [e1, xbind_pan]⟩
      by_cases t8 : c.toNat = 8
      · rw [show (((c.toNat : Nat) : Int) == 8) = true by rw [t8]; rfl, cond_true, if_pos t8, hpart]
        exact ret _ _ (list_eq hb (by omega) hf hsr (by omega))
      rw [show (((c.toNat : Nat) : Int) == 8) = false from beq_false_of_ne (by omega), cond_false, if_neg t8]
      by_cases t9 : c.toNat = 9
      · rw [show (((c.toNat : Nat) : Int) == 9) = true by rw [t9]; rfl, cond_true, if_pos t9, hpart, ← bind_assoc']
        refine ans_mapr (g := fun x => (V.dict x.1, x.2)) (fields_eq (part := r.length + 1) (n := n + 1) hb (by omega) hf hsr (by omega)) ?_
        rintro ⟨y, n2⟩ r3 a ⟨k3, v3, h1, h2, h3, rfl⟩
        exact ⟨_, rfl, k3, _, h1, h2, fun h => by rw [h3 h], rfl⟩
      rw [show (((c.toNat : Nat) : Int) == 9) = false from beq_false_of_ne (by omega), cond_false, if_neg t9]
      by_cases t10 : c.toNat = 10
      · rw [show (((c.toNat : Nat) : Int) == 10) = true by rw [t10]; rfl, cond_true, if_pos t10, hpart]
        exact ret _ _ (record_eq hb (by omega) hf hsr (by omega))
      rw [show (((c.toNat : Nat) : Int) == 10) = false from beq_false_of_ne (by omega), cond_false, if_neg t10]
      exact ⟨_, rfl, k + 1, _, hsr, by simp only; omega, fun _ => rfl, rfl⟩
end Go.Proofs.Ytigadhiciinicaa

namespace Go.Proofs.Ytigadhiciinicaa
open Go Aw
set_option linter.unusedVariables false
set_option linter.unusedSimpArgs false
set_option maxRecDepth 8000
theorem bu_cl (x : V) : Fine x → bu (cl x) = x := by
  induction x using V.byParts with
  | _ x ih =>
  intro hx
  have hp := hx.own.2
  have hn := hx.own.1
  have hm : ∀ l : List V, (∀ u, u ∈ l → bu (cl u) = u) → (l.map cl).map bu = l := fun l h => by
    rw [List.map_map]
    conv => rhs; rw [← List.map_id l]
    exact List.map_congr_left fun u hu => h u hu
  have hd : ∀ l : List (Str × V), (∀ u, u ∈ l → bu (cl u.2) = u.2) → (l.map clE).map buE = l := fun l h => by
    rw [List.map_map]
    conv => rhs; rw [← List.map_id l]
    exact List.map_congr_left fun u hu => by obtain ⟨s, x⟩ := u; exact congrArg (Prod.mk s) (h _ hu)
  cases x with
  | nothing => simp [nearE] at hn
  | alien t => simp [nearE] at hn
  | list l => rw [cl, clL_map, bu, buTs_map, hm l (fun u hu => ih u hu (hp u hu))]; rfl
  | dict l => rw [cl, clD_map, bu, buEs_map, hd l (fun u hu => ih u.2 (List.mem_map_of_mem hu) (hp _ (List.mem_map_of_mem hu)))]; rfl
  | record c v l => rw [cl, clD_map, bu, buEs_map, hd l (fun u hu => ih u.2 (List.mem_map_of_mem hu) (hp _ (List.mem_map_of_mem hu)))]; rfl
  | _ => rw [cl, bu]; rfl
theorem bu_kindW {t : Term} (h : nearE (bu t) = 0) : kindOf (bu t) = t.kind ∧ 1 ≤ t.kind ∧ t.kind ≤ 10 := by
  have hb := bu_c t
  generalize bu t = x at hb h
  cases hb with
  | nothing hk => simp [nearE] at h
  | alien hk => simp [nearE] at h
  | _ hk => rw [hk]; exact ⟨rfl, by decide, by decide⟩
def SameOk (s t : Term) : Prop := ∃ r, p_mk_Same s t = some r ∧ (r = true ↔ bu s = bu t)
theorem drop_cons {α β : Type} {l : List α} {f : α → β} {i : Nat} {x : α} (h : l[i]? = some x) : (l.map f).drop i = f x :: (l.map f).drop (i + 1) := by
  obtain ⟨hi, rfl⟩ := List.getElem?_eq_some_iff.1 h
  rw [List.drop_eq_getElem_cons (by rw [List.length_map]; exact hi), List.getElem_map]
theorem sl_l {a b : List Term} (h : ∀ x, x ∈ a → ∀ y, y ∈ b → SameOk x y) (hl : a.length = b.length) : ∀ k i, k + i = a.length → ∃ r, mk_Lists_l1 p_mk_Same a b i = some r ∧ (r = true ↔ (a.map bu).drop i = (b.map bu).drop i)
  | 0, i, hk => by
    rw [mk_Lists_l1_eq]
    simp only [mk_Lists_l1b, lt_f (by omega : ¬ i < a.length), cond_false]
    exact ⟨true, rfl, by rw [List.drop_of_length_le (by simp; omega), List.drop_of_length_le (by simp; omega)]; simp⟩
  | k + 1, i, hk => by
    obtain ⟨x, hx, _⟩ := dropc (by omega : i < a.length)
    obtain ⟨y, hy, _⟩ := dropc (by omega : i < b.length)
    obtain ⟨r, h1, h2⟩ := h x (List.mem_of_getElem? hx) y (List.mem_of_getElem? hy)
    rw [mk_Lists_l1_eq]
    simp only [mk_Lists_l1b, lt_t (by omega : i < a.length), cond_true, hx, hy, Option.bind_some, h1]
    rw [drop_cons hx, drop_cons hy]
    cases r with
    | false =>
      refine ⟨false, rfl, ?_⟩
      have : ¬ bu x = bu y := fun h => by simp [h] at h2
      simp [this]
    | true =>
      obtain ⟨r, h3, h4⟩ := sl_l h hl k (i + 1) (by omega)
      refine ⟨r, h3, ?_⟩
      rw [h4, List.cons.injEq]
      simp [h2.1 rfl]
theorem se_l {a b : List (Str × Term)} (h : ∀ x, x ∈ a → ∀ y, y ∈ b → SameOk x.2 y.2) (hl : a.length = b.length) : ∀ k i, k + i = a.length → ∃ r, mk_Entries_l1 p_mk_Same a b i = some r ∧ (r = true ↔ (a.map buE).drop i = (b.map buE).drop i)
  | 0, i, hk => by
    rw [mk_Entries_l1_eq]
    simp only [mk_Entries_l1b, lt_f (by omega : ¬ i < a.length), cond_false]
    exact ⟨true, rfl, by rw [List.drop_of_length_le (by simp; omega), List.drop_of_length_le (by simp; omega)]; simp⟩
  | k + 1, i, hk => by
    obtain ⟨x, hx, _⟩ := dropc (by omega : i < a.length)
    obtain ⟨y, hy, _⟩ := dropc (by omega : i < b.length)
    obtain ⟨r, h1, h2⟩ := h x (List.mem_of_getElem? hx) y (List.mem_of_getElem? hy)
    rw [mk_Entries_l1_eq]
    simp only [mk_Entries_l1b, lt_t (by omega : i < a.length), cond_true, hx, hy, Option.bind_some, h1]
    rw [drop_cons hx, drop_cons hy]
    obtain ⟨s, x⟩ := x
    obtain ⟨q, y⟩ := y
    dsimp only at h1 h2
    have hE : buE (s, x) = buE (q, y) ↔ s = q ∧ bu x = bu y := by simp [buE]
    by_cases hs : s = q
    · subst hs
      simp only [beq_self_eq_true, Bool.not_true, cond_false]
      cases r with
      | false =>
        refine ⟨false, rfl, ?_⟩
        have : ¬ bu x = bu y := fun h => by simp [h] at h2
        simp [hE, this]
      | true =>
        obtain ⟨r, h3, h4⟩ := se_l h hl k (i + 1) (by omega)
        refine ⟨r, h3, ?_⟩
        rw [h4, List.cons.injEq, hE]
        simp [h2.1 rfl]
    · rw [show (!(s == q)) = true by simp [hs], cond_true]
      refine ⟨false, rfl, ?_⟩
      simp [hE, hs]
theorem same_iff (s : Term) : ∀ t, Fine (bu s) → SameOk s t := by
  induction s using Term.byParts with
  | _ s ih =>
  intro t hx
  have hp := hx.own.2
  have hn := hx.own.1
  rw [← partsT_bu] at hp
  have hk := bu_kindW hn
  unfold SameOk
  by_cases he : s.kind = t.kind
  · have hs : ∀ u, u ∈ partsT s → ∀ t, SameOk u t := fun u hu t => ih u hu t (hp _ (List.mem_map_of_mem hu))
    rw [e_mk_Same, b_mk_Same, show (s.kind != t.kind) = false by simp [he], cond_false]
    have hL : s.kind = 8 → ∃ r, p_mk_Lists s.list t.list = some r ∧ (r = true ↔ s.list.map bu = t.list.map bu) := fun h8 => by
      rw [e_mk_Lists, b_mk_Lists]
      by_cases hl : s.list.length = t.list.length
      · rw [show (((s.list.length : Nat) : Int) != ((t.list.length : Nat) : Int)) = false by simp [hl], cond_false]
        exact sl_l (fun x hx y _ => hs x (by unfold partsT; rw [if_pos h8]; exact hx) y) hl s.list.length 0 (by omega)
      · rw [show (((s.list.length : Nat) : Int) != ((t.list.length : Nat) : Int)) = true by simp; omega, cond_true]
        refine ⟨false, rfl, ?_⟩
        have : ¬ s.list.map bu = t.list.map bu := fun h => hl (by have := congrArg List.length h; simpa using this)
        simp [this]
    have hE : s.kind = 9 ∨ s.kind = 10 → ∃ r, p_mk_Entries s.fields t.fields = some r ∧ (r = true ↔ s.fields.map buE = t.fields.map buE) := fun h9 => by
      rw [e_mk_Entries, b_mk_Entries]
      by_cases hl : s.fields.length = t.fields.length
      · rw [show (((s.fields.length : Nat) : Int) != ((t.fields.length : Nat) : Int)) = false by simp [hl], cond_false]
        exact se_l (fun x hx y _ => hs _ (by unfold partsT; rw [if_neg (by omega), if_pos h9]; exact List.mem_map_of_mem hx) _) hl s.fields.length 0 (by omega)
      · rw [show (((s.fields.length : Nat) : Int) != ((t.fields.length : Nat) : Int)) = true by simp; omega, cond_true]
        refine ⟨false, rfl, ?_⟩
        have : ¬ s.fields.map buE = t.fields.map buE := fun h => hl (by have := congrArg List.length h; simpa using this)
        simp [this]
    have hb := bu_c s
    have hc := bu_c t
    generalize bu s = x at hb hn
    generalize bu t = y at hc
    cases hb with
    | nothing h => simp [nearE] at hn
    | alien h => simp [nearE] at hn
    | nil h => cases hc <;> first | (exfalso; omega) | skip
               simp only [mk_Same_j1, h]; exact ⟨_, rfl, by simp⟩
    | bool h => cases hc <;> first | (exfalso; omega) | skip
                simp only [mk_Same_j1, h]; exact ⟨_, rfl, by simp⟩
    | int h => cases hc <;> first | (exfalso; omega) | skip
               simp only [mk_Same_j1, h]; exact ⟨_, rfl, by simp⟩
    | float h => cases hc <;> first | (exfalso; omega) | skip
                 simp only [mk_Same_j1, h]; exact ⟨_, rfl, by simp; omega⟩
    | text h => cases hc <;> first | (exfalso; omega) | skip
                simp only [mk_Same_j1, h]; exact ⟨_, rfl, by simp⟩
    | bytes h => cases hc <;> first | (exfalso; omega) | skip
                 simp only [mk_Same_j1, h]; exact ⟨_, rfl, by simp⟩
    | ref h => cases hc <;> first | (exfalso; omega) | skip
               simp only [mk_Same_j1, h]; exact ⟨_, rfl, by simp⟩
    | list h =>
      cases hc <;> first | (exfalso; omega) | skip
      obtain ⟨r, h1, h2⟩ := hL h
      simp only [mk_Same_j1, h, h1, Option.bind_some]; exact ⟨r, rfl, by rw [h2, V.list.injEq]⟩
    | dict h =>
      cases hc <;> first | (exfalso; omega) | skip
      obtain ⟨r, h1, h2⟩ := hE (.inl h)
      simp only [mk_Same_j1, h, h1, Option.bind_some]; exact ⟨r, rfl, by rw [h2, V.dict.injEq]⟩
    | record h =>
      cases hc <;> first | (exfalso; omega) | skip
      obtain ⟨r, h1, h2⟩ := hE (.inr h)
      simp only [mk_Same_j1, h, h1, Option.bind_some]
      by_cases h3 : s.cls = t.cls
      · by_cases h4 : s.ver = t.ver
        · exact ⟨r, by rw [show (s.cls == t.cls) = true by simp [h3], show (s.ver == t.ver) = true by simp [h4]]; rfl, by rw [h2, V.record.injEq]; simp [h3, h4]⟩
        · exact ⟨false, by rw [show (s.cls == t.cls) = true by simp [h3], show (s.ver == t.ver) = false by simp [h4]]; rfl, by rw [V.record.injEq]; simp [h4]⟩
      · exact ⟨false, by rw [show (s.cls == t.cls) = false by simp [h3]]; rfl, by rw [V.record.injEq]; simp [h3]⟩
  · refine ⟨false, by rw [e_mk_Same, b_mk_Same, show (s.kind != t.kind) = true by simp [he]]; rfl, ?_⟩
    have : ¬ bu s = bu t := fun h => by
      have h2 := bu_kindW (t := t) (by rw [← h]; exact hn)
      rw [← h] at h2; omega
    simp [this]
theorem is_built {t : Term} {x : V} (h : bu t = x) (hc : Can x) : p_mk_Is x t = some true := by
  have hf := can_fine hc
  have h0 := mk_plain_eq x 0 0 1 (can_ok.2 hc) (by omega)
  have e : (1 : Int) - 1 = 0 := rfl
  rw [e] at h0
  have hb := bu_cl x hf
  obtain ⟨r, h1, h2⟩ := same_iff (cl x) t (by rw [hb]; exact hf)
  simp only [p_mk_Is, p_mk_Plain, h0, Option.bind_some, h1, h2.2 (by rw [hb, h])]
theorem Fine.near {x : V} : Fine x → Near x := by
  induction x using V.byParts with
  | _ x ih => exact fun h => .mk h.own.1 fun y hy => ih y hy (h.own.2 y hy)
end Go.Proofs.Ytigadhiciinicaa

namespace Go.Proofs.Ytigadhiciinicaa
open Go Aw
set_option linter.unusedVariables false
set_option linter.unusedSimpArgs false
set_option maxRecDepth 8000
theorem ones_sum {α : Type} : ∀ l : List α, (l.map (fun _ => 1)).sum = l.length
  | [] => rfl
  | x :: r => by rw [List.map_cons, List.sum_cons, ones_sum r, List.length_cons]; omega
theorem read_ok {b r r' : Str} {k n : Nat} {mk : Bool} {v : V} (hs : Sx b k r) (hb : b.length ≤ 1099511627776) (h : valS 64 0 r = .ok (v, n) r') : ∃ v', (MkP mk → v' = v) ∧ r'.length ≤ b.length ∧ p_wire_read b (k : Nat) mk = some (v', ((b.length - r'.length : Nat) : Int), 0) := by
  have h1 := value_eq (mk := mk) hb 64 (Nat.le_refl _) k 0 r hs (by omega)
  rw [h] at h1
  obtain ⟨a, h2, k', v', h3, h4, h5, rfl⟩ := h1
  refine ⟨v', h5, by have := h3.len; omega, ?_⟩
  have h2 : p_wire_reader_value ⟨b, (k : Nat), 0, mk⟩ 1 = _ := h2
  simp only [p_wire_read]
  rw [h2]
  have : k' = b.length - r'.length := by have := h3.len; omega
  rw [← this]; rfl
theorem read_bad {b r : Str} {k p : Nat} {w : Int} {mk : Bool} (hs : Sx b k r) (hb : b.length ≤ 1099511627776) (h : valS 64 0 r = .bad p w) : p_wire_read b (k : Nat) mk = some (.nil, ((b.length - p : Nat) : Int), w) := by
  have h1 := value_eq (mk := mk) hb 64 (Nat.le_refl _) k 0 r hs (by omega)
  rw [h] at h1
  obtain ⟨st, h2⟩ := h1
  have h2 : p_wire_reader_value ⟨b, (k : Nat), 0, mk⟩ 1 = _ := h2
  simp only [p_wire_read]
  rw [h2]; rfl
/-! ### what is bad is named -/
def Nm {α : Type} (o : Rs α) : Prop := ∀ p w, o = .bad p w → w ≠ 0
theorem nm_bind {α β : Type} {o : Rs α} {f : α → Str → Rs β} (h : Nm o) (hf : ∀ x r, Nm (f x r)) : Nm (o.bind f) := by
  cases o with
  | ok x r => exact hf x r
  | bad p w => intro p' w' e; exact h p' w' (by rw [Rs.bind] at e; injection e with e1 e2; rw [e1, e2])
theorem nm_ok {α : Type} {x : α} {r : Str} : Nm (.ok x r) := fun p w h => by cases h
theorem nm_bad {α : Type} {p : Nat} {w : Int} (hw : w ≠ 0) : Nm (.bad p w : Rs α) := fun p' w' h => by injection h with _ h; omega
theorem nm_if {α : Type} {c : Prop} [Decidable c] {a b : Rs α} (ha : Nm a) (hb : Nm b) : Nm (if c then a else b) := by split <;> assumption
theorem numS_nm (fr : Nat) : ∀ (j i acc : Nat) (r : Str), j + i = 10 → i ≤ 9 → Nm (numS fr j i acc r)
  | 0, i, acc, r, h, hi => by omega
  | j + 1, i, acc, [], h, hi => nm_bad (by decide)
  | j + 1, i, acc, c :: r, h, hi => by
    rw [numS]
    by_cases hb : (i = 9 ∧ 1 < c.toNat) ∨ (0 < i ∧ c.toNat = 0)
    · rw [if_pos hb]; exact nm_bad (by decide)
    · rw [if_neg hb]
      by_cases h1 : c.toNat < 128
      · rw [if_pos h1]; exact nm_ok
      · rw [if_neg h1]
        exact numS_nm fr j (i + 1) _ r (by omega) (by omega)
theorem nmS_nm (r : Str) : Nm (nmS r) := numS_nm _ 10 0 0 r rfl (by omega)
theorem takeS_nm (n : Nat) (r : Str) : Nm (takeS n r) := nm_if (nm_bad (by decide)) nm_ok
theorem mostS_nm (a l : Nat) (r : Str) : Nm (mostS a l r) := nm_bind (nmS_nm r) fun _ _ => nm_if (nm_bad (by decide)) nm_ok
theorem nameS_nm (a : Nat) (r : Str) : Nm (nameS a r) := nm_bind (nmS_nm r) fun _ _ => nm_if (nm_bad (by decide)) (nm_bind (takeS_nm _ _) fun _ _ => nm_if nm_ok (nm_bad (by decide)))
theorem items_nm {f : Nat → Str → Rs (V × Nat)} (hf : ∀ n r, Nm (f n r)) : ∀ k n r, Nm (itemsS f k n r)
  | 0, n, r => nm_ok
  | k + 1, n, r => nm_bind (hf n r) fun x r => nm_bind (items_nm hf k x.2 r) fun _ _ => nm_ok
theorem flds_nm {f : Nat → Str → Rs (V × Nat)} (hf : ∀ n r, Nm (f n r)) (a : Nat) : ∀ k last n r, Nm (fldsS f a k last n r)
  | 0, last, n, r => nm_ok
  | k + 1, last, n, r => nm_bind (nameS_nm a r) fun s r => nm_if (nm_bad (by decide)) (nm_bind (hf n r) fun x r => nm_bind (flds_nm hf a k s x.2 r) fun _ _ => nm_ok)
theorem boolS_nm (n : Nat) : ∀ r, Nm (boolS n r)
  | [] => nm_bad (by decide)
  | c :: r => nm_if (nm_bad (by decide)) nm_ok
theorem valS_nm : ∀ d n r, Nm (valS d n r)
  | 0, n, [] => nm_bad (by decide)
  | d + 1, n, [] => nm_bad (by decide)
  | 0, n, c :: r => nm_bad (by decide)
  | d + 1, n, c :: r => by
    have hf := valS_nm d
    rw [valS]
    refine nm_if (nm_bad (by decide)) (nm_if (nm_bad (by decide)) ?_)
    unfold bodyS
    refine nm_if (boolS_nm _ _) (nm_if (nm_bind (nmS_nm _) fun _ _ => nm_ok) (nm_if (nm_bind (takeS_nm _ _) fun _ _ => nm_ok) (nm_if (nm_bind (mostS_nm _ _ _) fun _ _ => nm_bind (takeS_nm _ _) fun _ _ => nm_ok) (nm_if (nm_bind (mostS_nm _ _ _) fun _ _ => nm_bind (takeS_nm _ _) fun _ _ => nm_ok) (nm_if (nm_bind (nmS_nm _) fun _ _ => nm_ok) ?_)))))
    refine nm_if (nm_bind (mostS_nm _ _ _) fun _ _ => nm_bind (items_nm hf _ _ _) fun _ _ => nm_ok) (nm_if (nm_bind (mostS_nm _ _ _) fun _ _ => nm_bind (flds_nm hf _ _ _ _ _) fun _ _ => nm_ok) (nm_if ?_ nm_ok))
    exact nm_bind (nameS_nm _ _) fun _ _ => nm_bind (nmS_nm _) fun _ _ => nm_if (nm_bad (by decide)) (nm_bind (mostS_nm _ _ _) fun _ _ => nm_bind (flds_nm hf _ _ _ _ _) fun _ _ => nm_ok)
/-! ### the program's functions -/
theorem sx0 (b : Str) : Sx b 0 b := ⟨Nat.zero_le _, rfl⟩
theorem val_can {b r' : Str} {v : V} {n : Nat} (h : valS 64 0 b = .ok (v, n) r') : Can v ∧ okV v ∧ b = enc v ++ r' := by
  have hd := valS_inv 64 _ _ _ _ _ h
  have h1 := hd.cn
  have h2 := hd.le (by omega)
  have h3 := hd.dp
  exact ⟨⟨hd.near, by omega, by omega⟩, hd.ok, hd.eq⟩
end Go.Proofs.Ytigadhiciinicaa

namespace Go.Proofs.Ytigadhiciinicaa
open Go Aw
set_option linter.unusedVariables false
set_option linter.unusedSimpArgs false
set_option maxRecDepth 8000
theorem decode_ok {b r' : Str} {v : V} {n : Nat} (hb : b.length ≤ 1099511627776) (h : valS 64 0 b = .ok (v, n) r') : p_wire_Decode b = some (v, ((b.length - r'.length : Nat) : Int), 0) := by
  obtain ⟨v', h1, _, h2⟩ := read_ok (mk := true) (sx0 b) hb h
  have h2 : p_wire_read b 0 true = _ := h2
  simp only [p_wire_Decode, h2, Option.bind_some, h1 rfl]
theorem decode_bad {b : Str} {p : Nat} {w : Int} (hb : b.length ≤ 1099511627776) (h : valS 64 0 b = .bad p w) : p_wire_Decode b = some (.nil, ((b.length - p : Nat) : Int), w) := by
  have h2 := read_bad (mk := true) (sx0 b) hb h
  have h2 : p_wire_read b 0 true = _ := h2
  simp only [p_wire_Decode, h2, Option.bind_some]
theorem skip_ok {b r' : Str} {v : V} {n : Nat} (hb : b.length ≤ 1099511627776) (h : valS 64 0 b = .ok (v, n) r') : p_wire_Skip b = some (((b.length - r'.length : Nat) : Int), 0) := by
  obtain ⟨v', h1, _, h2⟩ := read_ok (mk := false) (sx0 b) hb h
  have h2 : p_wire_read b 0 false = _ := h2
  simp only [p_wire_Skip, h2, Option.bind_some]
  rfl
theorem skip_bad {b : Str} {p : Nat} {w : Int} (hb : b.length ≤ 1099511627776) (h : valS 64 0 b = .bad p w) : p_wire_Skip b = some (0, w) := by
  have h2 := read_bad (mk := false) (sx0 b) hb h
  have h2 : p_wire_read b 0 false = _ := h2
  simp only [p_wire_Skip, h2, Option.bind_some]
  rw [ne_t (valS_nm _ _ _ _ _ h), cond_true]
end Go.Proofs.Ytigadhiciinicaa

namespace Go.Proofs.Ytigadhiciinicaa
open Go Aw
set_option linter.unusedVariables false
set_option linter.unusedSimpArgs false
set_option maxRecDepth 8000
abbrev R3 := S_ref03_reading
def An3 {A B : Type} (b : Str) (o : Option (R3 × A)) (s : Rs B) (Q : B → Str → R3 × A → Prop) : Prop := match s with
  | .ok x r => ∃ a, o = some a ∧ Q x r a
  | .bad p w => w ≠ 0 ∧ ∃ a, o = some a ∧ a.1.f_place = ((b.length - p : Nat) : Int) ∧ a.1.f_why = w
theorem an3_bind {A B A' B' : Type} {b : Str} {o : Option (R3 × A)} {s : Rs B} {Q : B → Str → R3 × A → Prop} {g : R3 × A → Option (R3 × A')} {k : B → Str → Rs B'} {Q' : B' → Str → R3 × A' → Prop}
    (h : An3 b o s Q) (hk : ∀ x r a, s = .ok x r → Q x r a → An3 b (g a) (k x r) Q') (hl : ∀ a, a.1.f_why ≠ 0 → ∃ a', g a = some a' ∧ a'.1 = a.1) : An3 b (Option.bind o g) (s.bind k) Q' := by
  cases s with
  | ok x r =>
    obtain ⟨a, h1, h2⟩ := h
    rw [h1, Option.bind_some]
    exact hk x r a rfl h2
  | bad p w =>
    obtain ⟨hw, a, h1, h2, h3⟩ := h
    rw [h1, Option.bind_some]
    obtain ⟨a', e1, e2⟩ := hl a (by rw [h3]; exact hw)
    exact ⟨hw, a', e1, by rw [e2]; exact h2, by rw [e2]; exact h3⟩
theorem an3_mapr {A B A' B' : Type} {b : Str} {o : Option (R3 × A)} {s : Rs B} {Q : B → Str → R3 × A → Prop} {g : B → B'} {k : R3 × A → Option (R3 × A')} {Q' : B' → Str → R3 × A' → Prop} (h : An3 b o s Q)
    (hk : ∀ x r a, Q x r a → ∃ a', k a = some a' ∧ Q' (g x) r a') (hl : ∀ a, a.1.f_why ≠ 0 → ∃ a', k a = some a' ∧ a'.1 = a.1) : An3 b (Option.bind o k) (s.bind fun x r => .ok (g x) r) Q' :=
  an3_bind h (fun x r a _ hq => hk x r a hq) hl
theorem an3_map1 {A B B' : Type} {b : Str} {o : Option (R3 × A)} {s : Rs B} {Q : B → Str → R3 × A → Prop} {g : B → B'} {Q' : B' → Str → R3 × A → Prop} (h : An3 b o s Q)
    (hk : ∀ x r a, Q x r a → Q' (g x) r a) : An3 b o (s.bind fun x r => .ok (g x) r) Q' := by
  cases s with
  | ok x r => obtain ⟨a, h1, h2⟩ := h; exact ⟨a, h1, hk _ _ _ h2⟩
  | bad p w => exact h
abbrev g3 (b : Str) (k n : Nat) : R3 := ⟨b, (k : Nat), (n : Nat), 0, 0⟩
theorem bad3 (b : Str) (k n : Nat) (p w : Int) : p_ref03_reading_bad (g3 b k n) p w = some ⟨b, (k : Nat), (n : Nat), p, w⟩ := rfl
theorem one_lost {st : R3} (h : st.f_why ≠ 0) : p_ref03_reading_one st = some (st, 0) := by
  simp only [p_ref03_reading_one]; rw [ne_t h]; rfl
theorem one3 {b r : Str} {k n : Nat} (h : Sx b k r) (hb : b.length ≤ 1099511627776) : p_ref03_reading_one (g3 b k n) = match r with
    | [] => some (⟨b, (k : Nat), (n : Nat), (b.length : Nat), 4⟩, 0)
    | c :: _ => some (g3 b (k + 1) n, c) := by
  have hl := h.len
  cases r with
  | nil =>
    simp only [List.length_nil] at hl
    simp only [p_ref03_reading_one, show ((0 : Int) != 0) = false from rfl, cond_false]
    rw [show (((k : Nat) : Int) == ((b.length : Nat) : Int)) = true by simp; omega, cond_true, bad3, Option.bind_some]
  | cons c r =>
    simp only [List.length_cons] at hl
    simp only [p_ref03_reading_one, show ((0 : Int) != 0) = false from rfl, cond_false]
    have e1 : IntKind.i64.wrap ((k : Int) + 1) = ((k + 1 : Nat) : Int) := by rw [w64_in (by omega) (by omega)]; omega
    have e2 : IntKind.i64.wrap (((k + 1 : Nat) : Int) - 1) = (k : Int) := by rw [w64_in (by omega) (by omega)]; omega
    rw [show (((k : Nat) : Int) == ((b.length : Nat) : Int)) = false by simp; omega, cond_false, e1, e2, h.head, Option.bind_some]
abbrev QN3 (b : Str) (n : Nat) : Nat → Str → R3 × Int → Prop := fun m r' a => ∃ k', Sx b k' r' ∧ a = (g3 b k' n, (m : Int))
theorem number_lost {st : R3} (h : st.f_why ≠ 0) : p_ref03_reading_number st = some (st, 0) := by
  simp only [p_ref03_reading_number]
  rw [ref03_reading_number_l1_eq]
  simp only [ref03_reading_number_l1b]
  rw [show (decide ((0 : Int) < 10)) = true from rfl, cond_true, one_lost h, Option.bind_some]
  simp only [ne_t h, cond_true]
theorem shl_sum {acc c i : Nat} (h64 : acc + c * 2 ^ (7 * i) < 18446744073709551616) (hi : i ≤ 9) : IntKind.u64.wrap ((acc : Int) + shlK .u64 (c : Int) (IntKind.u64.wrap (IntKind.i64.wrap (7 * (i : Int))))) = ((acc + c * 2 ^ (7 * i) : Nat) : Int) := by
  rw [w64_in (by omega) (by omega), show 7 * (i : Int) = ((7 * i : Nat) : Int) by omega, wu_nat (by omega), shl_nat (by omega) (by omega), show (acc : Int) + ((c * 2 ^ (7 * i) : Nat) : Int) = ((acc + c * 2 ^ (7 * i) : Nat) : Int) by omega, wu_nat h64]
theorem mod128 (c : UInt8) : (UInt8.ofInt (Int.tmod (c.toNat : Int) (((128 : UInt8)).toNat : Int))).toNat = c.toNat % 128 := by
  have hc := c.toNat_lt
  have e : Int.tmod (c.toNat : Int) (((128 : UInt8)).toNat : Int) = ((c.toNat % 128 : Nat) : Int) := rfl
  rw [e, u8_ofInt]; omega
theorem num3_l {b : Str} {n k0 fr : Nat} {a0 : R3} (hb : b.length ≤ 1099511627776) (ha : a0.f_at = ((k0 : Nat) : Int)) (hfr : k0 = b.length - fr) : ∀ (j i acc k : Nat) (r : Str), j + i = 10 → i ≤ 9 → Sx b k r → acc < 2 ^ (7 * i) →
    An3 b (ref03_reading_number_l1 a0 (acc : Nat) (i : Nat) b (k : Nat) (n : Nat) 0 0) (numS fr j i acc r) (QN3 b n)
  | 0, i, acc, k, r, hj, hi, hs, hacc => by omega
  | j + 1, i, acc, k, r, hj, hi, hs, hacc => by
    rw [ref03_reading_number_l1_eq]
    simp only [ref03_reading_number_l1b]
    rw [decide_eq_true (by omega), cond_true, one3 hs hb]
    cases r with
    | nil =>
      rw [Option.bind_some, numS]
      exact ⟨by decide, _, rfl, rfl, rfl⟩
    | cons c r =>
      have hc := c.toNat_lt
      have hsr := hs.go (c := [c]) (r' := r) rfl
      simp only []
      rw [Option.bind_some, numS]
      simp only [show ((0 : Int) != 0) = false from rfl, cond_false]
      have c1 : (((1 : UInt8)).toNat : Int) = 1 := rfl
      have c0 : (((0 : UInt8)).toNat : Int) = 0 := rfl
      have c128 : (((128 : UInt8)).toNat : Int) = 128 := rfl
      have hjt : ∀ s : Bool, s = true → An3 b (ref03_reading_number_j1 (ref03_reading_number_l1 a0) a0 (acc : Nat) (i : Nat) (g3 b (k + 1) n, c) s) (.bad fr 31 : Rs Nat) (QN3 b n) := by
        intro s hs'
        subst hs'
        simp only [ref03_reading_number_j1, cond_true]
        rw [bad3, Option.bind_some]
        exact ⟨by decide, _, rfl, by rw [ha, hfr], rfl⟩
      have hjf : ∀ s : Bool, s = false → ¬ ((i = 9 ∧ 1 < c.toNat) ∨ (0 < i ∧ c.toNat = 0)) → An3 b (ref03_reading_number_j1 (ref03_reading_number_l1 a0) a0 (acc : Nat) (i : Nat) (g3 b (k + 1) n, c) s)
          (if c.toNat < 128 then .ok (acc + c.toNat % 128 * 2 ^ (7 * i)) r else numS fr j (i + 1) (acc + c.toNat % 128 * 2 ^ (7 * i)) r) (QN3 b n) := by
        intro s hs' hno
        subst hs'
        have hp : 2 ^ (7 * (i + 1)) = 128 * 2 ^ (7 * i) := by rw [show 7 * (i + 1) = 7 * i + 7 by omega, Nat.pow_add, Nat.mul_comm]
        have hlt : acc + c.toNat % 128 * 2 ^ (7 * i) < 2 ^ (7 * (i + 1)) := by
          have h7 : c.toNat % 128 * 2 ^ (7 * i) ≤ 127 * 2 ^ (7 * i) := Nat.mul_le_mul_right _ (by omega)
          rw [hp]; omega
        have h64 : acc + c.toNat % 128 * 2 ^ (7 * i) < 18446744073709551616 := by
          rcases Nat.lt_or_ge i 9 with h9 | h9
          · have : 2 ^ (7 * (i + 1)) ≤ 2 ^ 63 := Nat.pow_le_pow_right (by omega) (by omega)
            omega
          · have h9 : i = 9 := by omega
            subst h9
            have : c.toNat ≤ 1 := by
              rcases Nat.lt_or_ge 1 c.toNat with h1 | h1
              · exact absurd (.inl ⟨rfl, h1⟩) hno
              · exact h1
            have := Nat.mul_le_mul_right (2 ^ (7 * 9)) (Nat.le_trans (Nat.mod_le c.toNat 128) this)
            rw [show (2 : Nat) ^ (7 * 9) = 9223372036854775808 by decide] at *
            omega
        have hw1 : IntKind.i64.wrap (((i : Nat) : Int) + 1) = ((i + 1 : Nat) : Int) := by rw [w64_in (by omega) (by omega)]; omega
        have hneg : negO (IntKind.u64.wrap (IntKind.i64.wrap (7 * (i : Int)))) = some () := by
          rw [w64_in (by omega) (by omega), show 7 * (i : Int) = ((7 * i : Nat) : Int) by omega, wu_nat (by omega)]
          unfold negO; rw [decide_eq_true (by omega)]; rfl
        have hnz : nzO (((128 : UInt8)).toNat : Int) = some () := rfl
        simp only [ref03_reading_number_j1, cond_false]
        rw [hnz, Option.bind_some, hneg, Option.bind_some, mod128, shl_sum h64 hi, hw1]
        by_cases h128 : c.toNat < 128
        · rw [if_pos h128, decide_eq_true (by rw [c128]; omega), cond_true]
          exact ⟨_, rfl, k + 1, hsr, rfl⟩
        · rw [if_neg h128, decide_eq_false (by rw [c128]; omega), cond_false]
          have hi8 : i + 1 ≤ 9 := by
            rcases Nat.lt_or_ge i 9 with h9 | h9
            · exact h9
            · exact absurd (.inl ⟨by omega, by omega⟩) hno
          exact num3_l hb ha hfr j (i + 1) _ (k + 1) r (by omega) hi8 hsr hlt
      by_cases hbad : (i = 9 ∧ 1 < c.toNat) ∨ (0 < i ∧ c.toNat = 0)
      · rw [if_pos hbad]
        by_cases h9 : i = 9
        · rw [show (((i : Nat) : Int) == 9) = true by simp; omega, cond_true, c1]
          by_cases hc1 : 1 < c.toNat
          · rw [decide_eq_true (by omega), cond_true]; exact hjt _ rfl
          · rw [decide_eq_false (by omega), cond_false, decide_eq_true (by omega), cond_true]
            exact hjt _ (by rw [c0]; simp; omega)
        · rw [show (((i : Nat) : Int) == 9) = false by simp; omega, cond_false, decide_eq_true (by omega), cond_true]
          exact hjt _ (by rw [c0]; simp; omega)
      · rw [if_neg hbad]
        by_cases h9 : i = 9
        · rw [show (((i : Nat) : Int) == 9) = true by simp; omega, cond_true, c1, decide_eq_false (by omega), cond_false, decide_eq_true (by omega), cond_true]
          exact hjf _ (by rw [c0]; simp; omega) hbad
        · rw [show (((i : Nat) : Int) == 9) = false by simp; omega, cond_false]
          by_cases h0 : 0 < i
          · rw [decide_eq_true (by omega), cond_true]; exact hjf _ (by rw [c0]; simp; omega) hbad
          · rw [decide_eq_false (by omega), cond_false]; exact hjf _ rfl hbad
theorem number3 {b r : Str} {k n : Nat} (h : Sx b k r) (hb : b.length ≤ 1099511627776) : An3 b (p_ref03_reading_number (g3 b k n)) (nmS r) (QN3 b n) := by
  have hl := h.len
  exact num3_l (a0 := g3 b k n) hb rfl (by omega) 10 0 0 k r rfl (by omega) h (by simp)
theorem long_lost {st : R3} {x y z : Int} (h : st.f_why ≠ 0) : p_ref03_reading_long st x y z = some (st, 0) := by
  simp only [p_ref03_reading_long]
  rw [number_lost h, Option.bind_some]
  simp only [eq_t h, cond_false, ref03_reading_long_j2, ref03_reading_long_j1]
theorem long3 {b r : Str} {k n part lim : Nat} {w : Int} (h : Sx b k r) (hb : b.length ≤ 1099511627776) (hw : w ≠ 0) : An3 b (p_ref03_reading_long (g3 b k n) (lim : Nat) ((b.length - part : Nat) : Int) w) ((nmS r).bind fun m r => if lim < m then .bad part w else .ok m r) (QN3 b n) := by
  simp only [p_ref03_reading_long]
  refine an3_bind (number3 h hb) ?_ ?_
  · rintro m r1 a hm ⟨k', hs, rfl⟩
    simp only [show ((0 : Int) == 0) = true from rfl, cond_true]
    by_cases hlt : lim < m
    · rw [if_pos hlt, decide_eq_true (by omega)]
      simp only [ref03_reading_long_j2, cond_true]
      rw [bad3, Option.bind_some]
      exact ⟨hw, _, rfl, rfl, rfl⟩
    · rw [if_neg hlt, decide_eq_false (by omega)]
      simp only [ref03_reading_long_j2, cond_false, ref03_reading_long_j1]
      exact ⟨_, rfl, k', hs, rfl⟩
  · intro a ha
    simp only [eq_t ha, cond_false, ref03_reading_long_j2, ref03_reading_long_j1]
    exact ⟨_, rfl, rfl⟩
theorem some_lost {st : R3} {x : Int} (h : st.f_why ≠ 0) : p_ref03_reading_some st x = some (st, []) := by
  simp only [p_ref03_reading_some]; rw [ne_t h]; rfl
theorem some3 {b r : Str} {k n m : Nat} (h : Sx b k r) (hb : b.length ≤ 1099511627776) (hm : m ≤ 1099511627776) : An3 b (p_ref03_reading_some (g3 b k n) (m : Nat)) (takeS m r) (fun s r' a => ∃ k', Sx b k' r' ∧ a = (g3 b k' n, s)) := by
  have hl := h.len
  simp only [p_ref03_reading_some, takeS, show ((0 : Int) != 0) = false from rfl, cond_false]
  have e0 : IntKind.u64.wrap (IntKind.i64.wrap (((b.length : Nat) : Int) - (k : Int))) = ((r.length : Nat) : Int) := by
    rw [w64_in (by omega) (by omega), show ((b.length : Nat) : Int) - (k : Int) = ((r.length : Nat) : Int) by omega, wu_nat (by omega)]
  rw [e0]
  by_cases hlt : r.length < m
  · rw [if_pos hlt, decide_eq_true (by omega), cond_true, bad3, Option.bind_some]
    exact ⟨by decide, _, rfl, rfl, rfl⟩
  · rw [if_neg hlt, decide_eq_false (by omega), cond_false]
    have e4 : IntKind.i64.wrap ((m : Nat) : Int) = ((m : Nat) : Int) := w64_in (by omega) (by omega)
    have e1 : IntKind.i64.wrap (((k : Nat) : Int) + ((m : Nat) : Int)) = ((k + m : Nat) : Int) := by rw [w64_in (by omega) (by omega)]; omega
    have e2 : IntKind.i64.wrap (((k + m : Nat) : Int) - ((m : Nat) : Int)) = ((k : Nat) : Int) := by rw [w64_in (by omega) (by omega)]; omega
    have e3 : cutO b ((k : Nat) : Int) ((k + m : Nat) : Int) = some (r.take m) := by
      unfold cutO
      rw [decide_eq_true (by omega), decide_eq_true (by omega), decide_eq_true (by omega)]
      simp only [Bool.and_self, cond_true, Int.toNat_natCast, Option.some.injEq]
      rw [List.drop_take, h.2]; congr 1; omega
    rw [e4, e1, e2, e3, Option.bind_some]
    refine ⟨_, rfl, k + m, ⟨by omega, ?_⟩, rfl⟩
    rw [← List.drop_drop, h.2]
theorem name_tail {b : Str} {part : Nat} {x : R3 × Int} {st : R3} (h : st.f_why ≠ 0) : ∃ a', ref03_reading_name_j1 ((b.length - part : Nat) : Int) x st.f_b st.f_at st.f_n st.f_place st.f_why = some a' ∧ a'.1 = st := by
  simp only [ref03_reading_name_j1]
  rw [show (⟨st.f_b, st.f_at, st.f_n, st.f_place, st.f_why⟩ : R3) = st from rfl, some_lost h, Option.bind_some]
  simp only [eq_t h, cond_false, ref03_reading_name_j3, ref03_reading_name_j2]
  exact ⟨_, rfl, rfl⟩
theorem nameS_eq (part : Nat) (r : Str) : nameS part r = ((nmS r).bind fun m r => if 32 < m then .bad part 8 else .ok m r).bind fun m r => if m < 1 then .bad part 8 else (takeS m r).bind fun s r => if nameOk s then .ok s r else .bad part 8 := by
  unfold nameS
  cases nmS r with
  | bad p w => rfl
  | ok m r =>
    show (if m < 1 ∨ 32 < m then _ else _) = ((if 32 < m then (.bad part 8) else .ok m r : Rs Nat)).bind _
    by_cases h1 : 32 < m
    · rw [if_pos (.inr h1), if_pos h1]; rfl
    · rw [if_neg h1]
      show _ = (if m < 1 then _ else _)
      by_cases h2 : m < 1
      · rw [if_pos (.inl h2), if_pos h2]
      · rw [if_neg (by omega), if_neg h2]
theorem name3 {b r : Str} {k n part : Nat} (h : Sx b k r) (hb : b.length ≤ 1099511627776) : An3 b (p_ref03_reading_name (g3 b k n) ((b.length - part : Nat) : Int)) (nameS part r) (fun s r' a => ∃ k', Sx b k' r' ∧ a = (g3 b k' n, s)) := by
  rw [nameS_eq]
  simp only [p_ref03_reading_name]
  refine an3_bind (long3 (lim := 32) (w := 8) h hb (by decide)) ?_ ?_
  · rintro m r1 a hm ⟨k', hs, rfl⟩
    have hm32 : m ≤ 32 := by
      obtain ⟨y, r2, _, h2⟩ := bind_ok hm
      split at h2
      · cases h2
      · injection h2 with h2 _; omega
    simp only [show ((0 : Int) == 0) = true from rfl, cond_true]
    by_cases h1 : m < 1
    · rw [if_pos h1, show (((m : Nat) : Int) == 0) = true by simp; omega]
      simp only [ref03_reading_name_j4, cond_true]
      rw [bad3, Option.bind_some]
      obtain ⟨a', e1, e2⟩ := name_tail (b := b) (part := part) (x := (g3 b k' n, (m : Int))) (st := ⟨b, (k' : Nat), (n : Nat), ((b.length - part : Nat) : Int), 8⟩) (show (8 : Int) ≠ 0 by decide)
      exact ⟨by decide, a', e1, by rw [e2], by rw [e2]⟩
    · rw [if_neg h1, show (((m : Nat) : Int) == 0) = false by simp; omega]
      simp only [ref03_reading_name_j4, cond_false, ref03_reading_name_j1]
      refine an3_bind (some3 hs hb (by omega)) ?_ ?_
      · rintro s r2 a hs2 ⟨k2, hs3, rfl⟩
        simp only [show ((0 : Int) == 0) = true from rfl, cond_true, ref01_Name_eq, Option.bind_some]
        cases hn : nameOk s with
        | true =>
          simp only [Bool.not_true, ref03_reading_name_j3, cond_false, ref03_reading_name_j2]
          exact ⟨_, rfl, k2, hs3, rfl⟩
        | false =>
          simp only [Bool.not_false, ref03_reading_name_j3, cond_true]
          rw [bad3, Option.bind_some]
          simp only [ref03_reading_name_j2]
          exact ⟨by decide, _, rfl, rfl, rfl⟩
      · intro a ha
        simp only [eq_t ha, cond_false, ref03_reading_name_j3, ref03_reading_name_j2]
        exact ⟨_, rfl, rfl⟩
  · intro a ha
    simp only [eq_t ha, cond_false, ref03_reading_name_j4]
    exact name_tail ha
end Go.Proofs.Ytigadhiciinicaa

namespace Go.Proofs.Ytigadhiciinicaa
open Go Aw
set_option linter.unusedVariables false
set_option linter.unusedSimpArgs false
set_option maxRecDepth 8000
abbrev t0 (k : Int) : Term := .mk k false 0 0 [] [] 0 [] [] [] 0
theorem term_lost {st : R3} {x : Int} (h : st.f_why ≠ 0) : p_ref03_reading_term st x = some (st, t0 0) := by
  rw [e_ref03_reading_term]
  simp only [b_ref03_reading_term]; rw [ne_t h]; rfl
abbrev Q3 (b : Str) : V × Nat → Str → R3 × Term → Prop := fun x r' a => ∃ k', Sx b k' r' ∧ x.2 ≤ 16384 ∧ a = (g3 b k' x.2, cl x.1)
def VOK3 (b : Str) (f : Nat → Str → Rs (V × Nat)) (d : Int) : Prop := ∀ (k n : Nat) (r : Str), Sx b k r → n ≤ 16384 → An3 b (p_ref03_reading_term (g3 b k n) d) (f n r) (Q3 b)
theorem items_lost {t : Term} {d : Int} {x : R3 × Int} {i : Int} {acc : List Term} {st : R3} (h : st.f_why ≠ 0) : ∃ a', ref03_reading_body_l2 p_ref03_reading_term t d x i st.f_b st.f_at st.f_n st.f_place st.f_why acc = some a' ∧ a'.1 = st := by
  rw [ref03_reading_body_l2_eq]
  simp only [ref03_reading_body_l2b]
  cases decide (i < x.2) with
  | true => rw [cond_true, eq_t h]; exact ⟨_, rfl, rfl⟩
  | false => rw [cond_false]; exact ⟨_, rfl, rfl⟩
theorem items3 {b : Str} {f : Nat → Str → Rs (V × Nat)} {d : Int} {x1 : R3 × Int} {m : Nat} (hx : x1.2 = (m : Nat)) (hm : m ≤ 4096) (hf : VOK3 b f (IntKind.i64.wrap (d + 1))) : ∀ (j i : Nat) (acc : List Term) (k n : Nat) (r : Str), i + j = m → acc.length ≤ i → Sx b k r → n ≤ 16384 →
    An3 b (ref03_reading_body_l2 p_ref03_reading_term (t0 8) d x1 (i : Nat) b (k : Nat) (n : Nat) 0 0 acc) (itemsS f j n r) (fun x r' a => ∃ k', Sx b k' r' ∧ x.2 ≤ 16384 ∧ a = (g3 b k' x.2, .mk 8 false 0 0 [] [] 0 (acc ++ x.1.map cl) [] [] 0))
  | 0, i, acc, k, n, r, hj, ha, hs, hn => by
    rw [ref03_reading_body_l2_eq]
    simp only [ref03_reading_body_l2b]
    rw [hx, decide_eq_false (by omega), cond_false, itemsS]
    exact ⟨_, rfl, k, hs, hn, by simp only [List.map_nil, List.append_nil]; try rfl⟩
  | j + 1, i, acc, k, n, r, hj, ha, hs, hn => by
    rw [ref03_reading_body_l2_eq]
    simp only [ref03_reading_body_l2b]
    rw [hx, decide_eq_true (by omega), cond_true, itemsS, show ((0 : Int) == 0) = true from rfl]
    simp only [ref03_reading_body_j4, cond_true]
    refine an3_bind (hf k n r hs hn) ?_ ?_
    · rintro ⟨x, n1⟩ r1 a hfx ⟨k1, hs1, hn1, rfl⟩
      have hw : IntKind.u64.wrap ((i : Int) + 1) = ((i + 1 : Nat) : Int) := by rw [show (i : Int) + 1 = ((i + 1 : Nat) : Int) by omega, wu_nat (by omega)]
      simp only []
      rw [app1 (by omega) (by omega), Option.bind_some, hw]
      refine an3_map1 (items3 hx hm hf j (i + 1) (acc ++ [cl x]) k1 n1 r1 (by omega) (by simp only [List.length_append, List.length_cons, List.length_nil]; omega) hs1 hn1) ?_
      rintro ⟨y, n2⟩ r2 a ⟨k2, h1, h2, rfl⟩
      exact ⟨k2, h1, h2, by simp⟩
    · intro a ha'
      rw [app1 (by omega) (by omega), Option.bind_some]
      exact items_lost ha'
theorem flds_lost {p d : Int} {x : R3 × Int} {i : Int} {acc : List (Str × Term)} {st : R3} (h : st.f_why ≠ 0) : ∃ a', ref03_reading_fields_l1 p_ref03_reading_term p d x acc i st.f_b st.f_at st.f_n st.f_place st.f_why = some a' ∧ a'.1 = st := by
  rw [ref03_reading_fields_l1_eq]
  simp only [ref03_reading_fields_l1b]
  cases decide (i < x.2) with
  | true => rw [cond_true, eq_t h]; exact ⟨_, rfl, rfl⟩
  | false => rw [cond_false]; exact ⟨_, rfl, rfl⟩
def LastOk (acc : List (Str × Term)) (last : Str) : Prop := (acc = [] ∧ last = []) ∨ ∃ pre t, acc = pre ++ [(last, t)]
theorem leB_nil {s : Str} (h : nameOk s = true) : leB s [] = false := by
  have := nameOk_len h
  cases s with
  | nil => simp at this
  | cons a t => rfl
theorem flds_step_lost {p d : Int} {x : R3 × Int} {y : R3 × Str} {i : Int} {acc : List (Str × Term)} {st : R3} (h : st.f_why ≠ 0) (hl : acc.length ≤ 1073741824) : ∃ a', ref03_reading_fields_j2 p_ref03_reading_term (ref03_reading_fields_l1 p_ref03_reading_term p d x) d acc i y st.f_b st.f_at st.f_n st.f_place st.f_why = some a' ∧ a'.1 = st := by
  simp only [ref03_reading_fields_j2]
  rw [show (⟨st.f_b, st.f_at, st.f_n, st.f_place, st.f_why⟩ : R3) = st from rfl, term_lost h, Option.bind_some, app1 (by omega) hl, Option.bind_some]
  exact flds_lost h
theorem flds3 {b : Str} {f : Nat → Str → Rs (V × Nat)} {d : Int} {x1 : R3 × Int} {m part : Nat} (hb : b.length ≤ 1099511627776) (hx : x1.2 = (m : Nat)) (hm : m ≤ 4096) (hf : VOK3 b f (IntKind.i64.wrap (d + 1))) : ∀ (j i : Nat) (acc : List (Str × Term)) (last : Str) (k n : Nat) (r : Str), i + j = m → acc.length ≤ i → LastOk acc last → Sx b k r → n ≤ 16384 →
    An3 b (ref03_reading_fields_l1 p_ref03_reading_term ((b.length - part : Nat) : Int) d x1 acc (i : Nat) b (k : Nat) (n : Nat) 0 0) (fldsS f part j last n r) (fun x r' a => ∃ k', Sx b k' r' ∧ x.2 ≤ 16384 ∧ a = (g3 b k' x.2, acc ++ x.1.map clE))
  | 0, i, acc, last, k, n, r, hj, ha, hla, hs, hn => by
    rw [ref03_reading_fields_l1_eq]
    simp only [ref03_reading_fields_l1b]
    rw [hx, decide_eq_false (by omega), cond_false, fldsS]
    exact ⟨_, rfl, k, hs, hn, by simp only [List.map_nil, List.append_nil]; try rfl⟩
  | j + 1, i, acc, last, k, n, r, hj, ha, hla, hs, hn => by
    rw [ref03_reading_fields_l1_eq]
    simp only [ref03_reading_fields_l1b]
    rw [hx, decide_eq_true (by omega), cond_true, fldsS, show ((0 : Int) == 0) = true from rfl]
    simp only [ref03_reading_fields_j1, cond_true]
    refine an3_bind (name3 hs hb) ?_ ?_
    · rintro s r0 a hsx ⟨k0, hs0, rfl⟩
      have hnm := (nameS_inv hsx).2
      simp only [show ((0 : Int) == 0) = true from rfl, cond_true]
      -- behind the question
      have hj : ∀ q : Bool, q = leB s last → An3 b (ref03_reading_fields_j3 p_ref03_reading_term (ref03_reading_fields_l1 p_ref03_reading_term ((b.length - part : Nat) : Int) d x1) ((b.length - part : Nat) : Int) d acc (i : Nat) (g3 b k0 n, s) q)
          (if leB s last then .bad part 8 else (f n r0).bind fun x r => (fldsS f part j s x.2 r).bind fun y r => .ok ((s, x.1) :: y.1, y.2) r) (fun x r' a => ∃ k', Sx b k' r' ∧ x.2 ≤ 16384 ∧ a = (g3 b k' x.2, acc ++ x.1.map clE)) := by
        intro q hq
        subst hq
        cases hle : leB s last with
        | true =>
          rw [if_pos rfl]
          simp only [ref03_reading_fields_j3, cond_true]
          rw [bad3, Option.bind_some]
          obtain ⟨a', e1, e2⟩ := flds_step_lost (p := ((b.length - part : Nat) : Int)) (d := d) (x := x1) (y := (g3 b k0 n, s)) (i := (i : Nat)) (acc := acc) (st := ⟨b, (k0 : Nat), (n : Nat), ((b.length - part : Nat) : Int), 8⟩) (show (8 : Int) ≠ 0 by decide) (by omega)
          exact ⟨by decide, a', e1, by rw [e2], by rw [e2]⟩
        | false =>
          rw [if_neg (by simp)]
          simp only [ref03_reading_fields_j3, cond_false, ref03_reading_fields_j2]
          refine an3_bind (hf k0 n r0 hs0 hn) ?_ ?_
          · rintro ⟨x, n1⟩ r1 a hfx ⟨k1, hs1, hn1, rfl⟩
            have hw : IntKind.u64.wrap ((i : Int) + 1) = ((i + 1 : Nat) : Int) := by rw [show (i : Int) + 1 = ((i + 1 : Nat) : Int) by omega, wu_nat (by omega)]
            simp only []
            rw [app1 (by omega) (by omega), Option.bind_some, hw]
            refine an3_map1 (flds3 hb hx hm hf j (i + 1) (acc ++ [(s, cl x)]) s k1 n1 r1 (by omega) (by simp only [List.length_append, List.length_cons, List.length_nil]; omega) (.inr ⟨acc, cl x, rfl⟩) hs1 hn1) ?_
            rintro ⟨y, n2⟩ r2 a ⟨k2, h1, h2, rfl⟩
            exact ⟨k2, h1, h2, by simp [clE]⟩
          · intro a ha'
            rw [app1 (by omega) (by omega), Option.bind_some]
            exact flds_lost ha'
      rcases hla with ⟨rfl, rfl⟩ | ⟨pre, t, rfl⟩
      · rw [decide_eq_false (by simp), cond_false]
        exact hj _ (leB_nil hnm).symm
      · have hlen : (pre ++ [(last, t)]).length = pre.length + 1 := by simp
        rw [hlen] at ha
        rw [decide_eq_true (by omega), cond_true, hlen, w64_in (by omega) (by omega), show ((pre.length + 1 : Nat) : Int) - 1 = (pre.length : Nat) by omega, idxI_nat]
        rw [show (pre ++ [(last, t)])[pre.length]? = some (last, t) by simp, Option.bind_some]
        exact hj _ rfl
    · intro a ha'
      simp only [eq_t ha', cond_false, ref03_reading_fields_j3]
      exact flds_step_lost ha' (by omega)
theorem fields_lost {st : R3} {p d : Int} (h : st.f_why ≠ 0) : ∃ a', p_ref03_reading_fields st p d = some a' ∧ a'.1 = st := by
  rw [e_ref03_reading_fields]
  simp only [b_ref03_reading_fields]
  rw [long_lost h, Option.bind_some]
  exact flds_lost h
theorem most3_eq (part lim : Nat) (r : Str) : mostS part lim r = (nmS r).bind fun m r => if lim < m then .bad part 2 else .ok m r := rfl
theorem fields3 {b r : Str} {f : Nat → Str → Rs (V × Nat)} {d : Int} {k n part : Nat} (hb : b.length ≤ 1099511627776) (hf : VOK3 b f (IntKind.i64.wrap (d + 1))) (hs : Sx b k r) (hn : n ≤ 16384) :
    An3 b (p_ref03_reading_fields (g3 b k n) ((b.length - part : Nat) : Int) d) ((mostS part 4096 r).bind fun m r => fldsS f part m [] n r) (fun x r' a => ∃ k', Sx b k' r' ∧ x.2 ≤ 16384 ∧ a = (g3 b k' x.2, x.1.map clE)) := by
  rw [e_ref03_reading_fields, most3_eq]
  simp only [b_ref03_reading_fields]
  refine an3_bind (long3 (lim := 4096) (w := 2) hs hb (by decide)) ?_ ?_
  · rintro m r1 a hm ⟨k1, hs1, rfl⟩
    exact flds3 (m := m) hb rfl (mostS_inv (part := part) hm).2 hf m 0 [] [] k1 n r1 (by omega) (by simp) (.inl ⟨rfl, rfl⟩) hs1 hn
  · intro a ha
    exact flds_lost ha
theorem float3_l {b : Str} {n : Nat} {t : Term} (hb : b.length ≤ 1099511627776) : ∀ (j i acc k : Nat) (r : Str), i + j = 8 → acc < 256 ^ i → Sx b k r →
    An3 b (ref03_reading_body_l1 t (acc : Nat) (i : Nat) b (k : Nat) (n : Nat) 0 0) (takeS j r) (fun s r' a => ∃ k', Sx b k' r' ∧ a = (g3 b k' n, .mk t.kind t.bool t.int (s.foldl (fun a c => a * 256 + c.toNat) acc) t.text t.bytes t.ref [] t.fields t.cls t.ver))
  | 0, i, acc, k, r, h, ha, hs => by
    rw [ref03_reading_body_l1_eq]
    simp only [ref03_reading_body_l1b]
    rw [decide_eq_false (by omega), cond_false, takeS, if_neg (by omega)]
    exact ⟨_, rfl, k, hs, rfl⟩
  | j + 1, i, acc, k, r, h, ha, hs => by
    have lost : ∀ (j : Nat) (i acc : Int) (st : R3), i + j = 8 → 0 ≤ i → st.f_why ≠ 0 → ∃ a', ref03_reading_body_l1 t acc i st.f_b st.f_at st.f_n st.f_place st.f_why = some a' ∧ a'.1 = st := by
      intro j
      induction j with
      | zero =>
        intro i acc st h0 hp hw
        rw [ref03_reading_body_l1_eq]
        simp only [ref03_reading_body_l1b]
        rw [decide_eq_false (by omega), cond_false]
        exact ⟨_, rfl, rfl⟩
      | succ j ih =>
        intro i acc st h0 hp hw
        rw [ref03_reading_body_l1_eq]
        simp only [ref03_reading_body_l1b]
        rw [show (⟨st.f_b, st.f_at, st.f_n, st.f_place, st.f_why⟩ : R3) = st from rfl, one_lost hw, Option.bind_some]
        cases hd : decide (i < 8) with
        | true =>
          have := of_decide_eq_true hd
          rw [cond_true]
          rw [show IntKind.i64.wrap (i + 1) = i + 1 from w64_in (by omega) (by omega)]
          exact ih (i + 1) _ st (by omega) (by omega) hw
        | false => rw [cond_false]; exact ⟨_, rfl, rfl⟩
    rw [ref03_reading_body_l1_eq]
    simp only [ref03_reading_body_l1b]
    rw [decide_eq_true (by omega), cond_true, one3 hs hb]
    have hi : IntKind.i64.wrap ((i : Int) + 1) = ((i + 1 : Nat) : Int) := by rw [w64_in (by omega) (by omega)]; omega
    cases r with
    | nil =>
      rw [Option.bind_some, takeS, if_pos (by simp)]
      obtain ⟨a', e1, e2⟩ := lost j (IntKind.i64.wrap ((i : Int) + 1)) (IntKind.u64.wrap ((IntKind.u64.wrap ((acc : Int) * 256)) + ((0 : UInt8).toNat : Int))) ⟨b, (k : Nat), (n : Nat), (b.length : Nat), 4⟩ (by rw [hi]; omega) (by rw [hi]; omega) (show (4 : Int) ≠ 0 by decide)
      exact ⟨by decide, a', e1, by rw [e2]; rfl, by rw [e2]⟩
    | cons c r =>
      have hc := c.toNat_lt
      have hsr : Sx b (k + 1) r := hs.go (c := [c]) (r' := r) rfl
      have h7 : 256 ^ i ≤ 256 ^ 7 := Nat.pow_le_pow_right (by omega) (by omega)
      have e7 : (256 : Nat) ^ 7 = 72057594037927936 := by decide
      have ew : IntKind.u64.wrap ((IntKind.u64.wrap ((acc : Int) * 256)) + (c.toNat : Int)) = ((acc * 256 + c.toNat : Nat) : Int) := by
        rw [show (acc : Int) * 256 = ((acc * 256 : Nat) : Int) by omega, wu_nat (by omega), show ((acc * 256 : Nat) : Int) + (c.toNat : Int) = ((acc * 256 + c.toNat : Nat) : Int) by omega, wu_nat (by omega)]
      simp only []
      rw [Option.bind_some]
      dsimp only
      rw [ew, hi]
      have hr := float3_l hb (t := t) (n := n) j (i + 1) (acc * 256 + c.toNat) (k + 1) r (by omega) (by rw [Nat.pow_succ]; omega) hsr
      unfold takeS at hr ⊢
      rw [List.length_cons]
      by_cases hlt : r.length < j
      · rw [if_pos hlt] at hr
        rw [if_pos (by omega)]; exact hr
      · rw [if_neg hlt] at hr
        rw [if_neg (by omega)]
        obtain ⟨a, h1, k', h2, rfl⟩ := hr
        exact ⟨_, h1, k', h2, rfl⟩
theorem unzig3 {m : Nat} (h : m < 18446744073709551616) : (bif (Int.tmod (m : Int) 2) == 1 then IntKind.i64.wrap ((IntKind.i64.wrap (0 - (IntKind.i64.wrap (IntKind.u64.wrap (Int.tdiv (m : Int) 2))))) - 1) else IntKind.i64.wrap (IntKind.u64.wrap (Int.tdiv (m : Int) 2))) = unzig m := by
  have e1 : Int.tmod (m : Int) 2 = ((m % 2 : Nat) : Int) := rfl
  have e2 : Int.tdiv (m : Int) 2 = ((m / 2 : Nat) : Int) := rfl
  have e3 : IntKind.i64.wrap ((m / 2 : Nat) : Int) = ((m / 2 : Nat) : Int) := w64_in (by omega) (by omega)
  have e4 : IntKind.i64.wrap (0 - ((m / 2 : Nat) : Int)) = 0 - ((m / 2 : Nat) : Int) := w64_in (by omega) (by omega)
  have e5 : IntKind.i64.wrap (0 - ((m / 2 : Nat) : Int) - 1) = 0 - ((m / 2 : Nat) : Int) - 1 := w64_in (by omega) (by omega)
  rw [e1, e2, wu_nat (by omega), e3, e4, e5]
  unfold unzig
  by_cases hm : m % 2 = 0
  · rw [if_pos hm, hm]; rfl
  · rw [if_neg hm, show m % 2 = 1 by omega]
    show (0 - ((m / 2 : Nat) : Int)) - 1 = _
    omega
end Go.Proofs.Ytigadhiciinicaa

namespace Go.Proofs.Ytigadhiciinicaa
open Go Aw
set_option linter.unusedVariables false
set_option linter.unusedSimpArgs false
set_option maxRecDepth 8000
theorem some_bad {b r : Str} {k n m p : Nat} {w : Int} (h : Sx b k r) (hb : b.length ≤ 1099511627776) (hm : m ≤ 1099511627776) (ht : takeS m r = .bad p w) : p_ref03_reading_some (g3 b k n) (m : Nat) = some (⟨b, (k : Nat), (n : Nat), (b.length : Nat), 4⟩, []) ∧ p = 0 ∧ w = 4 := by
  have hl := h.len
  unfold takeS at ht
  split at ht
  · rename_i hlt
    injection ht with h1 h2
    refine ⟨?_, h1.symm, h2.symm⟩
    simp only [p_ref03_reading_some, show ((0 : Int) != 0) = false from rfl, cond_false]
    have e0 : IntKind.u64.wrap (IntKind.i64.wrap (((b.length : Nat) : Int) - (k : Int))) = ((r.length : Nat) : Int) := by
      rw [w64_in (by omega) (by omega), show ((b.length : Nat) : Int) - (k : Int) = ((r.length : Nat) : Int) by omega, wu_nat (by omega)]
    rw [e0, decide_eq_true (by omega), cond_true, bad3, Option.bind_some]
  · cases ht
theorem body3 {b r : Str} {f : Nat → Str → Rs (V × Nat)} {d : Int} {k n part tag : Nat} (hb : b.length ≤ 1099511627776) (hp : part ≤ b.length) (h1 : 1 ≤ tag) (h10 : tag ≤ 10) (hf : VOK3 b f (IntKind.i64.wrap (d + 1))) (hs : Sx b k r) (hn : n ≤ 16384) :
    An3 b (p_ref03_reading_body (g3 b k n) (t0 (tag : Nat)) ((b.length - part : Nat) : Int) d) (bodyS f tag part n r) (Q3 b) := by
  have hl := hs.len
  rw [e_ref03_reading_body]
  have cases10 : tag = 1 ∨ tag = 2 ∨ tag = 3 ∨ tag = 4 ∨ tag = 5 ∨ tag = 6 ∨ tag = 7 ∨ tag = 8 ∨ tag = 9 ∨ tag = 10 := by omega
  rcases cases10 with rfl | rfl | rfl | rfl | rfl | rfl | rfl | rfl | rfl | rfl
  · exact ⟨_, rfl, k, hs, hn, rfl⟩
  · show An3 b (Option.bind (p_ref03_reading_one (g3 b k n)) fun x17 => bif ((x17.1).f_why == 0) then ref03_reading_body_j2 (t0 2) x17 (decide (((x17.2).toNat : Int) > (((1 : UInt8)).toNat : Int))) else ref03_reading_body_j2 (t0 2) x17 false) (boolS n r) (Q3 b)
    rw [one3 hs hb]
    cases r with
    | nil => exact ⟨by decide, _, rfl, rfl, rfl⟩
    | cons e r =>
      simp only [List.length_cons] at hl
      simp only [Option.bind_some, show ((0 : Int) == 0) = true from rfl, cond_true]
      rw [show boolS n (e :: r) = if 1 < e.toNat then .bad (r.length + 1) 30 else .ok (.bool (e.toNat == 1), n) r from rfl]
      have c1 : (((1 : UInt8)).toNat : Int) = 1 := rfl
      rw [c1]
      by_cases he : 1 < e.toNat
      · rw [decide_eq_true (by omega), if_pos he]
        simp only [ref03_reading_body_j2, cond_true]
        rw [bad3, Option.bind_some]
        have : IntKind.i64.wrap (((k + 1 : Nat) : Int) - 1) = ((b.length - (r.length + 1) : Nat) : Int) := by rw [w64_in (by omega) (by omega)]; omega
        rw [this]
        exact ⟨by decide, _, rfl, rfl, rfl⟩
      · rw [decide_eq_false (by omega), if_neg he]
        simp only [ref03_reading_body_j2, cond_false, c1]
        have hbeq : (((e.toNat : Nat) : Int) == 1) = (e.toNat == 1) := by
          by_cases h1 : e.toNat = 1
          · rw [h1]; rfl
          · rw [beq_false_of_ne h1, beq_false_of_ne (by omega)]
        rw [hbeq]
        exact ⟨_, rfl, k + 1, hs.go (c := [e]) (r' := r) rfl, hn, rfl⟩
  · show An3 b (Option.bind (p_ref03_reading_number (g3 b k n)) fun x23 => bif ((Int.tmod x23.2 2) == 1) then _ else _) ((nmS r).bind fun m r => .ok (.int (unzig m), n) r) (Q3 b)
    refine an3_bind (number3 hs hb) ?_ ?_
    · rintro m r1 a hm ⟨k1, hs1, rfl⟩
      have hz := unzig3 (nmS_inv hm).2
      dsimp only
      cases hc : (Int.tmod (m : Int) 2 == 1) with
      | true =>
        rw [hc, cond_true] at hz
        rw [cond_true, hz]
        exact ⟨_, rfl, k1, hs1, hn, rfl⟩
      | false =>
        rw [hc, cond_false] at hz
        rw [cond_false, hz]
        exact ⟨_, rfl, k1, hs1, hn, rfl⟩
    · intro a ha
      cases (Int.tmod a.2 2 == 1)
      · rw [cond_false]; exact ⟨_, rfl, rfl⟩
      · rw [cond_true]; exact ⟨_, rfl, rfl⟩
  · show An3 b (ref03_reading_body_l1 (t0 4) ((0 : Nat) : Int) ((0 : Nat) : Int) b (k : Nat) (n : Nat) 0 0) ((takeS 8 r).bind fun s r => .ok (.float (beS s), n) r) (Q3 b)
    refine an3_map1 (float3_l hb 8 0 0 k r (by omega) (by decide) hs) ?_
    rintro s r1 a ⟨k1, hs1, rfl⟩
    exact ⟨k1, hs1, hn, rfl⟩
  · show An3 b (Option.bind (p_ref03_reading_long (g3 b k n) ((65536 : Nat) : Int) ((b.length - part : Nat) : Int) 2) fun x37 => Option.bind (p_ref03_reading_some (x37.1) x37.2) fun x38 => _) ((mostS part 65536 r).bind fun m r => (takeS m r).bind fun s r => .ok (.text s, n) r) (Q3 b)
    rw [most3_eq]
    refine an3_bind (long3 hs hb (by decide)) ?_ ?_
    · rintro m r1 a hm ⟨k1, hs1, rfl⟩
      have := (mostS_inv (part := part) hm).2
      refine an3_mapr (g := fun s => (V.text s, n)) (some3 hs1 hb (by omega)) ?_ ?_
      · rintro s r2 a ⟨k2, hs2, rfl⟩
        exact ⟨_, rfl, k2, hs2, hn, rfl⟩
      · intro a ha
        exact ⟨_, rfl, rfl⟩
    · intro a ha
      rw [some_lost ha, Option.bind_some]
      exact ⟨_, rfl, rfl⟩
  · show An3 b (Option.bind (p_ref03_reading_long (g3 b k n) ((65536 : Nat) : Int) ((b.length - part : Nat) : Int) 2) fun x37 => Option.bind (p_ref03_reading_some (x37.1) x37.2) fun x38 => Option.bind (smallO (x38.2).length) fun x40 => _) ((mostS part 65536 r).bind fun m r => (takeS m r).bind fun s r => .ok (.bytes s, n) r) (Q3 b)
    have sm : ∀ x : Nat, x ≤ 65536 → smallO x = some () := fun x h => by unfold smallO; rw [Nat.ble_eq_true_of_le (by omega)]; rfl
    rw [most3_eq]
    refine an3_bind (long3 hs hb (by decide)) ?_ ?_
    · rintro m r1 a hm ⟨k1, hs1, rfl⟩
      have hm6 := (mostS_inv (part := part) hm).2
      have h3 := some3 (n := n) hs1 hb (show m ≤ 1099511627776 by omega)
      cases ht : takeS m r1 with
      | ok s r2 =>
        rw [ht] at h3
        obtain ⟨a, e1, k2, hs2', rfl⟩ := h3
        have := (takeS_inv ht).2
        dsimp only
        rw [e1, Option.bind_some, sm _ (by simp only []; omega), Option.bind_some]
        exact ⟨_, rfl, k2, hs2', hn, rfl⟩
      | bad p w =>
        obtain ⟨e1, e2⟩ := some_bad (n := n) hs1 hb (show m ≤ 1099511627776 by omega) ht
        dsimp only
        rw [e1, Option.bind_some, sm _ (by simp), Option.bind_some]
        obtain ⟨rfl, rfl⟩ := e2
        exact ⟨by decide, _, rfl, rfl, rfl⟩
    · intro a ha
      rw [some_lost ha, Option.bind_some, sm _ (by simp), Option.bind_some]
      exact ⟨_, rfl, rfl⟩
  · show An3 b (Option.bind (p_ref03_reading_number (g3 b k n)) fun x42 => _) ((nmS r).bind fun m r => .ok (.ref (m : Int), n) r) (Q3 b)
    refine an3_mapr (g := fun m : Nat => (V.ref (m : Int), n)) (number3 hs hb) ?_ ?_
    · rintro m r1 a ⟨k1, hs1, rfl⟩
      exact ⟨_, rfl, k1, hs1, hn, rfl⟩
    · intro a ha
      exact ⟨_, rfl, rfl⟩
  · show An3 b (Option.bind (p_ref03_reading_long (g3 b k n) ((4096 : Nat) : Int) ((b.length - part : Nat) : Int) 2) fun x44 => ref03_reading_body_l2 p_ref03_reading_term (t0 8) d x44 ((0 : Nat) : Int) ((x44.1).f_b) ((x44.1).f_at) ((x44.1).f_n) ((x44.1).f_place) ((x44.1).f_why) []) ((mostS part 4096 r).bind fun m r => (itemsS f m n r).bind fun x r => .ok (.list x.1, x.2) r) (Q3 b)
    rw [most3_eq]
    refine an3_bind (long3 hs hb (by decide)) ?_ ?_
    · rintro m r1 a hm ⟨k1, hs1, rfl⟩
      refine an3_map1 (items3 (m := m) rfl (mostS_inv (part := part) hm).2 hf m 0 [] k1 n r1 (by omega) (by simp) hs1 hn) ?_
      rintro ⟨y, n2⟩ r2 a ⟨k2, h1, h2, rfl⟩
      exact ⟨k2, h1, h2, by rw [cl, clL_map]; rfl⟩
    · intro a ha
      exact items_lost ha
  · show An3 b (Option.bind (p_ref03_reading_fields (g3 b k n) ((b.length - part : Nat) : Int) d) fun x58 => _) ((mostS part 4096 r).bind fun m r => (fldsS f part m [] n r).bind fun x r => .ok (.dict x.1, x.2) r) (Q3 b)
    rw [← bind_assoc']
    refine an3_mapr (g := fun x : List (Str × V) × Nat => (V.dict x.1, x.2)) (fields3 hb hf hs hn) ?_ ?_
    · rintro ⟨y, n2⟩ r2 a ⟨k2, h1, h2, rfl⟩
      exact ⟨_, rfl, k2, h1, h2, by rw [cl, clD_map]; rfl⟩
    · intro a ha
      exact ⟨_, rfl, rfl⟩
  · show An3 b (Option.bind (p_ref03_reading_name (g3 b k n) ((b.length - part : Nat) : Int)) fun x60 => Option.bind (p_ref03_reading_number (x60.1)) fun x61 => bif ((x61.1).f_why == 0) then (bif (decide (x61.2 < 1)) then ref03_reading_body_j6 p_ref03_reading_fields (t0 10) ((b.length - part : Nat) : Int) d x60 x61 true else ref03_reading_body_j6 p_ref03_reading_fields (t0 10) ((b.length - part : Nat) : Int) d x60 x61 (decide (x61.2 > 1000))) else ref03_reading_body_j6 p_ref03_reading_fields (t0 10) ((b.length - part : Nat) : Int) d x60 x61 false)
      ((nameS part r).bind fun s r => (nmS r).bind fun v r => if v < 1 ∨ 1000 < v then .bad part 1 else (mostS part 4096 r).bind fun m r => (fldsS f part m [] n r).bind fun x r => .ok (.record s (v : Int) x.1, x.2) r) (Q3 b)
    have tail : ∀ (x60 : R3 × Str) (x61 : R3 × Int) (st : R3), st.f_why ≠ 0 → ∃ a', ref03_reading_body_j5 p_ref03_reading_fields (t0 10) ((b.length - part : Nat) : Int) d x60 x61 st.f_b st.f_at st.f_n st.f_place st.f_why = some a' ∧ a'.1 = st := by
      intro x60 x61 st h
      simp only [ref03_reading_body_j5]
      obtain ⟨a, e1, e2⟩ := fields_lost (p := ((b.length - part : Nat) : Int)) (d := d) h
      rw [show (⟨st.f_b, st.f_at, st.f_n, st.f_place, st.f_why⟩ : R3) = st from rfl, e1, Option.bind_some, e2]
      exact ⟨_, rfl, rfl⟩
    refine an3_bind (name3 hs hb) ?_ ?_
    · rintro s r1 a hsx ⟨k1, hs1, rfl⟩
      refine an3_bind (number3 hs1 hb) ?_ ?_
      · rintro v r2 a hv ⟨k2, hs2, rfl⟩
        simp only [show ((0 : Int) == 0) = true from rfl, cond_true]
        have hbadj : An3 b (ref03_reading_body_j6 p_ref03_reading_fields (t0 10) ((b.length - part : Nat) : Int) d (g3 b k1 n, s) (g3 b k2 n, (v : Int)) true) (.bad part 1 : Rs (V × Nat)) (Q3 b) := by
          simp only [ref03_reading_body_j6, cond_true]
          rw [bad3, Option.bind_some]
          obtain ⟨a', e1, e2⟩ := tail (g3 b k1 n, s) (g3 b k2 n, (v : Int)) ⟨b, (k2 : Nat), (n : Nat), ((b.length - part : Nat) : Int), 1⟩ (show (1 : Int) ≠ 0 by decide)
          exact ⟨by decide, a', e1, by rw [e2], by rw [e2]⟩
        by_cases hbad : v < 1 ∨ 1000 < v
        · rw [if_pos hbad]
          by_cases h1 : v < 1
          · rw [decide_eq_true (by omega), cond_true]; exact hbadj
          · rw [decide_eq_false (by omega), cond_false, decide_eq_true (by omega)]; exact hbadj
        · rw [if_neg hbad, decide_eq_false (by omega), cond_false, decide_eq_false (by omega)]
          simp only [ref03_reading_body_j6, cond_false, ref03_reading_body_j5]
          rw [w64_in (by omega) (by omega), ← bind_assoc']
          refine an3_mapr (g := fun x : List (Str × V) × Nat => (V.record s (v : Int) x.1, x.2)) (fields3 hb hf hs2 hn) ?_ ?_
          · rintro ⟨y, n2⟩ r3 a ⟨k3, h1, h2, rfl⟩
            exact ⟨_, rfl, k3, h1, h2, by rw [cl, clD_map]; rfl⟩
          · intro a ha
            exact ⟨_, rfl, rfl⟩
      · intro a ha
        simp only [eq_t ha, cond_false, ref03_reading_body_j6]
        exact tail _ _ _ ha
    · intro a ha
      rw [number_lost ha, Option.bind_some]
      simp only [eq_t ha, cond_false, ref03_reading_body_j6]
      exact tail _ _ _ ha
theorem bind_pair {A B : Type} (o : Option (A × B)) : (Option.bind o fun x => some (x.1, x.2)) = o := by cases o <;> rfl
theorem term3 {b : Str} (hb : b.length ≤ 1099511627776) : ∀ (d : Nat), d ≤ 64 → VOK3 b (valS d) ((65 - d : Nat) : Int) := by
  intro d
  induction d with
  | zero =>
    intro _ k n r hs hn
    have hl := hs.len
    rw [e_ref03_reading_term]
    simp only [b_ref03_reading_term, show ((0 : Int) != 0) = false from rfl, cond_false]
    cases r with
    | nil =>
      simp only [List.length_nil] at hl
      rw [show (((k : Nat) : Int) == ((b.length : Nat) : Int)) = true by simp; omega, cond_true, bad3, Option.bind_some, valS]
      exact ⟨by decide, _, rfl, by simp only; omega, rfl⟩
    | cons c r =>
      simp only [List.length_cons] at hl
      rw [show (((k : Nat) : Int) == ((b.length : Nat) : Int)) = false by simp; omega, cond_false, valS]
      have hj : An3 b (ref03_reading_term_j1 p_ref03_reading_body (g3 b k n) ((65 - 0 : Nat) : Int) true) (.bad (r.length + 1) 2 : Rs (V × Nat)) (Q3 b) := by
        simp only [ref03_reading_term_j1, cond_true]
        rw [bad3, Option.bind_some]
        exact ⟨by decide, _, rfl, by simp only; omega, rfl⟩
      by_cases h1 : 16384 ≤ n
      · rw [decide_eq_true (by omega), cond_true]; exact hj
      · rw [decide_eq_false (by omega), cond_false, decide_eq_true (by omega)]; exact hj
  | succ d ih =>
    intro hd k n r hs hn
    have hl := hs.len
    have ih := ih (by omega)
    rw [e_ref03_reading_term]
    simp only [b_ref03_reading_term, show ((0 : Int) != 0) = false from rfl, cond_false]
    cases r with
    | nil =>
      simp only [List.length_nil] at hl
      rw [show (((k : Nat) : Int) == ((b.length : Nat) : Int)) = true by simp; omega, cond_true, bad3, Option.bind_some, valS]
      exact ⟨by decide, _, rfl, by simp only; omega, rfl⟩
    | cons c r =>
      simp only [List.length_cons] at hl
      have hc := c.toNat_lt
      have hsr : Sx b (k + 1) r := hs.go (c := [c]) (r' := r) rfl
      rw [show (((k : Nat) : Int) == ((b.length : Nat) : Int)) = false by simp; omega, cond_false, valS]
      by_cases h1 : 16384 ≤ n
      · rw [decide_eq_true (by omega), cond_true, if_pos h1]
        simp only [ref03_reading_term_j1, cond_true]
        rw [bad3, Option.bind_some]
        exact ⟨by decide, _, rfl, by simp only; omega, rfl⟩
      rw [decide_eq_false (by omega), cond_false, decide_eq_false (by omega), if_neg h1]
      have hw2 : IntKind.i64.wrap ((n : Int) + 1) = ((n + 1 : Nat) : Int) := by rw [w64_in (by omega) (by omega)]; omega
      simp only [ref03_reading_term_j1, cond_false]
      rw [hw2, show (⟨b, (k : Nat), ((n + 1 : Nat) : Int), 0, 0⟩ : R3) = g3 b k (n + 1) from rfl, one3 hs hb]
      simp only [Option.bind_some]
      have c1 : (((1 : UInt8)).toNat : Int) = 1 := rfl
      have c10 : (((10 : UInt8)).toNat : Int) = 10 := rfl
      rw [c1, c10]
      by_cases hbad : c.toNat < 1 ∨ 10 < c.toNat
      · rw [if_pos hbad]
        have hj : An3 b (ref03_reading_term_j2 p_ref03_reading_body (g3 b k n) ((65 - (d + 1) : Nat) : Int) (g3 b (k + 1) (n + 1), c) true) (.bad (r.length + 1) 30 : Rs (V × Nat)) (Q3 b) := by
          simp only [ref03_reading_term_j2, cond_true]
          rw [bad3, Option.bind_some]
          exact ⟨by decide, _, rfl, by simp only; omega, rfl⟩
        by_cases h2 : c.toNat < 1
        · rw [decide_eq_true (by omega), cond_true]; exact hj
        · rw [decide_eq_false (by omega), cond_false, decide_eq_true (by omega)]; exact hj
      rw [if_neg hbad, decide_eq_false (by omega), cond_false, decide_eq_false (by omega)]
      simp only [ref03_reading_term_j2, cond_false]
      rw [bind_pair]
      have hf : VOK3 b (valS d) (IntKind.i64.wrap (((65 - (d + 1) : Nat) : Int) + 1)) := by
        rw [w64_in (by omega) (by omega), show ((65 - (d + 1) : Nat) : Int) + 1 = ((65 - d : Nat) : Int) by omega]; exact ih
      rw [show ((k : Nat) : Int) = ((b.length - (r.length + 1) : Nat) : Int) by omega]
      exact body3 hb (by omega) (by omega) (by omega) hf hsr (by omega)
end Go.Proofs.Ytigadhiciinicaa

namespace Go.Proofs.Ytigadhiciinicaa
open Go Aw
set_option linter.unusedVariables false
set_option linter.unusedSimpArgs false
set_option maxRecDepth 8000
/-! ### decoding, all -/
theorem decode3_ok {b r' : Str} {v : V} {n : Nat} (hb : b.length ≤ 1099511627776) (h : valS 64 0 b = .ok (v, n) r') : r'.length ≤ b.length ∧ p_ref03_Decode b = some (cl v, ((b.length - r'.length : Nat) : Int), 0) := by
  have h1 := term3 hb 64 (Nat.le_refl _) 0 0 b (sx0 b) (by omega)
  rw [h] at h1
  obtain ⟨a, h2, k', h3, h4, rfl⟩ := h1
  have hl := h3.len
  refine ⟨by omega, ?_⟩
  have h2 : p_ref03_reading_term ⟨b, 0, 0, 0, 0⟩ 1 = _ := h2
  simp only [p_ref03_Decode]
  rw [h2, Option.bind_some]
  have : k' = b.length - r'.length := by omega
  rw [← this]; rfl
theorem decode3_bad {b : Str} {p : Nat} {w : Int} (hb : b.length ≤ 1099511627776) (h : valS 64 0 b = .bad p w) : p_ref03_Decode b = some (t0 0, ((b.length - p : Nat) : Int), w) := by
  have h1 := term3 hb 64 (Nat.le_refl _) 0 0 b (sx0 b) (by omega)
  rw [h] at h1
  obtain ⟨hw, a, h2, h3, h4⟩ := h1
  have h2 : p_ref03_reading_term ⟨b, 0, 0, 0, 0⟩ 1 = _ := h2
  simp only [p_ref03_Decode]
  rw [h2, Option.bind_some, h4, ne_t hw, cond_true, h3]
theorem lent_l (a : Str) (ha : a.length ≤ 1048576) : ∀ (k i : Nat) (s : Str), k + i = 32 → s.length = a.length + i → s.take a.length = a → (∀ j, a.length ≤ j → j < s.length → s[j]? = some (UInt8.ofNat (171 + (j - a.length)))) →
    ∃ t, law03_lent_l1 a s (i : Int) = some (a, t) ∧ t.take a.length = a ∧ (∀ j, a.length ≤ j → j < t.length → t[j]? = some (UInt8.ofNat (171 + (j - a.length)))) ∧ t.length = a.length + 32
  | 0, i, s, hk, hl, ht, hj => by
    rw [law03_lent_l1_eq]
    simp only [law03_lent_l1b]
    rw [decide_eq_false (by omega), cond_false]
    have hcut : cutO s 0 ((a.length : Nat) : Int) = some a := by
      unfold cutO
      rw [decide_eq_true (by omega), decide_eq_true (by omega), decide_eq_true (by omega)]
      simp only [Bool.and_self, cond_true, Int.toNat_natCast, Option.some.injEq]
      rw [ht]; rfl
    rw [hcut, Option.bind_some]
    exact ⟨s, rfl, ht, hj, by omega⟩
  | k + 1, i, s, hk, hl, ht, hj => by
    rw [law03_lent_l1_eq]
    simp only [law03_lent_l1b]
    have e1 : IntKind.i64.wrap (171 + (i : Int)) = ((171 + i : Nat) : Int) := by rw [w64_in (by omega) (by omega)]; omega
    have e2 : IntKind.i64.wrap ((i : Int) + 1) = ((i + 1 : Nat) : Int) := by rw [w64_in (by omega) (by omega)]; omega
    rw [decide_eq_true (by omega), cond_true, e1, e2, u8_of (by omega), app1W (by omega), Option.bind_some]
    refine lent_l a ha k (i + 1) _ (by omega) (by simp; omega) (by rw [List.take_append_of_le_length (by omega)]; exact ht) ?_
    intro j h1 h2
    by_cases h : j < s.length
    · rw [List.getElem?_append_left h]; exact hj j h1 h
    · rw [List.length_append, List.length_cons, List.length_nil] at h2
      rw [List.getElem?_append_right (by omega), show j - s.length = 0 by omega, show j - a.length = i by omega]; rfl
theorem kept_l (t a : Str) (ha : a.length ≤ 1048576) (hl : t.length = a.length + 32) (ht : t.take a.length = a) (hj : ∀ j, a.length ≤ j → j < t.length → t[j]? = some (UInt8.ofNat (171 + (j - a.length)))) : ∀ (k i : Nat), k + i = t.length → law03_kept_l1 t a i = some true
  | 0, i, hk => by
    rw [law03_kept_l1_eq]
    simp only [law03_kept_l1b, lt_f (by omega : ¬ i < t.length), cond_false]
  | k + 1, i, hk => by
    have hi : i < t.length := by omega
    rw [law03_kept_l1_eq]
    simp only [law03_kept_l1b, lt_t hi, cond_true]
    by_cases h : i < a.length
    · have e : t[i]? = a[i]? := by
        have := congrArg (fun l => l[i]?) ht
        simp only [List.getElem?_take, if_pos h] at this
        exact this
      rw [lt_t h, cond_true, e, List.getElem?_eq_getElem h, Option.bind_some, Option.bind_some, show (((a[i].toNat : Nat) : Int) != ((a[i].toNat : Nat) : Int)) = false by simp, cond_false, decide_eq_false (by omega), cond_false]
      simp only [law03_kept_j1, cond_false]
      exact kept_l t a ha hl ht hj k (i + 1) (by omega)
    · rw [lt_f h, cond_false, decide_eq_true (by omega), cond_true, hj i (by omega) hi, Option.bind_some]
      have e1 : IntKind.i64.wrap (IntKind.i64.wrap (171 + (i : Int)) - ((a.length : Nat) : Int)) = ((171 + (i - a.length) : Nat) : Int) := by
        rw [show IntKind.i64.wrap (171 + (i : Int)) = 171 + (i : Int) from w64_in (by omega) (by omega), w64_in (by omega) (by omega)]; omega
      rw [e1, u8_of (by omega), show ∀ x : Nat, (((x : Nat) : Int) != ((x : Nat) : Int)) = false from fun x => by simp]
      simp only [law03_kept_j1, cond_false]
      exact kept_l t a ha hl ht hj k (i + 1) (by omega)
theorem roomW {n : Nat} (hn : n ≤ 1073741824) : roomO n 1 = some () := by
  unfold roomO
  rw [Nat.ble_eq_true_of_le (by omega), Nat.ble_eq_true_of_le (by omega)]; rfl
theorem lent_kept (a : Str) (ha : a.length ≤ 1048576) : ∃ t, p_law03_lent a = some (a, t) ∧ p_law03_kept t a = some true := by
  obtain ⟨t, h1, h2, h3, h4⟩ := lent_l a ha 32 0 a (by omega) (by omega) (List.take_of_length_le (Nat.le_refl _)) (fun j h1 h2 => by omega)
  refine ⟨t, ?_, kept_l t a ha h4 h2 h3 t.length 0 (by omega)⟩
  have e1 : IntKind.i64.wrap (((a.length : Nat) : Int) + 32) = ((a.length + 32 : Nat) : Int) := by rw [w64_in (by omega) (by omega)]; omega
  have e2 : natO ((a.length + 32 : Nat) : Int) = some (a.length + 32) := by unfold natO; rw [decide_eq_true (by omega)]; rfl
  simp only [p_law03_lent]
  rw [e1, e2, Option.bind_some, roomW (by omega), Option.bind_some, app0 (by omega) (by omega), Option.bind_some]
  exact h1
end Go.Proofs.Ytigadhiciinicaa
