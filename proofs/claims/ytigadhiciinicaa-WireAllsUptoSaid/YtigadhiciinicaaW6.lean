/- The program's reader of whole values reads as the plain one does. -/
import Derived.Test.YtigadhiciinicaaW5
namespace Go.Proofs.Ytigadhiciinicaa
open Go Aw
set_option linter.unusedVariables false
set_option linter.unusedSimpArgs false
set_option maxRecDepth 8000
theorem ans_mapr {A A' B B' : Type} {b : Str} {o : Option (Xr (Flt × Rdr) A)} {s : Rs B} {Q : B → Str → A → Prop} {g : B → B'} {k : A → Option (Xr (Flt × Rdr) A')} {Q' : B' → Str → A' → Prop} (h : Ans b o s Q)
    (hk : ∀ x r a, Q x r a → ∃ a', k a = some (.ret a') ∧ Q' (g x) r a') : Ans b (xbind o (fun s => (s.1, (s.2))) k) (s.bind fun x r => .ok (g x) r) Q' :=
  ans_bind h (fun x r a _ hq => hk x r a hq)
theorem ans_map1 {A B B' : Type} {b : Str} {o : Option (Xr (Flt × Rdr) A)} {s : Rs B} {Q : B → Str → A → Prop} {g : B → B'} {Q' : B' → Str → A → Prop} (h : Ans b o s Q)
    (hk : ∀ x r a, Q x r a → Q' (g x) r a) : Ans b o (s.bind fun x r => .ok (g x) r) Q' := by
  cases s with
  | ok x r => obtain ⟨a, h1, h2⟩ := h; exact ⟨a, h1, hk _ _ _ h2⟩
  | bad p w => exact h
/-- A value is made. -/
def MkP (mk : Bool) : Prop := mk = true
abbrev QV (b : Str) (mk : Bool) : V × Nat → Str → (V × Rdr) → Prop := fun x r' a => ∃ k' v, Sx b k' r' ∧ x.2 ≤ 16384 ∧ (MkP mk → v = x.1) ∧ a = (v, ⟨b, ((k' : Nat) : Int), (x.2 : Nat), mk⟩)
def VOK (b : Str) (mk : Bool) (f : Nat → Str → Rs (V × Nat)) (a1 : Int) : Prop := ∀ (k n : Nat) (r : Str), Sx b k r → n ≤ 16384 → Ans b (p_wire_reader_value ⟨b, (k : Nat), (n : Nat), mk⟩ a1) (f n r) (QV b mk)
theorem items_l {b : Str} {mk : Bool} {f : Nat → Str → Rs (V × Nat)} {a2 : Int} {x1 : Int × Rdr} {m : Nat} (hx : x1.1 = (m : Nat)) (hm : m ≤ 4096) (hf : VOK b mk f (IntKind.i64.wrap (a2 + 1))) : ∀ (j i : Nat) (acc : List V) (k n : Nat) (r : Str), i + j = m → acc.length ≤ i → Sx b k r → n ≤ 16384 →
    Ans b (wire_reader_list_l1 p_wire_reader_value a2 x1 acc (i : Nat) b (k : Nat) (n : Nat) mk) (itemsS f j n r) (fun x r' a => ∃ k' v, Sx b k' r' ∧ x.2 ≤ 16384 ∧ (MkP mk → v = .list (acc ++ x.1)) ∧ a = (v, ⟨b, ((k' : Nat) : Int), (x.2 : Nat), mk⟩))
  | 0, i, acc, k, n, r, hj, ha, hs, hn => by
    rw [wire_reader_list_l1_eq]
    simp only [wire_reader_list_l1b]
    rw [hx, decide_eq_false (by omega), cond_false, itemsS]
    exact ⟨_, rfl, k, _, hs, hn, fun _ => by simp only [List.append_nil], rfl⟩
  | j + 1, i, acc, k, n, r, hj, ha, hs, hn => by
    rw [wire_reader_list_l1_eq]
    simp only [wire_reader_list_l1b]
    rw [hx, decide_eq_true (by omega), cond_true, itemsS]
    refine ans_bind (hf k n r hs hn) ?_
    rintro ⟨x, n1⟩ r1 a hfx ⟨k1, v, hs1, hn1, hv, rfl⟩
    have hw : IntKind.i64.wrap ((i : Int) + 1) = ((i + 1 : Nat) : Int) := by rw [w64_in (by omega) (by omega)]; omega
    cases mk with
    | true =>
      have hv := hv rfl
      dsimp only at hv
      subst hv
      simp only [cond_true]
      rw [app1 (by omega) (by omega), Option.bind_some]
      simp only [wire_reader_list_j1, hw]
      refine ans_map1 (items_l hx hm hf j (i + 1) (acc ++ [v]) k1 n1 r1 (by omega) (by simp only [List.length_append, List.length_cons, List.length_nil]; omega) hs1 hn1) ?_
      rintro ⟨y, n2⟩ r2 a ⟨k2, v2, h1, h2, h3, rfl⟩
      exact ⟨k2, v2, h1, h2, fun h => by rw [h3 h]; simp, rfl⟩
    | false =>
      simp only [cond_false]
      simp only [wire_reader_list_j1, hw]
      refine ans_map1 (items_l hx hm hf j (i + 1) acc k1 n1 r1 (by omega) (by omega) hs1 hn1) ?_
      rintro ⟨y, n2⟩ r2 a ⟨k2, v2, h1, h2, h3, rfl⟩
      exact ⟨k2, v2, h1, h2, fun h => (nomatch (show false = true from h)), rfl⟩
theorem flds_l {b : Str} {mk : Bool} {f : Nat → Str → Rs (V × Nat)} {a2 : Int} {x1 : Int × Rdr} {m part : Nat} (hb : b.length ≤ 1099511627776) (hp : part ≤ b.length) (hx : x1.1 = (m : Nat)) (hm : m ≤ 4096) (hf : VOK b mk f (IntKind.i64.wrap (a2 + 1))) : ∀ (j i : Nat) (acc : List (Str × V)) (last : Str) (k n : Nat) (r : Str), i + j = m → acc.length ≤ i → Sx b k r → n ≤ 16384 →
    Ans b (wire_reader_fields_l1 p_wire_reader_value ((b.length - part : Nat) : Int) a2 x1 acc last (i : Nat) b (k : Nat) (n : Nat) mk) (fldsS f part j last n r) (fun x r' a => ∃ k' v, Sx b k' r' ∧ x.2 ≤ 16384 ∧ (MkP mk → v = acc ++ x.1) ∧ a = (v, ⟨b, ((k' : Nat) : Int), (x.2 : Nat), mk⟩))
  | 0, i, acc, last, k, n, r, hj, ha, hs, hn => by
    rw [wire_reader_fields_l1_eq]
    simp only [wire_reader_fields_l1b]
    rw [hx, decide_eq_false (by omega), cond_false, fldsS]
    exact ⟨_, rfl, k, _, hs, hn, fun _ => by simp only [List.append_nil], rfl⟩
  | j + 1, i, acc, last, k, n, r, hj, ha, hs, hn => by
    rw [wire_reader_fields_l1_eq]
    simp only [wire_reader_fields_l1b]
    rw [hx, decide_eq_true (by omega), cond_true, fldsS]
    refine ans_bind (name_eq hs hb hp) ?_
    rintro s r0 a hsx ⟨k0, hs0, rfl⟩
    simp only []
    rw [show (Op.bytesLess s last || s == last) = leB s last from rfl]
    cases hle : leB s last with
    | true =>
      rw [cond_true, if_pos rfl, fail_eq, xbind_pan]
      exact ⟨_, rfl⟩
    | false =>
      rw [cond_false, if_neg (by simp)]
      refine ans_bind (hf k0 n r0 hs0 hn) ?_
      rintro ⟨x, n1⟩ r1 a hfx ⟨k1, v, hs1, hn1, hv, rfl⟩
      have hw : IntKind.i64.wrap ((i : Int) + 1) = ((i + 1 : Nat) : Int) := by rw [w64_in (by omega) (by omega)]; omega
      cases mk with
      | true =>
        have hv := hv rfl
        dsimp only at hv
        subst hv
        simp only [cond_true]
        rw [app1 (by omega) (by omega), Option.bind_some]
        simp only [wire_reader_fields_j1, hw]
        refine ans_map1 (flds_l hb hp hx hm hf j (i + 1) (acc ++ [(s, v)]) s k1 n1 r1 (by omega) (by simp only [List.length_append, List.length_cons, List.length_nil]; omega) hs1 hn1) ?_
        rintro ⟨y, n2⟩ r2 a ⟨k2, v2, h1, h2, h3, rfl⟩
        exact ⟨k2, v2, h1, h2, fun h => by rw [h3 h]; simp, rfl⟩
      | false =>
        simp only [cond_false]
        simp only [wire_reader_fields_j1, hw]
        refine ans_map1 (flds_l hb hp hx hm hf j (i + 1) acc s k1 n1 r1 (by omega) (by omega) hs1 hn1) ?_
        rintro ⟨y, n2⟩ r2 a ⟨k2, v2, h1, h2, h3, rfl⟩
        exact ⟨k2, v2, h1, h2, fun h => (nomatch (show false = true from h)), rfl⟩
theorem list_eq {b r : Str} {mk : Bool} {f : Nat → Str → Rs (V × Nat)} {a2 : Int} {k n part : Nat} (hb : b.length ≤ 1099511627776) (hp : part ≤ b.length) (hf : VOK b mk f (IntKind.i64.wrap (a2 + 1))) (hs : Sx b k r) (hn : n ≤ 16384) :
    Ans b (p_wire_reader_list ⟨b, (k : Nat), (n : Nat), mk⟩ ((b.length - part : Nat) : Int) a2) ((mostS part 4096 r).bind fun m r => (itemsS f m n r).bind fun x r => .ok (.list x.1, x.2) r) (QV b mk) := by
  rw [e_wire_reader_list]
  simp only [b_wire_reader_list]
  refine ans_bind (most_eq (lim := 4096) hs hb (by omega) hp) ?_
  rintro m r1 a hm ⟨k1, hs1, rfl⟩
  refine ans_map1 (items_l (m := m) rfl (mostS_inv hm).2 hf m 0 [] k1 n r1 (by omega) (by simp) hs1 hn) ?_
  rintro ⟨y, n2⟩ r2 a ⟨k2, v2, h1, h2, h3, rfl⟩
  exact ⟨k2, v2, h1, h2, h3, rfl⟩
abbrev QD (b : Str) (mk : Bool) : List (Str × V) × Nat → Str → (List (Str × V) × Rdr) → Prop := fun x r' a => ∃ k' v, Sx b k' r' ∧ x.2 ≤ 16384 ∧ (MkP mk → v = x.1) ∧ a = (v, ⟨b, ((k' : Nat) : Int), (x.2 : Nat), mk⟩)
theorem fields_eq {b r : Str} {mk : Bool} {f : Nat → Str → Rs (V × Nat)} {a2 : Int} {k n part : Nat} (hb : b.length ≤ 1099511627776) (hp : part ≤ b.length) (hf : VOK b mk f (IntKind.i64.wrap (a2 + 1))) (hs : Sx b k r) (hn : n ≤ 16384) :
    Ans b (p_wire_reader_fields ⟨b, (k : Nat), (n : Nat), mk⟩ ((b.length - part : Nat) : Int) a2) ((mostS part 4096 r).bind fun m r => fldsS f part m [] n r) (QD b mk) := by
  rw [e_wire_reader_fields]
  simp only [b_wire_reader_fields]
  refine ans_bind (most_eq (lim := 4096) hs hb (by omega) hp) ?_
  rintro m r1 a hm ⟨k1, hs1, rfl⟩
  refine ans_mono (flds_l (m := m) hb hp rfl (mostS_inv hm).2 hf m 0 [] [] k1 n r1 (by omega) (by simp) hs1 hn) ?_
  rintro ⟨y, n2⟩ r2 a ⟨k2, v2, h1, h2, h3, rfl⟩
  exact ⟨k2, v2, h1, h2, h3, rfl⟩
theorem bind_assoc' {α β γ : Type} (o : Rs α) (f : α → Str → Rs β) (g : β → Str → Rs γ) : (o.bind f).bind g = o.bind fun x r => (f x r).bind g := by cases o <;> rfl
theorem record_eq {b r : Str} {mk : Bool} {f : Nat → Str → Rs (V × Nat)} {a2 : Int} {k n part : Nat} (hb : b.length ≤ 1099511627776) (hp : part ≤ b.length) (hf : VOK b mk f (IntKind.i64.wrap (a2 + 1))) (hs : Sx b k r) (hn : n ≤ 16384) :
    Ans b (p_wire_reader_record ⟨b, (k : Nat), (n : Nat), mk⟩ ((b.length - part : Nat) : Int) a2) ((nameS part r).bind fun s r => (nmS r).bind fun v r => if v < 1 ∨ 1000 < v then .bad part 1 else (mostS part 4096 r).bind fun m r => (fldsS f part m [] n r).bind fun x r => .ok (.record s (v : Int) x.1, x.2) r) (QV b mk) := by
  rw [e_wire_reader_record]
  simp only [b_wire_reader_record]
  refine ans_bind (name_eq hs hb hp) ?_
  rintro s r1 a hm ⟨k1, hs1, rfl⟩
  refine ans_bind (number_eq hs1 hb) ?_
  rintro v r2 a hv ⟨k2, hs2, rfl⟩
  simp only []
  by_cases hbad : v < 1 ∨ 1000 < v
  · rw [if_pos hbad]
    have hj : ∀ x s : Bool, s = true → Ans b (wire_reader_record_j1 p_wire_reader_fields ((b.length - part : Nat) : Int) a2 (‹Str›, (⟨b, (k1 : Nat), (n : Nat), mk⟩ : Rdr)) ((v : Int), (⟨b, (k2 : Nat), (n : Nat), mk⟩ : Rdr)) s) (.bad part 1 : Rs (V × Nat)) (QV b mk) := by
      intro _ s' hs'
      subst hs'
      simp only [wire_reader_record_j1, cond_true, fail_eq, xbind_pan]
      exact ⟨_, rfl⟩
    by_cases h1 : v < 1
    · rw [decide_eq_true (by omega), cond_true]
      simp only [wire_reader_record_j1, cond_true, fail_eq, xbind_pan]
      exact ⟨_, rfl⟩
    · rw [decide_eq_false (by omega), cond_false, decide_eq_true (by omega)]
      simp only [wire_reader_record_j1, cond_true, fail_eq, xbind_pan]
      exact ⟨_, rfl⟩
  · rw [if_neg hbad, decide_eq_false (by omega), cond_false, decide_eq_false (by omega)]
    simp only [wire_reader_record_j1, cond_false]
    rw [w64_in (by omega) (by omega), ← bind_assoc']
    refine ans_mapr (g := fun x => (V.record s (v : Int) x.1, x.2)) (fields_eq hb hp hf hs2 hn) ?_
    rintro ⟨y, n2⟩ r3 a ⟨k3, v3, h1, h2, h3, rfl⟩
    exact ⟨_, rfl, k3, _, h1, h2, fun h => by rw [h3 h], rfl⟩
theorem beS_snoc (s : Str) (c : UInt8) : beS (s ++ [c]) = beS s * 256 + c.toNat := by simp [beS, List.foldl_append]
theorem float_l {s : Str} {rd : Rdr} (hs : s.length = 8) : ∀ (j i : Nat), i + j = 8 → beS (s.take i) < 256 ^ i → wire_reader_value_l1 (s, rd) ((beS (s.take i) : Nat) : Int) i = some (.ret (.float (beS s), rd))
  | 0, i, h, _ => by
    rw [wire_reader_value_l1_eq]
    simp only [wire_reader_value_l1b]
    rw [decide_eq_false (by omega), cond_false, List.take_of_length_le (by omega), Int.toNat_natCast]
  | j + 1, i, h, hb => by
    rw [wire_reader_value_l1_eq]
    simp only [wire_reader_value_l1b]
    rw [decide_eq_true (by omega), cond_true, List.getElem?_eq_getElem (by omega), Option.bind_some]
    have hc := (s[i]'(by omega)).toNat_lt
    have ht : s.take (i + 1) = s.take i ++ [s[i]'(by omega)] := List.take_succ_eq_append_getElem (by omega)
    have h7 : 256 ^ i ≤ 256 ^ 7 := Nat.pow_le_pow_right (by omega) (by omega)
    have e7 : (256 : Nat) ^ 7 = 72057594037927936 := by decide
    have e : orK .u64 (shlK .u64 ((beS (s.take i) : Nat) : Int) 8) ((s[i]'(by omega)).toNat : Int) = ((beS (s.take (i + 1)) : Nat) : Int) := by
      rw [show (8 : Int) = ((8 : Nat) : Int) from rfl, shl_nat (by omega) (by omega), or_nat (by omega) (by omega), ht, beS_snoc]
      have := Nat.two_pow_add_eq_or_of_lt (i := 8) (b := (s[i]'(by omega)).toNat) hc (beS (s.take i))
      rw [Nat.mul_comm _ (2 ^ 8), ← this, Nat.mul_comm (2 ^ 8)]
    rw [e]
    refine float_l hs j (i + 1) (by omega) ?_
    rw [ht, beS_snoc, Nat.pow_succ]; omega
theorem value_eq {b : Str} {mk : Bool} (hb : b.length ≤ 1099511627776) : ∀ (d : Nat), d ≤ 64 → VOK b mk (valS d) ((65 - d : Nat) : Int) := by
  intro d
  induction d with
  | zero =>
    intro _ k n r hs hn
    have hl := hs.len
    rw [e_wire_reader_value]
    simp only [b_wire_reader_value]
    cases r with
    | nil =>
      simp only [List.length_nil] at hl
      rw [show (((k : Nat) : Int) == ((b.length : Nat) : Int)) = true by simp; omega, cond_true, fail_eq, xbind_pan, valS]
      exact ⟨_, by rw [show b.length - 0 = k by omega]⟩
    | cons c r =>
      simp only [List.length_cons] at hl
      rw [show (((k : Nat) : Int) == ((b.length : Nat) : Int)) = false by simp; omega, cond_false, valS]
      have hj : Ans b (wire_reader_value_j1 p_wire_reader_record p_wire_reader_fields p_wire_reader_list ⟨b, (k : Nat), (n : Nat), mk⟩ ((65 - 0 : Nat) : Int) true) (.bad (r.length + 1) 2 : Rs (V × Nat)) (QV b mk) := by
        simp only [wire_reader_value_j1, cond_true, fail_eq, xbind_pan]
        exact ⟨_, by rw [show b.length - (r.length + 1) = k by omega]⟩
      by_cases h1 : 16384 ≤ n
      · rw [decide_eq_true (by omega), cond_true]; exact hj
      · rw [decide_eq_false (by omega), cond_false, decide_eq_true (by omega)]; exact hj
  | succ d ih =>
    intro hd k n r hs hn
    have hl := hs.len
    have ih := ih (by omega)
    rw [e_wire_reader_value]
    simp only [b_wire_reader_value]
    cases r with
    | nil =>
      simp only [List.length_nil] at hl
      rw [show (((k : Nat) : Int) == ((b.length : Nat) : Int)) = true by simp; omega, cond_true, fail_eq, xbind_pan, valS]
      exact ⟨_, by rw [show b.length - 0 = k by omega]⟩
    | cons c r =>
      simp only [List.length_cons] at hl
      have hc := c.toNat_lt
      have hsr := hs.go (c := [c]) (r' := r) rfl
      have hsr : Sx b (k + 1) r := hsr
      rw [show (((k : Nat) : Int) == ((b.length : Nat) : Int)) = false by simp; omega, cond_false, valS]
      by_cases h1 : 16384 ≤ n
      · rw [decide_eq_true (by omega), cond_true, if_pos h1]
        simp only [wire_reader_value_j1, cond_true, fail_eq, xbind_pan]
        exact ⟨_, by rw [show b.length - (r.length + 1) = k by omega]⟩
      rw [decide_eq_false (by omega), cond_false, decide_eq_false (by omega), if_neg h1]
      simp only [wire_reader_value_j1, cond_false]
      rw [hs.head, Option.bind_some]
      have hpart : (k : Int) = ((b.length - (r.length + 1) : Nat) : Int) := by omega
      by_cases hbad : c.toNat < 1 ∨ 10 < c.toNat
      · rw [if_pos hbad]
        have hj : Ans b (wire_reader_value_j2 p_wire_reader_record p_wire_reader_fields p_wire_reader_list ⟨b, (k : Nat), (n : Nat), mk⟩ ((65 - (d + 1) : Nat) : Int) c true) (.bad (r.length + 1) 30 : Rs (V × Nat)) (QV b mk) := by
          simp only [wire_reader_value_j2, cond_true, fail_eq, xbind_pan]
          exact ⟨_, by rw [show b.length - (r.length + 1) = k by omega]⟩
        by_cases h2 : c.toNat < 1
        · rw [decide_eq_true (by omega), cond_true]; exact hj
        · rw [decide_eq_false (by omega), cond_false, decide_eq_true (by omega)]; exact hj
      rw [if_neg hbad, decide_eq_false (by omega), cond_false, decide_eq_false (by omega)]
      simp only [wire_reader_value_j2, cond_false]
      have hw1 : IntKind.i64.wrap ((k : Int) + 1) = ((k + 1 : Nat) : Int) := by rw [w64_in (by omega) (by omega)]; omega
      have hw2 : IntKind.i64.wrap ((n : Int) + 1) = ((n + 1 : Nat) : Int) := by rw [w64_in (by omega) (by omega)]; omega
      have hf : VOK b mk (valS d) (IntKind.i64.wrap (((65 - (d + 1) : Nat) : Int) + 1)) := by
        rw [w64_in (by omega) (by omega), show ((65 - (d + 1) : Nat) : Int) + 1 = ((65 - d : Nat) : Int) by omega]; exact ih
      have tg : ∀ t : Nat, (((c.toNat : Nat) : Int) == ((t : Nat) : Int)) = decide (c.toNat = t) := by
        intro t
        by_cases ht : c.toNat = t
        · rw [decide_eq_true ht, ht]; simp
        · rw [decide_eq_false ht]; simp; omega
      rw [hw1, hw2]
      unfold bodyS
      by_cases t2 : c.toNat = 2
      · rw [show (((c.toNat : Nat) : Int) == 2) = true by rw [t2]; rfl, cond_true, if_pos t2, byte_eq hsr hb]
        cases r with
        | nil => rw [xbind_pan]; exact ⟨_, rfl⟩
        | cons e r =>
          simp only [List.length_cons] at hl
          simp only []
          rw [xbind_ret]
          dsimp only
          rw [show boolS (n + 1) (e :: r) = if 1 < e.toNat then .bad (r.length + 1) 30 else .ok (.bool (e.toNat == 1), n + 1) r from rfl]
          have c1 : (((1 : UInt8)).toNat : Int) = 1 := rfl
          rw [c1]
          by_cases he : 1 < e.toNat
          · rw [decide_eq_true (by omega), cond_true, if_pos he, fail_eq, xbind_pan]
            have : IntKind.i64.wrap (((k + 1 + 1 : Nat) : Int) - 1) = ((b.length - (r.length + 1) : Nat) : Int) := by rw [w64_in (by omega) (by omega)]; omega
            rw [this]
            exact ⟨_, rfl⟩
          · rw [decide_eq_false (by omega), cond_false, if_neg he]
            refine ⟨_, rfl, k + 1 + 1, _, hsr.go (c := [e]) (r' := r) rfl, by simp only; omega, fun _ => ?_, rfl⟩
            congr 1
            by_cases h1 : e.toNat = 1
            · rw [h1]; rfl
            · rw [beq_false_of_ne h1, beq_false_of_ne (by omega)]
      rw [show (((c.toNat : Nat) : Int) == 2) = false from beq_false_of_ne (by omega), cond_false, if_neg t2]
      by_cases t3 : c.toNat = 3
      · rw [show (((c.toNat : Nat) : Int) == 3) = true by rw [t3]; rfl, cond_true, if_pos t3]
        refine ans_bind (number_eq hsr hb) ?_
        rintro m r1 a hm ⟨k1, hs1, rfl⟩
        simp only []
        rw [dezig m (nmS_inv hm).2]
        exact ⟨_, rfl, k1, _, hs1, by simp only; omega, fun _ => rfl, rfl⟩
      rw [show (((c.toNat : Nat) : Int) == 3) = false from beq_false_of_ne (by omega), cond_false, if_neg t3]
      by_cases t4 : c.toNat = 4
      · rw [show (((c.toNat : Nat) : Int) == 4) = true by rw [t4]; rfl, cond_true, if_pos t4]
        refine ans_bind (take_eq (m := 8) hsr hb (by omega)) ?_
        rintro s r1 a hm ⟨k1, hs1, rfl⟩
        have := float_l (s := s) (rd := ⟨b, (k1 : Nat), ((n + 1 : Nat) : Int), mk⟩) (takeS_inv hm).2 8 0 (by omega) (by simp [beS])
        exact ⟨_, this, k1, _, hs1, by simp only; omega, fun _ => rfl, rfl⟩
      rw [show (((c.toNat : Nat) : Int) == 4) = false from beq_false_of_ne (by omega), cond_false, if_neg t4]
      by_cases t5 : c.toNat = 5
      · rw [show (((c.toNat : Nat) : Int) == 5) = true by rw [t5]; rfl, cond_true, if_pos t5, hpart]
        refine ans_bind (most_eq (lim := 65536) hsr hb (by omega) (by omega)) ?_
        rintro m r1 a hm ⟨k1, hs1, rfl⟩
        refine ans_bind (take_eq hs1 hb (by have := (mostS_inv hm).2; omega)) ?_
        rintro s r2 a hm2 ⟨k2, hs2, rfl⟩
        exact ⟨_, rfl, k2, _, hs2, by simp only; omega, fun _ => rfl, rfl⟩
      rw [show (((c.toNat : Nat) : Int) == 5) = false from beq_false_of_ne (by omega), cond_false, if_neg t5]
      by_cases t6 : c.toNat = 6
      · rw [show (((c.toNat : Nat) : Int) == 6) = true by rw [t6]; rfl, cond_true, if_pos t6, hpart]
        refine ans_bind (most_eq (lim := 65536) hsr hb (by omega) (by omega)) ?_
        rintro m r1 a hm ⟨k1, hs1, rfl⟩
        have hm1 := (mostS_inv hm).2
        refine ans_bind (take_eq hs1 hb (by omega)) ?_
        rintro s r2 a hm2 ⟨k2, hs2, rfl⟩
        have := (takeS_inv hm2).2
        simp only []
        rw [app0 (by omega) (by omega), Option.bind_some]
        exact ⟨_, rfl, k2, _, hs2, by simp only; omega, fun _ => rfl, rfl⟩
      rw [show (((c.toNat : Nat) : Int) == 6) = false from beq_false_of_ne (by omega), cond_false, if_neg t6]
      by_cases t7 : c.toNat = 7
      · rw [show (((c.toNat : Nat) : Int) == 7) = true by rw [t7]; rfl, cond_true, if_pos t7]
        refine ans_bind (number_eq hsr hb) ?_
        rintro m r1 a hm ⟨k1, hs1, rfl⟩
        exact ⟨_, rfl, k1, _, hs1, by simp only; omega, fun _ => rfl, rfl⟩
      rw [show (((c.toNat : Nat) : Int) == 7) = false from beq_false_of_ne (by omega), cond_false, if_neg t7]
      have ret : ∀ (o : Option (Xr (Flt × Rdr) (V × Rdr))) (s : Rs (V × Nat)), Ans b o s (QV b mk) → Ans b (xbind o (fun s => (s.1, (s.2))) fun x => some (.ret (x.1, (x.2)))) s (QV b mk) := by
        intro o s h
        cases s with
        | ok x r => obtain ⟨a, e1, e2⟩ := h; exact ⟨a, by rw [e1, xbind_ret], e2⟩
        | bad p w => obtain ⟨st, e1⟩ := h; exact ⟨st, by rw [e1, xbind_pan]⟩
      by_cases t8 : c.toNat = 8
      · rw [show (((c.toNat : Nat) : Int) == 8) = true by rw [t8]; rfl, cond_true, if_pos t8, hpart]
        exact ret _ _ (list_eq hb (by omega) hf hsr (by omega))
      rw [show (((c.toNat : Nat) : Int) == 8) = false from beq_false_of_ne (by omega), cond_false, if_neg t8]
      by_cases t9 : c.toNat = 9
      · rw [show (((c.toNat : Nat) : Int) == 9) = true by rw [t9]; rfl, cond_true, if_pos t9, hpart, ← bind_assoc']
        refine ans_mapr (g := fun x => (V.dict x.1, x.2)) (fields_eq (part := r.length + 1) (n := n + 1) hb (by omega) hf hsr (by omega)) ?_
        rintro ⟨y, n2⟩ r3 a ⟨k3, v3, h1, h2, h3, rfl⟩
        exact ⟨_, rfl, k3, _, h1, h2, fun h => by rw [h3 h], rfl⟩
      rw [show (((c.toNat : Nat) : Int) == 9) = false from beq_false_of_ne (by omega), cond_false, if_neg t9]
      by_cases t10 : c.toNat = 10
      · rw [show (((c.toNat : Nat) : Int) == 10) = true by rw [t10]; rfl, cond_true, if_pos t10, hpart]
        exact ret _ _ (record_eq hb (by omega) hf hsr (by omega))
      rw [show (((c.toNat : Nat) : Int) == 10) = false from beq_false_of_ne (by omega), cond_false, if_neg t10]
      exact ⟨_, rfl, k + 1, _, hsr, by simp only; omega, fun _ => rfl, rfl⟩
end Go.Proofs.Ytigadhiciinicaa
