/- Values as bytes, and bytes as values: a reader of bytes in plain Lean, and that it turns the writing about. -/
import Derived.Test.YtigadhiciinicaaW1a
namespace Go.Proofs.Ytigadhiciinicaa
open Go Aw
set_option linter.unusedVariables false
set_option linter.unusedSimpArgs false
set_option maxRecDepth 8000
/-! ### the writing -/
def be8 (f : Nat) : Str := [UInt8.ofNat (f / 72057594037927936), UInt8.ofNat (f / 281474976710656), UInt8.ofNat (f / 1099511627776), UInt8.ofNat (f / 4294967296), UInt8.ofNat (f / 16777216), UInt8.ofNat (f / 65536), UInt8.ofNat (f / 256), UInt8.ofNat f]
def beS (s : Str) : Nat := s.foldl (fun a c => a * 256 + c.toNat) 0
mutual
def enc : V → Str
  | .nil => [1]
  | .bool b => [2, if b then 1 else 0]
  | .int i => 3 :: num (zig i)
  | .float f => 4 :: be8 f
  | .text s => 5 :: (num s.length ++ s)
  | .bytes s => 6 :: (num s.length ++ s)
  | .ref r => 7 :: num r.toNat
  | .list l => 8 :: (num l.length ++ encL l)
  | .dict d => 9 :: (num d.length ++ encD d)
  | .record c v d => 10 :: (num c.length ++ (c ++ (num v.toNat ++ (num d.length ++ encD d))))
  | .nothing => [11]
  | .alien _ => [0]
def encL : List V → Str
  | [] => []
  | x :: r => enc x ++ encL r
def encD : List (Str × V) → Str
  | [] => []
  | (s, x) :: r => num s.length ++ (s ++ (enc x ++ encD r))
end
/-! ### the numbers in a value are a machine's -/
mutual
def okV : V → Prop
  | .int i => -9223372036854775808 ≤ i ∧ i ≤ 9223372036854775807
  | .float f => f < 18446744073709551616
  | .ref r => 0 ≤ r ∧ r < 18446744073709551616
  | .list l => okL l
  | .dict d => okD d
  | .record _ _ d => okD d
  | _ => True
def okL : List V → Prop
  | [] => True
  | x :: r => okV x ∧ okL r
def okD : List (Str × V) → Prop
  | [] => True
  | (_, x) :: r => okV x ∧ okD r
end
/-! ### the reader -/
inductive Rs (α : Type) where
  | ok (a : α) (r : Str)
  | bad (rem : Nat) (why : Int)
def Rs.bind {α β : Type} : Rs α → (α → Str → Rs β) → Rs β
  | .ok a r, f => f a r
  | .bad p w, _ => .bad p w
theorem bind_ok {α β : Type} {o : Rs α} {f : α → Str → Rs β} {x : β} {r : Str} (h : o.bind f = .ok x r) : ∃ y r1, o = .ok y r1 ∧ f y r1 = .ok x r := by
  cases o with
  | ok a r1 => exact ⟨a, r1, rfl, h⟩
  | bad p w => cases h
def numS (fr : Nat) : Nat → Nat → Nat → Str → Rs Nat
  | 0, _, _, _ => .bad 0 0
  | _ + 1, _, _, [] => .bad 0 4
  | k + 1, i, acc, c :: r => if (i = 9 ∧ 1 < c.toNat) ∨ (0 < i ∧ c.toNat = 0) then .bad fr 31 else
    if c.toNat < 128 then .ok (acc + c.toNat % 128 * 2 ^ (7 * i)) r else numS fr k (i + 1) (acc + c.toNat % 128 * 2 ^ (7 * i)) r
def nmS (r : Str) : Rs Nat := numS r.length 10 0 0 r
def takeS (n : Nat) (r : Str) : Rs Str := if r.length < n then .bad 0 4 else .ok (r.take n) (r.drop n)
def mostS (part lim : Nat) (r : Str) : Rs Nat := (nmS r).bind fun m r => if lim < m then .bad part 2 else .ok m r
def nameS (part : Nat) (r : Str) : Rs Str := (nmS r).bind fun m r => if m < 1 ∨ 32 < m then .bad part 8 else (takeS m r).bind fun s r => if nameOk s then .ok s r else .bad part 8
def itemsS (f : Nat → Str → Rs (V × Nat)) : Nat → Nat → Str → Rs (List V × Nat)
  | 0, n, r => .ok ([], n) r
  | k + 1, n, r => (f n r).bind fun x r => (itemsS f k x.2 r).bind fun y r => .ok (x.1 :: y.1, y.2) r
def fldsS (f : Nat → Str → Rs (V × Nat)) (part : Nat) : Nat → Str → Nat → Str → Rs (List (Str × V) × Nat)
  | 0, _, n, r => .ok ([], n) r
  | k + 1, last, n, r => (nameS part r).bind fun s r => if leB s last then .bad part 8 else (f n r).bind fun x r => (fldsS f part k s x.2 r).bind fun y r => .ok ((s, x.1) :: y.1, y.2) r
def boolS (n : Nat) : Str → Rs (V × Nat)
  | [] => .bad 0 4
  | c :: r => if 1 < c.toNat then .bad (r.length + 1) 30 else .ok (.bool (c.toNat == 1), n) r
def bodyS (f : Nat → Str → Rs (V × Nat)) (tag part n : Nat) (r : Str) : Rs (V × Nat) :=
  if tag = 2 then boolS n r
  else if tag = 3 then (nmS r).bind fun m r => .ok (.int (unzig m), n) r
  else if tag = 4 then (takeS 8 r).bind fun s r => .ok (.float (beS s), n) r
  else if tag = 5 then (mostS part 65536 r).bind fun m r => (takeS m r).bind fun s r => .ok (.text s, n) r
  else if tag = 6 then (mostS part 65536 r).bind fun m r => (takeS m r).bind fun s r => .ok (.bytes s, n) r
  else if tag = 7 then (nmS r).bind fun m r => .ok (.ref (m : Int), n) r
  else if tag = 8 then (mostS part 4096 r).bind fun m r => (itemsS f m n r).bind fun x r => .ok (.list x.1, x.2) r
  else if tag = 9 then (mostS part 4096 r).bind fun m r => (fldsS f part m [] n r).bind fun x r => .ok (.dict x.1, x.2) r
  else if tag = 10 then (nameS part r).bind fun s r => (nmS r).bind fun v r => if v < 1 ∨ 1000 < v then .bad part 1 else (mostS part 4096 r).bind fun m r => (fldsS f part m [] n r).bind fun x r => .ok (.record s (v : Int) x.1, x.2) r
  else .ok (.nil, n) r
def valS : Nat → Nat → Str → Rs (V × Nat)
  | _, _, [] => .bad 0 4
  | 0, _, c :: r => .bad (r.length + 1) 2
  | d + 1, n, c :: r => if 16384 ≤ n then .bad (r.length + 1) 2 else if c.toNat < 1 ∨ 10 < c.toNat then .bad (r.length + 1) 30 else bodyS (valS d) c.toNat (r.length + 1) (n + 1) r
/-! ### numbers -/
theorem u8_num {n : Nat} (h : n < 128) : (UInt8.ofNat n).toNat = n := u8_toNat (by omega)
theorem numS_num (fr : Nat) : ∀ (n k i acc : Nat) (post : Str), k + i = 10 → n * 2 ^ (7 * i) < 18446744073709551616 → i ≤ 9 → (0 < i → n ≠ 0) → numS fr k i acc (num n ++ post) = .ok (acc + n * 2 ^ (7 * i)) post := by
  intro n
  induction n using Nat.strongRecOn with
  | _ n ih =>
    intro k i acc post hk hb hi h0
    obtain ⟨k, rfl⟩ : ∃ j, k = j + 1 := ⟨k - 1, by omega⟩
    have hi9 : i = 9 → n ≤ 1 := by
      rintro rfl
      rw [show (2 : Nat) ^ (7 * 9) = 9223372036854775808 by decide] at hb; omega
    rw [num]
    by_cases h : n < 128
    · rw [dif_pos h, List.singleton_append, numS, u8_num h, if_neg (by rintro (⟨h1, h2⟩ | ⟨h1, h2⟩); (have := hi9 h1; omega); exact h0 h1 h2), if_pos h, Nat.mod_eq_of_lt h]
    · have hlt : i < 9 := by
        rcases Nat.lt_or_ge i 9 with h1 | h1
        · exact h1
        · have := hi9 (by omega); omega
      rw [dif_neg h, List.cons_append, numS, u8_toNat (by omega), if_neg (by omega), if_neg (by omega)]
      have hp : 2 ^ (7 * (i + 1)) = 128 * 2 ^ (7 * i) := by rw [show 7 * (i + 1) = 7 * i + 7 by omega, Nat.pow_add, Nat.mul_comm]
      have e : n * 2 ^ (7 * i) = n / 128 * (128 * 2 ^ (7 * i)) + n % 128 * 2 ^ (7 * i) := by
        rw [← Nat.mul_assoc, ← Nat.add_mul]; congr 1; omega
      rw [ih (n / 128) (by omega) k (i + 1) _ post (by omega) (by rw [hp]; omega) (by omega) (fun _ => by omega), hp, show (n % 128 + 128) % 128 = n % 128 by omega]
      congr 1; omega
theorem numS_inv (fr : Nat) : ∀ (k i acc : Nat) (r r' : Str) (v : Nat), k + i = 10 → numS fr k i acc r = .ok v r' → ∃ n, r = num n ++ r' ∧ v = acc + n * 2 ^ (7 * i) ∧ (0 < i → n ≠ 0) ∧ n * 2 ^ (7 * i) < 18446744073709551616
  | 0, i, acc, r, r', v, _, h => by cases h
  | k + 1, i, acc, [], r', v, _, h => by cases h
  | k + 1, i, acc, c :: r, r', v, hk, h => by
    have hc := c.toNat_lt
    rw [numS] at h
    split at h
    · cases h
    · rename_i hno
      split at h
      · rename_i hlt
        injection h with h1 h2
        subst h2
        refine ⟨c.toNat, ?_, by rw [← h1, Nat.mod_eq_of_lt hlt], fun hi h0 => hno (.inr ⟨hi, h0⟩), ?_⟩
        · rw [num, dif_pos hlt]; simp
        · rcases Nat.lt_or_ge i 9 with h9 | h9
          · have : 2 ^ (7 * i) ≤ 2 ^ 56 := Nat.pow_le_pow_right (by omega) (by omega)
            have := Nat.mul_lt_mul_of_lt_of_le hlt this (by decide)
            omega
          · have : i = 9 := by omega
            subst this
            have : c.toNat ≤ 1 := by
              rcases Nat.lt_or_ge 1 c.toNat with h1 | h1
              · exact absurd (.inl ⟨rfl, h1⟩) hno
              · exact h1
            have := Nat.mul_le_mul_right (2 ^ (7 * 9)) this
            rw [show (2 : Nat) ^ (7 * 9) = 9223372036854775808 by decide] at *
            omega
      · rename_i hge
        obtain ⟨n, h1, h2, h3, h4⟩ := numS_inv fr k (i + 1) _ r r' v (by omega) h
        have hp : 2 ^ (7 * (i + 1)) = 128 * 2 ^ (7 * i) := by rw [show 7 * (i + 1) = 7 * i + 7 by omega, Nat.pow_add, Nat.mul_comm]
        have hn := h3 (by omega)
        have hi8 : i ≤ 8 := by
          rcases Nat.lt_or_ge i 9 with h9 | h9
          · omega
          · have : k = 0 := by omega
            subst this; cases h
        refine ⟨n * 128 + c.toNat % 128, ?_, ?_, fun _ => by omega, ?_⟩
        · rw [num, dif_neg (by omega), show (n * 128 + c.toNat % 128) % 128 + 128 = c.toNat by omega, show (n * 128 + c.toNat % 128) / 128 = n by omega, h1]; simp
        · rw [h2, hp, Nat.add_mul, Nat.mul_assoc]; omega
        · have hq : 2 ^ (7 * (i + 1)) * 2 ^ (64 - 7 * (i + 1)) = 18446744073709551616 := by rw [← Nat.pow_add, show 7 * (i + 1) + (64 - 7 * (i + 1)) = 64 by omega]
          have h5 : n < 2 ^ (64 - 7 * (i + 1)) := by
            rcases Nat.lt_or_ge n (2 ^ (64 - 7 * (i + 1))) with h6 | h6
            · exact h6
            · have := Nat.mul_le_mul_right (2 ^ (7 * (i + 1))) h6
              rw [Nat.mul_comm (2 ^ (64 - 7 * (i + 1)))] at this; omega
          have h6 := Nat.mul_le_mul_right (2 ^ (7 * (i + 1))) (Nat.succ_le_of_lt h5)
          rw [Nat.mul_comm (2 ^ (64 - 7 * (i + 1))), hq, hp, Nat.succ_mul] at h6
          have h7 : c.toNat % 128 * 2 ^ (7 * i) < 128 * 2 ^ (7 * i) := Nat.mul_lt_mul_of_pos_right (by omega) (Nat.pow_pos (by decide))
          rw [Nat.add_mul, Nat.mul_assoc]
          omega
theorem nmS_num (n : Nat) (post : Str) (h : n < 18446744073709551616) : nmS (num n ++ post) = .ok n post := by
  have := numS_num (num n ++ post).length n 10 0 0 post rfl (by simpa using h) (by omega) (fun h => by omega)
  rw [nmS, this]; simp
theorem nmS_inv {r r' : Str} {v : Nat} (h : nmS r = .ok v r') : r = num v ++ r' ∧ v < 18446744073709551616 := by
  obtain ⟨n, h1, h2, _, h4⟩ := numS_inv _ 10 0 0 r r' v rfl h
  simp at h2 h4
  subst h2
  exact ⟨h1, h4⟩
theorem take_app {s post : Str} : takeS s.length (s ++ post) = .ok s post := by
  unfold takeS
  rw [if_neg (by simp)]; simp
theorem takeS_inv {n : Nat} {r r' s : Str} (h : takeS n r = .ok s r') : r = s ++ r' ∧ s.length = n := by
  unfold takeS at h
  split at h
  · cases h
  · injection h with h1 h2
    subst h1; subst h2
    exact ⟨(List.take_append_drop n r).symm, by rw [List.length_take]; omega⟩
/-! ### what is written is read -/
theorem nameOk_len {s : Str} (h : nameOk s = true) : 1 ≤ s.length ∧ s.length ≤ 32 := by
  simp only [nameOk, Bool.and_eq_true, Nat.ble_eq] at h
  omega
theorem nameS_num (part : Nat) (s post : Str) (h : nameOk s = true) : nameS part (num s.length ++ (s ++ post)) = .ok s post := by
  have hl := nameOk_len h
  unfold nameS
  rw [nmS_num _ _ (by omega)]
  simp only [Rs.bind]
  rw [if_neg (by omega), take_app]
  simp only []
  rw [if_pos h]
theorem nameS_inv {part : Nat} {r r' s : Str} (h : nameS part r = .ok s r') : r = num s.length ++ (s ++ r') ∧ nameOk s = true := by
  unfold nameS at h
  obtain ⟨m, r1, h1, h⟩ := bind_ok h
  split at h
  · cases h
  · obtain ⟨t, r2, h2, h⟩ := bind_ok h
    split at h
    · rename_i hk
      injection h with h3 h4
      subst h3; subst h4
      obtain ⟨e1, _⟩ := nmS_inv h1
      obtain ⟨e2, e3⟩ := takeS_inv h2
      subst e3
      exact ⟨by rw [e1, e2], hk⟩
    · cases h
theorem mostS_num (part lim n : Nat) (post : Str) (h : n ≤ lim) (hl : lim ≤ 65536) : mostS part lim (num n ++ post) = .ok n post := by
  unfold mostS
  rw [nmS_num _ _ (by omega)]
  simp only [Rs.bind]
  rw [if_neg (by omega)]
theorem mostS_inv {part lim m : Nat} {r r' : Str} (h : mostS part lim r = .ok m r') : r = num m ++ r' ∧ m ≤ lim := by
  unfold mostS at h
  obtain ⟨n, r1, h1, h⟩ := bind_ok h
  split at h
  · cases h
  · injection h with h3 h4
    subst h3; subst h4
    exact ⟨(nmS_inv h1).1, by omega⟩
theorem be_be8 {f : Nat} (h : f < 18446744073709551616) : beS (be8 f) = f := by
  simp only [beS, be8, List.foldl_cons, List.foldl_nil, UInt8.toNat_ofNat']
  omega
theorem be8_be {s : Str} (h : s.length = 8) : be8 (beS s) = s ∧ beS s < 18446744073709551616 := by
  match s, h with
  | [a, b, c, d, e, f, g, i], _ =>
    have ha := a.toNat_lt
    have hb := b.toNat_lt
    have hc := c.toNat_lt
    have hd := d.toNat_lt
    have he := e.toNat_lt
    have hf := f.toNat_lt
    have hg := g.toNat_lt
    have hi := i.toNat_lt
    have key : ∀ (x : UInt8) (n : Nat), n % 256 = x.toNat → UInt8.ofNat n = x := fun x n h => by apply UInt8.toNat_inj.1; rw [UInt8.toNat_ofNat']; omega
    simp only [beS, be8, List.foldl_cons, List.foldl_nil]
    refine ⟨?_, by omega⟩
    rw [key a _ (by omega), key b _ (by omega), key c _ (by omega), key d _ (by omega), key e _ (by omega), key f _ (by omega), key g _ (by omega), key i _ (by omega)]
theorem be8_len (f : Nat) : (be8 f).length = 8 := rfl
end Go.Proofs.Ytigadhiciinicaa
