/- Numbers as bytes. -/
import Derived.Test.YtigadhiciinicaaN8
import Derived.Test.YtigadhiciinicaaN4a
namespace Go.Proofs.Ytigadhiciinicaa
open Go Aw
set_option linter.unusedVariables false
set_option linter.unusedSimpArgs false
set_option maxRecDepth 8000
theorem wu_eqW (x : Int) : IntKind.u64.wrap x = x % 18446744073709551616 := rfl
theorem wu_inW {x : Int} (h0 : 0 ≤ x) (h1 : x < 18446744073709551616) : IntKind.u64.wrap x = x := by rw [wu_eqW]; omega
theorem wu_nat {x : Nat} (h1 : x < 18446744073709551616) : IntKind.u64.wrap (x : Int) = (x : Int) := wu_inW (by omega) (by omega)
theorem bv64 {x : Nat} (h : x < 18446744073709551616) : (BitVec.ofInt 64 (x : Int)).toNat = x := by rw [BitVec.toNat_ofInt]; omega
theorem or_nat {x y : Nat} (hx : x < 18446744073709551616) (hy : y < 18446744073709551616) : orK .u64 (x : Int) (y : Int) = ((x ||| y : Nat) : Int) := by
  show IntKind.u64.wrap ((BitVec.ofInt 64 (x : Int) ||| BitVec.ofInt 64 (y : Int)).toNat : Int) = _
  rw [BitVec.toNat_or, bv64 hx, bv64 hy]
  exact wu_nat (Nat.or_lt_two_pow (n := 64) hx hy)
theorem shl_nat {c s : Nat} (h : c * 2 ^ s < 18446744073709551616) (hs : s ≤ 64) : shlK .u64 (c : Int) (s : Int) = ((c * 2 ^ s : Nat) : Int) := by
  show IntKind.u64.wrap ((c : Int) * 2 ^ (min ((s : Int)).toNat 64)) = _
  rw [show min ((s : Int)).toNat 64 = s by simp; omega]
  have e : ((c : Int) * 2 ^ s) = ((c * 2 ^ s : Nat) : Int) := by push_cast; rfl
  rw [e]; exact wu_nat h
theorem or_add {a c s : Nat} (ha : a < 2 ^ s) (h : a + c * 2 ^ s < 18446744073709551616) (hs : s ≤ 63) : orK .u64 (a : Int) (shlK .u64 (c : Int) (s : Int)) = ((a + c * 2 ^ s : Nat) : Int) := by
  rw [shl_nat (by omega) (by omega), or_nat (by omega) (by omega)]
  have := Nat.two_pow_add_eq_or_of_lt (i := s) (b := a) ha c
  rw [Nat.or_comm, Nat.mul_comm c, ← this, Nat.add_comm]
theorem shr_nat (n s : Nat) (hs : s ≤ 64) : shrK .u64 (n : Int) (s : Int) = ((n / 2 ^ s : Nat) : Int) := by
  show (n : Int).fdiv (2 ^ (min ((s : Int)).toNat 64)) = _
  rw [show min ((s : Int)).toNat 64 = s by simp; omega]
  rw [Int.fdiv_eq_ediv_of_nonneg _ (Int.le_of_lt (Int.pow_pos (by decide))), Int.natCast_ediv, Int.natCast_pow]; rfl
theorem u8_of {n : Nat} (h : n < 256) : (UInt8.ofInt (n : Int)) = UInt8.ofNat n := by
  apply UInt8.toNat_inj.1
  have := toU8_wrap (n : Int)
  have e : IntKind.u8.wrap (n : Int) = (n : Int) % 256 := rfl
  rw [e] at this
  rw [UInt8.toNat_ofNat']; omega
theorem u8_toNat {n : Nat} (h : n < 256) : (UInt8.ofNat n).toNat = n := by rw [UInt8.toNat_ofNat']; omega
theorem u8_ofInt (n : Nat) : (UInt8.ofInt (n : Int)).toNat = n % 256 := by
  have := toU8_wrap (n : Int)
  have e : IntKind.u8.wrap (n : Int) = (n : Int) % 256 := rfl
  rw [e] at this; omega
theorem bv8 {x : Nat} (h : x < 256) : (BitVec.ofInt 8 (x : Int)).toNat = x := by rw [BitVec.toNat_ofInt]; omega
theorem and127 (c : UInt8) : (UInt8.ofInt (andR .u8 (c.toNat : Int) (((127 : UInt8)).toNat : Int))).toNat = c.toNat % 128 := by
  have hc := c.toNat_lt
  have e : andR .u8 (c.toNat : Int) (((127 : UInt8)).toNat : Int) = ((c.toNat % 128 : Nat) : Int) := by
    show ((BitVec.ofInt 8 (c.toNat : Int) &&& BitVec.ofInt 8 ((127 : Nat) : Int)).toNat : Int) = _
    rw [BitVec.toNat_and, bv8 (by omega), bv8 (by omega)]
    have := Nat.and_two_pow_sub_one_eq_mod c.toNat 7
    rw [show (2 ^ 7 - 1 : Nat) = 127 by decide, show (2 ^ 7 : Nat) = 128 by decide] at this
    rw [this]
  rw [e, u8_ofInt]; omega
theorem or128 (n : Nat) : (UInt8.ofInt (orR .u8 (((UInt8.ofInt (n : Int))).toNat : Int) (((128 : UInt8)).toNat : Int))) = UInt8.ofNat (n % 128 + 128) := by
  have key : ∀ m, m < 256 → m ||| 128 = m % 128 + 128 := by decide +kernel
  have e : orR .u8 (((UInt8.ofInt (n : Int))).toNat : Int) (((128 : UInt8)).toNat : Int) = ((n % 128 + 128 : Nat) : Int) := by
    show ((BitVec.ofInt 8 (((UInt8.ofInt (n : Int))).toNat : Int) ||| BitVec.ofInt 8 ((128 : Nat) : Int)).toNat : Int) = _
    rw [BitVec.toNat_or, bv8 (by have := (UInt8.ofInt (n : Int)).toNat_lt; omega), bv8 (by omega), u8_ofInt, key _ (by omega)]
    omega
  rw [e, u8_of (by omega)]
/-! ### numbers -/
def num (n : Nat) : Str := if h : n < 128 then [UInt8.ofNat n] else UInt8.ofNat (n % 128 + 128) :: num (n / 128)
termination_by n
decreasing_by omega
theorem num_len : ∀ (k n : Nat), n < 128 ^ k → (num n).length ≤ k ∨ n = 0
  | 0, n, h => .inr (by simpa using h)
  | k + 1, n, h => by
    rw [num]
    by_cases hn : n < 128
    · rw [dif_pos hn]; exact .inl (by simp)
    · rw [dif_neg hn]
      left
      have := num_len k (n / 128) (by rw [Nat.pow_succ] at h; omega)
      simp only [List.length_cons]
      rcases this with h | h <;> omega
theorem num_le (n : Nat) (h : n < 18446744073709551616) : 1 ≤ (num n).length ∧ (num n).length ≤ 10 := by
  constructor
  · rw [num]; split <;> simp
  · rcases num_len 10 n (Nat.lt_of_lt_of_le h (by decide)) with h1 | h1
    · exact h1
    · subst h1; rw [num]; simp
theorem app1W {acc : Str} {x : UInt8} (h : acc.length ≤ 1073741824) : appO 1 acc [x] = some (acc ++ [x]) := app1 (by omega) h
theorem appW {a b : Str} (h : a.length + b.length ≤ 4294967296) : appO 1 a b = some (a ++ b) := by
  unfold appO; rw [Nat.ble_eq_true_of_le (by omega)]; rfl
def zig (a : Int) : Nat := if 0 ≤ a then (2 * a).toNat else (-2 * a - 1).toNat
def unzig (n : Nat) : Int := if n % 2 = 0 then ((n / 2 : Nat) : Int) else -((n / 2 : Nat) : Int) - 1
theorem unzig_zig (a : Int) : unzig (zig a) = a := by
  unfold zig unzig
  by_cases h : 0 ≤ a
  · rw [if_pos h]; rw [if_pos (by omega)]; omega
  · rw [if_neg h]; rw [if_neg (by omega)]; omega
theorem zig_unzig (n : Nat) : zig (unzig n) = n := by
  unfold zig unzig
  by_cases h : n % 2 = 0
  · rw [if_pos h, if_pos (by omega)]; omega
  · rw [if_neg h, if_neg (by omega)]; omega
theorem zig_lt {a : Int} (h1 : -9223372036854775808 ≤ a) (h2 : a ≤ 9223372036854775807) : zig a < 18446744073709551616 := by unfold zig; split <;> omega
theorem unzig_in {n : Nat} (h : n < 18446744073709551616) : -9223372036854775808 ≤ unzig n ∧ unzig n ≤ 9223372036854775807 := by unfold unzig; split <;> omega
theorem xor_ones {x : Nat} (h : x < 18446744073709551616) : x ^^^ 18446744073709551615 = 18446744073709551615 - x := by
  apply Nat.eq_of_testBit_eq
  intro i
  rw [Nat.testBit_xor]
  have e : (18446744073709551615 : Nat) = 2 ^ 64 - 1 := by decide
  rw [e, Nat.testBit_two_pow_sub_one, show 2 ^ 64 - 1 - x = 2 ^ 64 - (x + 1) by omega, Nat.testBit_two_pow_sub_succ h]
  by_cases hi : i < 64
  · simp [hi]
  · have : x.testBit i = false := Nat.testBit_lt_two_pow (Nat.lt_of_lt_of_le h (Nat.pow_le_pow_right (n := 2) (by omega) (by omega : 64 ≤ i)))
    simp [hi, this]
theorem dezig (n : Nat) (h : n < 18446744073709551616) : xorK .i64 (IntKind.i64.wrap (shrK .u64 (n : Int) 1)) (IntKind.i64.wrap (0 - (IntKind.i64.wrap (andK .u64 (n : Int) 1)))) = unzig n := by
  have hand : andK .u64 (n : Int) 1 = ((n % 2 : Nat) : Int) := by
    show IntKind.u64.wrap ((BitVec.ofInt 64 (n : Int) &&& BitVec.ofInt 64 ((1 : Nat) : Int)).toNat : Int) = _
    rw [BitVec.toNat_and, bv64 h, bv64 (by omega), Nat.and_one_is_mod]
    exact wu_nat (by omega)
  rw [show (1 : Int) = ((1 : Nat) : Int) from rfl, shr_nat n 1 (by omega)] 
  have w1 : IntKind.i64.wrap ((n % 2 : Nat) : Int) = ((n % 2 : Nat) : Int) := w64_in (by omega) (by omega)
  have w2 : IntKind.i64.wrap (0 - ((n % 2 : Nat) : Int)) = 0 - ((n % 2 : Nat) : Int) := w64_in (by omega) (by omega)
  have w3 : IntKind.i64.wrap ((n / 2 ^ 1 : Nat) : Int) = ((n / 2 ^ 1 : Nat) : Int) := w64_in (by omega) (by omega)
  rw [show ((1 : Nat) : Int) = 1 from rfl, hand, w1, w2, w3]
  have hx : ∀ (x : Nat) (y : Int), xorK .i64 (x : Int) y = IntKind.i64.wrap ((BitVec.ofInt 64 (x : Int) ^^^ BitVec.ofInt 64 y).toNat : Int) := fun _ _ => rfl
  rw [hx, BitVec.toNat_xor, bv64 (by omega)]
  unfold unzig
  have hw : ∀ i : Int, IntKind.i64.wrap i = (i + 9223372036854775808) % 18446744073709551616 - 9223372036854775808 := IntKind.wrap_i64
  by_cases hn : n % 2 = 0
  · rw [if_pos hn, hn]
    have : (BitVec.ofInt 64 (0 - ((0 : Nat) : Int))).toNat = 0 := rfl
    rw [this, Nat.xor_zero, show (2 ^ 1 : Nat) = 2 by decide, w64_in (by omega) (by omega)]
  · rw [if_neg hn, show n % 2 = 1 by omega]
    have : (BitVec.ofInt 64 (0 - ((1 : Nat) : Int))).toNat = 18446744073709551615 := rfl
    rw [this, xor_ones (by omega), show (2 ^ 1 : Nat) = 2 by decide, hw]
    omega
end Go.Proofs.Ytigadhiciinicaa
