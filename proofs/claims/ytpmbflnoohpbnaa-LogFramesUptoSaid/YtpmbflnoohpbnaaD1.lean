/- Chapter 19: the bytes of frames, in plain: sums, what a frame's bytes are, what bytes tell; one byte that is another one. -/
import Derived.Test.YtpmbflnoohpbnaaAwT
namespace Go.Proofs.Ytpmbflnoohpbnaa
open Go Aw
set_option linter.unusedVariables false
set_option linter.unusedSimpArgs false
/-- A frame: its kind and its body. -/
abbrev Fr := Int × List UInt8
abbrev u8 (i : Int) : UInt8 := UInt8.ofInt i
theorem u8_nat (i : Int) : ((u8 i).toNat : Int) = IntKind.u8.wrap i := by
  unfold u8 IntKind.wrap
  simp only [IntKind.bits, IntKind.signed, Bool.false_and, if_false, Bool.false_eq_true]
  show (((UInt8.ofNat (i % 2 ^ 8).toNat).toNat : Nat) : Int) = i % 2 ^ 8
  rw [UInt8.toNat_ofNat']
  have h1 : 0 ≤ i % 2 ^ 8 := Int.emod_nonneg _ (by decide)
  have h2 : i % 2 ^ 8 < 2 ^ 8 := Int.emod_lt_of_pos _ (by decide)
  omega
/-- One step of a sum. -/
def sumS (h : Int) (c : UInt8) : Int := IntKind.u64.wrap (xorK .u64 h c.toNat * 1099511628211)
def sumF (bs : List UInt8) : Int := bs.foldl sumS 14695981039346656037
theorem sumF_snoc (a : List UInt8) (x : UInt8) : sumF (a ++ [x]) = sumS (sumF a) x := by unfold sumF; rw [List.foldl_append]; rfl
def numF : Nat → Int → List UInt8
  | 0, _ => []
  | k + 1, n => u8 (n.tmod 256) :: numF k (IntKind.u64.wrap (n.tdiv 256))
theorem numF_len : ∀ (k : Nat) (n : Int), (numF k n).length = k
  | 0, _ => rfl
  | k + 1, n => by simp [numF, numF_len k]
def packH (f : Fr) : List UInt8 := ([u8 f.1] ++ numF 4 (IntKind.u64.wrap f.2.length)) ++ f.2
def packB (f : Fr) : List UInt8 := packH f ++ numF 8 (sumF (packH f))
def packE (f : Fr) : Int := if f.1 < 1 ∨ 255 < f.1 then 1 else if 1048576 < f.2.length then 2 else 0
theorem packH_len (f : Fr) : (packH f).length = 5 + f.2.length := by simp [packH, numF_len]; omega
theorem packB_len (f : Fr) : (packB f).length = 13 + f.2.length := by simp [packB, packH_len, numF_len]; omega
def lenN (b1 b2 b3 b4 : UInt8) : Nat := b1.toNat + 256 * b2.toNat + 65536 * b3.toNat + 16777216 * b4.toNat
def sumAt (s : Int) (i : Nat) : UInt8 := u8 (shrK .u64 s ((8 * i : Nat) : Int))
def nextN (bs : List UInt8) : Nat := lenN (bs.getD 1 0) (bs.getD 2 0) (bs.getD 3 0) (bs.getD 4 0)
def nextE (bs : List UInt8) : Int :=
  if bs.getD 0 1 = 0 then 1 else if bs.length < 5 then 191 else if 1048576 < nextN bs then 2 else if bs.length < 13 + nextN bs then 191
  else if ∀ i : Fin 8, bs.getD (5 + nextN bs + i.val) 0 = sumAt (sumF (bs.take (5 + nextN bs))) i.val then 0 else 190
def nextX (bs : List UInt8) : Fr × Nat := if nextE bs = 0 then ((((bs.getD 0 0).toNat : Int), (bs.take (5 + nextN bs)).drop 5), 13 + nextN bs) else ((0, []), 0)
theorem nextE_1 {bs : List UInt8} (h : bs.getD 0 1 = 0) : nextE bs = 1 := by unfold nextE; rw [if_pos h]
theorem nextE_2 {bs : List UInt8} (h0 : ¬ bs.getD 0 1 = 0) (h : bs.length < 5) : nextE bs = 191 := by unfold nextE; rw [if_neg h0, if_pos h]
theorem nextE_3 {bs : List UInt8} (h0 : ¬ bs.getD 0 1 = 0) (h1 : ¬ bs.length < 5) (h : 1048576 < nextN bs) : nextE bs = 2 := by unfold nextE; rw [if_neg h0, if_neg h1, if_pos h]
theorem nextE_4 {bs : List UInt8} (h0 : ¬ bs.getD 0 1 = 0) (h1 : ¬ bs.length < 5) (h2 : ¬ 1048576 < nextN bs) (h : bs.length < 13 + nextN bs) : nextE bs = 191 := by unfold nextE; rw [if_neg h0, if_neg h1, if_neg h2, if_pos h]
theorem nextE_5 {bs : List UInt8} (h0 : ¬ bs.getD 0 1 = 0) (h1 : ¬ bs.length < 5) (h2 : ¬ 1048576 < nextN bs) (h3 : ¬ bs.length < 13 + nextN bs) {i : Nat} (hi : i < 8) (h : ¬ bs.getD (5 + nextN bs + i) 0 = sumAt (sumF (bs.take (5 + nextN bs))) i) : nextE bs = 190 := by
  unfold nextE; rw [if_neg h0, if_neg h1, if_neg h2, if_neg h3, if_neg (fun hh => h (hh ⟨i, hi⟩))]
theorem nextE_0 {bs : List UInt8} (h0 : ¬ bs.getD 0 1 = 0) (h1 : ¬ bs.length < 5) (h2 : ¬ 1048576 < nextN bs) (h3 : ¬ bs.length < 13 + nextN bs) (h : ∀ i, i < 8 → bs.getD (5 + nextN bs + i) 0 = sumAt (sumF (bs.take (5 + nextN bs))) i) : nextE bs = 0 := by
  unfold nextE; rw [if_neg h0, if_neg h1, if_neg h2, if_neg h3]; exact if_pos (fun i : Fin 8 => h i.val i.isLt)

def readS : Nat → List UInt8 → List Fr × Nat × Int
  | 0, _ => ([], 0, 0)
  | k + 1, bs => if bs = [] then ([], 0, 0) else if nextE bs = 0 then ((nextX bs).1 :: (readS k (bs.drop (nextX bs).2)).1, (nextX bs).2 + (readS k (bs.drop (nextX bs).2)).2.1, (readS k (bs.drop (nextX bs).2)).2.2) else ([], 0, nextE bs)
def readF (bs : List UInt8) : List Fr × Nat × Int := readS bs.length bs
theorem readS_nil (k : Nat) : readS k [] = ([], 0, 0) := by cases k <;> simp [readS]
theorem readS_bad {k : Nat} {bs : List UInt8} (hb : bs ≠ []) (h : nextE bs ≠ 0) : readS (k + 1) bs = ([], 0, nextE bs) := by rw [readS, if_neg hb, if_neg h]
theorem readS_good {k : Nat} {bs : List UInt8} (hb : bs ≠ []) (h : nextE bs = 0) : readS (k + 1) bs = ((nextX bs).1 :: (readS k (bs.drop (nextX bs).2)).1, (nextX bs).2 + (readS k (bs.drop (nextX bs).2)).2.1, (readS k (bs.drop (nextX bs).2)).2.2) := by rw [readS, if_neg hb, if_pos h]
theorem next_good {bs : List UInt8} (h : nextE bs = 0) : (nextX bs).2 = 13 + nextN bs ∧ 13 + nextN bs ≤ bs.length ∧ nextN bs ≤ 1048576 := by
  constructor
  · unfold nextX; rw [if_pos h]
  · unfold nextE at h
    split at h
    · cases h
    split at h
    · cases h
    split at h
    · cases h
    split at h
    · cases h
    omega
theorem wrapU (i : Int) : IntKind.u64.wrap i = i % 18446744073709551616 := by
  unfold IntKind.wrap
  simp only [IntKind.bits, IntKind.signed, Bool.false_and, if_false, Bool.false_eq_true]
  rfl
theorem sumF_range (bs : List UInt8) : 0 ≤ sumF bs ∧ sumF bs < 18446744073709551616 := by
  unfold sumF
  rcases List.eq_nil_or_concat bs with rfl | ⟨r, x, rfl⟩
  · simp only [List.foldl_nil]; omega
  · rw [List.concat_eq_append, List.foldl_append]
    simp only [List.foldl_cons, List.foldl_nil, sumS]
    rw [wrapU]
    exact ⟨Int.emod_nonneg _ (by decide), Int.emod_lt_of_pos _ (by decide)⟩
theorem u8_toNat' (i : Int) : ((u8 i).toNat : Int) = i % 256 := by
  rw [u8_nat]
  unfold IntKind.wrap
  simp only [IntKind.bits, IntKind.signed, Bool.false_and, if_false, Bool.false_eq_true]
  rfl
theorem numF_get : ∀ (k : Nat) (s : Int), 0 ≤ s → s < 18446744073709551616 → ∀ i, i < k → (numF k s).getD i 0 = u8 (s / 256 ^ i)
  | 0, s, h0, h1, i, hi => by omega
  | k + 1, s, h0, h1, i, hi => by
    have e1 : s.tdiv 256 = s / 256 := Int.tdiv_eq_ediv_of_nonneg h0
    have e2 : s.tmod 256 = s % 256 := Int.tmod_eq_emod_of_nonneg h0
    have e3 : IntKind.u64.wrap (s.tdiv 256) = s / 256 := by rw [wrapU, e1]; omega
    simp only [numF]
    rw [e3, e2]
    cases i with
    | zero =>
      rw [Int.pow_zero, Int.ediv_one, List.getD_cons_zero]
      apply UInt8.toNat_inj.1
      have a := u8_toNat' (s % 256)
      have b := u8_toNat' s
      omega
    | succ i =>
      rw [List.getD_cons_succ, numF_get k (s / 256) (by omega) (by omega) i (by omega), Int.ediv_ediv_of_nonneg (by decide), Int.pow_succ, Int.mul_comm]
theorem sumAt_eq {s : Int} {i : Nat} (hi : i < 8) : sumAt s i = u8 (s / 256 ^ i) := by
  have e : (2 : Int) ^ min (8 * i) 64 = 256 ^ i := by
    rw [Nat.min_eq_left (by omega), Int.pow_mul]; rfl
  show UInt8.ofInt (s.fdiv (2 ^ min ((8 * i : Nat) : Int).toNat 64)) = _
  rw [Int.toNat_natCast, e, Int.fdiv_eq_ediv_of_nonneg _ (Int.le_of_lt (Int.pow_pos (by decide)))]
theorem u8_toNat {i : Int} (h0 : 0 ≤ i) (h1 : i < 256) : ((u8 i).toNat : Int) = i := by
  rw [u8_nat]
  unfold IntKind.wrap
  simp only [IntKind.bits, IntKind.signed, Bool.false_and, if_false, Bool.false_eq_true]
  show i % 256 = i
  omega
/-- The length's four bytes tell the length. -/
theorem len_back (n : Nat) (h : n ≤ 1048576) : lenN ((numF 4 (IntKind.u64.wrap n)).getD 0 0) ((numF 4 (IntKind.u64.wrap n)).getD 1 0) ((numF 4 (IntKind.u64.wrap n)).getD 2 0) ((numF 4 (IntKind.u64.wrap n)).getD 3 0) = n := by
  have e : IntKind.u64.wrap (n : Int) = n := by rw [wrapU]; omega
  rw [e, numF_get 4 n (by omega) (by omega) 0 (by omega), numF_get 4 n (by omega) (by omega) 1 (by omega), numF_get 4 n (by omega) (by omega) 2 (by omega), numF_get 4 n (by omega) (by omega) 3 (by omega)]
  unfold lenN
  have h0 := u8_toNat' ((n : Int) / 256 ^ 0)
  have h1 := u8_toNat' ((n : Int) / 256 ^ 1)
  have h2 := u8_toNat' ((n : Int) / 256 ^ 2)
  have h3 := u8_toNat' ((n : Int) / 256 ^ 3)
  omega
theorem packE_ok {f : Fr} (h : packE f = 0) : 1 ≤ f.1 ∧ f.1 ≤ 255 ∧ f.2.length ≤ 1048576 := by
  unfold packE at h
  split at h
  · cases h
  split at h
  · cases h
  rename_i h1 h2
  omega
theorem getD_app1 {a b : List UInt8} {i : Nat} {d : UInt8} (h : i < a.length) : (a ++ b).getD i d = a.getD i d := by
  simp [List.getD_eq_getElem?_getD, List.getElem?_append_left h]
theorem getD_app2 {a b : List UInt8} {i : Nat} {d : UInt8} : (a ++ b).getD (a.length + i) d = b.getD i d := by
  simp [List.getD_eq_getElem?_getD, List.getElem?_append_right]
theorem getD_take {a : List UInt8} {c i : Nat} {d : UInt8} (h : i < c) : (a.take c).getD i d = a.getD i d := by
  simp [List.getD_eq_getElem?_getD, List.getElem?_take, h]
theorem packB_shape (f : Fr) : packB f = [u8 f.1] ++ (numF 4 (IntKind.u64.wrap f.2.length) ++ (f.2 ++ numF 8 (sumF (packH f)))) := by
  simp [packB, packH]
theorem pack_len4 (f : Fr) (r : List UInt8) (i : Nat) (hi : i < 4) : (packB f ++ r).getD (1 + i) 0 = (numF 4 (IntKind.u64.wrap f.2.length)).getD i 0 := by
  have hl := numF_len 4 (IntKind.u64.wrap f.2.length)
  have e1 := packB_shape f
  rw [getD_app1 (by rw [packB_len]; omega), e1, show 1 + i = [u8 f.1].length + i from rfl, getD_app2, getD_app1 (by omega)]
theorem pack_kind (f : Fr) (r : List UInt8) (d : UInt8) : (packB f ++ r).getD 0 d = u8 f.1 := by
  rw [packB_shape]; rfl
theorem pack_nextN {f : Fr} (h : packE f = 0) (r : List UInt8) (c : Nat) (hc : 5 ≤ c) : nextN ((packB f ++ r).take c) = f.2.length := by
  unfold nextN
  rw [getD_take (by omega), getD_take (by omega), getD_take (by omega), getD_take (by omega), pack_len4 f r 0 (by omega), pack_len4 f r 1 (by omega), pack_len4 f r 2 (by omega), pack_len4 f r 3 (by omega)]
  exact len_back _ (packE_ok h).2.2
theorem pack_kind0 {f : Fr} (h : packE f = 0) (r : List UInt8) (c : Nat) (hc : 0 < c) : ¬ ((packB f ++ r).take c).getD 0 1 = 0 := by
  rw [getD_take hc, pack_kind]
  intro e
  have := u8_toNat (i := f.1) (by have := packE_ok h; omega) (by have := packE_ok h; omega)
  rw [e] at this
  have h2 := packE_ok h
  simp at this; omega
theorem pack_cut_len (f : Fr) (r : List UInt8) (c : Nat) (hc : c ≤ (packB f ++ r).length) : ((packB f ++ r).take c).length = c := by rw [List.length_take]; omega
theorem pack_torn {f : Fr} (h : packE f = 0) (r : List UInt8) (c : Nat) (hc : 0 < c) (hc' : c < 13 + f.2.length) : nextE ((packB f ++ r).take c) = 191 := by
  have hl := pack_cut_len f r c (by rw [List.length_append, packB_len]; omega)
  by_cases h5 : c < 5
  · exact nextE_2 (pack_kind0 h r c hc) (by omega)
  · have hn := pack_nextN h r c (by omega)
    have hp := packE_ok h
    exact nextE_4 (pack_kind0 h r c hc) (by omega) (by omega) (by omega)
theorem pack_whole {f : Fr} (h : packE f = 0) (r : List UInt8) (c : Nat) (hc : 13 + f.2.length ≤ c) (hc' : c ≤ (packB f ++ r).length) : nextE ((packB f ++ r).take c) = 0 ∧ nextX ((packB f ++ r).take c) = (f, 13 + f.2.length) := by
  have hl := pack_cut_len f r c hc'
  have hn := pack_nextN h r c (by omega)
  have hp := packE_ok h
  have hH := packH_len f
  have hB := packB_len f
  have htk : ((packB f ++ r).take c).take (5 + f.2.length) = packH f := by
    rw [List.take_take, Nat.min_eq_left (by omega), List.take_append_of_le_length (by omega), packB, List.take_append_of_le_length (by omega), List.take_of_length_le (by omega)]
  have h0 : nextE ((packB f ++ r).take c) = 0 := by
    refine nextE_0 (pack_kind0 h r c (by omega)) (by omega) (by omega) (by omega) (fun i hi => ?_)
    rw [hn, htk, getD_take (by omega), getD_app1 (by omega), packB, ← hH, getD_app2, sumAt_eq hi]
    have := sumF_range (packH f)
    exact numF_get 8 _ this.1 this.2 i hi
  refine ⟨h0, ?_⟩
  unfold nextX
  rw [if_pos h0, hn, htk, getD_take (by omega), pack_kind]
  have e : packH f = ([u8 f.1] ++ numF 4 (IntKind.u64.wrap f.2.length)) ++ f.2 := rfl
  have e2 : (packH f).drop 5 = f.2 := by
    rw [e, List.drop_append_of_le_length (by simp [numF_len]), List.drop_of_length_le (by simp [numF_len])]; rfl
  rw [e2, u8_toNat (by omega) (by omega)]

/-! ### one byte that is another one -/
theorem ofInt_emod (i : Int) : BitVec.ofInt 64 (i % 18446744073709551616) = BitVec.ofInt 64 i := by
  apply BitVec.eq_of_toInt_eq
  rw [BitVec.toInt_ofInt, BitVec.toInt_ofInt]
  exact Int.emod_bmod ..
/-- The step, by bits. -/
def stepV (h : BitVec 64) (c : UInt8) : BitVec 64 := (h ^^^ BitVec.ofInt 64 c.toNat) * BitVec.ofNat 64 1099511628211
theorem sumS_bits (h : Int) (c : UInt8) : sumS h c = ((stepV (BitVec.ofInt 64 h) c).toNat : Int) := by
  unfold sumS stepV
  show IntKind.u64.wrap (IntKind.u64.wrap ((BitVec.ofInt 64 h ^^^ BitVec.ofInt 64 c.toNat).toNat : Int) * 1099511628211) = _
  generalize BitVec.ofInt 64 h ^^^ BitVec.ofInt 64 (c.toNat : Int) = x
  rw [wrapU, wrapU, BitVec.toNat_mul]
  have hx := x.isLt
  have e : (BitVec.ofNat 64 1099511628211).toNat = 1099511628211 := by decide
  rw [e]
  have h1 : ((x.toNat : Int) % 18446744073709551616) = x.toNat := by omega
  rw [h1]
  omega
theorem stepV_h {a b : BitVec 64} {c : UInt8} (h : stepV a c = stepV b c) : a = b := by
  have h1 := congrArg (· * BitVec.ofNat 64 14886173955864302971) h
  simp only [stepV, BitVec.mul_assoc] at h1
  have e : BitVec.ofNat 64 1099511628211 * BitVec.ofNat 64 14886173955864302971 = 1#64 := by decide
  rw [e, BitVec.mul_one, BitVec.mul_one] at h1
  have h2 := congrArg (· ^^^ BitVec.ofInt 64 (c.toNat : Int)) h1
  simpa [BitVec.xor_assoc] using h2
theorem stepV_c {a : BitVec 64} {c d : UInt8} (h : stepV a c = stepV a d) : c = d := by
  have h1 := congrArg (· * BitVec.ofNat 64 14886173955864302971) h
  simp only [stepV, BitVec.mul_assoc] at h1
  have e : BitVec.ofNat 64 1099511628211 * BitVec.ofNat 64 14886173955864302971 = 1#64 := by decide
  rw [e, BitVec.mul_one, BitVec.mul_one] at h1
  have h2 := congrArg (a ^^^ ·) h1
  simp only [← BitVec.xor_assoc, BitVec.xor_self, BitVec.zero_xor] at h2
  have h3 := congrArg BitVec.toNat h2
  have hc := c.toNat_lt
  have hd := d.toNat_lt
  rw [BitVec.toNat_ofInt, BitVec.toNat_ofInt] at h3
  apply UInt8.toNat_inj.1
  omega
theorem sumV_of (s : Int) (bs : List UInt8) (h0 : 0 ≤ s) (h1 : s < 18446744073709551616) : bs.foldl sumS s = (((bs.foldl stepV (BitVec.ofInt 64 s)).toNat : Nat) : Int) := by
  induction bs generalizing s with
  | nil => rw [List.foldl_nil, List.foldl_nil, BitVec.toNat_ofInt]; omega
  | cons c r ih =>
    rw [List.foldl_cons, List.foldl_cons, sumS_bits]
    have hx := (stepV (BitVec.ofInt 64 s) c).isLt
    rw [ih _ (by omega) (by omega)]
    rw [BitVec.ofInt_natCast, BitVec.ofNat_toNat, BitVec.setWidth_eq]
theorem foldV_h {r : List UInt8} : ∀ {a b : BitVec 64}, r.foldl stepV a = r.foldl stepV b → a = b := by
  induction r with
  | nil => intro a b h; exact h
  | cons c r ih => intro a b h; exact stepV_h (ih h)
theorem sum_ne {a r : List UInt8} {x y : UInt8} (h : x ≠ y) : sumF (a ++ x :: r) ≠ sumF (a ++ y :: r) := by
  intro he
  unfold sumF at he
  rw [sumV_of _ _ (by omega) (by omega), sumV_of _ _ (by omega) (by omega), List.foldl_append, List.foldl_append, List.foldl_cons, List.foldl_cons] at he
  exact h (stepV_c (foldV_h (BitVec.eq_of_toNat_eq (Int.ofNat.inj he))))
theorem num8_inj {s t : Int} (h0 : 0 ≤ s) (h1 : s < 18446744073709551616) (k0 : 0 ≤ t) (k1 : t < 18446744073709551616) (h : ∀ i, i < 8 → u8 (s / 256 ^ i) = u8 (t / 256 ^ i)) : s = t := by
  have key : ∀ i, i < 8 → (s / 256 ^ i) % 256 = (t / 256 ^ i) % 256 := fun i hi => by
    rw [← u8_toNat', ← u8_toNat', h i hi]
  have a0 := key 0 (by omega)
  have a1 := key 1 (by omega)
  have a2 := key 2 (by omega)
  have a3 := key 3 (by omega)
  have a4 := key 4 (by omega)
  have a5 := key 5 (by omega)
  have a6 := key 6 (by omega)
  have a7 := key 7 (by omega)
  omega
theorem set_split {α : Type} {l : List α} {i : Nat} {x y : α} (h : l[i]? = some x) : ∃ a r, l = a ++ x :: r ∧ l.set i y = a ++ y :: r ∧ a.length = i := by
  have hi : i < l.length := by
    rcases Nat.lt_or_ge i l.length with h1 | h1
    · exact h1
    · rw [List.getElem?_eq_none h1] at h; cases h
  refine ⟨l.take i, l.drop (i + 1), ?_, ?_, by rw [List.length_take]; omega⟩
  · rw [List.getElem?_eq_getElem hi] at h
    injection h with h
    rw [← h, ← List.drop_eq_getElem_cons hi, List.take_append_drop]
  · rw [List.set_eq_take_append_cons_drop, if_pos hi]
/-- A frame's bytes, of which one that is none of the length's is another one: they are refused. -/
theorem byte_bad {f : Fr} (h : packE f = 0) (r : List UInt8) {i : Nat} {x y : UInt8} (hx : (packB f)[i]? = some x) (hxy : x ≠ y) (hi : i = 0 ∨ 5 ≤ i) : nextE ((packB f).set i y ++ r) ≠ 0 := by
  have hp := packE_ok h
  have hB := packB_len f
  have hH := packH_len f
  have hlt : i < (packB f).length := by
    rcases Nat.lt_or_ge i (packB f).length with h1 | h1
    · exact h1
    · rw [List.getElem?_eq_none h1] at hx; cases hx
  have hsl : ((packB f).set i y).length = 13 + f.2.length := by rw [List.length_set, hB]
  have hgd : ∀ j d, j ≠ i → j < 13 + f.2.length → ((packB f).set i y ++ r).getD j d = (packB f).getD j d := by
    intro j d hj hjl
    rw [getD_app1 (by omega)]
    simp only [List.getD_eq_getElem?_getD]
    rw [List.getElem?_set_ne (Ne.symm hj)]
  have hn : nextN ((packB f).set i y ++ r) = f.2.length := by
    unfold nextN
    have e := pack_nextN h [] (13 + f.2.length) (by omega)
    unfold nextN at e
    rw [List.append_nil, List.take_of_length_le (by omega)] at e
    rw [hgd 1 0 (by omega) (by omega), hgd 2 0 (by omega) (by omega), hgd 3 0 (by omega) (by omega), hgd 4 0 (by omega) (by omega)]
    exact e
  intro he
  unfold nextE at he
  split at he
  · cases he
  split at he
  · cases he
  split at he
  · cases he
  split at he
  · cases he
  split at he
  case isFalse => cases he
  rename_i _ _ _ _ hall
  rw [hn] at hall
  have hr1 := sumF_range (packH f)
  have hsum : ∀ j, j < 8 → (packB f).getD (5 + f.2.length + j) 0 = u8 (sumF (packH f) / 256 ^ j) := fun j hj => by
    rw [packB, ← hH, getD_app2]
    exact numF_get 8 _ hr1.1 hr1.2 j hj
  by_cases hbody : i < 5 + f.2.length
  · have hxH : (packH f)[i]? = some x := by rw [packB, List.getElem?_append_left (by omega)] at hx; exact hx
    obtain ⟨a, q, e1, e2, e3⟩ := set_split (y := y) hxH
    have htk : ((packB f).set i y ++ r).take (5 + f.2.length) = (packH f).set i y := by
      rw [List.take_append_of_le_length (by omega), packB, List.set_append_left _ _ (by omega), List.take_append_of_le_length (by rw [List.length_set]; omega), List.take_of_length_le (by rw [List.length_set]; omega)]
    rw [htk] at hall
    have hr2 := sumF_range ((packH f).set i y)
    have : sumF (packH f) = sumF ((packH f).set i y) := num8_inj hr1.1 hr1.2 hr2.1 hr2.2 (fun j hj => by
      have h3 := hall ⟨j, hj⟩
      rw [hgd _ 0 (by omega) (by omega), hsum j hj, sumAt_eq hj] at h3
      exact h3)
    rw [e2, e1] at this
    exact sum_ne hxy this
  · have htk : ((packB f).set i y ++ r).take (5 + f.2.length) = packH f := by
      rw [List.take_append_of_le_length (by omega), List.take_set_of_le (by omega), packB, List.take_append_of_le_length (by omega), List.take_of_length_le (by omega)]
    rw [htk] at hall
    have h3 := hall ⟨i - (5 + f.2.length), by omega⟩
    rw [sumAt_eq (by show i - (5 + f.2.length) < 8; omega)] at h3
    have e4 : 5 + f.2.length + (i - (5 + f.2.length)) = i := by omega
    rw [e4] at h3
    have h4 : ((packB f).set i y ++ r).getD i 0 = y := by
      rw [getD_app1 (by omega)]
      simp [List.getD_eq_getElem?_getD, hlt]
    have h5 := hsum (i - (5 + f.2.length)) (by omega)
    rw [e4] at h5
    have h6 : (packB f).getD i 0 = x := by simp [List.getD_eq_getElem?_getD, hx]
    rw [h4] at h3
    rw [h6] at h5
    exact hxy (by rw [h3, h5])
/-- Frames' bytes, with what is refused behind them: just those frames are told. -/
theorem read_upto : ∀ (w : List Fr), (∀ f, f ∈ w → packE f = 0) → ∀ (x : List UInt8) (k : Nat), (w.flatMap packB ++ x).length ≤ k → x ≠ [] → nextE x ≠ 0 → readS k (w.flatMap packB ++ x) = (w, (w.flatMap packB).length, nextE x)
  | [], _, x, k, hk, hx, he => by
    obtain ⟨k, rfl⟩ := Nat.exists_eq_succ_of_ne_zero (show k ≠ 0 by
      intro h; subst h
      have : x.length = 0 := by simpa using hk
      exact hx (List.eq_nil_of_length_eq_zero this))
    exact readS_bad hx he
  | f :: w, hw, x, k, hk, hx, he => by
    have hf := hw f (by simp)
    have hB := packB_len f
    rw [List.flatMap_cons, List.append_assoc] at hk ⊢
    rw [List.length_append] at hk
    obtain ⟨k, rfl⟩ := Nat.exists_eq_succ_of_ne_zero (show k ≠ 0 by omega)
    obtain ⟨g0, gX⟩ := pack_whole hf (w.flatMap packB ++ x) (packB f ++ (w.flatMap packB ++ x)).length (by rw [List.length_append]; omega) (Nat.le_refl _)
    rw [List.take_length] at g0 gX
    have hne : packB f ++ (w.flatMap packB ++ x) ≠ [] := by
      intro h
      have := congrArg List.length h
      rw [List.length_append] at this
      simp only [List.length_nil] at this
      omega
    rw [readS_good hne g0, gX]
    simp only
    rw [← hB, List.drop_left, read_upto w (fun g hg => hw g (by simp [hg])) x k (by omega) hx he]
    simp [hB]
theorem read_all : ∀ (w : List Fr), (∀ f, f ∈ w → packE f = 0) → ∀ (k : Nat), (w.flatMap packB).length ≤ k → readS k (w.flatMap packB) = (w, (w.flatMap packB).length, 0)
  | [], _, k, hk => readS_nil k
  | f :: w, hw, k, hk => by
    have hf := hw f (by simp)
    have hB := packB_len f
    rw [List.flatMap_cons] at hk ⊢
    rw [List.length_append] at hk
    obtain ⟨k, rfl⟩ := Nat.exists_eq_succ_of_ne_zero (show k ≠ 0 by omega)
    obtain ⟨g0, gX⟩ := pack_whole hf (w.flatMap packB) (packB f ++ w.flatMap packB).length (by rw [List.length_append]; omega) (Nat.le_refl _)
    rw [List.take_length] at g0 gX
    have hne : packB f ++ w.flatMap packB ≠ [] := by
      intro h
      have := congrArg List.length h
      rw [List.length_append] at this
      simp only [List.length_nil] at this
      omega
    rw [readS_good hne g0, gX]
    simp only
    rw [← hB, List.drop_left, read_all w (fun g hg => hw g (by simp [hg])) k (by omega)]
    simp [hB]
end Go.Proofs.Ytpmbflnoohpbnaa
