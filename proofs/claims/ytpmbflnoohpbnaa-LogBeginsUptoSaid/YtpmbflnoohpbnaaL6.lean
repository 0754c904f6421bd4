/- Chapter 19: of frames' bytes, cut anywhere: the plain law. -/
import Derived.Test.YtpmbflnoohpbnaaL5
namespace Go.Proofs.Ytpmbflnoohpbnaa
open Go Aw
set_option linter.unusedVariables false
set_option linter.unusedSimpArgs false

theorem wrapU (i : Int) : IntKind.u64.wrap i = i % 18446744073709551616 := by
  unfold IntKind.wrap
  simp only [IntKind.bits, IntKind.signed, Bool.false_and, if_false, Bool.false_eq_true]
  rfl
theorem sumF_range (bs : List UInt8) : 0 ≤ sumF bs ∧ sumF bs < 18446744073709551616 := by
  unfold sumF
  rcases List.eq_nil_or_concat bs with rfl | ⟨r, x, rfl⟩
  · simp only [List.foldl_nil]; omega
  · rw [List.concat_eq_append, List.foldl_append]
    simp only [List.foldl_cons, List.foldl_nil, sumS]
    rw [wrapU]
    exact ⟨Int.emod_nonneg _ (by decide), Int.emod_lt_of_pos _ (by decide)⟩
theorem u8_mod (s : Int) : u8 (s.tmod 256) = u8 (s.tmod 256) := rfl
theorem numF_get : ∀ (k : Nat) (s : Int), 0 ≤ s → s < 18446744073709551616 → ∀ i, i < k → (numF k s).getD i 0 = u8 (s / 256 ^ i)
  | 0, s, h0, h1, i, hi => by omega
  | k + 1, s, h0, h1, i, hi => by
    have e1 : s.tdiv 256 = s / 256 := Int.tdiv_eq_ediv_of_nonneg h0
    have e2 : s.tmod 256 = s % 256 := Int.tmod_eq_emod_of_nonneg h0
    have e3 : IntKind.u64.wrap (s.tdiv 256) = s / 256 := by rw [wrapU, e1]; omega
    simp only [numF]
    rw [e3, e2]
    cases i with
    | zero => simp [u8]
    | succ i =>
      rw [List.getD_cons_succ, numF_get k (s / 256) (by omega) (by omega) i (by omega), Int.ediv_ediv_of_nonneg (by decide), Int.pow_succ, Int.mul_comm]
theorem sumAt_eq {s : Int} {i : Nat} (hi : i < 8) : sumAt s i = u8 (s / 256 ^ i) := by
  have e : (2 : Int) ^ min (8 * i) 64 = 256 ^ i := by
    rw [Nat.min_eq_left (by omega), Int.pow_mul]; rfl
  rw [sumAt, e, Int.fdiv_eq_ediv_of_nonneg _ (Int.le_of_lt (Int.pow_pos (by decide)))]
theorem u8_toNat {i : Int} (h0 : 0 ≤ i) (h1 : i < 256) : ((u8 i).toNat : Int) = i := by
  rw [u8_nat]
  unfold IntKind.wrap
  simp only [IntKind.bits, IntKind.signed, Bool.false_and, if_false, Bool.false_eq_true]
  show i % 256 = i
  omega
theorem u8_toNat' (i : Int) : ((u8 i).toNat : Int) = i % 256 := by
  rw [u8_nat]
  unfold IntKind.wrap
  simp only [IntKind.bits, IntKind.signed, Bool.false_and, if_false, Bool.false_eq_true]
  rfl
/-- The length's four bytes tell the length. -/
theorem len_back (n : Nat) (h : n ≤ 1048576) : lenN ((numF 4 (IntKind.u64.wrap n)).getD 0 0) ((numF 4 (IntKind.u64.wrap n)).getD 1 0) ((numF 4 (IntKind.u64.wrap n)).getD 2 0) ((numF 4 (IntKind.u64.wrap n)).getD 3 0) = n := by
  have e : IntKind.u64.wrap (n : Int) = n := by rw [wrapU]; omega
  rw [e, numF_get 4 n (by omega) (by omega) 0 (by omega), numF_get 4 n (by omega) (by omega) 1 (by omega), numF_get 4 n (by omega) (by omega) 2 (by omega), numF_get 4 n (by omega) (by omega) 3 (by omega)]
  unfold lenN
  have h0 := u8_toNat' ((n : Int) / 256 ^ 0)
  have h1 := u8_toNat' ((n : Int) / 256 ^ 1)
  have h2 := u8_toNat' ((n : Int) / 256 ^ 2)
  have h3 := u8_toNat' ((n : Int) / 256 ^ 3)
  omega
theorem packE_ok {f : Fr} (h : packE f = 0) : 1 ≤ f.1 ∧ f.1 ≤ 255 ∧ f.2.length ≤ 1048576 := by
  unfold packE at h
  split at h
  · cases h
  split at h
  · cases h
  rename_i h1 h2
  omega
theorem getD_app1 {a b : List UInt8} {i : Nat} {d : UInt8} (h : i < a.length) : (a ++ b).getD i d = a.getD i d := by
  simp [List.getD_eq_getElem?_getD, List.getElem?_append_left h]
theorem getD_app2 {a b : List UInt8} {i : Nat} {d : UInt8} : (a ++ b).getD (a.length + i) d = b.getD i d := by
  simp [List.getD_eq_getElem?_getD, List.getElem?_append_right]
theorem getD_take {a : List UInt8} {c i : Nat} {d : UInt8} (h : i < c) : (a.take c).getD i d = a.getD i d := by
  simp [List.getD_eq_getElem?_getD, List.getElem?_take, h]
theorem packB_shape (f : Fr) : packB f = [u8 f.1] ++ (numF 4 (IntKind.u64.wrap f.2.length) ++ (f.2 ++ numF 8 (sumF (packH f)))) := by
  simp [packB, packH]
theorem pack_len4 (f : Fr) (r : List UInt8) (i : Nat) (hi : i < 4) : (packB f ++ r).getD (1 + i) 0 = (numF 4 (IntKind.u64.wrap f.2.length)).getD i 0 := by
  have hl := numF_len 4 (IntKind.u64.wrap f.2.length)
  have e1 := packB_shape f
  rw [getD_app1 (by rw [packB_len]; omega), e1, show 1 + i = [u8 f.1].length + i from rfl, getD_app2, getD_app1 (by omega)]
theorem pack_kind (f : Fr) (r : List UInt8) (d : UInt8) : (packB f ++ r).getD 0 d = u8 f.1 := by
  rw [packB_shape]; rfl
theorem pack_nextN {f : Fr} (h : packE f = 0) (r : List UInt8) (c : Nat) (hc : 5 ≤ c) : nextN ((packB f ++ r).take c) = f.2.length := by
  unfold nextN
  rw [getD_take (by omega), getD_take (by omega), getD_take (by omega), getD_take (by omega), pack_len4 f r 0 (by omega), pack_len4 f r 1 (by omega), pack_len4 f r 2 (by omega), pack_len4 f r 3 (by omega)]
  exact len_back _ (packE_ok h).2.2
theorem pack_kind0 {f : Fr} (h : packE f = 0) (r : List UInt8) (c : Nat) (hc : 0 < c) : ¬ ((packB f ++ r).take c).getD 0 1 = 0 := by
  rw [getD_take hc, pack_kind]
  intro e
  have := u8_toNat (i := f.1) (by have := packE_ok h; omega) (by have := packE_ok h; omega)
  rw [e] at this
  have h2 := packE_ok h
  simp at this; omega
theorem pack_cut_len (f : Fr) (r : List UInt8) (c : Nat) (hc : c ≤ (packB f ++ r).length) : ((packB f ++ r).take c).length = c := by rw [List.length_take]; omega
theorem pack_torn {f : Fr} (h : packE f = 0) (r : List UInt8) (c : Nat) (hc : 0 < c) (hc' : c < 13 + f.2.length) : nextE ((packB f ++ r).take c) = 191 := by
  have hl := pack_cut_len f r c (by rw [List.length_append, packB_len]; omega)
  by_cases h5 : c < 5
  · exact nextE_2 (pack_kind0 h r c hc) (by omega)
  · have hn := pack_nextN h r c (by omega)
    have hp := packE_ok h
    exact nextE_4 (pack_kind0 h r c hc) (by omega) (by omega) (by omega)
theorem pack_whole {f : Fr} (h : packE f = 0) (r : List UInt8) (c : Nat) (hc : 13 + f.2.length ≤ c) (hc' : c ≤ (packB f ++ r).length) : nextE ((packB f ++ r).take c) = 0 ∧ nextX ((packB f ++ r).take c) = (f, 13 + f.2.length) := by
  have hl := pack_cut_len f r c hc'
  have hn := pack_nextN h r c (by omega)
  have hp := packE_ok h
  have hH := packH_len f
  have hB := packB_len f
  have htk : ((packB f ++ r).take c).take (5 + f.2.length) = packH f := by
    rw [List.take_take, Nat.min_eq_left (by omega), List.take_append_of_le_length (by omega), packB, List.take_append_of_le_length (by omega), List.take_of_length_le (by omega)]
  have h0 : nextE ((packB f ++ r).take c) = 0 := by
    refine nextE_0 (pack_kind0 h r c (by omega)) (by omega) (by omega) (by omega) (fun i hi => ?_)
    rw [hn, htk, getD_take (by omega), getD_app1 (by omega), packB, ← hH, getD_app2, sumAt_eq hi]
    have := sumF_range (packH f)
    exact numF_get 8 _ this.1 this.2 i hi
  refine ⟨h0, ?_⟩
  unfold nextX
  rw [if_pos h0, hn, htk, getD_take (by omega), pack_kind]
  have e : packH f = ([u8 f.1] ++ numF 4 (IntKind.u64.wrap f.2.length)) ++ f.2 := rfl
  have e2 : (packH f).drop 5 = f.2 := by
    rw [e, List.drop_append_of_le_length (by simp [numF_len]), List.drop_of_length_le (by simp [numF_len])]; rfl
  rw [e2, u8_toNat (by omega) (by omega)]

/-- What is told of w's bytes, cut at c. -/
structure Begun (w : List Fr) (c : Nat) (R : List Fr × Nat × Int) : Prop where
  part : ∃ r, w = R.1 ++ r ∧ (R.2.2 = 0 ∨ r ≠ []) ∧ ∀ f r', r = f :: r' → c < R.2.1 + (packB f).length
  le : R.2.1 ≤ c
  whole : R.2.2 = 0 ↔ R.2.1 = c
  torn : R.2.2 = 0 ∨ R.2.2 = 191
theorem begun : ∀ (w : List Fr), (∀ f, f ∈ w → packE f = 0) → ∀ (c k : Nat), c ≤ (w.flatMap packB).length → c ≤ k → Begun w c (readS k ((w.flatMap packB).take c))
  | [], _, c, k, hc, hk => by
    have : c = 0 := by simpa using hc
    subst this
    rw [List.take_zero, readS_nil]
    exact ⟨⟨[], rfl, .inl rfl, by simp⟩, Nat.le_refl _, by simp, .inl rfl⟩
  | f :: w, hw, c, k, hc, hk => by
    have hf := hw f (by simp)
    rw [List.flatMap_cons] at hc ⊢
    have hB := packB_len f
    by_cases h0 : c = 0
    · subst h0
      rw [List.take_zero, readS_nil]
      exact ⟨⟨f :: w, rfl, .inl rfl, by rintro f' r' h; injection h with h1 h2; subst h1; simp only; omega⟩, Nat.le_refl _, by simp, .inl rfl⟩
    · obtain ⟨k, rfl⟩ := Nat.exists_eq_succ_of_ne_zero (show k ≠ 0 by omega)
      have hl := pack_cut_len f (w.flatMap packB) c hc
      have hne : (packB f ++ w.flatMap packB).take c ≠ [] := by intro h; rw [h] at hl; simp at hl; omega
      by_cases h1 : c < 13 + f.2.length
      · have ht := pack_torn hf (w.flatMap packB) c (by omega) h1
        rw [readS_bad hne (by rw [ht]; decide), ht]
        refine ⟨⟨f :: w, rfl, .inr (by simp), ?_⟩, Nat.zero_le _, ?_, .inr rfl⟩
        · rintro f' r' h; injection h with h1 h2; subst h1; simp only; omega
        · constructor
          · intro h; cases h
          · intro h; simp only at h; omega
      · obtain ⟨g0, gX⟩ := pack_whole hf (w.flatMap packB) c (by omega) hc
        rw [readS_good hne g0, gX]
        simp only
        have hd : ((packB f ++ w.flatMap packB).take c).drop (13 + f.2.length) = (w.flatMap packB).take (c - (13 + f.2.length)) := by
          rw [← hB, List.drop_take, List.drop_left]
        rw [hd]
        have hlen : (packB f ++ w.flatMap packB).length = 13 + f.2.length + (w.flatMap packB).length := by rw [List.length_append, hB]
        obtain ⟨⟨r, e1, e2, e3⟩, e4, e5, e6⟩ := begun w (fun g hg => hw g (by simp [hg])) (c - (13 + f.2.length)) k (by omega) (by omega)
        refine ⟨⟨r, ?_, e2, ?_⟩, ?_, ?_, e6⟩
        · simp only [List.cons_append]; rw [← e1]
        · intro f' r' hr; have := e3 f' r' hr; simp only; omega
        · simp only; omega
        · simp only; rw [e5]; omega
theorem whole_ok (l : List Fr) : ∀ f, f ∈ wholeF l → packE f = 0 := by
  intro f hf
  have := (List.mem_filter.1 hf).2
  simpa using this
theorem begun_read (l : List Fr) (c : Nat) (hc : c ≤ (packL l).length) : Begun (wholeF l) c (readF ((packL l).take c)) := by
  refine begun (wholeF l) (whole_ok l) c _ hc ?_
  rw [List.length_take]; omega
theorem read_nil : readF [] = ([], 0, 0) := rfl
end Go.Proofs.Ytpmbflnoohpbnaa
