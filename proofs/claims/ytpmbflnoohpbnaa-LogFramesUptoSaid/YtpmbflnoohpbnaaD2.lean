/- Chapter 19: what the printed functions tell, in plain: sums, packed frames, frames read. -/
import Derived.Test.YtpmbflnoohpbnaaRd
import Derived.Test.YtpmbflnoohpbnaaD1
import Derived.Test.YtpmbflnoohpbnaaG1
namespace Go.Proofs.Ytpmbflnoohpbnaa
open Go Aw
set_option linter.unusedVariables false
set_option linter.unusedSimpArgs false
theorem lt_t {i n : Nat} (h : i < n) : decide ((i : Int) < (n : Int)) = true := decide_eq_true (by omega)
theorem lt_f {i n : Nat} (h : ¬ i < n) : decide ((i : Int) < (n : Int)) = false := decide_eq_false (by omega)
theorem dropc {α : Type} {l : List α} {i : Nat} (h : i < l.length) : ∃ x, l[i]? = some x ∧ l.drop i = x :: l.drop (i + 1) :=
  ⟨l[i], List.getElem?_eq_getElem h, List.drop_eq_getElem_cons h⟩
theorem w64_in {x : Int} (h1 : -9223372036854775808 ≤ x) (h2 : x ≤ 9223372036854775807) : IntKind.i64.wrap x = x := wrap_in h1 h2
theorem idxI_nat {α : Type} (l : List α) (i : Nat) : idxI l (i : Int) = l[i]? := by
  unfold idxI; rw [decide_eq_true (by omega : (0 : Int) ≤ (i : Nat))]; rfl
theorem appO_ok {α : Type} {b : Nat} {l m : List α} (h : (l.length + m.length) * b ≤ 140737488355328) : appO b l m = some (l ++ m) := by
  unfold appO; rw [Nat.ble_eq_true_of_le h]; rfl
theorem cutO_ok {α : Type} {l : List α} {a b : Nat} (h1 : a ≤ b) (h2 : b ≤ l.length) : cutO l (a : Int) (b : Int) = some ((l.take b).drop a) := by
  unfold cutO
  rw [decide_eq_true (by omega : (0 : Int) ≤ (a : Nat)), decide_eq_true (by omega : ((a : Nat) : Int) ≤ (b : Nat)), decide_eq_true (by omega : ((b : Nat) : Int) ≤ (l.length : Nat))]
  simp
/-! ### sums -/
theorem take_snoc {l : List UInt8} {i : Nat} {x : UInt8} (h : l[i]? = some x) : l.take (i + 1) = l.take i ++ [x] := by
  rw [List.take_add_one, h]; rfl
theorem ref_sum_l (a : Str) : ∀ k i, k + i = a.length → ref19_Sum_l1 a (sumF (a.take i)) i = some (sumF a)
  | 0, i, h => by
    rw [ref19_Sum_l1_eq]
    simp only [ref19_Sum_l1b, lt_f (by omega : ¬ i < a.length), cond_false]
    rw [List.take_of_length_le (by omega)]
  | k + 1, i, h => by
    obtain ⟨c, hc, hd⟩ := dropc (by omega : i < a.length)
    rw [ref19_Sum_l1_eq]
    simp only [ref19_Sum_l1b, lt_t (by omega : i < a.length), cond_true, hc, Option.bind_some]
    have := ref_sum_l a k (i + 1) (by omega)
    rw [take_snoc hc, sumF_snoc] at this
    exact this
theorem ref19_Sum_eq (a : Str) : p_ref19_Sum a = some (sumF a) := ref_sum_l a a.length 0 (by omega)
theorem log_sum_l (a : Str) : ∀ k i, k + i = a.length → log_sum_l1 a (sumF (a.take i)) i = some (sumF a)
  | 0, i, h => by
    rw [log_sum_l1_eq]
    simp only [log_sum_l1b, lt_f (by omega : ¬ i < a.length), cond_false]
    rw [List.take_of_length_le (by omega)]
  | k + 1, i, h => by
    obtain ⟨c, hc, hd⟩ := dropc (by omega : i < a.length)
    rw [log_sum_l1_eq]
    simp only [log_sum_l1b, lt_t (by omega : i < a.length), cond_true, hc, Option.bind_some]
    have := log_sum_l a k (i + 1) (by omega)
    rw [take_snoc hc, sumF_snoc] at this
    exact this
theorem log_sum_eq (a : Str) : p_log_sum a = some (sumF a) := log_sum_l a a.length 0 (by omega)
/-! ### numbers -/
theorem number_l (n : Nat) (hn : n ≤ 64) : ∀ (k : Nat) (s : Int) (b : Str) (i : Nat), k + i = n → b.length ≤ i → ref19_number_l1 (n : Int) s b (i : Int) = some (b ++ numF k s)
  | 0, s, b, i, h, hb => by
    rw [ref19_number_l1_eq]
    simp only [ref19_number_l1b, lt_f (by omega : ¬ i < n), cond_false, numF, List.append_nil]
  | k + 1, s, b, i, h, hb => by
    rw [ref19_number_l1_eq]
    simp only [ref19_number_l1b, lt_t (by omega : i < n), cond_true]
    rw [appO_ok (by simp; omega), Option.bind_some, w64_in (by omega) (by omega)]
    have := number_l n hn k (IntKind.u64.wrap (s.tdiv 256)) (b ++ [u8 (s.tmod 256)]) (i + 1) (by omega) (by simp; omega)
    rw [List.append_assoc] at this
    exact this
theorem number_eq (s : Int) (n : Nat) (hn : n ≤ 64) : p_ref19_number s (n : Int) = some (numF n s) := number_l n hn n s [] 0 (by omega) (by simp)
/-! ### packed -/
def toF (x : S_api_Frame) : Fr := (x.f_Kind, x.f_Body)
def ofF (f : Fr) : S_api_Frame := ⟨f.1, f.2⟩
theorem ofF_toF (x : S_api_Frame) : ofF (toF x) = x := rfl
theorem toF_ofF (f : Fr) : toF (ofF f) = f := rfl
def packR (f : Fr) : List UInt8 := if packE f = 0 then packB f else []
theorem Pack_eq (x : S_api_Frame) (hx : x.f_Body.length ≤ 1099511627776) : p_ref19_Pack x = some (packR (toF x), packE (toF x)) := by
  obtain ⟨k, b⟩ := x
  unfold p_ref19_Pack
  simp only at hx ⊢
  have bad : (k < 1 ∨ 255 < k) → some (([] : Str), (1 : Int)) = some (packR (toF ⟨k, b⟩), packE (toF ⟨k, b⟩)) := fun h => by
    have : packE (toF ⟨k, b⟩) = 1 := by unfold packE toF; rw [if_pos h]
    rw [packR, this]; rfl
  by_cases h1 : k < 1
  · rw [decide_eq_true h1, cond_true]
    simp only [ref19_Pack_j1, cond_true]
    exact bad (.inl h1)
  · rw [decide_eq_false h1, cond_false]
    by_cases h2 : k > 255
    · rw [decide_eq_true h2]
      simp only [ref19_Pack_j1, cond_true]
      exact bad (.inr h2)
    · rw [decide_eq_false h2]
      simp only [ref19_Pack_j1, cond_false]
      by_cases h3 : ((b.length : Nat) : Int) > 1048576
      · rw [decide_eq_true h3, cond_true]
        have : packE (toF ⟨k, b⟩) = 2 := by unfold packE toF; rw [if_neg (by simp only; omega), if_pos (by simp only; omega)]
        rw [packR, this]; rfl
      · rw [decide_eq_false h3, cond_false]
        have hE : packE (toF ⟨k, b⟩) = 0 := by unfold packE toF; rw [if_neg (by simp only; omega), if_neg (by simp only; omega)]
        have n1 := number_eq (IntKind.u64.wrap ((b.length : Nat) : Int)) 4 (by omega)
        rw [show (4 : Int) = ((4 : Nat) : Int) from rfl, n1, Option.bind_some, appO_ok (by simp [numF_len]), Option.bind_some, appO_ok (by simp [numF_len]; omega), Option.bind_some, ref19_Sum_eq, Option.bind_some,
          show (8 : Int) = ((8 : Nat) : Int) from rfl, number_eq _ 8 (by omega), Option.bind_some, appO_ok (by simp [numF_len]; omega), Option.bind_some, packR, if_pos hE, hE]
        rfl
def wholeF (l : List S_api_Frame) : List S_api_Frame := l.filter fun f => packE (toF f) = 0
def packL (l : List S_api_Frame) : List UInt8 := ((wholeF l).map toF).flatMap packB
theorem whole_ok (l : List S_api_Frame) : ∀ f, f ∈ (wholeF l).map toF → packE f = 0 := by
  intro f hf
  obtain ⟨x, hx, rfl⟩ := List.mem_map.1 hf
  have := (List.mem_filter.1 hx).2
  simpa using this
def sizeF (l : List S_api_Frame) : Nat := l.foldr (fun f n => 13 + f.f_Body.length + n) 0
theorem sizeF_app (a b : List S_api_Frame) : sizeF (a ++ b) = sizeF a + sizeF b := by
  induction a with
  | nil => simp [sizeF]
  | cons x r ih => simp only [sizeF, List.cons_append, List.foldr_cons] at ih ⊢; omega
theorem packL_len (l : List S_api_Frame) : (packL l).length ≤ sizeF l := by
  induction l with
  | nil => simp [packL, wholeF]
  | cons f r ih =>
    simp only [packL, wholeF, List.filter_cons, sizeF, List.foldr_cons] at ih ⊢
    split
    · have e : (toF f).2.length = f.f_Body.length := rfl
      simp only [List.map_cons, List.flatMap_cons, List.length_append, packB_len]; omega
    · omega
theorem sizeF_len (l : List S_api_Frame) : l.length ≤ sizeF l := by
  induction l with
  | nil => simp
  | cons x r ih => simp only [sizeF, List.foldr_cons, List.length_cons] at ih ⊢; omega
theorem sizeF_take (l : List S_api_Frame) (i : Nat) : sizeF (l.take i) ≤ sizeF l := by
  have := sizeF_app (l.take i) (l.drop i)
  rw [List.take_append_drop] at this; omega
theorem sizeF_mem {l : List S_api_Frame} {f : S_api_Frame} (h : f ∈ l) : 13 + f.f_Body.length ≤ sizeF l := by
  induction l with
  | nil => cases h
  | cons x r ih =>
    simp only [sizeF, List.foldr_cons] at ih ⊢
    rcases List.mem_cons.1 h with rfl | h
    · omega
    · have := ih h; omega
theorem whole_snoc (l : List S_api_Frame) (x : S_api_Frame) : wholeF (l ++ [x]) = (if packE (toF x) = 0 then wholeF l ++ [x] else wholeF l) ∧ packL (l ++ [x]) = (if packE (toF x) = 0 then packL l ++ packR (toF x) else packL l) := by
  have h1 : wholeF (l ++ [x]) = (if packE (toF x) = 0 then wholeF l ++ [x] else wholeF l) := by
    unfold wholeF
    rw [List.filter_append]
    by_cases h : packE (toF x) = 0
    · rw [if_pos h]; simp [h]
    · rw [if_neg h]; simp [h]
  refine ⟨h1, ?_⟩
  unfold packL
  rw [h1]
  by_cases h : packE (toF x) = 0
  · rw [if_pos h, if_pos h, packR, if_pos h]; simp
  · rw [if_neg h, if_neg h]
theorem take_snocF {l : List S_api_Frame} {i : Nat} {x : S_api_Frame} (h : l[i]? = some x) : l.take (i + 1) = l.take i ++ [x] := by
  rw [List.take_add_one, h]; rfl
/-! ### read -/
theorem or64 (a c k : Nat) (ha : a < 2 ^ k) (hc : 2 ^ k * c + a < 2 ^ 63) : orK .i64 (a : Int) ((2 ^ k * c : Nat) : Int) = ((2 ^ k * c + a : Nat) : Int) := by
  show IntKind.i64.wrap ((BitVec.ofInt 64 (a : Int) ||| BitVec.ofInt 64 ((2 ^ k * c : Nat) : Int)).toNat : Int) = _
  rw [BitVec.ofInt_natCast, BitVec.ofInt_natCast, BitVec.toNat_or, BitVec.toNat_ofNat, BitVec.toNat_ofNat, Nat.mod_eq_of_lt (by omega), Nat.mod_eq_of_lt (by omega), Nat.or_comm, ← Nat.two_pow_add_eq_or_of_lt ha]
  exact wrap_in (by omega) (by omega)
theorem lenN_eq (b1 b2 b3 b4 : UInt8) : orK .i64 (orK .i64 (orK .i64 (b1.toNat : Int) (shlK .i64 (b2.toNat : Int) 8)) (shlK .i64 (b3.toNat : Int) 16)) (shlK .i64 (b4.toNat : Int) 24) = (lenN b1 b2 b3 b4 : Int) := by
  have h1 : b1.toNat < 256 := b1.toNat_lt
  have h2 : b2.toNat < 256 := b2.toNat_lt
  have h3 : b3.toNat < 256 := b3.toNat_lt
  have h4 : b4.toNat < 256 := b4.toNat_lt
  have e2 : shlK .i64 (b2.toNat : Int) 8 = ((2 ^ 8 * b2.toNat : Nat) : Int) := by
    show IntKind.i64.wrap ((b2.toNat : Int) * 2 ^ 8) = _
    rw [w64_in (by omega) (by omega)]; omega
  have e3 : shlK .i64 (b3.toNat : Int) 16 = ((2 ^ 16 * b3.toNat : Nat) : Int) := by
    show IntKind.i64.wrap ((b3.toNat : Int) * 2 ^ 16) = _
    rw [w64_in (by omega) (by omega)]; omega
  have e4 : shlK .i64 (b4.toNat : Int) 24 = ((2 ^ 24 * b4.toNat : Nat) : Int) := by
    show IntKind.i64.wrap ((b4.toNat : Int) * 2 ^ 24) = _
    rw [w64_in (by omega) (by omega)]; omega
  rw [e2, e3, e4, or64 b1.toNat b2.toNat 8 (by omega) (by omega), or64 _ b3.toNat 16 (by omega) (by omega), or64 _ b4.toNat 24 (by omega) (by omega)]
  unfold lenN; omega
theorem u8_ne (a b : UInt8) : ((a.toNat : Int) != (b.toNat : Int)) = !(a == b) := by
  by_cases h : a = b
  · subst h; simp
  · rw [beq_eq_false_iff_ne.2 h, bne_iff_ne.2 (fun e => h (UInt8.toNat_inj.1 (by omega)))]; rfl
theorem getD_get {bs : List UInt8} {i : Nat} {d x : UInt8} (h : bs[i]? = some x) : bs.getD i d = x := by simp [List.getD_eq_getElem?_getD, h]
theorem next_l (bs : Str) (hb : bs.length ≤ 1099511627776) (x4 x5 x6 x7 : UInt8) (h4 : bs[1]? = some x4) (h5 : bs[2]? = some x5) (h6 : bs[3]? = some x6) (h7 : bs[4]? = some x7)
    (g0 : ¬ bs.getD 0 1 = 0) (g1 : ¬ bs.length < 5) (g2 : ¬ 1048576 < nextN bs) (g3 : ¬ bs.length < 13 + nextN bs) : ∀ k i, k + i = 8 → (∀ j, j < i → bs.getD (5 + nextN bs + j) 0 = sumAt (sumF (bs.take (5 + nextN bs))) j) →
    log_next_l1 bs x4 x5 x6 x7 (sumF (bs.take (5 + nextN bs))) ((bs.take (13 + nextN bs)).drop (5 + nextN bs)) i = some (ofF (nextX bs).1, ((nextX bs).2 : Int), nextE bs)
  | 0, i, h, hs => by
    have hn : orK .i64 (orK .i64 (orK .i64 ((x4).toNat : Int) (shlK .i64 ((x5).toNat : Int) 8)) (shlK .i64 ((x6).toNat : Int) 16)) (shlK .i64 ((x7).toNat : Int) 24) = (nextN bs : Int) := by
      rw [lenN_eq, nextN, getD_get h4, getD_get h5, getD_get h6, getD_get h7]
    have hl : ((bs.take (13 + nextN bs)).drop (5 + nextN bs)).length = 8 := by rw [List.length_drop, List.length_take]; omega
    rw [log_next_l1_eq]
    simp only [log_next_l1b, hn, lt_f (by omega : ¬ i < ((bs.take (13 + nextN bs)).drop (5 + nextN bs)).length), cond_false]
    have hE : nextE bs = 0 := nextE_0 g0 g1 g2 g3 (fun j hj => hs j (by omega))
    obtain ⟨x, hx, _⟩ := dropc (show 0 < bs.length by omega)
    have e1 : IntKind.i64.wrap (5 + (nextN bs : Int)) = ((5 + nextN bs : Nat) : Int) := by rw [w64_in (by omega) (by omega)]; omega
    have e2 : IntKind.i64.wrap (((5 + nextN bs : Nat) : Int) + 8) = ((13 + nextN bs : Nat) : Int) := by rw [w64_in (by omega) (by omega)]; omega
    rw [hx, Option.bind_some, e1, show (5 : Int) = ((5 : Nat) : Int) from rfl, cutO_ok (by omega) (by omega), Option.bind_some, appO_ok (by simp; omega), Option.bind_some]
    unfold nextX
    rw [if_pos hE, hE, getD_get hx, List.nil_append]
    simp only [ofF, e2, e1]
  | k + 1, i, h, hs => by
    have hl : ((bs.take (13 + nextN bs)).drop (5 + nextN bs)).length = 8 := by rw [List.length_drop, List.length_take]; omega
    obtain ⟨x, hx, _⟩ := dropc (show i < ((bs.take (13 + nextN bs)).drop (5 + nextN bs)).length by omega)
    have hxb : bs.getD (5 + nextN bs + i) 0 = x := by
      rw [List.getElem?_drop, List.getElem?_take, if_pos (by omega)] at hx
      exact getD_get hx
    rw [log_next_l1_eq]
    simp only [log_next_l1b, lt_t (by omega : i < ((bs.take (13 + nextN bs)).drop (5 + nextN bs)).length), cond_true, hx, Option.bind_some]
    have e8 : IntKind.i64.wrap (8 * ((i : Nat) : Int)) = ((8 * i : Nat) : Int) := by rw [w64_in (by omega) (by omega)]; omega
    rw [e8]
    have hneg : negO ((8 * i : Nat) : Int) = some () := by unfold negO; rw [decide_eq_true (by omega : (0 : Int) ≤ ((8 * i : Nat) : Int))]; rfl
    rw [hneg, Option.bind_some, u8_ne]
    by_cases hq : x = UInt8.ofInt (shrK .u64 (sumF (bs.take (5 + nextN bs))) ((8 * i : Nat) : Int))
    · rw [beq_iff_eq.2 hq]
      simp only [Bool.not_true, cond_false]
      refine next_l bs hb x4 x5 x6 x7 h4 h5 h6 h7 g0 g1 g2 g3 k (i + 1) (by omega) (fun j hj => ?_)
      rcases Nat.lt_or_ge j i with hji | hji
      · exact hs j hji
      · have : j = i := by omega
        subst this
        rw [hxb]; exact hq
    · rw [beq_eq_false_iff_ne.2 hq]
      simp only [Bool.not_false, cond_true]
      have hE : nextE bs = 190 := nextE_5 g0 g1 g2 g3 (i := i) (by omega) (by rw [hxb]; exact hq)
      unfold nextX
      rw [if_neg (by rw [hE]; decide), hE]; rfl
theorem next_eq (bs : Str) (hb : bs.length ≤ 1099511627776) : p_log_next bs = some (ofF (nextX bs).1, ((nextX bs).2 : Int), nextE bs) := by
  have bad : ∀ e : Int, e ≠ 0 → nextE bs = e → some ((S_api_Frame.mk 0 []), (0 : Int), e) = some (ofF (nextX bs).1, ((nextX bs).2 : Int), nextE bs) := fun e he h => by
    unfold nextX
    rw [if_neg (by rw [h]; exact he), h]; rfl
  have rest : bs.getD 0 1 ≠ 0 → log_next_j1 bs false = some (ofF (nextX bs).1, ((nextX bs).2 : Int), nextE bs) := by
    intro g0
    simp only [log_next_j1, cond_false]
    by_cases g1 : bs.length < 5
    · rw [decide_eq_true (by omega : ((bs.length : Nat) : Int) < 5), cond_true]
      exact bad 191 (by decide) (nextE_2 g0 g1)
    · rw [decide_eq_false (by omega : ¬ ((bs.length : Nat) : Int) < 5), cond_false]
      obtain ⟨x4, h4, _⟩ := dropc (show 1 < bs.length by omega)
      obtain ⟨x5, h5, _⟩ := dropc (show 2 < bs.length by omega)
      obtain ⟨x6, h6, _⟩ := dropc (show 3 < bs.length by omega)
      obtain ⟨x7, h7, _⟩ := dropc (show 4 < bs.length by omega)
      have hn : orK .i64 (orK .i64 (orK .i64 ((x4).toNat : Int) (shlK .i64 ((x5).toNat : Int) 8)) (shlK .i64 ((x6).toNat : Int) 16)) (shlK .i64 ((x7).toNat : Int) 24) = (nextN bs : Int) := by
        rw [lenN_eq, nextN, getD_get h4, getD_get h5, getD_get h6, getD_get h7]
      rw [h4, Option.bind_some, h5, Option.bind_some, h6, Option.bind_some, h7, Option.bind_some, hn]
      by_cases g2 : 1048576 < nextN bs
      · rw [decide_eq_true (by omega : (nextN bs : Int) > 1048576), cond_true]
        exact bad 2 (by decide) (nextE_3 g0 g1 g2)
      · rw [decide_eq_false (by omega : ¬ (nextN bs : Int) > 1048576), cond_false]
        have e1 : IntKind.i64.wrap (5 + (nextN bs : Int)) = ((5 + nextN bs : Nat) : Int) := by rw [w64_in (by omega) (by omega)]; omega
        have e2 : IntKind.i64.wrap (((5 + nextN bs : Nat) : Int) + 8) = ((13 + nextN bs : Nat) : Int) := by rw [w64_in (by omega) (by omega)]; omega
        rw [e1, e2]
        by_cases g3 : bs.length < 13 + nextN bs
        · rw [decide_eq_true (by omega : ((bs.length : Nat) : Int) < ((13 + nextN bs : Nat) : Int)), cond_true]
          exact bad 191 (by decide) (nextE_4 g0 g1 g2 g3)
        · rw [decide_eq_false (by omega : ¬ ((bs.length : Nat) : Int) < ((13 + nextN bs : Nat) : Int)), cond_false]
          have c1 : cutO bs 0 ((5 + nextN bs : Nat) : Int) = some (bs.take (5 + nextN bs)) := by
            have := cutO_ok (l := bs) (a := 0) (b := 5 + nextN bs) (by omega) (by omega)
            rw [List.drop_zero] at this; exact this
          rw [c1, Option.bind_some, log_sum_eq, Option.bind_some, cutO_ok (by omega) (by omega), Option.bind_some]
          exact next_l bs hb x4 x5 x6 x7 h4 h5 h6 h7 g0 g1 g2 g3 8 0 (by omega) (fun j hj => by omega)
  unfold p_log_next
  cases bs with
  | nil =>
    exact rest (by decide)
  | cons c r =>
    have h0 : (c :: r)[0]? = some c := rfl
    rw [decide_eq_true (by simp only [List.length_cons]; omega : (((c :: r).length : Nat) : Int) > 0), cond_true, h0, Option.bind_some]
    by_cases hc : c = 0
    · subst hc
      show log_next_j1 (0 :: r) true = _
      simp only [log_next_j1, cond_true]
      exact bad 1 (by decide) (nextE_1 rfl)
    · have : ((c.toNat : Int) == ((0 : UInt8).toNat : Int)) = false := beq_eq_false_iff_ne.2 (fun e => hc (UInt8.toNat_inj.1 (by omega)))
      rw [this]
      exact rest hc
theorem drop_ne {bs : Str} {i : Nat} (h : i < bs.length) : bs.drop i ≠ [] := by
  intro e
  have := congrArg List.length e
  rw [List.length_drop] at this
  simp only [List.length_nil] at this
  omega
theorem read_l (bs : Str) (hb : bs.length ≤ 1073741824) : ∀ k i (l : List S_api_Frame), bs.length - i ≤ k → i ≤ bs.length → l.length ≤ i →
    log_read_l1 bs l (i : Int) = some (l ++ (readS k (bs.drop i)).1.map ofF, ((i + (readS k (bs.drop i)).2.1 : Nat) : Int), (readS k (bs.drop i)).2.2)
  | 0, i, l, hk, hi, hl => by
    rw [log_read_l1_eq]
    simp only [log_read_l1b, lt_f (by omega : ¬ i < bs.length), cond_false, readS, List.map_nil, List.append_nil, Nat.add_zero]
  | k + 1, i, l, hk, hi, hl => by
    rw [log_read_l1_eq]
    by_cases h : i < bs.length
    · simp only [log_read_l1b, lt_t h, cond_true]
      rw [cutO_ok (by omega) (Nat.le_refl _), List.take_length, Option.bind_some, next_eq _ (by rw [List.length_drop]; omega), Option.bind_some]
      simp only
      by_cases hE : nextE (bs.drop i) = 0
      · rw [show (nextE (bs.drop i) != 0) = false from by rw [hE]; rfl, cond_false]
        obtain ⟨q1, q2, q3⟩ := next_good hE
        rw [List.length_drop] at q2
        rw [appO_ok (by simp only [List.length_cons, List.length_nil]; omega), Option.bind_some, w64_in (by omega) (by omega), ← Int.natCast_add, read_l bs hb k (i + (nextX (bs.drop i)).2) (l ++ [ofF (nextX (bs.drop i)).1]) (by omega) (by omega) (by simp; omega),
          readS_good (drop_ne h) hE, List.drop_drop]
        simp only [List.map_cons, List.append_assoc, List.cons_append, List.nil_append, Nat.add_assoc]
      · rw [show (nextE (bs.drop i) != 0) = true from bne_iff_ne.2 hE, cond_true, readS_bad (drop_ne h) hE]
        simp
    · simp only [log_read_l1b, lt_f h, cond_false]
      rw [List.drop_of_length_le (by omega), readS_nil]
      simp
theorem Read_eq (bs : Str) (hb : bs.length ≤ 1073741824) : p_log_Read bs = some ((readF bs).1.map ofF, ((readF bs).2.1 : Int), (readF bs).2.2) := by
  have h := read_l bs hb bs.length 0 [] (by omega) (by omega) (by simp)
  rw [List.drop_zero, List.nil_append, Nat.zero_add] at h
  unfold p_log_Read p_log_read
  rw [show (0 : Int) = ((0 : Nat) : Int) from rfl, h]
  rfl
/-! ### the same -/
theorem same_l (a b : Str) (hl : a.length = b.length) : ∀ k i, k + i = a.length → law19_same_l1 a b i = some (decide (a.drop i = b.drop i))
  | 0, i, h => by
    rw [law19_same_l1_eq]
    simp only [law19_same_l1b, lt_f (by omega : ¬ i < a.length), cond_false]
    rw [List.drop_of_length_le (by omega), List.drop_of_length_le (by omega)]; simp
  | k + 1, i, h => by
    obtain ⟨x, hx, hd⟩ := dropc (by omega : i < a.length)
    obtain ⟨y, hy, hd2⟩ := dropc (by omega : i < b.length)
    rw [law19_same_l1_eq]
    simp only [law19_same_l1b, lt_t (by omega : i < a.length), cond_true, hx, hy, Option.bind_some, u8_ne, hd, hd2]
    by_cases hxy : x = y
    · subst hxy
      simp only [beq_self_eq_true, Bool.not_true, cond_false]
      rw [same_l a b hl k (i + 1) (by omega)]
      simp
    · rw [beq_eq_false_iff_ne.2 hxy]
      simp [hxy]
theorem same_eq (a b : Str) : p_law19_same a b = some (decide (a = b)) := by
  unfold p_law19_same
  by_cases h : a.length = b.length
  · rw [show (((a.length : Nat) : Int) != ((b.length : Nat) : Int)) = false from by rw [h]; simp, cond_false, same_l a b h a.length 0 (by omega)]
    rfl
  · rw [show (((a.length : Nat) : Int) != ((b.length : Nat) : Int)) = true from bne_iff_ne.2 (by omega), cond_true, decide_eq_false (fun e => h (by rw [e]))]
instance : DecidableEq S_api_Frame := fun a b => decidable_of_iff (a.f_Kind = b.f_Kind ∧ a.f_Body = b.f_Body) (by cases a; cases b; simp)
theorem frames_l (a b : List S_api_Frame) (hl : a.length = b.length) : ∀ k i, k + i = a.length → law19_frames_l1 a b i = some (decide (a.drop i = b.drop i))
  | 0, i, h => by
    rw [law19_frames_l1_eq]
    simp only [law19_frames_l1b, lt_f (by omega : ¬ i < a.length), cond_false]
    rw [List.drop_of_length_le (by omega), List.drop_of_length_le (by omega)]; simp
  | k + 1, i, h => by
    obtain ⟨x, hx, hd⟩ : ∃ x, a[i]? = some x ∧ a.drop i = x :: a.drop (i + 1) := dropc (by omega)
    obtain ⟨y, hy, hd2⟩ : ∃ x, b[i]? = some x ∧ b.drop i = x :: b.drop (i + 1) := dropc (by omega)
    obtain ⟨xk, xb⟩ := x
    obtain ⟨yk, yb⟩ := y
    rw [law19_frames_l1_eq]
    simp only [law19_frames_l1b, lt_t (by omega : i < a.length), cond_true, hx, hy, Option.bind_some, hd, hd2, same_eq]
    by_cases hk : xk = yk
    · subst hk
      simp only [bne_self_eq_false, cond_false]
      by_cases hb : xb = yb
      · subst hb
        simp only [law19_frames_j1, decide_true, Bool.not_true, cond_false]
        rw [frames_l a b hl k (i + 1) (by omega)]
        simp
      · simp [law19_frames_j1, hb]
    · rw [bne_iff_ne.2 hk]
      simp [law19_frames_j1, hk]
theorem frames_eq (a b : List S_api_Frame) : p_law19_frames a b = some (decide (a = b)) := by
  unfold p_law19_frames
  by_cases h : a.length = b.length
  · rw [show (((a.length : Nat) : Int) != ((b.length : Nat) : Int)) = false from by rw [h]; simp, cond_false, frames_l a b h a.length 0 (by omega)]
    rfl
  · rw [show (((a.length : Nat) : Int) != ((b.length : Nat) : Int)) = true from bne_iff_ne.2 (by omega), cond_true, decide_eq_false (fun e => h (by rw [e]))]
end Go.Proofs.Ytpmbflnoohpbnaa
