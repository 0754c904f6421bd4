/- Chapter 19: frames and any bytes: the plain law. -/
import Derived.Test.YtpmbflnoohpbnaaD2
namespace Go.Proofs.Ytpmbflnoohpbnaa
open Go Aw
set_option linter.unusedVariables false
set_option linter.unusedSimpArgs false
/-! ### what is lent -/
def markF (n : Nat) : Str := (List.range n).map fun (j : Nat) => UInt8.ofInt (IntKind.i64.wrap (171 + (j : Int)))
theorem markF_len (n : Nat) : (markF n).length = n := by simp [markF]
theorem markF_get {n i : Nat} (h : i < n) : (markF n)[i]? = some (UInt8.ofInt (IntKind.i64.wrap (171 + (i : Int)))) := by
  simp [markF, h]
theorem markF_succ (n : Nat) : markF (n + 1) = markF n ++ [UInt8.ofInt (IntKind.i64.wrap (171 + (n : Int)))] := by simp [markF, List.range_succ]
theorem lent_l (b : Str) (hb : b.length ≤ 1073741824) : ∀ k i, k + i = 32 → law19_lent_l1 b (b ++ markF i) (i : Int) = some (b, b ++ markF 32)
  | 0, i, h => by
    obtain rfl : i = 32 := by omega
    rw [law19_lent_l1_eq]
    have c1 : cutO (b ++ markF 32) 0 ((b.length : Nat) : Int) = some b := by
      have := cutO_ok (l := b ++ markF 32) (a := 0) (b := b.length) (by omega) (by simp)
      rw [List.drop_zero, List.take_left] at this; exact this
    simp only [law19_lent_l1b]
    rw [show decide ((((32 : Nat) : Nat) : Int) < 32) = false from rfl, cond_false, c1]
    rfl
  | k + 1, i, h => by
    rw [law19_lent_l1_eq]
    simp only [law19_lent_l1b]
    rw [decide_eq_true (by omega : ((i : Nat) : Int) < 32), cond_true, appO_ok (by simp [markF_len]; omega), Option.bind_some, w64_in (x := (i : Int) + 1) (by omega) (by omega), List.append_assoc, ← markF_succ]
    exact lent_l b hb k (i + 1) (by omega)
theorem lent_eq (b : Str) (hb : b.length ≤ 1073741824) : p_law19_lent b = some (b, b ++ markF 32) := by
  unfold p_law19_lent
  rw [w64_in (by omega) (by omega)]
  have e : ((b.length : Nat) : Int) + 32 = ((b.length + 32 : Nat) : Int) := by omega
  have h1 : natO (((b.length + 32 : Nat) : Int)) = some (b.length + 32) := by unfold natO; rw [decide_eq_true (by omega : (0 : Int) ≤ ((b.length + 32 : Nat) : Int)), Int.toNat_natCast]; rfl
  have h2 : roomO (b.length + 32) 1 = some () := by unfold roomO; rw [Nat.ble_eq_true_of_le (by omega), Nat.ble_eq_true_of_le (by omega)]; rfl
  rw [e, h1, Option.bind_some, h2, Option.bind_some, appO_ok (by simp; omega), Option.bind_some, List.nil_append]
  have := lent_l b hb 32 0 (by omega)
  simpa [markF] using this
theorem kept_l (b : Str) (hb : b.length ≤ 1073741824) : ∀ k i, k + i = b.length + 32 → law19_kept_l1 (b ++ markF 32) b i = some true
  | 0, i, h => by
    rw [law19_kept_l1_eq]
    simp only [law19_kept_l1b, lt_f (by simp [markF_len]; omega : ¬ i < (b ++ markF 32).length), cond_false]
  | k + 1, i, h => by
    rw [law19_kept_l1_eq]
    simp only [law19_kept_l1b, lt_t (by simp [markF_len]; omega : i < (b ++ markF 32).length), cond_true]
    by_cases hi : i < b.length
    · obtain ⟨x, hx, _⟩ := dropc hi
      have hx2 : (b ++ markF 32)[i]? = some x := by rw [List.getElem?_append_left hi]; exact hx
      rw [lt_t hi, cond_true, hx2, Option.bind_some, hx, Option.bind_some, bne_self_eq_false, cond_false, decide_eq_false (by omega : ¬ (((i : Nat) : Int) ≥ ((b.length : Nat) : Int))), cond_false]
      simp only [law19_kept_j1, cond_false]
      exact kept_l b hb k (i + 1) (by omega)
    · have hx2 : (b ++ markF 32)[i]? = some (UInt8.ofInt (IntKind.i64.wrap (171 + ((i - b.length : Nat) : Int)))) := by rw [List.getElem?_append_right (by omega)]; exact markF_get (by omega)
      have e : IntKind.i64.wrap (IntKind.i64.wrap (171 + ((i : Nat) : Int)) - ((b.length : Nat) : Int)) = IntKind.i64.wrap (171 + ((i - b.length : Nat) : Int)) := by
        rw [w64_in (x := 171 + ((i : Nat) : Int)) (by omega) (by omega)]
        congr 1; omega
      rw [lt_f hi, cond_false, decide_eq_true (by omega : (((i : Nat) : Int) ≥ ((b.length : Nat) : Int))), cond_true, hx2, Option.bind_some, e, bne_self_eq_false]
      simp only [law19_kept_j1, cond_false]
      exact kept_l b hb k (i + 1) (by omega)
theorem kept_eq (b : Str) (hb : b.length ≤ 1073741824) : p_law19_kept (b ++ markF 32) b = some true := kept_l b hb (b.length + 32) 0 (by omega)
/-! ### packed -/
theorem numF_succ {s : Int} (h0 : 0 ≤ s) (h1 : s < 18446744073709551616) (k : Nat) : numF (k + 1) s = u8 s :: numF k (s / 256) := by
  have e1 : s.tdiv 256 = s / 256 := Int.tdiv_eq_ediv_of_nonneg h0
  have e2 : s.tmod 256 = s % 256 := Int.tmod_eq_emod_of_nonneg h0
  have e3 : IntKind.u64.wrap (s.tdiv 256) = s / 256 := by rw [wrapU, e1]; omega
  have e4 : u8 (s % 256) = u8 s := by
    apply UInt8.toNat_inj.1
    have a := u8_toNat' (s % 256)
    have b := u8_toNat' s
    omega
  simp only [numF]
  rw [e3, e2, e4]
theorem num4 (n : Nat) (h : n ≤ 1099511627776) : numF 4 (IntKind.u64.wrap (n : Int)) = [u8 (n : Int), u8 (shrK .i64 (n : Int) 8), u8 (shrK .i64 (n : Int) 16), u8 (shrK .i64 (n : Int) 24)] := by
  have e : IntKind.u64.wrap (n : Int) = n := by rw [wrapU]; omega
  have s8 : shrK .i64 (n : Int) 8 = (n : Int) / 256 := by
    show (n : Int).fdiv (2 ^ min (8 : Int).toNat 64) = _
    rw [Int.fdiv_eq_ediv_of_nonneg _ (by decide)]; rfl
  have s16 : shrK .i64 (n : Int) 16 = (n : Int) / 256 / 256 := by
    show (n : Int).fdiv (2 ^ min (16 : Int).toNat 64) = _
    rw [Int.fdiv_eq_ediv_of_nonneg _ (by decide), Int.ediv_ediv_of_nonneg (by decide)]; rfl
  have s24 : shrK .i64 (n : Int) 24 = (n : Int) / 256 / 256 / 256 := by
    show (n : Int).fdiv (2 ^ min (24 : Int).toNat 64) = _
    rw [Int.fdiv_eq_ediv_of_nonneg _ (by decide), Int.ediv_ediv_of_nonneg (by decide), Int.ediv_ediv_of_nonneg (by decide)]; rfl
  rw [e, numF_succ (by omega) (by omega), numF_succ (by omega) (by omega), numF_succ (by omega) (by omega), numF_succ (by omega) (by omega), s8, s16, s24]
  rfl
theorem put_l (s : Int) (h0 : 0 ≤ s) (h1 : s < 18446744073709551616) : ∀ k i (b : Str), k + i = 8 → b.length + k ≤ 1099511627776 → log_put_l1 s b ((8 * i : Nat) : Int) = some (b ++ (numF 8 s).drop i)
  | 0, i, b, h, hb => by
    obtain rfl : i = 8 := by omega
    rw [log_put_l1_eq]
    simp only [log_put_l1b]
    rw [show decide ((((8 * 8 : Nat) : Nat) : Int) < 64) = false from rfl, cond_false, List.drop_of_length_le (by rw [numF_len]; omega), List.append_nil]
  | k + 1, i, b, h, hb => by
    obtain ⟨x, hx, hd⟩ := dropc (show i < (numF 8 s).length by rw [numF_len]; omega)
    have hxe : x = u8 (shrK .u64 s ((8 * i : Nat) : Int)) := by
      have h2 := numF_get 8 s h0 h1 i (by omega)
      rw [getD_get hx, ← sumAt_eq (by omega)] at h2
      exact h2
    have hneg : negO ((8 * i : Nat) : Int) = some () := by unfold negO; rw [decide_eq_true (by omega : (0 : Int) ≤ ((8 * i : Nat) : Int))]; rfl
    rw [log_put_l1_eq]
    simp only [log_put_l1b]
    rw [decide_eq_true (by omega : (((8 * i : Nat) : Nat) : Int) < 64), cond_true, hneg, Option.bind_some, appO_ok (by simp only [List.length_cons, List.length_nil]; omega), Option.bind_some, w64_in (by omega) (by omega),
      show ((8 * i : Nat) : Int) + 8 = ((8 * (i + 1) : Nat) : Int) by omega, put_l s h0 h1 k (i + 1) _ (by omega) (by simp only [List.length_append, List.length_cons, List.length_nil]; omega), hd, hxe]
    simp
theorem put_eq19 (x : S_api_Frame) (hx : x.f_Body.length ≤ 1073741824) : p_log_put [] x = some (packB (toF x)) := by
  obtain ⟨k, b⟩ := x
  simp only at hx
  unfold p_log_put
  simp only
  have e5 : packH (toF ⟨k, b⟩) = ([UInt8.ofInt k, UInt8.ofInt (b.length : Int), UInt8.ofInt (shrK .i64 (b.length : Int) 8), UInt8.ofInt (shrK .i64 (b.length : Int) 16), UInt8.ofInt (shrK .i64 (b.length : Int) 24)] : Str) ++ b := by
    unfold packH toF
    simp only
    rw [num4 _ (by omega)]; rfl
  rw [appO_ok (by simp only [List.length_cons, List.length_nil]; omega), Option.bind_some, List.nil_append, appO_ok (by simp only [List.length_cons, List.length_nil]; omega), Option.bind_some, ← e5]
  have hl := packH_len (toF ⟨k, b⟩)
  have hl2 : (toF ⟨k, b⟩).2.length = b.length := rfl
  have c1 : cutO (packH (toF ⟨k, b⟩)) (([] : Str).length : Int) (((packH (toF ⟨k, b⟩)).length : Nat) : Int) = some (packH (toF ⟨k, b⟩)) := by
    have := cutO_ok (l := packH (toF ⟨k, b⟩)) (a := 0) (b := (packH (toF ⟨k, b⟩)).length) (by omega) (by omega)
    rw [List.drop_zero, List.take_length] at this; exact this
  rw [c1, Option.bind_some, log_sum_eq, Option.bind_some]
  have hs := sumF_range (packH (toF ⟨k, b⟩))
  have := put_l _ hs.1 hs.2 8 0 (packH (toF ⟨k, b⟩)) (by omega) (by omega)
  simpa [packB] using this
theorem logPack_eq (x : S_api_Frame) (hx : x.f_Body.length ≤ 1073741824) : p_log_Pack x = some (packR (toF x), packE (toF x)) := by
  have hc : p_log_can x = some (packE (toF x)) := by
    unfold p_log_can packE toF
    simp only
    by_cases h1 : x.f_Kind < 1
    · rw [decide_eq_true h1, cond_true, if_pos (.inl h1)]; rfl
    · rw [decide_eq_false h1, cond_false]
      by_cases h2 : x.f_Kind > 255
      · rw [decide_eq_true h2, if_pos (.inr h2)]; rfl
      · rw [decide_eq_false h2, if_neg (by omega)]
        unfold log_can_j1
        rw [cond_false]
        by_cases h3 : ((x.f_Body.length : Nat) : Int) > 1048576
        · rw [decide_eq_true h3, if_pos (by omega)]; rfl
        · rw [decide_eq_false h3, if_neg (by omega)]; rfl
  unfold p_log_Pack
  rw [hc, Option.bind_some]
  by_cases h0 : packE (toF x) = 0
  · rw [h0, bne_self_eq_false, cond_false, put_eq19 x hx, Option.bind_some, packR, if_pos h0]
  · rw [bne_iff_ne.2 h0, cond_true, packR, if_neg h0]
/-! ### read by the document -/
def atF : Str → Int
  | [] => 0
  | x :: r => (x.toNat : Int) + 256 * atF r
theorem atF_range : ∀ (l : Str), 0 ≤ atF l ∧ atF l < 256 ^ l.length
  | [] => by simp [atF]
  | x :: r => by
    have ih := atF_range r
    have hx := x.toNat_lt
    simp only [atF, List.length_cons]
    rw [Int.pow_succ]
    omega
theorem atF_8 {l : Str} (h : l.length ≤ 8) : atF l < 18446744073709551616 := by
  have h1 := (atF_range l).2
  have h2 : (256 : Int) ^ l.length ≤ 256 ^ 8 := by
    have h3 : (256 : Nat) ^ l.length ≤ 256 ^ 8 := Nat.pow_le_pow_right (by decide) h
    have h4 : (((256 : Nat) ^ l.length : Nat) : Int) ≤ ((256 ^ 8 : Nat) : Int) := Int.ofNat_le.2 h3
    rw [Int.natCast_pow, Int.natCast_pow] at h4
    exact h4
  have h3 : (256 : Int) ^ 8 = 18446744073709551616 := by decide
  omega
theorem at_l (a : Str) (ha : a.length ≤ 8) : ∀ k, k ≤ a.length → ref19_at_l1 a (atF (a.drop k)) ((k : Int) - 1) = some (atF a)
  | 0, h => by
    rw [ref19_at_l1_eq]
    simp only [ref19_at_l1b, List.drop_zero]
    rfl
  | k + 1, h => by
    obtain ⟨x, hx, hd⟩ := dropc (show k < a.length by omega)
    have hr := atF_range (a.drop (k + 1))
    have h8 : atF (a.drop k) < 18446744073709551616 := atF_8 (by rw [List.length_drop]; omega)
    rw [hd] at h8
    simp only [atF] at h8
    have hx0 := x.toNat_lt
    rw [ref19_at_l1_eq]
    simp only [ref19_at_l1b]
    rw [show (((k + 1 : Nat) : Int) - 1) = ((k : Nat) : Int) by omega, decide_eq_true (by omega : ((k : Nat) : Int) ≥ 0), cond_true, idxI_nat, hx, Option.bind_some, w64_in (by omega) (by omega)]
    have e : IntKind.u64.wrap (IntKind.u64.wrap (atF (a.drop (k + 1)) * 256) + (x.toNat : Int)) = atF (a.drop k) := by
      rw [hd, wrapU, wrapU]
      simp only [atF]
      omega
    rw [e]
    exact at_l a ha k (by omega)
theorem at_eq (a : Str) (ha : a.length ≤ 8) : p_ref19_at a = some (atF a) := by
  unfold p_ref19_at
  rw [w64_in (by omega) (by omega)]
  have := at_l a ha a.length (Nat.le_refl _)
  rw [List.drop_length] at this
  exact this
theorem at_digit : ∀ (l : Str) (i : Nat), i < l.length → u8 (atF l / 256 ^ i) = l.getD i 0
  | [], i, h => by simp at h
  | x :: r, 0, h => by
    rw [Int.pow_zero, Int.ediv_one, List.getD_cons_zero]
    apply UInt8.toNat_inj.1
    have a := u8_toNat' (atF (x :: r))
    have hx := x.toNat_lt
    simp only [atF] at a ⊢
    omega
  | x :: r, i + 1, h => by
    have hx := x.toNat_lt
    have e : atF (x :: r) / 256 = atF r := by simp only [atF]; omega
    rw [List.getD_cons_succ, Int.pow_succ, Int.mul_comm, ← Int.ediv_ediv_of_nonneg (by decide), e]
    exact at_digit r i (by simpa using h)
theorem at4 {bs : Str} (h : ¬ bs.length < 5) : atF ((bs.take 5).drop 1) = (nextN bs : Int) := by
  match bs, h with
  | a :: b :: c :: d :: e :: r, _ =>
    simp [atF, nextN, lenN]; omega
  | [], h => exact absurd (by simp) h
  | [_], h => exact absurd (by simp) h
  | [_, _], h => exact absurd (by simp) h
  | [_, _, _], h => exact absurd (by simp) h
  | [_, _, _, _], h => exact absurd (by simp) h
theorem one_eq19 (bs : Str) (hb : bs.length ≤ 1099511627776) (hne : bs ≠ []) : p_ref19_one bs = some (ofF (nextX bs).1, ((nextX bs).2 : Int), nextE bs) := by
  have bad : ∀ e : Int, e ≠ 0 → nextE bs = e → some ((S_api_Frame.mk 0 []), (0 : Int), e) = some (ofF (nextX bs).1, ((nextX bs).2 : Int), nextE bs) := fun e he h => by
    unfold nextX
    rw [if_neg (by rw [h]; exact he), h]; rfl
  have hl0 : 0 < bs.length := by cases bs with | nil => exact absurd rfl hne | cons _ _ => simp
  obtain ⟨x, hx, _⟩ := dropc hl0
  unfold p_ref19_one
  rw [show (((bs.length : Nat) : Int) == 0) = false from beq_eq_false_iff_ne.2 (by omega), cond_false, hx, Option.bind_some]
  have hx1 : bs.getD 0 1 = x := getD_get hx
  by_cases hc : x = 0
  · subst hc
    rw [show ((((0 : UInt8)).toNat : Int) == (((0 : UInt8)).toNat : Int)) = true from rfl, cond_true]
    exact bad 1 (by decide) (nextE_1 hx1)
  have g0 : ¬ bs.getD 0 1 = 0 := by rw [hx1]; exact hc
  rw [show ((x.toNat : Int) == ((0 : UInt8).toNat : Int)) = false from beq_eq_false_iff_ne.2 (fun e => hc (UInt8.toNat_inj.1 (by omega))), cond_false]
  by_cases g1 : bs.length < 5
  · rw [decide_eq_true (by omega : ((bs.length : Nat) : Int) < 5), cond_true]
    exact bad 191 (by decide) (nextE_2 g0 g1)
  rw [decide_eq_false (by omega : ¬ ((bs.length : Nat) : Int) < 5), cond_false]
  have c0 := cutO_ok (l := bs) (a := 1) (b := 5) (by omega) (by omega)
  rw [show (1 : Int) = ((1 : Nat) : Int) from rfl, show cutO bs ((1 : Nat) : Int) 5 = some ((bs.take 5).drop 1) from c0, Option.bind_some, at_eq _ (by simp; omega), Option.bind_some, at4 g1]
  by_cases g2 : 1048576 < nextN bs
  · rw [decide_eq_true (by omega : (nextN bs : Int) > 1048576), cond_true]
    exact bad 2 (by decide) (nextE_3 g0 g1 g2)
  rw [decide_eq_false (by omega : ¬ (nextN bs : Int) > 1048576), cond_false]
  have e0 : IntKind.i64.wrap (nextN bs : Int) = (nextN bs : Int) := w64_in (by omega) (by omega)
  have e1 : IntKind.i64.wrap (5 + (nextN bs : Int)) = ((5 + nextN bs : Nat) : Int) := by rw [w64_in (by omega) (by omega)]; omega
  have e2 : IntKind.i64.wrap (((5 + nextN bs : Nat) : Int) + 8) = ((13 + nextN bs : Nat) : Int) := by rw [w64_in (by omega) (by omega)]; omega
  rw [e0, e1, e2]
  by_cases g3 : bs.length < 13 + nextN bs
  · rw [decide_eq_true (by omega : ((bs.length : Nat) : Int) < ((13 + nextN bs : Nat) : Int)), cond_true]
    exact bad 191 (by decide) (nextE_4 g0 g1 g2 g3)
  rw [decide_eq_false (by omega : ¬ ((bs.length : Nat) : Int) < ((13 + nextN bs : Nat) : Int)), cond_false]
  have c1 : cutO bs 0 ((5 + nextN bs : Nat) : Int) = some (bs.take (5 + nextN bs)) := by
    have := cutO_ok (l := bs) (a := 0) (b := 5 + nextN bs) (by omega) (by omega)
    rw [List.drop_zero] at this; exact this
  have hl : ((bs.take (13 + nextN bs)).drop (5 + nextN bs)).length = 8 := by rw [List.length_drop, List.length_take]; omega
  rw [cutO_ok (by omega) (by omega), Option.bind_some, at_eq _ (by omega), Option.bind_some, c1, Option.bind_some, ref19_Sum_eq, Option.bind_some]
  have hdig : ∀ j, j < 8 → ((bs.take (13 + nextN bs)).drop (5 + nextN bs)).getD j 0 = bs.getD (5 + nextN bs + j) 0 := fun j hj => by
    rw [List.getD_eq_getElem?_getD, List.getElem?_drop, List.getElem?_take, if_pos (by omega), List.getD_eq_getElem?_getD]
  have hs := sumF_range (bs.take (5 + nextN bs))
  have hr := atF_range ((bs.take (13 + nextN bs)).drop (5 + nextN bs))
  have h8 := atF_8 (l := (bs.take (13 + nextN bs)).drop (5 + nextN bs)) (by omega)
  by_cases hq : atF ((bs.take (13 + nextN bs)).drop (5 + nextN bs)) = sumF (bs.take (5 + nextN bs))
  · have hE : nextE bs = 0 := nextE_0 g0 g1 g2 g3 (fun j hj => by
      rw [← hdig j hj, ← at_digit _ j (by omega), hq, sumAt_eq hj])
    rw [hq, bne_self_eq_false, cond_false, Option.bind_some, show (5 : Int) = ((5 : Nat) : Int) from rfl, cutO_ok (by omega) (by omega), Option.bind_some, appO_ok (by simp; omega), Option.bind_some]
    unfold nextX
    rw [if_pos hE, hE, getD_get hx, List.nil_append]
    rfl
  · rw [bne_iff_ne.2 hq, cond_true]
    refine bad 190 (by decide) ?_
    by_cases hj : ∀ j, j < 8 → bs.getD (5 + nextN bs + j) 0 = sumAt (sumF (bs.take (5 + nextN bs))) j
    · refine absurd (num8_inj hr.1 h8 hs.1 hs.2 (fun j hj8 => ?_)) hq
      rw [at_digit _ j (by omega), hdig j hj8, hj j hj8, sumAt_eq hj8]
    · simp only [Classical.not_forall] at hj
      obtain ⟨j, hj8, hj⟩ := hj
      exact nextE_5 g0 g1 g2 g3 hj8 hj
theorem rread_l (bs : Str) (hb : bs.length ≤ 1073741824) : ∀ k i (l : List S_api_Frame), bs.length - i ≤ k → i ≤ bs.length → l.length ≤ i →
    ref19_Read_l1 bs l (i : Int) = some (l ++ (readS k (bs.drop i)).1.map ofF, ((i + (readS k (bs.drop i)).2.1 : Nat) : Int), (readS k (bs.drop i)).2.2)
  | 0, i, l, hk, hi, hl => by
    rw [ref19_Read_l1_eq]
    simp only [ref19_Read_l1b, lt_f (by omega : ¬ i < bs.length), cond_false, readS, List.map_nil, List.append_nil, Nat.add_zero]
  | k + 1, i, l, hk, hi, hl => by
    rw [ref19_Read_l1_eq]
    by_cases h : i < bs.length
    · simp only [ref19_Read_l1b, lt_t h, cond_true]
      rw [cutO_ok (by omega) (Nat.le_refl _), List.take_length, Option.bind_some, one_eq19 _ (by rw [List.length_drop]; omega) (drop_ne h), Option.bind_some]
      simp only
      by_cases hE : nextE (bs.drop i) = 0
      · rw [show (nextE (bs.drop i) != 0) = false from by rw [hE]; rfl, cond_false]
        obtain ⟨q1, q2, q3⟩ := next_good hE
        rw [List.length_drop] at q2
        rw [appO_ok (by simp only [List.length_cons, List.length_nil]; omega), Option.bind_some, w64_in (by omega) (by omega), ← Int.natCast_add, rread_l bs hb k (i + (nextX (bs.drop i)).2) (l ++ [ofF (nextX (bs.drop i)).1]) (by omega) (by omega) (by simp; omega),
          readS_good (drop_ne h) hE, List.drop_drop]
        simp only [List.map_cons, List.append_assoc, List.cons_append, List.nil_append, Nat.add_assoc]
      · rw [show (nextE (bs.drop i) != 0) = true from bne_iff_ne.2 hE, cond_true, readS_bad (drop_ne h) hE]
        simp
    · simp only [ref19_Read_l1b, lt_f h, cond_false]
      rw [List.drop_of_length_le (by omega), readS_nil]
      simp
theorem refRead_eq (bs : Str) (hb : bs.length ≤ 1073741824) : p_ref19_Read bs = some ((readF bs).1.map ofF, ((readF bs).2.1 : Int), (readF bs).2.2) := by
  have h := rread_l bs hb bs.length 0 [] (by omega) (by omega) (by simp)
  rw [List.drop_zero, List.nil_append, Nat.zero_add] at h
  unfold p_ref19_Read
  rw [show (0 : Int) = ((0 : Nat) : Int) from rfl, h]
  rfl
theorem readS_body : ∀ (k : Nat) (bs : Str) (f : Fr), f ∈ (readS k bs).1 → f.2.length ≤ 1048576
  | 0, bs, f, h => by simp [readS] at h
  | k + 1, bs, f, h => by
    by_cases hb : bs = []
    · subst hb; rw [readS_nil] at h; cases h
    · by_cases hE : nextE bs = 0
      · rw [readS_good hb hE] at h
        rcases List.mem_cons.1 h with rfl | h
        · have := next_good hE
          unfold nextX
          rw [if_pos hE]
          simp only [List.length_drop, List.length_take]
          omega
        · exact readS_body k _ f h
      · rw [readS_bad hb hE] at h; cases h
theorem fulls_ok (bs : Str) : fullsO (((readF bs).1.map ofF).map (fun p => p.f_Body)) = some () := by
  unfold fullsO
  rw [show (((readF bs).1.map ofF).map (fun p => p.f_Body)).all (fun b => Nat.ble (b.length + 90) 140737488355328) = true from List.all_eq_true.2 (fun b hb => by
    obtain ⟨p, hp, rfl⟩ := List.mem_map.1 hb
    obtain ⟨f, hf, rfl⟩ := List.mem_map.1 hp
    have := readS_body _ _ f hf
    have e : (ofF f).f_Body.length = f.2.length := rfl
    exact Nat.ble_eq_true_of_le (by omega))]
  rfl
theorem full_ok (f : Fr) (h : f.2.length ≤ 1073741824) (c : UInt8) : fullO (packR f) c = some () := by
  have : (packR f).length ≤ 13 + f.2.length := by
    unfold packR
    split
    · rw [packB_len]; omega
    · simp
  unfold fullO
  rw [Nat.ble_eq_true_of_le (by omega)]; rfl
theorem frames_good (a0 : S_api_Frame) (a1 : Str) (h0 : a0.f_Body.length ≤ 1073741824) (h1 : a1.length ≤ 1073741824) : p_law19_LogFrames a0 a1 = some true := by
  have e0 : S_api_Frame.mk a0.f_Kind a0.f_Body = a0 := rfl
  have one : p_log_Pack (S_api_Frame.mk 1 []) = some (packR (toF ⟨1, []⟩), packE (toF ⟨1, []⟩)) := logPack_eq _ (by simp)
  have oneE : packE (toF ⟨1, []⟩) = 0 := rfl
  have oneL : (packR (toF ⟨1, []⟩)).length = 13 := by rw [packR, if_pos oneE, packB_len]; rfl
  unfold p_law19_LogFrames
  rw [lent_eq _ h0, Option.bind_some]
  simp only [e0]
  rw [logPack_eq a0 h0, Option.bind_some, Pack_eq a0 (by omega), Option.bind_some, lent_eq _ h1, Option.bind_some]
  simp only
  rw [Read_eq a1 h1, Option.bind_some, refRead_eq a1 h1, Option.bind_some, same_eq, Option.bind_some]
  simp only [decide_true, Bool.not_true, cond_false, bne_self_eq_false]
  rw [frames_eq, Option.bind_some]
  simp only [decide_true, Bool.not_true, cond_false, bne_self_eq_false]
  rw [kept_eq _ h0, Option.bind_some]
  simp only [Bool.not_true, cond_false]
  rw [kept_eq _ h1, Option.bind_some]
  simp only [Bool.not_true, law19_LogFrames_j1, cond_false]
  rw [full_ok _ h0, Option.bind_some, fulls_ok, Option.bind_some, one, Option.bind_some, kept_eq _ h0, Option.bind_some, cond_true, kept_eq _ h1, Option.bind_some, cond_true]
  simp only [oneE, oneL]
  rfl
theorem plain_LogFrames (a0 : S_api_Frame) (a1 : Str) (h : a0.f_Body.length + (a1.map (fun _ => 1)).sum ≤ 1048576) : p_law19_LogFrames a0 a1 = some true := by
  have e : ∀ l : Str, (l.map (fun _ => 1)).sum = l.length := fun l => by
    induction l with
    | nil => rfl
    | cons x r ih => rw [List.map_cons, List.sum_cons, ih, List.length_cons]; omega
  rw [e] at h
  exact frames_good a0 a1 (by omega) (by omega)
end Go.Proofs.Ytpmbflnoohpbnaa
