/- Chapter 19: frames read. -/
import Derived.Test.YtpmbflnoohpbnaaL3
namespace Go.Proofs.Ytpmbflnoohpbnaa
open Go Aw
set_option linter.unusedVariables false
set_option linter.unusedSimpArgs false
set_option maxRecDepth 8000

theorem or64 (a c k : Nat) (ha : a < 2 ^ k) (hc : 2 ^ k * c + a < 2 ^ 63) : IntKind.i64.wrap ((BitVec.ofInt 64 (a : Int) ||| BitVec.ofInt 64 ((2 ^ k * c : Nat) : Int)).toNat : Int) = ((2 ^ k * c + a : Nat) : Int) := by
  rw [BitVec.ofInt_natCast, BitVec.ofInt_natCast, BitVec.toNat_or, BitVec.toNat_ofNat, BitVec.toNat_ofNat, Nat.mod_eq_of_lt (by omega), Nat.mod_eq_of_lt (by omega), Nat.or_comm, ← Nat.two_pow_add_eq_or_of_lt ha]
  exact wrap_in (by omega) (by omega)
theorem wr64 (i : Nat) (h : i < 2 ^ 63) : IntKind.i64.wrap (i : Int) = i := wrap_in (by omega) (by omega)
/-- The number that a frame's bytes tell. -/
def lenN (b1 b2 b3 b4 : UInt8) : Nat := b1.toNat + 256 * b2.toNat + 65536 * b3.toNat + 16777216 * b4.toNat
theorem lenN_eq (b1 b2 b3 b4 : UInt8) :
    IntKind.i64.wrap ((BitVec.ofInt 64 (IntKind.i64.wrap ((BitVec.ofInt 64 (IntKind.i64.wrap ((BitVec.ofInt 64 (IntKind.i64.wrap b1.toNat) ||| BitVec.ofInt 64 (IntKind.i64.wrap (IntKind.i64.wrap b2.toNat * 2 ^ 8))).toNat : Int)) |||
      BitVec.ofInt 64 (IntKind.i64.wrap (IntKind.i64.wrap b3.toNat * 2 ^ 16))).toNat : Int)) ||| BitVec.ofInt 64 (IntKind.i64.wrap (IntKind.i64.wrap b4.toNat * 2 ^ 24))).toNat : Int) = lenN b1 b2 b3 b4 := by
  have h1 : b1.toNat < 256 := b1.toNat_lt
  have h2 : b2.toNat < 256 := b2.toNat_lt
  have h3 : b3.toNat < 256 := b3.toNat_lt
  have h4 : b4.toNat < 256 := b4.toNat_lt
  rw [wr64 b1.toNat (by omega), wr64 b2.toNat (by omega), wr64 b3.toNat (by omega), wr64 b4.toNat (by omega)]
  have e2 : (b2.toNat : Int) * 2 ^ 8 = ((2 ^ 8 * b2.toNat : Nat) : Int) := by omega
  have e3 : (b3.toNat : Int) * 2 ^ 16 = ((2 ^ 16 * b3.toNat : Nat) : Int) := by omega
  have e4 : (b4.toNat : Int) * 2 ^ 24 = ((2 ^ 24 * b4.toNat : Nat) : Int) := by omega
  rw [e2, e3, e4, wr64 (2 ^ 8 * b2.toNat) (by omega), wr64 (2 ^ 16 * b3.toNat) (by omega), wr64 (2 ^ 24 * b4.toNat) (by omega), or64 b1.toNat b2.toNat 8 (by omega) (by omega), or64 _ b3.toNat 16 (by omega) (by omega), or64 _ b4.toNat 24 (by omega) (by omega)]
  unfold lenN; omega
/-- The byte i of a sum. -/
def sumAt (s : Int) (i : Nat) : UInt8 := u8 (s.fdiv (2 ^ min (8 * i) 64))
def nextN (bs : List UInt8) : Nat := lenN (bs.getD 1 0) (bs.getD 2 0) (bs.getD 3 0) (bs.getD 4 0)
def nextE (bs : List UInt8) : Int :=
  if bs.getD 0 1 = 0 then 1 else if bs.length < 5 then 191 else if 1048576 < nextN bs then 2 else if bs.length < 13 + nextN bs then 191
  else if ∀ i : Fin 8, bs.getD (5 + nextN bs + i.val) 0 = sumAt (sumF (bs.take (5 + nextN bs))) i.val then 0 else 190
def nextX (bs : List UInt8) : Fr × Nat := if nextE bs = 0 then ((((bs.getD 0 0).toNat : Int), (bs.take (5 + nextN bs)).drop 5), 13 + nextN bs) else ((0, []), 0)
def nextPV (bs : List UInt8) : PV := .tup [frPV (nextX bs).1, pi (nextX bs).2, pi (nextE bs)]
theorem next_ids (bs : List UInt8) : (nextPV bs).ids = [] := by simp only [nextPV, PV.ids, PV.ids.idsL]; rw [fr_ids]; rfl
theorem Next_bad {bs : List UInt8} {e : Int} (h : nextE bs = e) (he : e ≠ 0) : Wk (.tup [.agg [pi 0, .v (.slice none 0 0)], pi 0, pi e]) (nextPV bs) := by
  have : nextX bs = ((0, []), 0) := by unfold nextX; rw [h, if_neg he]
  rw [nextPV, this, h]; exact Wk.tup (.cons (Wk.agg (.cons (.refl _) (.cons Wk.nil .nil))) (.cons (.refl _) (.cons (.refl _) .nil)))
theorem Next_good {bs : List UInt8} {o : Option Nat} {b : Int} {k : Int} {xs : List PV} (h : nextE bs = 0) (hb : b = (bs.getD 0 0).toNat) (hk : k = ((13 + nextN bs : Nat) : Int)) (hx : xs = bytesPV ((bs.take (5 + nextN bs)).drop 5)) : Wk (.tup [.agg [pi b, .sl o 1 xs], pi k, pi 0]) (nextPV bs) := by
  have : nextX bs = ((((bs.getD 0 0).toNat : Int), (bs.take (5 + nextN bs)).drop 5), 13 + nextN bs) := by unfold nextX; rw [h, if_pos rfl]
  rw [nextPV, this, h, hb, hk]; exact Wk.tup (.cons (Wk.agg (.cons (.refl _) (.cons (Wk.tokE hx) .nil))) (.cons (.refl _) (.cons (.refl _) .nil)))
theorem getD_get {bs : List UInt8} {i : Nat} {d : UInt8} (h : i < bs.length) : bs.getD i d = bs[i] := by simp [List.getD_eq_getElem?_getD, h]
theorem bytes_getD {bs : List UInt8} {i : Nat} (d : UInt8) (h : i < bs.length) : (bytesPV bs)[i]? = some (.v (.int .u8 (bs.getD i d).toNat)) := by rw [bytes_get h, getD_get h]
theorem nextE_1 {bs : List UInt8} (h : bs.getD 0 1 = 0) : nextE bs = 1 := by unfold nextE; rw [if_pos h]
theorem nextE_2 {bs : List UInt8} (h0 : ¬ bs.getD 0 1 = 0) (h : bs.length < 5) : nextE bs = 191 := by unfold nextE; rw [if_neg h0, if_pos h]
theorem nextE_3 {bs : List UInt8} (h0 : ¬ bs.getD 0 1 = 0) (h1 : ¬ bs.length < 5) (h : 1048576 < nextN bs) : nextE bs = 2 := by unfold nextE; rw [if_neg h0, if_neg h1, if_pos h]
theorem nextE_4 {bs : List UInt8} (h0 : ¬ bs.getD 0 1 = 0) (h1 : ¬ bs.length < 5) (h2 : ¬ 1048576 < nextN bs) (h : bs.length < 13 + nextN bs) : nextE bs = 191 := by unfold nextE; rw [if_neg h0, if_neg h1, if_neg h2, if_pos h]
theorem nextE_5 {bs : List UInt8} (h0 : ¬ bs.getD 0 1 = 0) (h1 : ¬ bs.length < 5) (h2 : ¬ 1048576 < nextN bs) (h3 : ¬ bs.length < 13 + nextN bs) {i : Nat} (hi : i < 8) (h : ¬ bs.getD (5 + nextN bs + i) 0 = sumAt (sumF (bs.take (5 + nextN bs))) i) : nextE bs = 190 := by
  unfold nextE; rw [if_neg h0, if_neg h1, if_neg h2, if_neg h3, if_neg (fun hh => h (hh ⟨i, hi⟩))]
theorem nextE_0 {bs : List UInt8} (h0 : ¬ bs.getD 0 1 = 0) (h1 : ¬ bs.length < 5) (h2 : ¬ 1048576 < nextN bs) (h3 : ¬ bs.length < 13 + nextN bs) (h : ∀ i, i < 8 → bs.getD (5 + nextN bs + i) 0 = sumAt (sumF (bs.take (5 + nextN bs))) i) : nextE bs = 0 := by
  unfold nextE; rw [if_neg h0, if_neg h1, if_neg h2, if_neg h3]; exact if_pos (fun i : Fin 8 => h i.val i.isLt)

theorem z0 {bs : List UInt8} (h : ((bs.getD 0 1).toNat : Int) = 0) : bs.getD 0 1 = 0 := UInt8.toNat_inj.1 (by simpa using h)
theorem nz {bs : List UInt8} (h : bs.length = 0 ∨ ¬ ((bs.getD 0 1).toNat : Int) = 0) : ¬ bs.getD 0 1 = 0 := by
  rcases h with h | h
  · rw [List.length_eq_zero_iff.1 h]; decide
  · intro e; rw [e] at h; exact h rfl
theorem wrap0 {bs : List UInt8} (h : 0 < bs.length) : IntKind.i64.wrap ((bs.getD 0 1).toNat : Int) = (bs.getD 0 0).toNat := by
  have := (bs.getD 0 1).toNat_lt
  rw [wr64 _ (by omega), getD_get h, getD_get h]
theorem cut_getD {bs : List UInt8} {l h i : Nat} (hi : l + i < h) (hb : h ≤ bs.length) : (bytesPV ((bs.take h).drop l))[i]? = some (.v (.int .u8 (bs.getD (l + i) 0).toNat)) := by
  rw [bytes_getD 0 (by simp; omega)]
  simp [List.getD_eq_getElem?_getD, List.getElem?_take, hi]
theorem sum_byte {s : Int} {i : Nat} : IntKind.u8.wrap (s.fdiv (2 ^ (min (8 * (i : Int)).toNat 64))) = ((sumAt s i).toNat : Int) := by
  rw [sumAt, u8_nat, show (8 * (i : Int)).toNat = 8 * i by omega]
theorem next_c (bs : List UInt8) (hb : bs.length ≤ 1099511627776) : PCalls Try.prog 51 [bsl bs] (nextPV bs) := by
  have hl := bytes_len bs
  have hg0 : 0 < bs.length → (bytesPV bs)[0]? = some (.v (.int .u8 (bs.getD 0 1).toNat)) := bytes_getD 1
  refine acalls_of Try.func51 rfl Try.ntmps51 Try.results51 rfl ?_
  change AW _ _ ⟨[(0, _)], _, _⟩ _
  refine aw_seq ?_
  refine aw_region ?_
  refine ao_step rfl rfl rfl (op1_alloc inf_33 rfl) ?_
  refine ao_step rfl rfl rfl (op1_assign rfl rfl) ?_
  refine ao_step rfl rfl rfl (op1_assign rfl rfl) ?_
  refine ao_nil ?_
  change AW _ _ _ _
  refine aw_seq ?_
  refine aw_seq ?_
  refine aw_region ?_
  refine ao_step rfl rfl rfl (op1_move rfl rfl) ?_
  first | refine ao_step rfl rfl rfl (op1_len Try.underlying23 rfl rfl) ?_ | refine ao_step rfl rfl rfl (op1_len0 Try.underlying23 rfl rfl) ?_
  refine ao_step rfl rfl rfl (op1_cmp rfl rfl rfl rfl) ?_
  refine ao_step rfl rfl rfl (op1_move rfl rfl) ?_
  refine ao_cases (t := 12) rfl ?_ ?_
  rotate_left
  case' _ =>
    intro hb12
    (try (exfalso; exact absurd hb12 (by decide)))
    all_goals (try simp only [decide_eq_true_eq, decide_eq_false_iff_not, beq_iff_eq, beq_eq_false_iff_ne, bne_iff_ne, bne_eq_false_iff_eq, Bool.not_eq_true, Bool.not_eq_false, Bool.not_eq_true', Bool.not_eq_false', ne_eq, Bool.and_eq_true, Bool.or_eq_true, Bool.and_eq_false_iff, Bool.or_eq_false_iff, Bool.cond_true, Bool.cond_false] at hb12)
    all_goals (try (exfalso; first | exact absurd hb12 id | omega))
    all_goals (try (have h0 := hg0 (by omega)))
  rotate_right
  case' _ =>
    intro hb12
    (try (exfalso; exact absurd hb12 (by decide)))
    all_goals (try simp only [decide_eq_true_eq, decide_eq_false_iff_not, beq_iff_eq, beq_eq_false_iff_ne, bne_iff_ne, bne_eq_false_iff_eq, Bool.not_eq_true, Bool.not_eq_false, Bool.not_eq_true', Bool.not_eq_false', ne_eq, Bool.and_eq_true, Bool.or_eq_true, Bool.and_eq_false_iff, Bool.or_eq_false_iff, Bool.cond_true, Bool.cond_false] at hb12)
    all_goals (try (exfalso; first | exact absurd hb12 id | omega))
    all_goals (try (have h0 := hg0 (by omega)))
  all_goals (first | refine ao_yes rfl rfl rfl rfl rfl rfl (op1_move rfl rfl) ?_ | refine ao_no rfl rfl rfl rfl rfl rfl ?_)
  all_goals (first | refine ao_yes rfl rfl rfl rfl rfl rfl (op1_idx Try.underlying23 inf_5 rfl rfl rfl (by omega) (by first | rfl | assumption)) ?_ | refine ao_no rfl rfl rfl rfl rfl rfl ?_)
  all_goals (first | refine ao_yes rfl rfl rfl rfl rfl rfl (op1_ldR Try.underlying5 rfl rfl rfl rfl rfl) ?_ | refine ao_yes rfl rfl rfl rfl rfl rfl (op1_ldR Try.underlying5 rfl rfl rfl (by first | rfl | exact look_snoc | exact look_set | (simp; done)) (by rfl)) ?_ | refine ao_yes rfl rfl rfl rfl rfl rfl (op1_ldP Try.underlying5 rfl rfl rfl rfl) ?_ | refine ao_no rfl rfl rfl rfl rfl rfl ?_)
  all_goals (first | refine ao_yes rfl rfl rfl rfl rfl rfl (op1_cmp rfl rfl rfl rfl) ?_ | refine ao_no rfl rfl rfl rfl rfl rfl ?_)
  all_goals (first | refine ao_step rfl rfl rfl (op1_pickT rfl rfl rfl) ?_ | refine ao_step rfl rfl rfl (op1_pickF rfl rfl rfl) ?_ | refine ao_step rfl rfl rfl (op1_pickB rfl rfl rfl rfl) ?_)
  all_goals refine ao_nil ?_
  all_goals (
    change AW _ _ _ _
    refine aw_cond rfl ?_ ?_
    rotate_left
    case' _ =>
      intro hc1
      (try (exfalso; exact absurd hc1 (by decide)))
      all_goals (try simp only [decide_eq_true_eq, decide_eq_false_iff_not, beq_iff_eq, beq_eq_false_iff_ne, bne_iff_ne, bne_eq_false_iff_eq, Bool.not_eq_true, Bool.not_eq_false, Bool.not_eq_true', Bool.not_eq_false', ne_eq, Bool.and_eq_true, Bool.or_eq_true, Bool.and_eq_false_iff, Bool.or_eq_false_iff, Bool.cond_true, Bool.cond_false] at hc1)
      all_goals (try (exfalso; first | exact absurd hc1 id | omega))
      all_goals (
        refine aw_skip ?_
        )
    rotate_right
    case' _ =>
      intro hc1
      (try (exfalso; exact absurd hc1 (by decide)))
      all_goals (try simp only [decide_eq_true_eq, decide_eq_false_iff_not, beq_iff_eq, beq_eq_false_iff_ne, bne_iff_ne, bne_eq_false_iff_eq, Bool.not_eq_true, Bool.not_eq_false, Bool.not_eq_true', Bool.not_eq_false', ne_eq, Bool.and_eq_true, Bool.or_eq_true, Bool.and_eq_false_iff, Bool.or_eq_false_iff, Bool.cond_true, Bool.cond_false] at hc1)
      all_goals (try (exfalso; first | exact absurd hc1 id | omega))
      all_goals (
        refine aw_seq ?_
        refine aw_region ?_
        refine ao_step rfl rfl rfl (op1_build st_33 inf_33 rfl rfl (by first | rfl | simp [cok, one1, PV.cells, frPV, bytesPV]) rfl) ?_
        first | refine ao_step0 rfl rfl (op1_store inf_33 rfl rfl rfl rfl rfl rfl (by decide) (by first | rfl | simp [cok, one1, PV.cells, frPV, bytesPV])) ?_ | refine ao_step0 rfl rfl (op1_store inf_33 rfl rfl rfl (by first | rfl | exact look_snoc | exact look_set | (simp; done)) (by rfl) (by rfl) (by decide) (by first | rfl | simp [cok, one1, PV.cells, frPV, bytesPV])) ?_
        refine ao_step rfl rfl rfl (op1_assign rfl rfl) ?_
        refine ao_step rfl rfl rfl (op1_assign rfl rfl) ?_
        refine ao_nil ?_
        change AW _ _ _ _
        refine aw_ret ?_
        change ∃ xs, _ = some xs ∧ EndOk _ _ _ _
        refine ⟨_, rfl, endOk0 (y := nextPV bs) ?_ (next_ids _) ⟨rfl, rfl⟩⟩
        first
          | exact Next_bad (nextE_1 (z0 hc1)) (by decide)
          | exact Next_bad (nextE_2 (nz (by first | exact .inl (by omega) | exact .inr hc1)) (by omega)) (by decide)
          | exact Next_bad (nextE_3 (nz (.inr hc1)) (by omega) (by omega)) (by decide)
          | exact Next_bad (nextE_4 (nz (.inr hc1)) (by omega) (by omega) (by omega)) (by decide)
          | exact Next_bad (nextE_5 (nz (.inr hc1)) (by omega) (by omega) (by omega) (i := i) (by omega) (by intro hh; apply hc6; rw [hh]; exact sum_byte.symm)) (by decide)
          | exact Next_good (nextE_0 (nz (.inr hc1)) (by omega) (by omega) (by omega) (fun j hj => hs j (by omega))) (wrap0 (by omega)) (by omega) (by first | exact bytes_cut _ _ _)
        )
    )
  all_goals (
    change AW _ _ _ _
    refine aw_seq ?_
    refine aw_seq ?_
    refine aw_region ?_
    refine ao_step rfl rfl rfl (op1_move rfl rfl) ?_
    first | refine ao_step rfl rfl rfl (op1_len Try.underlying23 rfl rfl) ?_ | refine ao_step rfl rfl rfl (op1_len0 Try.underlying23 rfl rfl) ?_
    refine ao_step rfl rfl rfl (op1_cmp rfl rfl rfl rfl) ?_
    refine ao_nil ?_
    change AW _ _ _ _
    refine aw_cond rfl ?_ ?_
    rotate_left
    case' _ =>
      intro hc2
      (try (exfalso; exact absurd hc2 (by decide)))
      all_goals (try simp only [decide_eq_true_eq, decide_eq_false_iff_not, beq_iff_eq, beq_eq_false_iff_ne, bne_iff_ne, bne_eq_false_iff_eq, Bool.not_eq_true, Bool.not_eq_false, Bool.not_eq_true', Bool.not_eq_false', ne_eq, Bool.and_eq_true, Bool.or_eq_true, Bool.and_eq_false_iff, Bool.or_eq_false_iff, Bool.cond_true, Bool.cond_false] at hc2)
      all_goals (try (exfalso; first | exact absurd hc2 id | omega))
      all_goals (
        refine aw_skip ?_
        )
    rotate_right
    case' _ =>
      intro hc2
      (try (exfalso; exact absurd hc2 (by decide)))
      all_goals (try simp only [decide_eq_true_eq, decide_eq_false_iff_not, beq_iff_eq, beq_eq_false_iff_ne, bne_iff_ne, bne_eq_false_iff_eq, Bool.not_eq_true, Bool.not_eq_false, Bool.not_eq_true', Bool.not_eq_false', ne_eq, Bool.and_eq_true, Bool.or_eq_true, Bool.and_eq_false_iff, Bool.or_eq_false_iff, Bool.cond_true, Bool.cond_false] at hc2)
      all_goals (try (exfalso; first | exact absurd hc2 id | omega))
      all_goals (
        refine aw_seq ?_
        refine aw_region ?_
        refine ao_step rfl rfl rfl (op1_build st_33 inf_33 rfl rfl (by first | rfl | simp [cok, one1, PV.cells, frPV, bytesPV]) rfl) ?_
        first | refine ao_step0 rfl rfl (op1_store inf_33 rfl rfl rfl rfl rfl rfl (by decide) (by first | rfl | simp [cok, one1, PV.cells, frPV, bytesPV])) ?_ | refine ao_step0 rfl rfl (op1_store inf_33 rfl rfl rfl (by first | rfl | exact look_snoc | exact look_set | (simp; done)) (by rfl) (by rfl) (by decide) (by first | rfl | simp [cok, one1, PV.cells, frPV, bytesPV])) ?_
        refine ao_step rfl rfl rfl (op1_assign rfl rfl) ?_
        refine ao_step rfl rfl rfl (op1_assign rfl rfl) ?_
        refine ao_nil ?_
        change AW _ _ _ _
        refine aw_ret ?_
        change ∃ xs, _ = some xs ∧ EndOk _ _ _ _
        refine ⟨_, rfl, endOk0 (y := nextPV bs) ?_ (next_ids _) ⟨rfl, rfl⟩⟩
        first
          | exact Next_bad (nextE_1 (z0 hc1)) (by decide)
          | exact Next_bad (nextE_2 (nz (by first | exact .inl (by omega) | exact .inr hc1)) (by omega)) (by decide)
          | exact Next_bad (nextE_3 (nz (.inr hc1)) (by omega) (by omega)) (by decide)
          | exact Next_bad (nextE_4 (nz (.inr hc1)) (by omega) (by omega) (by omega)) (by decide)
          | exact Next_bad (nextE_5 (nz (.inr hc1)) (by omega) (by omega) (by omega) (i := i) (by omega) (by intro hh; apply hc6; rw [hh]; exact sum_byte.symm)) (by decide)
          | exact Next_good (nextE_0 (nz (.inr hc1)) (by omega) (by omega) (by omega) (fun j hj => hs j (by omega))) (wrap0 (by omega)) (by omega) (by first | exact bytes_cut _ _ _)
        )
    all_goals (
      change AW _ _ _ _
      refine aw_seq ?_
      have g1 := bytes_getD (bs := bs) (i := 1) 0 (by omega)
      have g2 := bytes_getD (bs := bs) (i := 2) 0 (by omega)
      have g3 := bytes_getD (bs := bs) (i := 3) 0 (by omega)
      have g4 := bytes_getD (bs := bs) (i := 4) 0 (by omega)
      refine aw_draw 23 mo (by kernel_rfl) ?_
      refine aq_go rfl rfl rfl (op1_move rfl rfl) ?_
      refine aq_go rfl rfl rfl (op1_idx Try.underlying23 inf_5 rfl rfl rfl (by omega) (by first | rfl | assumption)) ?_
      first | refine aq_go rfl rfl rfl (op1_ldR Try.underlying5 rfl rfl rfl rfl rfl) ?_ | refine aq_go rfl rfl rfl (op1_ldR Try.underlying5 rfl rfl rfl (by first | rfl | exact look_snoc | exact look_set | (simp; done)) (by rfl)) ?_ | refine aq_go rfl rfl rfl (op1_ldP Try.underlying5 rfl rfl rfl rfl) ?_
      refine aq_go rfl rfl rfl (op1_convI Try.underlying5 Try.underlying3 rfl rfl) ?_
      refine aq_go rfl rfl rfl (op1_move rfl rfl) ?_
      refine aq_go rfl rfl rfl (op1_idx Try.underlying23 inf_5 rfl rfl rfl (by omega) (by first | rfl | assumption)) ?_
      first | refine aq_go rfl rfl rfl (op1_ldR Try.underlying5 rfl rfl rfl rfl rfl) ?_ | refine aq_go rfl rfl rfl (op1_ldR Try.underlying5 rfl rfl rfl (by first | rfl | exact look_snoc | exact look_set | (simp; done)) (by rfl)) ?_ | refine aq_go rfl rfl rfl (op1_ldP Try.underlying5 rfl rfl rfl rfl) ?_
      refine aq_go rfl rfl rfl (op1_convI Try.underlying5 Try.underlying3 rfl rfl) ?_
      refine aq_go rfl rfl rfl (op1_shl rfl rfl rfl (by first | decide | omega)) ?_
      refine aq_go rfl rfl rfl (op1_orW rfl rfl rfl) ?_
      refine aq_go rfl rfl rfl (op1_move rfl rfl) ?_
      refine aq_go rfl rfl rfl (op1_idx Try.underlying23 inf_5 rfl rfl rfl (by omega) (by first | rfl | assumption)) ?_
      first | refine aq_go rfl rfl rfl (op1_ldR Try.underlying5 rfl rfl rfl rfl rfl) ?_ | refine aq_go rfl rfl rfl (op1_ldR Try.underlying5 rfl rfl rfl (by first | rfl | exact look_snoc | exact look_set | (simp; done)) (by rfl)) ?_ | refine aq_go rfl rfl rfl (op1_ldP Try.underlying5 rfl rfl rfl rfl) ?_
      refine aq_go rfl rfl rfl (op1_convI Try.underlying5 Try.underlying3 rfl rfl) ?_
      refine aq_go rfl rfl rfl (op1_shl rfl rfl rfl (by first | decide | omega)) ?_
      refine aq_go rfl rfl rfl (op1_orW rfl rfl rfl) ?_
      refine aq_go rfl rfl rfl (op1_move rfl rfl) ?_
      refine aq_go rfl rfl rfl (op1_idx Try.underlying23 inf_5 rfl rfl rfl (by omega) (by first | rfl | assumption)) ?_
      first | refine aq_go rfl rfl rfl (op1_ldR Try.underlying5 rfl rfl rfl rfl rfl) ?_ | refine aq_go rfl rfl rfl (op1_ldR Try.underlying5 rfl rfl rfl (by first | rfl | exact look_snoc | exact look_set | (simp; done)) (by rfl)) ?_ | refine aq_go rfl rfl rfl (op1_ldP Try.underlying5 rfl rfl rfl rfl) ?_
      refine aq_go rfl rfl rfl (op1_convI Try.underlying5 Try.underlying3 rfl rfl) ?_
      refine aq_go rfl rfl rfl (op1_shl rfl rfl rfl (by first | decide | omega)) ?_
      refine aq_go rfl rfl rfl (op1_orW rfl rfl rfl) ?_
      refine aq_go rfl rfl rfl (op1_assign rfl rfl) ?_
      refine aq_nil ?_
      refine ao_nil ?_
      change AW _ _ _ _
      refine aw_seq ?_
      refine aw_block ?_
      change AW _ _ _ _
      refine aw_seq ?_
      refine aw_sub (e' := [(0, bsl bs), (2, .rf 0 0), (3, pi 0), (4, pi 0), (5, pi (nextN bs))]) (by refine sub_cons rfl (sub_cons rfl (sub_cons rfl (sub_cons rfl (sub_eq rfl (congrArg (fun z => pi z) (lenN_eq _ _ _ _)) sub_nil))))) ?_
      refine aw_region ?_
      refine ao_step rfl rfl rfl (op1_move rfl rfl) ?_
      refine ao_step rfl rfl rfl (op1_cmp rfl rfl rfl rfl) ?_
      refine ao_step rfl rfl rfl (op1_assign rfl rfl) ?_
      refine ao_nil ?_
      change AW _ _ _ _
      refine aw_cond rfl ?_ ?_
      rotate_left
      case' _ =>
        intro hc3
        (try (exfalso; exact absurd hc3 (by decide)))
        all_goals (try simp only [decide_eq_true_eq, decide_eq_false_iff_not, beq_iff_eq, beq_eq_false_iff_ne, bne_iff_ne, bne_eq_false_iff_eq, Bool.not_eq_true, Bool.not_eq_false, Bool.not_eq_true', Bool.not_eq_false', ne_eq, Bool.and_eq_true, Bool.or_eq_true, Bool.and_eq_false_iff, Bool.or_eq_false_iff, Bool.cond_true, Bool.cond_false] at hc3)
        all_goals (try (exfalso; first | exact absurd hc3 id | omega))
        all_goals (
          refine aw_seq ?_
          refine aw_region ?_
          refine ao_step rfl rfl rfl (op1_move rfl rfl) ?_
          first | refine ao_step rfl rfl rfl (op1_len Try.underlying23 rfl rfl) ?_ | refine ao_step rfl rfl rfl (op1_len0 Try.underlying23 rfl rfl) ?_
          refine ao_step rfl rfl rfl (op1_move rfl rfl) ?_
          first | refine ao_step rfl rfl rfl (op1_add rfl rfl rfl (by constructor <;> omega)) ?_ | refine ao_step rfl rfl rfl (op1_addW rfl rfl rfl) ?_
          first | refine ao_step rfl rfl rfl (op1_add rfl rfl rfl (by constructor <;> omega)) ?_ | refine ao_step rfl rfl rfl (op1_addW rfl rfl rfl) ?_
          refine ao_step rfl rfl rfl (op1_cmp rfl rfl rfl rfl) ?_
          refine ao_step rfl rfl rfl (op1_assign rfl rfl) ?_
          refine ao_nil ?_
          change AW _ _ _ _
          refine aw_cond rfl ?_ ?_
          rotate_left
          case' _ =>
            intro hc4
            (try (exfalso; exact absurd hc4 (by decide)))
            all_goals (try simp only [decide_eq_true_eq, decide_eq_false_iff_not, beq_iff_eq, beq_eq_false_iff_ne, bne_iff_ne, bne_eq_false_iff_eq, Bool.not_eq_true, Bool.not_eq_false, Bool.not_eq_true', Bool.not_eq_false', ne_eq, Bool.and_eq_true, Bool.or_eq_true, Bool.and_eq_false_iff, Bool.or_eq_false_iff, Bool.cond_true, Bool.cond_false] at hc4)
            all_goals (try (exfalso; first | exact absurd hc4 id | omega))
            all_goals (
              refine aw_skip ?_
              )
          rotate_right
          case' _ =>
            intro hc4
            (try (exfalso; exact absurd hc4 (by decide)))
            all_goals (try simp only [decide_eq_true_eq, decide_eq_false_iff_not, beq_iff_eq, beq_eq_false_iff_ne, bne_iff_ne, bne_eq_false_iff_eq, Bool.not_eq_true, Bool.not_eq_false, Bool.not_eq_true', Bool.not_eq_false', ne_eq, Bool.and_eq_true, Bool.or_eq_true, Bool.and_eq_false_iff, Bool.or_eq_false_iff, Bool.cond_true, Bool.cond_false] at hc4)
            all_goals (try (exfalso; first | exact absurd hc4 id | omega))
            all_goals (
              refine aw_seq ?_
              refine aw_region ?_
              refine ao_step rfl rfl rfl (op1_build st_33 inf_33 rfl rfl (by first | rfl | simp [cok, one1, PV.cells, frPV, bytesPV]) rfl) ?_
              first | refine ao_step0 rfl rfl (op1_store inf_33 rfl rfl rfl rfl rfl rfl (by decide) (by first | rfl | simp [cok, one1, PV.cells, frPV, bytesPV])) ?_ | refine ao_step0 rfl rfl (op1_store inf_33 rfl rfl rfl (by first | rfl | exact look_snoc | exact look_set | (simp; done)) (by rfl) (by rfl) (by decide) (by first | rfl | simp [cok, one1, PV.cells, frPV, bytesPV])) ?_
              refine ao_step rfl rfl rfl (op1_assign rfl rfl) ?_
              refine ao_step rfl rfl rfl (op1_assign rfl rfl) ?_
              refine ao_nil ?_
              change AW _ _ _ _
              refine aw_ret ?_
              change ∃ xs, _ = some xs ∧ EndOk _ _ _ _
              refine ⟨_, rfl, endOk0 (y := nextPV bs) ?_ (next_ids _) ⟨rfl, rfl⟩⟩
              first
                | exact Next_bad (nextE_1 (z0 hc1)) (by decide)
                | exact Next_bad (nextE_2 (nz (by first | exact .inl (by omega) | exact .inr hc1)) (by omega)) (by decide)
                | exact Next_bad (nextE_3 (nz (.inr hc1)) (by omega) (by omega)) (by decide)
                | exact Next_bad (nextE_4 (nz (.inr hc1)) (by omega) (by omega) (by omega)) (by decide)
                | exact Next_bad (nextE_5 (nz (.inr hc1)) (by omega) (by omega) (by omega) (i := i) (by omega) (by intro hh; apply hc6; rw [hh]; exact sum_byte.symm)) (by decide)
                | exact Next_good (nextE_0 (nz (.inr hc1)) (by omega) (by omega) (by omega) (fun j hj => hs j (by omega))) (wrap0 (by omega)) (by omega) (by first | exact bytes_cut _ _ _)
              )
          )
      rotate_right
      case' _ =>
        intro hc3
        (try (exfalso; exact absurd hc3 (by decide)))
        all_goals (try simp only [decide_eq_true_eq, decide_eq_false_iff_not, beq_iff_eq, beq_eq_false_iff_ne, bne_iff_ne, bne_eq_false_iff_eq, Bool.not_eq_true, Bool.not_eq_false, Bool.not_eq_true', Bool.not_eq_false', ne_eq, Bool.and_eq_true, Bool.or_eq_true, Bool.and_eq_false_iff, Bool.or_eq_false_iff, Bool.cond_true, Bool.cond_false] at hc3)
        all_goals (try (exfalso; first | exact absurd hc3 id | omega))
        all_goals (
          refine aw_seq ?_
          refine aw_region ?_
          refine ao_step rfl rfl rfl (op1_build st_33 inf_33 rfl rfl (by first | rfl | simp [cok, one1, PV.cells, frPV, bytesPV]) rfl) ?_
          first | refine ao_step0 rfl rfl (op1_store inf_33 rfl rfl rfl rfl rfl rfl (by decide) (by first | rfl | simp [cok, one1, PV.cells, frPV, bytesPV])) ?_ | refine ao_step0 rfl rfl (op1_store inf_33 rfl rfl rfl (by first | rfl | exact look_snoc | exact look_set | (simp; done)) (by rfl) (by rfl) (by decide) (by first | rfl | simp [cok, one1, PV.cells, frPV, bytesPV])) ?_
          refine ao_step rfl rfl rfl (op1_assign rfl rfl) ?_
          refine ao_step rfl rfl rfl (op1_assign rfl rfl) ?_
          refine ao_nil ?_
          change AW _ _ _ _
          refine aw_ret ?_
          change ∃ xs, _ = some xs ∧ EndOk _ _ _ _
          refine ⟨_, rfl, endOk0 (y := nextPV bs) ?_ (next_ids _) ⟨rfl, rfl⟩⟩
          first
            | exact Next_bad (nextE_1 (z0 hc1)) (by decide)
            | exact Next_bad (nextE_2 (nz (by first | exact .inl (by omega) | exact .inr hc1)) (by omega)) (by decide)
            | exact Next_bad (nextE_3 (nz (.inr hc1)) (by omega) (by omega)) (by decide)
            | exact Next_bad (nextE_4 (nz (.inr hc1)) (by omega) (by omega) (by omega)) (by decide)
            | exact Next_bad (nextE_5 (nz (.inr hc1)) (by omega) (by omega) (by omega) (i := i) (by omega) (by intro hh; apply hc6; rw [hh]; exact sum_byte.symm)) (by decide)
            | exact Next_good (nextE_0 (nz (.inr hc1)) (by omega) (by omega) (by omega) (fun j hj => hs j (by omega))) (wrap0 (by omega)) (by omega) (by first | exact bytes_cut _ _ _)
          )
      all_goals (
        change AW _ _ _ _
        refine aw_seq ?_
        refine aw_region ?_
        refine ao_step rfl rfl rfl (op1_move rfl rfl) ?_
        refine ao_step rfl rfl rfl (op1_move rfl rfl) ?_
        first | refine ao_step rfl rfl rfl (op1_add rfl rfl rfl (by constructor <;> omega)) ?_ | refine ao_step rfl rfl rfl (op1_addW rfl rfl rfl) ?_
        refine ao_step rfl rfl rfl (op1_cut (0) (5 + nextN bs) Try.underlying23 inf_5 rfl rfl rfl rfl (by first | rfl | (simp only [cutN, bytes_len, numF_len, packH_len]; omega)) (by first | rfl | (simp only [cutN, bytes_len, numF_len, packH_len]; omega)) (by intro k i h; first | (cases h; done) | (cases h; omega)) (by intro k i h; first | (cases h; done) | (cases h; omega)) (by first | omega | (simp [bytes_len, numF_len, packH_len]; done) | (simp [bytes_len, numF_len, packH_len]; omega)) (by first | omega | (simp [bytes_len, numF_len, packH_len]; done) | (simp [bytes_len, numF_len, packH_len]; omega))) ?_
        refine ao_step rfl rfl rfl (op1_pcall rfl en_52 rfl (by first | exact WkL.refl _ | (repeat (first | exact .nil | refine .cons (Wk.refl _) ?_ | refine .cons Wk.tok ?_ | refine .cons Wk.nil ?_ | refine .cons (Wk.tokE (bytes_cut _ _ _)) ?_))) (by repeat (first | exact trivial | refine ⟨(by first | rfl | exact bsl_ids _ | exact frs_ids _ | exact fr_ids _), ?_⟩)) (sum_c _ (by simp; omega)) (by exact (by first | rfl | exact bsl_ids _ | exact frs_ids _ | exact fr_ids _))) ?_
        refine ao_step rfl rfl rfl (op1_assign rfl rfl) ?_
        refine ao_nil ?_
        change AW _ _ _ _
        refine aw_seq ?_
        refine aw_seq ?_
        refine aw_region ?_
        refine ao_step rfl rfl rfl (op1_move rfl rfl) ?_
        refine ao_step rfl rfl rfl (op1_move rfl rfl) ?_
        first | refine ao_step rfl rfl rfl (op1_add rfl rfl rfl (by constructor <;> omega)) ?_ | refine ao_step rfl rfl rfl (op1_addW rfl rfl rfl) ?_
        refine ao_step rfl rfl rfl (op1_move rfl rfl) ?_
        first | refine ao_step rfl rfl rfl (op1_add rfl rfl rfl (by constructor <;> omega)) ?_ | refine ao_step rfl rfl rfl (op1_addW rfl rfl rfl) ?_
        first | refine ao_step rfl rfl rfl (op1_add rfl rfl rfl (by constructor <;> omega)) ?_ | refine ao_step rfl rfl rfl (op1_addW rfl rfl rfl) ?_
        refine ao_step rfl rfl rfl (op1_cut (5 + nextN bs) (13 + nextN bs) Try.underlying23 inf_5 rfl rfl rfl rfl (by first | rfl | (simp only [cutN, bytes_len, numF_len, packH_len]; omega)) (by first | rfl | (simp only [cutN, bytes_len, numF_len, packH_len]; omega)) (by intro k i h; first | (cases h; done) | (cases h; omega)) (by intro k i h; first | (cases h; done) | (cases h; omega)) (by first | omega | (simp [bytes_len, numF_len, packH_len]; done) | (simp [bytes_len, numF_len, packH_len]; omega)) (by first | omega | (simp [bytes_len, numF_len, packH_len]; done) | (simp [bytes_len, numF_len, packH_len]; omega))) ?_
        first | refine ao_step rfl rfl rfl (op1_len Try.underlying23 rfl rfl) ?_ | refine ao_step rfl rfl rfl (op1_len0 Try.underlying23 rfl rfl) ?_
        refine ao_step rfl rfl rfl (op1_move rfl rfl) ?_
        refine ao_nil ?_
        change AW _ _ _ _
        refine aw_block ?_
        change AW _ _ _ _
        refine aw_loop (fun m s => ∃ (i : Nat), (m + i = 8) ∧ (∀ j, j < i → bs.getD (5 + nextN bs + j) 0 = sumAt (sumF (bs.take (5 + nextN bs))) j) ∧ s.H = [.box 33 [pi 0, .v (.slice none 0 0)]] ∧ s.n = 98 ∧ Sub [(0, bsl bs), (2, .rf 0 0), (5, pi (nextN bs)), (6, pu (sumF (bs.take (5 + nextN bs)))), (68, bsl ((bs.take (13 + nextN bs)).drop (5 + nextN bs))), (69, pi 8), (70, pi i)] s.env) (n := 8) ⟨0, (rfl), (fun j hj => absurd hj (by omega)), (by first | rfl | (simp; done)), rfl, (by repeat (first | exact sub_nil | refine sub_eq rfl (by first | rfl | (rw [bytes_cut]; done) | (simp [bytes_len]; done) | (simp [bytes_len]; omega)) ?_))⟩ ?_
        rintro m ⟨env, H, N⟩ ⟨i, hi, hs, hH, hn, hs⟩
        dsimp only at hH hn hs
        subst hH hn
        refine aw_sub hs ?_
        clear hs
        
        refine aw_seq ?_
        refine aw_region ?_
        refine ao_step rfl rfl rfl (op1_cmp rfl rfl rfl rfl) ?_
        refine ao_nil ?_
        change AW _ _ _ _
        refine aw_seq ?_
        refine aw_cond rfl ?_ ?_
        rotate_left
        case' _ =>
          intro hc5
          (try (exfalso; exact absurd hc5 (by decide)))
          all_goals (try simp only [decide_eq_true_eq, decide_eq_false_iff_not, beq_iff_eq, beq_eq_false_iff_ne, bne_iff_ne, bne_eq_false_iff_eq, Bool.not_eq_true, Bool.not_eq_false, Bool.not_eq_true', Bool.not_eq_false', ne_eq, Bool.and_eq_true, Bool.or_eq_true, Bool.and_eq_false_iff, Bool.or_eq_false_iff, Bool.cond_true, Bool.cond_false] at hc5)
          all_goals (try (exfalso; first | exact absurd hc5 id | omega))
          all_goals (
            first | (have g5 := cut_getD (bs := bs) (l := 5 + nextN bs) (h := 13 + nextN bs) (i := i) (by omega) (by omega)) | skip
            )
          all_goals (
            refine aw_exit ?_
            change AW _ _ _ _
            refine aw_seq ?_
            refine aw_chain [4, 9, 14] [] mo (by kernel_rfl) ?_
            refine ac_go rfl rfl rfl rfl (fun H hp => op1_move rfl rfl) ?_
            refine ac_go rfl rfl rfl rfl (fun H hp => op1_idx Try.underlying23 inf_5 rfl rfl rfl (by omega) (by first | rfl | assumption)) ?_
            first | refine ac_go rfl rfl rfl rfl (fun H hp => op1_ldR Try.underlying5 rfl rfl rfl (hp.at rfl rfl) rfl) ?_ | refine ac_go rfl rfl rfl rfl (fun H hp => op1_ldR Try.underlying5 rfl rfl rfl (by first | rfl | exact look_snoc | exact look_set | (simp; done)) (by rfl)) ?_ | refine ac_go rfl rfl rfl rfl (fun H hp => op1_ldP Try.underlying5 rfl rfl rfl rfl) ?_
            refine ac_go rfl rfl rfl rfl (fun H hp => op1_convI Try.underlying5 Try.underlying3 rfl rfl) ?_
            refine ac_lgo rfl rfl rfl rfl (op1_bslice (xs := []) Try.underlying23 inf_5 rfl rfl rfl (by first | rfl | simp [cok, one1, PV.cells, frPV, bytesPV]) (by first | rfl | exact bytes_one _ | exact bytes_sz _ | (rw [bytes_cut]; first | exact bytes_one _ | exact bytes_sz _) | exact frs_one _ | exact frs_sz _ | simp [cok, one1, PV.cells, frPV, bytesPV]) rfl (by decide) (by first | rfl | simp [cok, one1, PV.cells, frPV, bytesPV, afill, setL, zipN])) (by first | exact Pins.refl | (repeat (first | exact trivial | refine ⟨rfl, ?_⟩))) ?_
            refine ac_go rfl rfl rfl rfl (fun H hp => op1_move rfl rfl) ?_
            refine ac_go rfl rfl rfl rfl (fun H hp => op1_move rfl rfl) ?_
            first | refine ac_go rfl rfl rfl rfl (fun H hp => op1_add rfl rfl rfl (by constructor <;> omega)) ?_ | refine ac_go rfl rfl rfl rfl (fun H hp => op1_addW rfl rfl rfl) ?_
            refine ac_go rfl rfl rfl rfl (fun H hp => op1_cut (5) (5 + nextN bs) Try.underlying23 inf_5 rfl rfl rfl rfl (by first | rfl | (simp only [cutN, bytes_len, numF_len, packH_len]; omega)) (by first | rfl | (simp only [cutN, bytes_len, numF_len, packH_len]; omega)) (by intro k i h; first | (cases h; done) | (cases h; omega)) (by intro k i h; first | (cases h; done) | (cases h; omega)) (by first | omega | (simp [bytes_len, numF_len, packH_len]; done) | (simp [bytes_len, numF_len, packH_len]; omega)) (by first | omega | (simp [bytes_len, numF_len, packH_len]; done) | (simp [bytes_len, numF_len, packH_len]; omega))) ?_
            refine ac_lgo rfl rfl rfl rfl (op1_app Try.underlying23 inf_5 rfl rfl rfl (by first | rfl | assumption | (simp [bytes_len, numF_len, packH_len]; done)) (fun F g a w hr => src_sl hr rfl Try.underlying23 (by first | rfl | exact bytes_one _ | exact bytes_sz _ | (rw [bytes_cut]; first | exact bytes_one _ | exact bytes_sz _) | exact frs_one _ | exact frs_sz _ | simp [cok, one1, PV.cells, frPV, bytesPV])) (by first | rfl | exact bytes_one _ | exact bytes_sz _ | (rw [bytes_cut]; first | exact bytes_one _ | exact bytes_sz _) | exact frs_one _ | exact frs_sz _ | simp [cok, one1, PV.cells, frPV, bytesPV]) (by first | decide | omega | (simp [bytes_len, numF_len, packH_len]; done) | (simp [bytes_len, numF_len, packH_len]; omega)) (by first | decide | omega | (simp [bytes_len, numF_len, packH_len]; done) | (simp [bytes_len, numF_len, packH_len]; omega))) (by first | exact Pins.refl | (repeat (first | exact trivial | refine ⟨rfl, ?_⟩))) ?_
            refine ac_go rfl rfl rfl rfl (fun H hp => op1_build st_33 inf_33 rfl rfl (by first | rfl | simp [cok, one1, PV.cells, frPV, bytesPV]) rfl) ?_
            refine ac_go rfl rfl rfl rfl (fun H hp => op1_move rfl rfl) ?_
            first | refine ac_go rfl rfl rfl rfl (fun H hp => op1_add rfl rfl rfl (by constructor <;> omega)) ?_ | refine ac_go rfl rfl rfl rfl (fun H hp => op1_addW rfl rfl rfl) ?_
            first | refine ac_go rfl rfl rfl rfl (fun H hp => op1_add rfl rfl rfl (by constructor <;> omega)) ?_ | refine ac_go rfl rfl rfl rfl (fun H hp => op1_addW rfl rfl rfl) ?_
            first | refine ac_lgo0 rfl rfl rfl (op1_store inf_33 rfl rfl rfl rfl rfl rfl (by decide) (by first | rfl | simp [cok, one1, PV.cells, frPV, bytesPV])) (by first | exact Pins.refl | (repeat (first | exact trivial | refine ⟨rfl, ?_⟩))) ?_ | refine ac_lgo0 rfl rfl rfl (op1_store inf_33 rfl rfl rfl (by first | rfl | exact look_snoc | exact look_set | (simp; done)) (by rfl) (by rfl) (by decide) (by first | rfl | simp [cok, one1, PV.cells, frPV, bytesPV])) (by first | exact Pins.refl | (repeat (first | exact trivial | refine ⟨rfl, ?_⟩))) ?_
            refine ac_go rfl rfl rfl rfl (fun H hp => op1_assign rfl rfl) ?_
            refine ac_go rfl rfl rfl rfl (fun H hp => op1_assign rfl rfl) ?_
            refine ac_nil ?_
            change AW _ _ _ _
            refine aw_ret ?_
            change ∃ xs, _ = some xs ∧ EndOk _ _ _ _
            refine ⟨_, rfl, endOk0 (y := nextPV bs) ?_ (next_ids _) ⟨rfl, rfl⟩⟩
            first
              | exact Next_bad (nextE_1 (z0 hc1)) (by decide)
              | exact Next_bad (nextE_2 (nz (by first | exact .inl (by omega) | exact .inr hc1)) (by omega)) (by decide)
              | exact Next_bad (nextE_3 (nz (.inr hc1)) (by omega) (by omega)) (by decide)
              | exact Next_bad (nextE_4 (nz (.inr hc1)) (by omega) (by omega) (by omega)) (by decide)
              | exact Next_bad (nextE_5 (nz (.inr hc1)) (by omega) (by omega) (by omega) (i := i) (by omega) (by intro hh; apply hc6; rw [hh]; exact sum_byte.symm)) (by decide)
              | exact Next_good (nextE_0 (nz (.inr hc1)) (by omega) (by omega) (by omega) (fun j hj => hs j (by omega))) (wrap0 (by omega)) (by omega) (by first | exact bytes_cut _ _ _)
            )
        rotate_right
        case' _ =>
          intro hc5
          (try (exfalso; exact absurd hc5 (by decide)))
          all_goals (try simp only [decide_eq_true_eq, decide_eq_false_iff_not, beq_iff_eq, beq_eq_false_iff_ne, bne_iff_ne, bne_eq_false_iff_eq, Bool.not_eq_true, Bool.not_eq_false, Bool.not_eq_true', Bool.not_eq_false', ne_eq, Bool.and_eq_true, Bool.or_eq_true, Bool.and_eq_false_iff, Bool.or_eq_false_iff, Bool.cond_true, Bool.cond_false] at hc5)
          all_goals (try (exfalso; first | exact absurd hc5 id | omega))
          all_goals (
            first | (have g5 := cut_getD (bs := bs) (l := 5 + nextN bs) (h := 13 + nextN bs) (i := i) (by omega) (by omega)) | skip
            )
          all_goals (
            refine aw_skip ?_
            )
        all_goals (
          change AW _ _ _ _
          refine aw_seq ?_
          refine aw_block ?_
          change AW _ _ _ _
          refine aw_seq ?_
          refine aw_region ?_
          refine ao_step rfl rfl rfl (op1_move rfl rfl) ?_
          refine ao_step rfl rfl rfl (op1_idx Try.underlying23 inf_5 rfl rfl rfl (by omega) (by first | rfl | assumption)) ?_
          first | refine ao_step rfl rfl rfl (op1_ldR Try.underlying5 rfl rfl rfl rfl rfl) ?_ | refine ao_step rfl rfl rfl (op1_ldR Try.underlying5 rfl rfl rfl (by first | rfl | exact look_snoc | exact look_set | (simp; done)) (by rfl)) ?_ | refine ao_step rfl rfl rfl (op1_ldP Try.underlying5 rfl rfl rfl rfl) ?_
          refine ao_step rfl rfl rfl (op1_assign rfl rfl) ?_
          refine ao_step rfl rfl rfl (op1_assign rfl rfl) ?_
          refine ao_nil ?_
          change AW _ _ _ _
          refine aw_seq ?_
          refine aw_region ?_
          refine ao_step rfl rfl rfl (op1_move rfl rfl) ?_
          refine ao_step rfl rfl rfl (op1_move rfl rfl) ?_
          refine ao_step rfl rfl rfl (op1_move rfl rfl) ?_
          first | refine ao_step rfl rfl rfl (op1_mul rfl rfl rfl (by constructor <;> omega)) ?_ | refine ao_step rfl rfl rfl (op1_mulW rfl rfl rfl) ?_
          refine ao_step rfl rfl rfl (op1_shr rfl rfl rfl (by first | decide | omega)) ?_
          refine ao_step rfl rfl rfl (op1_convI Try.underlying75 Try.underlying5 rfl rfl) ?_
          refine ao_step rfl rfl rfl (op1_cmp rfl rfl rfl rfl) ?_
          refine ao_nil ?_
          change AW _ _ _ _
          refine aw_cond rfl ?_ ?_
          rotate_left
          case' _ =>
            intro hc6
            (try (exfalso; exact absurd hc6 (by decide)))
            all_goals (try simp only [decide_eq_true_eq, decide_eq_false_iff_not, beq_iff_eq, beq_eq_false_iff_ne, bne_iff_ne, bne_eq_false_iff_eq, Bool.not_eq_true, Bool.not_eq_false, Bool.not_eq_true', Bool.not_eq_false', ne_eq, Bool.and_eq_true, Bool.or_eq_true, Bool.and_eq_false_iff, Bool.or_eq_false_iff, Bool.cond_true, Bool.cond_false] at hc6)
            all_goals (try (exfalso; first | exact absurd hc6 id | omega))
            all_goals (
              refine aw_skip ?_
              )
          rotate_right
          case' _ =>
            intro hc6
            (try (exfalso; exact absurd hc6 (by decide)))
            all_goals (try simp only [decide_eq_true_eq, decide_eq_false_iff_not, beq_iff_eq, beq_eq_false_iff_ne, bne_iff_ne, bne_eq_false_iff_eq, Bool.not_eq_true, Bool.not_eq_false, Bool.not_eq_true', Bool.not_eq_false', ne_eq, Bool.and_eq_true, Bool.or_eq_true, Bool.and_eq_false_iff, Bool.or_eq_false_iff, Bool.cond_true, Bool.cond_false] at hc6)
            all_goals (try (exfalso; first | exact absurd hc6 id | omega))
            all_goals (
              refine aw_seq ?_
              refine aw_region ?_
              refine ao_step rfl rfl rfl (op1_build st_33 inf_33 rfl rfl (by first | rfl | simp [cok, one1, PV.cells, frPV, bytesPV]) rfl) ?_
              first | refine ao_step0 rfl rfl (op1_store inf_33 rfl rfl rfl rfl rfl rfl (by decide) (by first | rfl | simp [cok, one1, PV.cells, frPV, bytesPV])) ?_ | refine ao_step0 rfl rfl (op1_store inf_33 rfl rfl rfl (by first | rfl | exact look_snoc | exact look_set | (simp; done)) (by rfl) (by rfl) (by decide) (by first | rfl | simp [cok, one1, PV.cells, frPV, bytesPV])) ?_
              refine ao_step rfl rfl rfl (op1_assign rfl rfl) ?_
              refine ao_step rfl rfl rfl (op1_assign rfl rfl) ?_
              refine ao_nil ?_
              change AW _ _ _ _
              refine aw_ret ?_
              change ∃ xs, _ = some xs ∧ EndOk _ _ _ _
              refine ⟨_, rfl, endOk0 (y := nextPV bs) ?_ (next_ids _) ⟨rfl, rfl⟩⟩
              first
                | exact Next_bad (nextE_1 (z0 hc1)) (by decide)
                | exact Next_bad (nextE_2 (nz (by first | exact .inl (by omega) | exact .inr hc1)) (by omega)) (by decide)
                | exact Next_bad (nextE_3 (nz (.inr hc1)) (by omega) (by omega)) (by decide)
                | exact Next_bad (nextE_4 (nz (.inr hc1)) (by omega) (by omega) (by omega)) (by decide)
                | exact Next_bad (nextE_5 (nz (.inr hc1)) (by omega) (by omega) (by omega) (i := i) (by omega) (by intro hh; apply hc6; rw [hh]; exact sum_byte.symm)) (by decide)
                | exact Next_good (nextE_0 (nz (.inr hc1)) (by omega) (by omega) (by omega) (fun j hj => hs j (by omega))) (wrap0 (by omega)) (by omega) (by first | exact bytes_cut _ _ _)
              )
          all_goals (
            change AW _ _ _ _
            refine aw_region ?_
            first | refine ao_step rfl rfl rfl (op1_add rfl rfl rfl (by constructor <;> omega)) ?_ | refine ao_step rfl rfl rfl (op1_addW rfl rfl rfl) ?_
            refine ao_step rfl rfl rfl (op1_move rfl rfl) ?_
            refine ao_nil ?_
            )
          )
        all_goals (
          exact ⟨m - 1, by omega, i + 1, (by omega), (fun j hj => (Nat.lt_or_ge j i).elim (fun h => hs j h) (fun h => (show j = i by omega) ▸ u8_inj (hc6.trans sum_byte))), (by first | rfl | (simp; done)), rfl, (by repeat (first | exact sub_nil | refine sub_eq rfl (by first | rfl | (rw [bytes_cut]; done) | (simp [bytes_len]; done) | (simp [bytes_len]; omega)) ?_))⟩
          )
        all_goals (
          change AW _ _ _ _
          refine aw_seq ?_
          refine aw_chain [4, 9, 14] [] mo (by kernel_rfl) ?_
          refine ac_go rfl rfl rfl rfl (fun H hp => op1_move rfl rfl) ?_
          refine ac_go rfl rfl rfl rfl (fun H hp => op1_idx Try.underlying23 inf_5 rfl rfl rfl (by omega) (by first | rfl | assumption)) ?_
          first | refine ac_go rfl rfl rfl rfl (fun H hp => op1_ldR Try.underlying5 rfl rfl rfl (hp.at rfl rfl) rfl) ?_ | refine ac_go rfl rfl rfl rfl (fun H hp => op1_ldR Try.underlying5 rfl rfl rfl (by first | rfl | exact look_snoc | exact look_set | (simp; done)) (by rfl)) ?_ | refine ac_go rfl rfl rfl rfl (fun H hp => op1_ldP Try.underlying5 rfl rfl rfl rfl) ?_
          refine ac_go rfl rfl rfl rfl (fun H hp => op1_convI Try.underlying5 Try.underlying3 rfl rfl) ?_
          refine ac_lgo rfl rfl rfl rfl (op1_bslice (xs := []) Try.underlying23 inf_5 rfl rfl rfl (by first | rfl | simp [cok, one1, PV.cells, frPV, bytesPV]) (by first | rfl | exact bytes_one _ | exact bytes_sz _ | (rw [bytes_cut]; first | exact bytes_one _ | exact bytes_sz _) | exact frs_one _ | exact frs_sz _ | simp [cok, one1, PV.cells, frPV, bytesPV]) rfl (by decide) (by first | rfl | simp [cok, one1, PV.cells, frPV, bytesPV, afill, setL, zipN])) (by first | exact Pins.refl | (repeat (first | exact trivial | refine ⟨rfl, ?_⟩))) ?_
          refine ac_go rfl rfl rfl rfl (fun H hp => op1_move rfl rfl) ?_
          refine ac_go rfl rfl rfl rfl (fun H hp => op1_move rfl rfl) ?_
          first | refine ac_go rfl rfl rfl rfl (fun H hp => op1_add rfl rfl rfl (by constructor <;> omega)) ?_ | refine ac_go rfl rfl rfl rfl (fun H hp => op1_addW rfl rfl rfl) ?_
          refine ac_go rfl rfl rfl rfl (fun H hp => op1_cut (5) (5 + nextN bs) Try.underlying23 inf_5 rfl rfl rfl rfl (by first | rfl | (simp only [cutN, bytes_len, numF_len, packH_len]; omega)) (by first | rfl | (simp only [cutN, bytes_len, numF_len, packH_len]; omega)) (by intro k i h; first | (cases h; done) | (cases h; omega)) (by intro k i h; first | (cases h; done) | (cases h; omega)) (by first | omega | (simp [bytes_len, numF_len, packH_len]; done) | (simp [bytes_len, numF_len, packH_len]; omega)) (by first | omega | (simp [bytes_len, numF_len, packH_len]; done) | (simp [bytes_len, numF_len, packH_len]; omega))) ?_
          refine ac_lgo rfl rfl rfl rfl (op1_app Try.underlying23 inf_5 rfl rfl rfl (by first | rfl | assumption | (simp [bytes_len, numF_len, packH_len]; done)) (fun F g a w hr => src_sl hr rfl Try.underlying23 (by first | rfl | exact bytes_one _ | exact bytes_sz _ | (rw [bytes_cut]; first | exact bytes_one _ | exact bytes_sz _) | exact frs_one _ | exact frs_sz _ | simp [cok, one1, PV.cells, frPV, bytesPV])) (by first | rfl | exact bytes_one _ | exact bytes_sz _ | (rw [bytes_cut]; first | exact bytes_one _ | exact bytes_sz _) | exact frs_one _ | exact frs_sz _ | simp [cok, one1, PV.cells, frPV, bytesPV]) (by first | decide | omega | (simp [bytes_len, numF_len, packH_len]; done) | (simp [bytes_len, numF_len, packH_len]; omega)) (by first | decide | omega | (simp [bytes_len, numF_len, packH_len]; done) | (simp [bytes_len, numF_len, packH_len]; omega))) (by first | exact Pins.refl | (repeat (first | exact trivial | refine ⟨rfl, ?_⟩))) ?_
          refine ac_go rfl rfl rfl rfl (fun H hp => op1_build st_33 inf_33 rfl rfl (by first | rfl | simp [cok, one1, PV.cells, frPV, bytesPV]) rfl) ?_
          refine ac_go rfl rfl rfl rfl (fun H hp => op1_move rfl rfl) ?_
          first | refine ac_go rfl rfl rfl rfl (fun H hp => op1_add rfl rfl rfl (by constructor <;> omega)) ?_ | refine ac_go rfl rfl rfl rfl (fun H hp => op1_addW rfl rfl rfl) ?_
          first | refine ac_go rfl rfl rfl rfl (fun H hp => op1_add rfl rfl rfl (by constructor <;> omega)) ?_ | refine ac_go rfl rfl rfl rfl (fun H hp => op1_addW rfl rfl rfl) ?_
          first | refine ac_lgo0 rfl rfl rfl (op1_store inf_33 rfl rfl rfl rfl rfl rfl (by decide) (by first | rfl | simp [cok, one1, PV.cells, frPV, bytesPV])) (by first | exact Pins.refl | (repeat (first | exact trivial | refine ⟨rfl, ?_⟩))) ?_ | refine ac_lgo0 rfl rfl rfl (op1_store inf_33 rfl rfl rfl (by first | rfl | exact look_snoc | exact look_set | (simp; done)) (by rfl) (by rfl) (by decide) (by first | rfl | simp [cok, one1, PV.cells, frPV, bytesPV])) (by first | exact Pins.refl | (repeat (first | exact trivial | refine ⟨rfl, ?_⟩))) ?_
          refine ac_go rfl rfl rfl rfl (fun H hp => op1_assign rfl rfl) ?_
          refine ac_go rfl rfl rfl rfl (fun H hp => op1_assign rfl rfl) ?_
          refine ac_nil ?_
          change AW _ _ _ _
          refine aw_ret ?_
          change ∃ xs, _ = some xs ∧ EndOk _ _ _ _
          refine ⟨_, rfl, endOk0 (y := nextPV bs) ?_ (next_ids _) ⟨rfl, rfl⟩⟩
          first
            | exact Next_bad (nextE_1 (z0 hc1)) (by decide)
            | exact Next_bad (nextE_2 (nz (by first | exact .inl (by omega) | exact .inr hc1)) (by omega)) (by decide)
            | exact Next_bad (nextE_3 (nz (.inr hc1)) (by omega) (by omega)) (by decide)
            | exact Next_bad (nextE_4 (nz (.inr hc1)) (by omega) (by omega) (by omega)) (by decide)
            | exact Next_bad (nextE_5 (nz (.inr hc1)) (by omega) (by omega) (by omega) (i := i) (by omega) (by intro hh; apply hc6; rw [hh]; exact sum_byte.symm)) (by decide)
            | exact Next_good (nextE_0 (nz (.inr hc1)) (by omega) (by omega) (by omega) (fun j hj => hs j (by omega))) (wrap0 (by omega)) (by omega) (by first | exact bytes_cut _ _ _)
          )
        )
      )
    )
end Go.Proofs.Ytpmbflnoohpbnaa
