/- Chapter 19: all frames that stand whole. -/
import Derived.Test.YtpmbflnoohpbnaaL4
namespace Go.Proofs.Ytpmbflnoohpbnaa
open Go Aw
set_option linter.unusedVariables false
set_option linter.unusedSimpArgs false
set_option maxRecDepth 8000

theorem bytes_tail (a : List UInt8) (l : Nat) : ((bytesPV a).take (bytesPV a).length).drop l = bytesPV (a.drop l) := by rw [List.take_length]; simp [bytesPV, List.map_drop]
def readS : Nat → List UInt8 → List Fr × Nat × Int
  | 0, _ => ([], 0, 0)
  | k + 1, bs => if bs = [] then ([], 0, 0) else if nextE bs = 0 then ((nextX bs).1 :: (readS k (bs.drop (nextX bs).2)).1, (nextX bs).2 + (readS k (bs.drop (nextX bs).2)).2.1, (readS k (bs.drop (nextX bs).2)).2.2) else ([], 0, nextE bs)
def readF (bs : List UInt8) : List Fr × Nat × Int := readS bs.length bs
def readPV (bs : List UInt8) : PV := .tup [frsl (readF bs).1, pi (readF bs).2.1, pi (readF bs).2.2]
theorem read_ids (bs : List UInt8) : (readPV bs).ids = [] := by simp only [readPV, PV.ids, PV.ids.idsL]; rw [idsL_nil (fun x hx => by obtain ⟨f, _, rfl⟩ := List.mem_map.1 hx; exact fr_ids f)]; rfl
theorem readS_nil (k : Nat) : readS k [] = ([], 0, 0) := by cases k <;> simp [readS]
theorem readS_bad {k : Nat} {bs : List UInt8} (hb : bs ≠ []) (h : nextE bs ≠ 0) : readS (k + 1) bs = ([], 0, nextE bs) := by rw [readS, if_neg hb, if_neg h]
theorem readS_good {k : Nat} {bs : List UInt8} (hb : bs ≠ []) (h : nextE bs = 0) : readS (k + 1) bs = ((nextX bs).1 :: (readS k (bs.drop (nextX bs).2)).1, (nextX bs).2 + (readS k (bs.drop (nextX bs).2)).2.1, (readS k (bs.drop (nextX bs).2)).2.2) := by rw [readS, if_neg hb, if_pos h]
theorem next_good {bs : List UInt8} (h : nextE bs = 0) : (nextX bs).2 = 13 + nextN bs ∧ 13 + nextN bs ≤ bs.length ∧ nextN bs ≤ 1048576 := by
  constructor
  · unfold nextX; rw [if_pos h]
  · unfold nextE at h
    split at h
    · cases h
    split at h
    · cases h
    split at h
    · cases h
    split at h
    · cases h
    omega
theorem fr_push (l : List Fr) (f : Fr) : l.map frPV ++ [frPV f] = (l ++ [f]).map frPV := by simp
theorem readEnd {bs : List UInt8} {o : Option Nat} {l : List Fr} {at_ e : Int} (h1 : l = (readF bs).1) (h2 : at_ = (readF bs).2.1) (h3 : e = (readF bs).2.2) : Wk (.tup [.sl o 2 (l.map frPV), pi at_, pi e]) (readPV bs) := by
  rw [readPV, h1, h2, h3]; exact Wk.tup (.cons Wk.tok (.cons (.refl _) (.cons (.refl _) .nil)))

theorem read_c (bs : List UInt8) (hb : bs.length ≤ 1073741824) : PCalls Try.prog 30 [bsl bs] (readPV bs) := by
  have hl := bytes_len bs
  refine acalls_of Try.func30 rfl Try.ntmps30 Try.results30 rfl ?_
  change AW _ _ ⟨[(0, _)], _, _⟩ _
  refine aw_seq ?_
  refine aw_region ?_
  refine ao_step rfl rfl rfl (op1_assign rfl rfl) ?_
  refine ao_step rfl rfl rfl (op1_assign rfl rfl) ?_
  refine ao_step rfl rfl rfl (op1_assign rfl rfl) ?_
  refine ao_nil ?_
  change AW _ _ _ _
  refine aw_seq ?_
  refine aw_region ?_
  refine ao_step rfl rfl rfl (op1_assign rfl rfl) ?_
  refine ao_nil ?_
  change AW _ _ _ _
  refine aw_seq ?_
  refine aw_ghost 5 33 (sz := 2) rfl (by kernel_rfl) ?_
  refine aw_region ?_
  refine ao_step rfl rfl rfl (op1_assign rfl rfl) ?_
  refine ao_nil ?_
  change AW _ _ _ _
  refine aw_seq ?_
  refine aw_block ?_
  change AW _ _ _ _
  refine aw_loop (fun m s => ∃ (at_ k : Nat) (l : List Fr) (T : List AEnt), (m + at_ = bs.length) ∧ (m ≤ k) ∧ (l ++ (readS k (bs.drop at_)).1 = (readF bs).1) ∧ (at_ + (readS k (bs.drop at_)).2.1 = (readF bs).2.1) ∧ ((readS k (bs.drop at_)).2.2 = (readF bs).2.2) ∧ (l.length ≤ at_) ∧ s.H = .arr 33 (l.map frPV).length :: T ∧ s.n = 36 ∧ Sub [(0, bsl bs), (5, .sl (some 0) 2 (l.map frPV)), (6, pi at_)] s.env) (n := bs.length) ⟨0, bs.length, [], [], (rfl), (Nat.le_refl _), (rfl), (by simp; rfl), (rfl), (Nat.le_refl _), (by first | rfl | (simp; done)), rfl, (by repeat (first | exact sub_nil | refine sub_eq rfl (by first | rfl | (rw [bytes_cut]; done) | (simp [bytes_len]; done) | (simp [bytes_len]; omega)) ?_))⟩ ?_
  rintro m ⟨env, H, N⟩ ⟨at_, k, l, T, hi, hk, h1, h2, h3, hll, hH, hn, hs⟩
  dsimp only at hH hn hs
  subst hH hn
  refine aw_sub hs ?_
  clear hs
  
  refine aw_seq ?_
  refine aw_seq ?_
  refine aw_region ?_
  refine ao_step rfl rfl rfl (op1_move rfl rfl) ?_
  refine ao_step rfl rfl rfl (op1_move rfl rfl) ?_
  first | refine ao_step rfl rfl rfl (op1_len Try.underlying23 rfl rfl) ?_ | refine ao_step rfl rfl rfl (op1_len0 Try.underlying23 rfl rfl) ?_
  refine ao_step rfl rfl rfl (op1_cmp rfl rfl rfl rfl) ?_
  refine ao_nil ?_
  change AW _ _ _ _
  refine aw_cond rfl ?_ ?_
  rotate_left
  case' _ =>
    intro hc1
    (try (exfalso; exact absurd hc1 (by decide)))
    all_goals (try simp only [decide_eq_true_eq, decide_eq_false_iff_not, beq_iff_eq, beq_eq_false_iff_ne, bne_iff_ne, bne_eq_false_iff_eq, Bool.not_eq_true, Bool.not_eq_false, Bool.not_eq_true', Bool.not_eq_false', ne_eq, Bool.and_eq_true, Bool.or_eq_true, Bool.and_eq_false_iff, Bool.or_eq_false_iff, Bool.cond_true, Bool.cond_false] at hc1)
    all_goals (try (exfalso; first | exact absurd hc1 id | omega))
    all_goals (
      first | (have hz : bs.drop at_ = [] := List.drop_eq_nil_of_le (by omega); rw [hz, readS_nil] at h1 h2 h3) | (have hne : bs.drop at_ ≠ [] := (by intro h; have := congrArg List.length h; simp at this; omega); obtain ⟨k, rfl⟩ := Nat.exists_eq_succ_of_ne_zero (show k ≠ 0 by omega); rw [Nat.succ_eq_add_one] at h1 h2 h3)
      )
    all_goals (
      refine aw_exit ?_
      change AW _ _ _ _
      refine aw_seq ?_
      refine aw_region ?_
      refine ao_step rfl rfl rfl (op1_move rfl rfl) ?_
      refine ao_step rfl rfl rfl (op1_move rfl rfl) ?_
      refine ao_step rfl rfl rfl (op1_assign rfl rfl) ?_
      refine ao_step rfl rfl rfl (op1_assign rfl rfl) ?_
      refine ao_step rfl rfl rfl (op1_assign rfl rfl) ?_
      refine ao_nil ?_
      change AW _ _ _ _
      refine aw_ret ?_
      change ∃ xs, _ = some xs ∧ EndOk _ _ _ _
      refine ⟨_, rfl, endOk0 (y := readPV bs) (readEnd (by simpa using h1) (by simp at h2; omega) (by first | exact h3 | (simp at h3; omega))) (read_ids _) ⟨rfl, rfl⟩⟩
      )
  rotate_right
  case' _ =>
    intro hc1
    (try (exfalso; exact absurd hc1 (by decide)))
    all_goals (try simp only [decide_eq_true_eq, decide_eq_false_iff_not, beq_iff_eq, beq_eq_false_iff_ne, bne_iff_ne, bne_eq_false_iff_eq, Bool.not_eq_true, Bool.not_eq_false, Bool.not_eq_true', Bool.not_eq_false', ne_eq, Bool.and_eq_true, Bool.or_eq_true, Bool.and_eq_false_iff, Bool.or_eq_false_iff, Bool.cond_true, Bool.cond_false] at hc1)
    all_goals (try (exfalso; first | exact absurd hc1 id | omega))
    all_goals (
      first | (have hz : bs.drop at_ = [] := List.drop_eq_nil_of_le (by omega); rw [hz, readS_nil] at h1 h2 h3) | (have hne : bs.drop at_ ≠ [] := (by intro h; have := congrArg List.length h; simp at this; omega); obtain ⟨k, rfl⟩ := Nat.exists_eq_succ_of_ne_zero (show k ≠ 0 by omega); rw [Nat.succ_eq_add_one] at h1 h2 h3)
      )
    all_goals (
      refine aw_skip ?_
      )
  all_goals (
    change AW _ _ _ _
    refine aw_block ?_
    change AW _ _ _ _
    refine aw_seq ?_
    refine aw_region ?_
    refine ao_step rfl rfl rfl (op1_move rfl rfl) ?_
    refine ao_step rfl rfl rfl (op1_move rfl rfl) ?_
    refine ao_step rfl rfl rfl (op1_cut (at_) ((bytesPV bs).length) Try.underlying23 inf_5 rfl rfl rfl rfl (by first | rfl | (simp only [cutN, bytes_len, numF_len, packH_len, List.length_map]; omega)) (by first | rfl | (simp only [cutN, bytes_len, numF_len, packH_len, List.length_map]; omega)) (by intro k i h; first | (cases h; done) | (cases h; omega)) (by intro k i h; first | (cases h; done) | (cases h; omega)) (by first | omega | (simp [bytes_len, numF_len, packH_len, List.length_map]; done) | (simp [bytes_len, numF_len, packH_len, List.length_map]; omega)) (by first | omega | (simp [bytes_len, numF_len, packH_len, List.length_map]; done) | (simp [bytes_len, numF_len, packH_len, List.length_map]; omega))) ?_
    refine ao_step rfl rfl rfl (op1_pcall rfl en_51 rfl (by first | exact WkL.refl _ | (repeat (first | exact .nil | refine .cons (Wk.refl _) ?_ | refine .cons Wk.tok ?_ | refine .cons Wk.nil ?_ | refine .cons (Wk.tokE (bytes_tail _ _)) ?_))) (by repeat (first | exact trivial | refine ⟨(by first | rfl | exact bsl_ids _ | exact frs_ids _ | exact fr_ids _ | exact next_ids _ | exact pk_ids _ | exact read_ids _), ?_⟩)) (next_c (bs.drop at_) (by simp; omega)) (by exact (by first | rfl | exact bsl_ids _ | exact frs_ids _ | exact fr_ids _ | exact next_ids _ | exact pk_ids _ | exact read_ids _))) ?_
    refine ao_step rfl rfl rfl (op1_move rfl rfl) ?_
    refine ao_step rfl rfl rfl (op1_ext rfl rfl rfl) ?_
    refine ao_step rfl rfl rfl (op1_ext rfl rfl rfl) ?_
    refine ao_step rfl rfl rfl (op1_ext rfl rfl rfl) ?_
    refine ao_step rfl rfl rfl (op1_alloc inf_33 rfl) ?_
    first | refine ao_step0 rfl rfl (op1_store inf_33 rfl rfl rfl rfl rfl rfl (by decide) (by first | rfl | simp [cok, one1, PV.cells, frPV, bytesPV])) ?_ | refine ao_step0 rfl rfl (op1_store inf_33 rfl rfl rfl (by first | rfl | exact look_snoc | exact look_set | (simp; done)) (by rfl) (by rfl) (by decide) (by first | rfl | simp [cok, one1, PV.cells, frPV, bytesPV])) ?_
    refine ao_step rfl rfl rfl (op1_assign rfl rfl) ?_
    refine ao_step rfl rfl rfl (op1_assign rfl rfl) ?_
    refine ao_nil ?_
    change AW _ _ _ _
    refine aw_seq ?_
    refine aw_seq ?_
    refine aw_region ?_
    refine ao_step rfl rfl rfl (op1_move rfl rfl) ?_
    refine ao_step rfl rfl rfl (op1_cmp rfl rfl rfl rfl) ?_
    refine ao_nil ?_
    change AW _ _ _ _
    refine aw_cond rfl ?_ ?_
    rotate_left
    case' _ =>
      intro hc2
      (try (exfalso; exact absurd hc2 (by decide)))
      all_goals (try simp only [decide_eq_true_eq, decide_eq_false_iff_not, beq_iff_eq, beq_eq_false_iff_ne, bne_iff_ne, bne_eq_false_iff_eq, Bool.not_eq_true, Bool.not_eq_false, Bool.not_eq_true', Bool.not_eq_false', ne_eq, Bool.and_eq_true, Bool.or_eq_true, Bool.and_eq_false_iff, Bool.or_eq_false_iff, Bool.cond_true, Bool.cond_false] at hc2)
      all_goals (try (exfalso; first | exact absurd hc2 id | omega))
      all_goals (
        first | (obtain ⟨g1, g2, g3⟩ := next_good hc2; rw [List.length_drop] at g2; rw [readS_good hne hc2] at h1 h2 h3; dsimp only at h1 h2 h3) | (rw [readS_bad hne hc2] at h1 h2 h3)
        )
      all_goals (
        refine aw_skip ?_
        )
    rotate_right
    case' _ =>
      intro hc2
      (try (exfalso; exact absurd hc2 (by decide)))
      all_goals (try simp only [decide_eq_true_eq, decide_eq_false_iff_not, beq_iff_eq, beq_eq_false_iff_ne, bne_iff_ne, bne_eq_false_iff_eq, Bool.not_eq_true, Bool.not_eq_false, Bool.not_eq_true', Bool.not_eq_false', ne_eq, Bool.and_eq_true, Bool.or_eq_true, Bool.and_eq_false_iff, Bool.or_eq_false_iff, Bool.cond_true, Bool.cond_false] at hc2)
      all_goals (try (exfalso; first | exact absurd hc2 id | omega))
      all_goals (
        first | (obtain ⟨g1, g2, g3⟩ := next_good hc2; rw [List.length_drop] at g2; rw [readS_good hne hc2] at h1 h2 h3; dsimp only at h1 h2 h3) | (rw [readS_bad hne hc2] at h1 h2 h3)
        )
      all_goals (
        refine aw_seq ?_
        refine aw_region ?_
        refine ao_step rfl rfl rfl (op1_move rfl rfl) ?_
        refine ao_step rfl rfl rfl (op1_move rfl rfl) ?_
        refine ao_step rfl rfl rfl (op1_move rfl rfl) ?_
        refine ao_step rfl rfl rfl (op1_assign rfl rfl) ?_
        refine ao_step rfl rfl rfl (op1_assign rfl rfl) ?_
        refine ao_step rfl rfl rfl (op1_assign rfl rfl) ?_
        refine ao_nil ?_
        change AW _ _ _ _
        refine aw_ret ?_
        change ∃ xs, _ = some xs ∧ EndOk _ _ _ _
        refine ⟨_, rfl, endOk0 (y := readPV bs) (readEnd (by simpa using h1) (by simp at h2; omega) (by first | exact h3 | (simp at h3; omega))) (read_ids _) ⟨rfl, rfl⟩⟩
        )
    all_goals (
      change AW _ _ _ _
      refine aw_region ?_
      refine ao_step rfl rfl rfl (op1_move rfl rfl) ?_
      first | refine ao_step rfl rfl rfl (op1_ldRA inf_33 Try.underlying33 rfl rfl rfl rfl rfl rfl) ?_ | refine ao_step rfl rfl rfl (op1_ldRA inf_33 Try.underlying33 rfl rfl rfl (by first | rfl | exact look_snoc | exact look_set | (simp; done)) (by rfl) (by rfl)) ?_ | refine ao_step rfl rfl rfl (op1_ldPW inf_33 Try.underlying33 rfl rfl rfl rfl rfl) ?_ | refine ao_step rfl rfl rfl (op1_ldPA inf_33 Try.underlying33 rfl rfl rfl rfl rfl) ?_
      refine ao_step rfl rfl rfl (op1_bslice (xs := [_]) Try.underlying22 inf_33 rfl rfl rfl (by first | rfl | simp [cok, one1, PV.cells, frPV, bytesPV]) (by first | rfl | exact bytes_one _ | exact bytes_sz _ | (rw [bytes_cut]; first | exact bytes_one _ | exact bytes_sz _) | exact frs_one _ | exact frs_sz _ | simp [cok, one1, PV.cells, frPV, bytesPV]) rfl (by decide) (by first | rfl | simp [cok, one1, PV.cells, frPV, bytesPV, afill, setL, zipN])) ?_
      refine ao_step rfl rfl rfl (op1_app Try.underlying22 inf_33 rfl rfl rfl (by first | rfl | assumption | (simp [bytes_len, numF_len, packH_len, List.length_map]; done)) (fun F g a w hr => src_sl hr rfl Try.underlying22 (by first | rfl | exact bytes_one _ | exact bytes_sz _ | (rw [bytes_cut]; first | exact bytes_one _ | exact bytes_sz _) | exact frs_one _ | exact frs_sz _ | simp [cok, one1, PV.cells, frPV, bytesPV])) (by first | rfl | exact bytes_one _ | exact bytes_sz _ | (rw [bytes_cut]; first | exact bytes_one _ | exact bytes_sz _) | exact frs_one _ | exact frs_sz _ | simp [cok, one1, PV.cells, frPV, bytesPV]) (by first | decide | omega | (simp [bytes_len, numF_len, packH_len, List.length_map]; done) | (simp [bytes_len, numF_len, packH_len, List.length_map]; omega)) (by first | decide | omega | (simp [bytes_len, numF_len, packH_len, List.length_map]; done) | (simp [bytes_len, numF_len, packH_len, List.length_map]; omega))) ?_
      refine ao_step rfl rfl rfl (op1_move rfl rfl) ?_
      refine ao_step rfl rfl rfl (op1_move rfl rfl) ?_
      first | refine ao_step rfl rfl rfl (op1_add rfl rfl rfl (by constructor <;> omega)) ?_ | refine ao_step rfl rfl rfl (op1_addW rfl rfl rfl) ?_
      refine ao_step rfl rfl rfl (op1_assign rfl rfl) ?_
      refine ao_step rfl rfl rfl (op1_assign rfl rfl) ?_
      refine ao_nil ?_
      )
    )
  all_goals (
    exact ⟨m - (nextX (bs.drop at_)).2, by omega, at_ + (nextX (bs.drop at_)).2, k, l ++ [(nextX (bs.drop at_)).1], _, (by omega), (by omega), (by rw [← h1, List.drop_drop]; simp), (by rw [← h2, List.drop_drop]; omega), (by rw [← h3, List.drop_drop]), (by simp; omega), (by rw [← fr_push]; simp; rfl), rfl, (by rw [← fr_push]; repeat (first | exact sub_nil | refine sub_eq rfl (by first | rfl | (rw [bytes_cut]; done) | (simp [bytes_len]; done) | (simp [bytes_len]; omega)) ?_))⟩
    )
  all_goals (
    change AW _ _ _ _
    refine aw_seq ?_
    refine aw_region ?_
    refine ao_step rfl rfl rfl (op1_move rfl rfl) ?_
    refine ao_step rfl rfl rfl (op1_move rfl rfl) ?_
    refine ao_step rfl rfl rfl (op1_assign rfl rfl) ?_
    refine ao_step rfl rfl rfl (op1_assign rfl rfl) ?_
    refine ao_step rfl rfl rfl (op1_assign rfl rfl) ?_
    refine ao_nil ?_
    change AW _ _ _ _
    refine aw_ret ?_
    change ∃ xs, _ = some xs ∧ EndOk _ _ _ _
    refine ⟨_, rfl, endOk0 (y := readPV bs) (readEnd (by simpa using h1) (by simp at h2; omega) (by first | exact h3 | (simp at h3; omega))) (read_ids _) ⟨rfl, rfl⟩⟩
    )
theorem Read_c (bs : List UInt8) (hb : bs.length ≤ 1073741824) : PCalls Try.prog 9 [bsl bs] (readPV bs) := by
  refine acalls_of Try.func9 rfl Try.ntmps9 Try.results9 rfl ?_
  change AW _ _ ⟨[(0, _)], _, _⟩ _
  refine aw_seq ?_
  refine aw_region ?_
  refine ao_step rfl rfl rfl (op1_assign rfl rfl) ?_
  refine ao_step rfl rfl rfl (op1_assign rfl rfl) ?_
  refine ao_step rfl rfl rfl (op1_assign rfl rfl) ?_
  refine ao_nil ?_
  change AW _ _ _ _
  refine aw_seq ?_
  refine aw_region ?_
  refine ao_step rfl rfl rfl (op1_move rfl rfl) ?_
  refine ao_step rfl rfl rfl (op1_pcall rfl en_30 rfl (by first | exact WkL.refl _ | (repeat (first | exact .nil | refine .cons (Wk.refl _) ?_ | refine .cons Wk.tok ?_ | refine .cons Wk.nil ?_ | refine .cons (Wk.tokE (bytes_tail _ _)) ?_))) (by repeat (first | exact trivial | refine ⟨(by first | rfl | exact bsl_ids _ | exact frs_ids _ | exact fr_ids _ | exact next_ids _ | exact pk_ids _ | exact read_ids _), ?_⟩)) (read_c bs hb) (by exact (by first | rfl | exact bsl_ids _ | exact frs_ids _ | exact fr_ids _ | exact next_ids _ | exact pk_ids _ | exact read_ids _))) ?_
  refine ao_step rfl rfl rfl (op1_ext rfl rfl rfl) ?_
  refine ao_step rfl rfl rfl (op1_ext rfl rfl rfl) ?_
  refine ao_step rfl rfl rfl (op1_ext rfl rfl rfl) ?_
  refine ao_step rfl rfl rfl (op1_assign rfl rfl) ?_
  refine ao_step rfl rfl rfl (op1_assign rfl rfl) ?_
  refine ao_step rfl rfl rfl (op1_assign rfl rfl) ?_
  refine ao_nil ?_
  change AW _ _ _ _
  refine aw_ret ?_
  change ∃ xs, _ = some xs ∧ EndOk _ _ _ _
  exact ⟨_, rfl, endOk0 (y := readPV bs) (Wk.refl _) (read_ids _) ⟨rfl, rfl⟩⟩

/-- Of frames, those that can be; and their bytes. -/
def wholeF (l : List Fr) : List Fr := l.filter fun f => packE f = 0
def packL (l : List Fr) : List UInt8 := (wholeF l).flatMap packB
theorem whole_yes {l : List Fr} {f : Fr} (h : packE f = 0) : wholeF (l ++ [f]) = wholeF l ++ [f] ∧ packL (l ++ [f]) = packL l ++ packR f := by
  have : wholeF (l ++ [f]) = wholeF l ++ [f] := by simp [wholeF, List.filter_append, h]
  exact ⟨this, by unfold packL; rw [this, packR, if_pos h]; simp⟩
theorem whole_no {l : List Fr} {f : Fr} (h : ¬ packE f = 0) : wholeF (l ++ [f]) = wholeF l ∧ packL (l ++ [f]) = packL l := by
  have : wholeF (l ++ [f]) = wholeF l := by simp [wholeF, List.filter_append, h]
  exact ⟨this, by unfold packL; rw [this]⟩
theorem whole_len (l : List Fr) : (wholeF l).length ≤ l.length := List.length_filter_le ..
def sizeF (l : List Fr) : Nat := l.foldr (fun f n => 13 + f.2.length + n) 0
theorem sizeF_app (a b : List Fr) : sizeF (a ++ b) = sizeF a + sizeF b := by
  induction a with
  | nil => simp [sizeF]
  | cons x r ih => simp only [sizeF, List.cons_append, List.foldr_cons] at ih ⊢; omega
theorem packL_len (l : List Fr) : (packL l).length ≤ sizeF l := by
  induction l with
  | nil => simp [packL, wholeF]
  | cons f r ih =>
    simp only [packL, wholeF, List.filter_cons, sizeF, List.foldr_cons] at ih ⊢
    split
    · simp only [List.flatMap_cons, List.length_append, packB_len]; omega
    · omega
theorem sizeF_take (l : List Fr) (i : Nat) : sizeF (l.take i) ≤ sizeF l := by
  have := sizeF_app (l.take i) (l.drop i)
  rw [List.take_append_drop] at this; omega
theorem sizeF_mem {l : List Fr} {f : Fr} (h : f ∈ l) : 13 + f.2.length ≤ sizeF l := by
  induction l with
  | nil => cases h
  | cons x r ih =>
    simp only [sizeF, List.foldr_cons] at ih ⊢
    rcases List.mem_cons.1 h with rfl | h
    · omega
    · have := ih h; omega
theorem sizeF_len (l : List Fr) : l.length ≤ sizeF l := by
  induction l with
  | nil => simp
  | cons x r ih => simp only [sizeF, List.foldr_cons, List.length_cons] at ih ⊢; omega
def packedPV (l : List Fr) : PV := .tup [frsl (wholeF l), bsl (packL l)]
theorem packed_ids (l : List Fr) : (packedPV l).ids = [] := by
  simp only [packedPV, PV.ids, PV.ids.idsL]
  rw [idsL_nil (fun x hx => by obtain ⟨f, _, rfl⟩ := List.mem_map.1 hx; exact fr_ids f), idsL_nil (ids_bytes _)]; rfl
theorem packed_c (l : List Fr) (hb : sizeF l ≤ 1073741824) : PCalls Try.prog 8 [frsl l] (packedPV l) := by
  have hll : (l.map frPV).length = l.length := List.length_map ..
  have hsl := sizeF_len l
  refine acalls_of Try.func8 rfl Try.ntmps8 Try.results8 rfl ?_
  change AW _ _ ⟨[(0, _)], _, _⟩ _
  refine aw_seq ?_
  refine aw_region ?_
  refine ao_step rfl rfl rfl (op1_assign rfl rfl) ?_
  refine ao_step rfl rfl rfl (op1_assign rfl rfl) ?_
  refine ao_nil ?_
  change AW _ _ _ _
  refine aw_seq ?_
  refine aw_region ?_
  refine ao_step rfl rfl rfl (op1_bslice (xs := []) Try.underlying22 inf_33 rfl rfl rfl (by first | rfl | simp [cok, one1, PV.cells, frPV, bytesPV]) (by first | rfl | exact bytes_one _ | exact bytes_sz _ | (rw [bytes_cut]; first | exact bytes_one _ | exact bytes_sz _) | exact frs_one _ | exact frs_sz _ | simp [cok, one1, PV.cells, frPV, bytesPV]) rfl (by decide) (by first | rfl | simp [cok, one1, PV.cells, frPV, bytesPV, afill, setL, zipN])) ?_
  refine ao_step rfl rfl rfl (op1_bslice (xs := []) Try.underlying23 inf_5 rfl rfl rfl (by first | rfl | simp [cok, one1, PV.cells, frPV, bytesPV]) (by first | rfl | exact bytes_one _ | exact bytes_sz _ | (rw [bytes_cut]; first | exact bytes_one _ | exact bytes_sz _) | exact frs_one _ | exact frs_sz _ | simp [cok, one1, PV.cells, frPV, bytesPV]) rfl (by decide) (by first | rfl | simp [cok, one1, PV.cells, frPV, bytesPV, afill, setL, zipN])) ?_
  refine ao_step rfl rfl rfl (op1_assign rfl rfl) ?_
  refine ao_step rfl rfl rfl (op1_assign rfl rfl) ?_
  refine ao_nil ?_
  change AW _ _ _ _
  refine aw_seq ?_
  refine aw_seq ?_
  refine aw_region ?_
  refine ao_step rfl rfl rfl (op1_assign rfl rfl) ?_
  refine ao_nil ?_
  change AW _ _ _ _
  refine aw_block ?_
  change AW _ _ _ _
  refine aw_loop (fun m s => ∃ (i : Nat) (w : List Fr) (b : List UInt8) (T : List AEnt), (m + i = l.length) ∧ (wholeF (l.take i) = w) ∧ (packL (l.take i) = b) ∧ s.H = .arr 33 (w.map frPV).length :: .arr 5 (bytesPV b).length :: T ∧ s.n = 39 ∧ Sub [(0, frsl l), (4, .sl (some 0) 2 (w.map frPV)), (5, .sl (some 1) 1 (bytesPV b)), (6, pi i)] s.env) (n := l.length) ⟨0, [], [], [], (rfl), (rfl), (rfl), (by first | rfl | (simp; done)), rfl, (by repeat (first | exact sub_nil | refine sub_eq rfl (by first | rfl | (rw [bytes_cut]; done) | (simp [bytes_len]; done) | (simp [bytes_len]; omega)) ?_))⟩ ?_
  rintro m ⟨env, H, N⟩ ⟨i, w, b, T, hi, h1, h2, hH, hn, hs⟩
  dsimp only at hH hn hs
  subst hH hn
  refine aw_sub hs ?_
  clear hs
  have q1 := packL_len (l.take i); have q2 := sizeF_take l i; have q3 := whole_len (l.take i); rw [h2] at q1; rw [h1] at q3; have q4 : (l.take i).length ≤ i := List.length_take_le ..; have q5 := bytes_len b; have q6 : (w.map frPV).length = w.length := List.length_map ..
  refine aw_seq ?_
  refine aw_seq ?_
  refine aw_region ?_
  refine ao_step rfl rfl rfl (op1_move rfl rfl) ?_
  refine ao_step rfl rfl rfl (op1_move rfl rfl) ?_
  first | refine ao_step rfl rfl rfl (op1_len Try.underlying22 rfl rfl) ?_ | refine ao_step rfl rfl rfl (op1_len0 Try.underlying22 rfl rfl) ?_
  refine ao_step rfl rfl rfl (op1_cmp rfl rfl rfl rfl) ?_
  refine ao_nil ?_
  change AW _ _ _ _
  refine aw_cond rfl ?_ ?_
  rotate_left
  case' _ =>
    intro hc1
    (try (exfalso; exact absurd hc1 (by decide)))
    all_goals (try simp only [decide_eq_true_eq, decide_eq_false_iff_not, beq_iff_eq, beq_eq_false_iff_ne, bne_iff_ne, bne_eq_false_iff_eq, Bool.not_eq_true, Bool.not_eq_false, Bool.not_eq_true', Bool.not_eq_false', ne_eq, Bool.and_eq_true, Bool.or_eq_true, Bool.and_eq_false_iff, Bool.or_eq_false_iff, Bool.cond_true, Bool.cond_false] at hc1)
    all_goals (try (exfalso; first | exact absurd hc1 id | omega))
    all_goals (
      first | (have g1 := fr_get (l := l) (i := i) (by omega); have g2 := sizeF_mem (List.getElem_mem (show i < l.length by omega)); have h3 : l[i].2.length ≤ 1099511627776 := (by omega); have ht : l.take (i + 1) = l.take i ++ [l[i]] := (List.take_append_getElem (by omega)).symm; have g4 : (packR l[i]).length ≤ 13 + l[i].2.length := (by unfold packR; split; rw [packB_len]; exact Nat.le_refl _; exact Nat.zero_le _); have g5 := bytes_len (packR l[i])) | (have g1 : i = l.length := by omega)
      )
    all_goals (
      refine aw_exit ?_
      change AW _ _ _ _
      refine aw_seq ?_
      refine aw_region ?_
      refine ao_step rfl rfl rfl (op1_move rfl rfl) ?_
      refine ao_step rfl rfl rfl (op1_move rfl rfl) ?_
      refine ao_step rfl rfl rfl (op1_assign rfl rfl) ?_
      refine ao_step rfl rfl rfl (op1_assign rfl rfl) ?_
      refine ao_nil ?_
      change AW _ _ _ _
      refine aw_ret ?_
      change ∃ xs, _ = some xs ∧ EndOk _ _ _ _
      exact ⟨_, rfl, endOk0 (y := packedPV l) (by rw [packedPV, ← h1, ← h2]; rw [g1, List.take_length] ; exact Wk.tup (.cons Wk.tok (.cons Wk.tok .nil))) (packed_ids _) ⟨rfl, rfl⟩⟩
      )
  rotate_right
  case' _ =>
    intro hc1
    (try (exfalso; exact absurd hc1 (by decide)))
    all_goals (try simp only [decide_eq_true_eq, decide_eq_false_iff_not, beq_iff_eq, beq_eq_false_iff_ne, bne_iff_ne, bne_eq_false_iff_eq, Bool.not_eq_true, Bool.not_eq_false, Bool.not_eq_true', Bool.not_eq_false', ne_eq, Bool.and_eq_true, Bool.or_eq_true, Bool.and_eq_false_iff, Bool.or_eq_false_iff, Bool.cond_true, Bool.cond_false] at hc1)
    all_goals (try (exfalso; first | exact absurd hc1 id | omega))
    all_goals (
      first | (have g1 := fr_get (l := l) (i := i) (by omega); have g2 := sizeF_mem (List.getElem_mem (show i < l.length by omega)); have h3 : l[i].2.length ≤ 1099511627776 := (by omega); have ht : l.take (i + 1) = l.take i ++ [l[i]] := (List.take_append_getElem (by omega)).symm; have g4 : (packR l[i]).length ≤ 13 + l[i].2.length := (by unfold packR; split; rw [packB_len]; exact Nat.le_refl _; exact Nat.zero_le _); have g5 := bytes_len (packR l[i])) | (have g1 : i = l.length := by omega)
      )
    all_goals (
      refine aw_skip ?_
      )
  all_goals (
    change AW _ _ _ _
    refine aw_seq ?_
    refine aw_block ?_
    change AW _ _ _ _
    refine aw_seq ?_
    refine aw_region ?_
    refine ao_step rfl rfl rfl (op1_move rfl rfl) ?_
    refine ao_step rfl rfl rfl (op1_move rfl rfl) ?_
    refine ao_step rfl rfl rfl (op1_idx Try.underlying22 inf_33 rfl rfl rfl (by omega) (by first | rfl | assumption)) ?_
    first | refine ao_step rfl rfl rfl (op1_ldRA inf_33 Try.underlying33 rfl rfl rfl rfl rfl rfl) ?_ | refine ao_step rfl rfl rfl (op1_ldRA inf_33 Try.underlying33 rfl rfl rfl (by first | rfl | exact look_snoc | exact look_set | (simp; done)) (by rfl) (by rfl)) ?_ | refine ao_step rfl rfl rfl (op1_ldPW inf_33 Try.underlying33 rfl rfl rfl rfl rfl) ?_ | refine ao_step rfl rfl rfl (op1_ldPA inf_33 Try.underlying33 rfl rfl rfl rfl rfl) ?_
    refine ao_step rfl rfl rfl (op1_pcall rfl en_11 rfl (by first | exact WkL.refl _ | (repeat (first | exact .nil | refine .cons (Wk.refl _) ?_ | refine .cons Wk.tok ?_ | refine .cons Wk.nil ?_ | refine .cons (Wk.tokE (bytes_tail _ _)) ?_))) (by repeat (first | exact trivial | refine ⟨(by first | rfl | exact bsl_ids _ | exact frs_ids _ | exact fr_ids _ | exact next_ids _ | exact pk_ids _ | exact read_ids _), ?_⟩)) (Pack_c _ h3) (by exact (by first | rfl | exact bsl_ids _ | exact frs_ids _ | exact fr_ids _ | exact next_ids _ | exact pk_ids _ | exact read_ids _))) ?_
    refine ao_step rfl rfl rfl (op1_move rfl rfl) ?_
    refine ao_step rfl rfl rfl (op1_ext rfl rfl rfl) ?_
    refine ao_step rfl rfl rfl (op1_ext rfl rfl rfl) ?_
    refine ao_step rfl rfl rfl (op1_assign rfl rfl) ?_
    refine ao_step rfl rfl rfl (op1_assign rfl rfl) ?_
    refine ao_nil ?_
    change AW _ _ _ _
    refine aw_seq ?_
    refine aw_region ?_
    refine ao_step rfl rfl rfl (op1_move rfl rfl) ?_
    refine ao_step rfl rfl rfl (op1_cmp rfl rfl rfl rfl) ?_
    refine ao_nil ?_
    change AW _ _ _ _
    refine aw_cond rfl ?_ ?_
    rotate_left
    case' _ =>
      intro hc2
      (try (exfalso; exact absurd hc2 (by decide)))
      all_goals (try simp only [decide_eq_true_eq, decide_eq_false_iff_not, beq_iff_eq, beq_eq_false_iff_ne, bne_iff_ne, bne_eq_false_iff_eq, Bool.not_eq_true, Bool.not_eq_false, Bool.not_eq_true', Bool.not_eq_false', ne_eq, Bool.and_eq_true, Bool.or_eq_true, Bool.and_eq_false_iff, Bool.or_eq_false_iff, Bool.cond_true, Bool.cond_false] at hc2)
      all_goals (try (exfalso; first | exact absurd hc2 id | omega))
      all_goals (
        refine aw_skip ?_
        )
    rotate_right
    case' _ =>
      intro hc2
      (try (exfalso; exact absurd hc2 (by decide)))
      all_goals (try simp only [decide_eq_true_eq, decide_eq_false_iff_not, beq_iff_eq, beq_eq_false_iff_ne, bne_iff_ne, bne_eq_false_iff_eq, Bool.not_eq_true, Bool.not_eq_false, Bool.not_eq_true', Bool.not_eq_false', ne_eq, Bool.and_eq_true, Bool.or_eq_true, Bool.and_eq_false_iff, Bool.or_eq_false_iff, Bool.cond_true, Bool.cond_false] at hc2)
      all_goals (try (exfalso; first | exact absurd hc2 id | omega))
      all_goals (
        refine aw_region ?_
        refine ao_step rfl rfl rfl (op1_move rfl rfl) ?_
        refine ao_step rfl rfl rfl (op1_move rfl rfl) ?_
        refine ao_step rfl rfl rfl (op1_move rfl rfl) ?_
        refine ao_step rfl rfl rfl (op1_idx Try.underlying22 inf_33 rfl rfl rfl (by omega) (by first | rfl | assumption)) ?_
        first | refine ao_step rfl rfl rfl (op1_ldRA inf_33 Try.underlying33 rfl rfl rfl rfl rfl rfl) ?_ | refine ao_step rfl rfl rfl (op1_ldRA inf_33 Try.underlying33 rfl rfl rfl (by first | rfl | exact look_snoc | exact look_set | (simp; done)) (by rfl) (by rfl)) ?_ | refine ao_step rfl rfl rfl (op1_ldPW inf_33 Try.underlying33 rfl rfl rfl rfl rfl) ?_ | refine ao_step rfl rfl rfl (op1_ldPA inf_33 Try.underlying33 rfl rfl rfl rfl rfl) ?_
        refine ao_step rfl rfl rfl (op1_bslice (xs := [_]) Try.underlying22 inf_33 rfl rfl rfl (by first | rfl | simp [cok, one1, PV.cells, frPV, bytesPV]) (by first | rfl | exact bytes_one _ | exact bytes_sz _ | (rw [bytes_cut]; first | exact bytes_one _ | exact bytes_sz _) | exact frs_one _ | exact frs_sz _ | simp [cok, one1, PV.cells, frPV, bytesPV]) rfl (by decide) (by first | rfl | simp [cok, one1, PV.cells, frPV, bytesPV, afill, setL, zipN])) ?_
        refine ao_step rfl rfl rfl (op1_app Try.underlying22 inf_33 rfl rfl rfl (by first | rfl | assumption | (simp [bytes_len, numF_len, packH_len, List.length_map]; done)) (fun F g a w hr => src_sl hr rfl Try.underlying22 (by first | rfl | exact bytes_one _ | exact bytes_sz _ | (rw [bytes_cut]; first | exact bytes_one _ | exact bytes_sz _) | exact frs_one _ | exact frs_sz _ | simp [cok, one1, PV.cells, frPV, bytesPV])) (by first | rfl | exact bytes_one _ | exact bytes_sz _ | (rw [bytes_cut]; first | exact bytes_one _ | exact bytes_sz _) | exact frs_one _ | exact frs_sz _ | simp [cok, one1, PV.cells, frPV, bytesPV]) (by first | decide | omega | (simp [bytes_len, numF_len, packH_len, List.length_map]; done) | (simp [bytes_len, numF_len, packH_len, List.length_map]; omega)) (by first | decide | omega | (simp [bytes_len, numF_len, packH_len, List.length_map]; done) | (simp [bytes_len, numF_len, packH_len, List.length_map]; omega))) ?_
        refine ao_step rfl rfl rfl (op1_move rfl rfl) ?_
        refine ao_step rfl rfl rfl (op1_move rfl rfl) ?_
        refine ao_step rfl rfl rfl (op1_app Try.underlying23 inf_5 rfl rfl rfl (by first | rfl | assumption | (simp [bytes_len, numF_len, packH_len, List.length_map]; done)) (fun F g a w hr => src_sl hr rfl Try.underlying23 (by first | rfl | exact bytes_one _ | exact bytes_sz _ | (rw [bytes_cut]; first | exact bytes_one _ | exact bytes_sz _) | exact frs_one _ | exact frs_sz _ | simp [cok, one1, PV.cells, frPV, bytesPV])) (by first | rfl | exact bytes_one _ | exact bytes_sz _ | (rw [bytes_cut]; first | exact bytes_one _ | exact bytes_sz _) | exact frs_one _ | exact frs_sz _ | simp [cok, one1, PV.cells, frPV, bytesPV]) (by first | decide | omega | (simp [bytes_len, numF_len, packH_len, List.length_map]; done) | (simp [bytes_len, numF_len, packH_len, List.length_map]; omega)) (by first | decide | omega | (simp [bytes_len, numF_len, packH_len, List.length_map]; done) | (simp [bytes_len, numF_len, packH_len, List.length_map]; omega))) ?_
        refine ao_step rfl rfl rfl (op1_assign rfl rfl) ?_
        refine ao_step rfl rfl rfl (op1_assign rfl rfl) ?_
        refine ao_nil ?_
        )
    all_goals (
      change AW _ _ _ _
      refine aw_region ?_
      refine ao_step rfl rfl rfl (op1_move rfl rfl) ?_
      first | refine ao_step rfl rfl rfl (op1_add rfl rfl rfl (by constructor <;> omega)) ?_ | refine ao_step rfl rfl rfl (op1_addW rfl rfl rfl) ?_
      refine ao_step rfl rfl rfl (op1_assign rfl rfl) ?_
      refine ao_nil ?_
      )
    )
  all_goals (
    first
      | exact ⟨m - 1, by omega, i + 1, w ++ [l[i]], b ++ packR l[i], _, by omega, by rw [ht, (whole_yes hc2).1, h1], by rw [ht, (whole_yes hc2).2, h2], by rw [← fr_push, ← bytes_app, List.length_append, List.length_append]; rfl, rfl, by rw [← fr_push, ← bytes_app]; repeat (first | exact sub_nil | refine sub_eq rfl (by first | rfl | (rw [bytes_cut]; done) | (simp [bytes_len]; done) | (simp [bytes_len]; omega)) ?_)⟩
      | exact ⟨m - 1, by omega, i + 1, w, b, T, by omega, by rw [ht, (whole_no hc2).1, h1], by rw [ht, (whole_no hc2).2, h2], rfl, rfl, by repeat (first | exact sub_nil | refine sub_eq rfl (by first | rfl | (rw [bytes_cut]; done) | (simp [bytes_len]; done) | (simp [bytes_len]; omega)) ?_)⟩
    )
  all_goals (
    change AW _ _ _ _
    refine aw_seq ?_
    refine aw_region ?_
    refine ao_step rfl rfl rfl (op1_move rfl rfl) ?_
    refine ao_step rfl rfl rfl (op1_move rfl rfl) ?_
    refine ao_step rfl rfl rfl (op1_assign rfl rfl) ?_
    refine ao_step rfl rfl rfl (op1_assign rfl rfl) ?_
    refine ao_nil ?_
    change AW _ _ _ _
    refine aw_ret ?_
    change ∃ xs, _ = some xs ∧ EndOk _ _ _ _
    exact ⟨_, rfl, endOk0 (y := packedPV l) (by rw [packedPV, ← h1, ← h2]; rw [g1, List.take_length] ; exact Wk.tup (.cons Wk.tok (.cons Wk.tok .nil))) (packed_ids _) ⟨rfl, rfl⟩⟩
    )
end Go.Proofs.Ytpmbflnoohpbnaa
