/- Chapter 19: LogBegins, walked. -/
import Derived.Test.YtpmbflnoohpbnaaL6
namespace Go.Proofs.Ytpmbflnoohpbnaa
open Go Aw
set_option linter.unusedVariables false
set_option linter.unusedSimpArgs false
set_option maxRecDepth 8000

theorem cut0 (b : List UInt8) (c : Nat) : [] ++ ((bytesPV b).take c).drop 0 = bytesPV (b.take c) := bytes_cut b 0 c
theorem cutF (l : List Fr) (c : Nat) : ((l.map frPV).take c).drop 0 = (l.take c).map frPV := by simp [List.map_take]
theorem ret_true {b : Bool} (h : b = true) : ARes.ret (tupPV [.v (.bool b)]) = ARes.ret (.v (.bool true)) := by rw [h]; rfl
theorem LogBegins_c (l : List Fr) (cut : Int) (hb : sizeF l ≤ 134217728) (hc : isI64 cut) : PCalls Try.prog 3 [frsl l, pi cut] (.v (.bool true)) := by
  have hpl := packL_len l
  have hlb := bytes_len (packL l)
  have hwl := whole_len l
  have hsl := sizeF_len l
  have hc1' := hc.1
  have hc2' := hc.2
  have hwm : ∀ f, f ∈ wholeF l → 13 + f.2.length ≤ sizeF l := fun f hf => sizeF_mem (List.mem_filter.1 hf).1
  refine acalls_of Try.func3 rfl Try.ntmps3 Try.results3 rfl ?_
  change AW _ _ ⟨[(0, _), (1, _)], _, _⟩ _
  refine aw_seq ?_
  refine aw_region ?_
  refine ao_step rfl rfl rfl (op1_assign rfl rfl) ?_
  refine ao_nil ?_
  change AW _ _ _ _
  refine aw_seq ?_
  refine aw_region ?_
  refine ao_step rfl rfl rfl (op1_move rfl rfl) ?_
  refine ao_step rfl rfl rfl (op1_pcall rfl en_8 rfl (by first | exact WkL.refl _ | (repeat (first | exact .nil | refine .cons (Wk.refl _) ?_ | refine .cons Wk.tok ?_ | refine .cons Wk.nil ?_ | refine .cons (Wk.tokE (by first | exact cut0 _ _ | exact cutF _ _)) ?_))) (by repeat (first | exact trivial | refine ⟨(by first | rfl | exact bsl_ids _ | exact frs_ids _ | exact fr_ids _ | exact next_ids _ | exact pk_ids _ | exact read_ids _ | exact packed_ids _), ?_⟩)) (packed_c l (by omega)) (by exact (by first | rfl | exact bsl_ids _ | exact frs_ids _ | exact fr_ids _ | exact next_ids _ | exact pk_ids _ | exact read_ids _ | exact packed_ids _))) ?_
  refine ao_step rfl rfl rfl (op1_move rfl rfl) ?_
  refine ao_step rfl rfl rfl (op1_ext rfl rfl rfl) ?_
  refine ao_step rfl rfl rfl (op1_ext rfl rfl rfl) ?_
  refine ao_step rfl rfl rfl (op1_assign rfl rfl) ?_
  refine ao_step rfl rfl rfl (op1_assign rfl rfl) ?_
  refine ao_nil ?_
  change AW _ _ _ _
  refine aw_seq ?_
  refine aw_seq ?_
  refine aw_region ?_
  refine ao_step rfl rfl rfl (op1_move rfl rfl) ?_
  refine ao_step rfl rfl rfl (op1_cmp rfl rfl rfl rfl) ?_
  refine ao_step rfl rfl rfl (op1_move rfl rfl) ?_
  refine ao_cases (t := 22) rfl ?_ ?_
  rotate_left
  case' _ =>
    intro hb22
    (try (exfalso; exact absurd hb22 (by decide)))
    all_goals (try simp only [decide_eq_true_eq, decide_eq_false_iff_not, beq_iff_eq, beq_eq_false_iff_ne, bne_iff_ne, bne_eq_false_iff_eq, Bool.not_eq_true, Bool.not_eq_false, Bool.not_eq_true', Bool.not_eq_false', ne_eq, Bool.and_eq_true, Bool.or_eq_true, Bool.and_eq_false_iff, Bool.or_eq_false_iff, Bool.cond_true, Bool.cond_false] at hb22)
    all_goals (try (exfalso; first | exact absurd hb22 id | omega))
  rotate_right
  case' _ =>
    intro hb22
    (try (exfalso; exact absurd hb22 (by decide)))
    all_goals (try simp only [decide_eq_true_eq, decide_eq_false_iff_not, beq_iff_eq, beq_eq_false_iff_ne, bne_iff_ne, bne_eq_false_iff_eq, Bool.not_eq_true, Bool.not_eq_false, Bool.not_eq_true', Bool.not_eq_false', ne_eq, Bool.and_eq_true, Bool.or_eq_true, Bool.and_eq_false_iff, Bool.or_eq_false_iff, Bool.cond_true, Bool.cond_false] at hb22)
    all_goals (try (exfalso; first | exact absurd hb22 id | omega))
  all_goals (first | refine ao_yes rfl rfl rfl rfl rfl rfl (op1_move rfl rfl) ?_ | refine ao_no rfl rfl rfl rfl rfl rfl ?_)
  all_goals (first | refine ao_yes rfl rfl rfl rfl rfl rfl (op1_move rfl rfl) ?_ | refine ao_no rfl rfl rfl rfl rfl rfl ?_)
  all_goals (first | refine ao_yes rfl rfl rfl rfl rfl rfl (op1_len Try.underlying23 rfl rfl) ?_ | refine ao_yes rfl rfl rfl rfl rfl rfl (op1_len0 Try.underlying23 rfl rfl) ?_ | refine ao_no rfl rfl rfl rfl rfl rfl ?_)
  all_goals (first | refine ao_yes rfl rfl rfl rfl rfl rfl (op1_cmp rfl rfl rfl rfl) ?_ | refine ao_no rfl rfl rfl rfl rfl rfl ?_)
  all_goals (first | refine ao_step rfl rfl rfl (op1_pickT rfl rfl rfl) ?_ | refine ao_step rfl rfl rfl (op1_pickF rfl rfl rfl) ?_ | refine ao_step rfl rfl rfl (op1_pickB rfl rfl rfl rfl) ?_)
  all_goals refine ao_nil ?_
  all_goals (
    change AW _ _ _ _
    refine aw_cond rfl ?_ ?_
    rotate_left
    case' _ =>
      intro hc1
      (try (exfalso; exact absurd hc1 (by decide)))
      all_goals (try simp only [decide_eq_true_eq, decide_eq_false_iff_not, beq_iff_eq, beq_eq_false_iff_ne, bne_iff_ne, bne_eq_false_iff_eq, Bool.not_eq_true, Bool.not_eq_false, Bool.not_eq_true', Bool.not_eq_false', ne_eq, Bool.and_eq_true, Bool.or_eq_true, Bool.and_eq_false_iff, Bool.or_eq_false_iff, Bool.cond_true, Bool.cond_false] at hc1)
      all_goals (try (exfalso; first | exact absurd hc1 id | omega))
      all_goals (
        first | (have hcc : cut.toNat ≤ (packL l).length ∧ cut = (cut.toNat : Int) := (by omega); obtain ⟨c, hcl, hce⟩ : ∃ c : Nat, c ≤ (packL l).length ∧ cut = c := ⟨cut.toNat, hcc⟩) | (obtain ⟨c, hcl, hce⟩ : ∃ c : Nat, c ≤ (packL l).length ∧ (((bytesPV (packL l)).length : Nat) : Int) = c := ⟨(packL l).length, Nat.le_refl _, by omega⟩)
        )
      all_goals (
        refine aw_skip ?_
        )
    rotate_right
    case' _ =>
      intro hc1
      (try (exfalso; exact absurd hc1 (by decide)))
      all_goals (try simp only [decide_eq_true_eq, decide_eq_false_iff_not, beq_iff_eq, beq_eq_false_iff_ne, bne_iff_ne, bne_eq_false_iff_eq, Bool.not_eq_true, Bool.not_eq_false, Bool.not_eq_true', Bool.not_eq_false', ne_eq, Bool.and_eq_true, Bool.or_eq_true, Bool.and_eq_false_iff, Bool.or_eq_false_iff, Bool.cond_true, Bool.cond_false] at hc1)
      all_goals (try (exfalso; first | exact absurd hc1 id | omega))
      all_goals (
        first | (have hcc : cut.toNat ≤ (packL l).length ∧ cut = (cut.toNat : Int) := (by omega); obtain ⟨c, hcl, hce⟩ : ∃ c : Nat, c ≤ (packL l).length ∧ cut = c := ⟨cut.toNat, hcc⟩) | (obtain ⟨c, hcl, hce⟩ : ∃ c : Nat, c ≤ (packL l).length ∧ (((bytesPV (packL l)).length : Nat) : Int) = c := ⟨(packL l).length, Nat.le_refl _, by omega⟩)
        )
      all_goals (
        refine aw_region ?_
        refine ao_step rfl rfl rfl (op1_move rfl rfl) ?_
        first | refine ao_step rfl rfl rfl (op1_len Try.underlying23 rfl rfl) ?_ | refine ao_step rfl rfl rfl (op1_len0 Try.underlying23 rfl rfl) ?_
        refine ao_step rfl rfl rfl (op1_assign rfl rfl) ?_
        refine ao_nil ?_
        )
    )
  all_goals (
    change AW _ _ _ _
    refine aw_seq ?_
    refine aw_sub (e' := [(1, pi c), (5, frsl (wholeF l)), (6, bsl (packL l))]) (by refine sub_eq rfl (by show pi _ = pi _; rw [hce]) (sub_cons rfl (sub_cons rfl sub_nil))) ?_
    clear hc1
    obtain ⟨⟨r, e1, e2, e3⟩, e4, e5, e6⟩ := begun_read l c hcl
    have hRl : ((readF ((packL l).take c)).1.map frPV).length = (readF ((packL l).take c)).1.length := List.length_map ..
    have hWl : ((wholeF l).map frPV).length = (wholeF l).length := List.length_map ..
    have hlen : (wholeF l).length = (readF ((packL l).take c)).1.length + r.length := (by rw [e1]; simp)
    have hpt : (readF ((packL l).take c)).1 = (wholeF l).take ((readF ((packL l).take c)).1.map frPV).length := (by rw [hRl, e1, List.take_left])
    have hq : ((readF ((packL l).take c)).2.2 == 0) = ((((readF ((packL l).take c)).2.1 : Nat) : Int) == (c : Int)) := (by rw [Bool.eq_iff_iff]; simp only [beq_iff_eq]; rw [e5]; omega)
    have hL1 : (readF ((packL l).take c)).1.length ≤ 1099511627776 := (by omega)
    have hL2 : ((wholeF l).take ((readF ((packL l).take c)).1.map frPV).length).length ≤ 1099511627776 := (by rw [List.length_take]; omega)
    have hL3 : ∀ f, f ∈ (readF ((packL l).take c)).1 → f.2.length ≤ 1099511627776 := (fun f hf => by have := hwm f (by rw [e1]; simp [hf]); omega)
    have hL4 : ∀ f, f ∈ (wholeF l).take ((readF ((packL l).take c)).1.map frPV).length → f.2.length ≤ 1099511627776 := (fun f hf => by have := hwm f (List.mem_of_mem_take hf); omega)
    refine aw_region ?_
    refine ao_step rfl rfl rfl (op1_bslice (xs := []) Try.underlying23 inf_5 rfl rfl rfl (by first | rfl | simp [cok, one1, PV.cells, frPV, bytesPV]) (by first | rfl | exact bytes_one _ | exact bytes_sz _ | (rw [bytes_cut]; first | exact bytes_one _ | exact bytes_sz _) | exact frs_one _ | exact frs_sz _ | simp [cok, one1, PV.cells, frPV, bytesPV]) rfl (by decide) (by first | rfl | simp [cok, one1, PV.cells, frPV, bytesPV, afill, setL, zipN])) ?_
    refine ao_step rfl rfl rfl (op1_move rfl rfl) ?_
    refine ao_step rfl rfl rfl (op1_move rfl rfl) ?_
    refine ao_step rfl rfl rfl (op1_cut (0) (c) Try.underlying23 inf_5 rfl rfl rfl rfl (by first | rfl | (simp only [cutN, bytes_len, numF_len, packH_len, List.length_map]; omega)) (by first | rfl | (simp only [cutN, bytes_len, numF_len, packH_len, List.length_map]; omega)) (by intro k i h; first | (cases h; done) | (cases h; omega)) (by intro k i h; first | (cases h; done) | (cases h; omega)) (by first | omega | (simp [bytes_len, numF_len, packH_len, List.length_map]; done) | (simp [bytes_len, numF_len, packH_len, List.length_map]; omega)) (by first | omega | (simp [bytes_len, numF_len, packH_len, List.length_map]; done) | (simp [bytes_len, numF_len, packH_len, List.length_map]; omega))) ?_
    refine ao_step rfl rfl rfl (op1_app Try.underlying23 inf_5 rfl rfl rfl (by first | rfl | assumption | (simp [bytes_len, numF_len, packH_len, List.length_map]; done)) (fun F g a w hr => src_sl hr rfl Try.underlying23 (by first | rfl | exact bytes_one _ | exact bytes_sz _ | (rw [bytes_cut]; first | exact bytes_one _ | exact bytes_sz _) | exact frs_one _ | exact frs_sz _ | simp [cok, one1, PV.cells, frPV, bytesPV])) (by first | rfl | exact bytes_one _ | exact bytes_sz _ | (rw [bytes_cut]; first | exact bytes_one _ | exact bytes_sz _) | exact frs_one _ | exact frs_sz _ | simp [cok, one1, PV.cells, frPV, bytesPV]) (by first | decide | omega | (simp [bytes_len, numF_len, packH_len, List.length_map]; done) | (simp [bytes_len, numF_len, packH_len, List.length_map]; omega)) (by first | decide | omega | (simp [bytes_len, numF_len, packH_len, List.length_map]; done) | (simp [bytes_len, numF_len, packH_len, List.length_map]; omega))) ?_
    refine ao_step rfl rfl rfl (op1_pcall rfl en_9 rfl (by first | exact WkL.refl _ | (repeat (first | exact .nil | refine .cons (Wk.refl _) ?_ | refine .cons Wk.tok ?_ | refine .cons Wk.nil ?_ | refine .cons (Wk.tokE (by first | exact cut0 _ _ | exact cutF _ _)) ?_))) (by repeat (first | exact trivial | refine ⟨(by first | rfl | exact bsl_ids _ | exact frs_ids _ | exact fr_ids _ | exact next_ids _ | exact pk_ids _ | exact read_ids _ | exact packed_ids _), ?_⟩)) (Read_c ((packL l).take c) (by simp; omega)) (by exact (by first | rfl | exact bsl_ids _ | exact frs_ids _ | exact fr_ids _ | exact next_ids _ | exact pk_ids _ | exact read_ids _ | exact packed_ids _))) ?_
    refine ao_step rfl rfl rfl (op1_move rfl rfl) ?_
    refine ao_step rfl rfl rfl (op1_ext rfl rfl rfl) ?_
    refine ao_step rfl rfl rfl (op1_ext rfl rfl rfl) ?_
    refine ao_step rfl rfl rfl (op1_ext rfl rfl rfl) ?_
    refine ao_step rfl rfl rfl (op1_assign rfl rfl) ?_
    refine ao_step rfl rfl rfl (op1_assign rfl rfl) ?_
    refine ao_step rfl rfl rfl (op1_assign rfl rfl) ?_
    refine ao_nil ?_
    change AW _ _ _ _
    refine aw_seq ?_
    refine aw_seq ?_
    refine aw_region ?_
    refine ao_step rfl rfl rfl (op1_move rfl rfl) ?_
    first | refine ao_step rfl rfl rfl (op1_len Try.underlying22 rfl rfl) ?_ | refine ao_step rfl rfl rfl (op1_len0 Try.underlying22 rfl rfl) ?_
    refine ao_step rfl rfl rfl (op1_move rfl rfl) ?_
    first | refine ao_step rfl rfl rfl (op1_len Try.underlying22 rfl rfl) ?_ | refine ao_step rfl rfl rfl (op1_len0 Try.underlying22 rfl rfl) ?_
    refine ao_step rfl rfl rfl (op1_cmp rfl rfl rfl rfl) ?_
    refine ao_step rfl rfl rfl (op1_move rfl rfl) ?_
    refine ao_cases (t := 45) rfl ?_ ?_
    rotate_left
    case' _ =>
      intro hb45
      (try (exfalso; exact absurd hb45 (by decide)))
      all_goals (try simp only [decide_eq_true_eq, decide_eq_false_iff_not, beq_iff_eq, beq_eq_false_iff_ne, bne_iff_ne, bne_eq_false_iff_eq, Bool.not_eq_true, Bool.not_eq_false, Bool.not_eq_true', Bool.not_eq_false', ne_eq, Bool.and_eq_true, Bool.or_eq_true, Bool.and_eq_false_iff, Bool.or_eq_false_iff, Bool.cond_true, Bool.cond_false] at hb45)
      all_goals (try (exfalso; first | exact absurd hb45 id | omega))
    rotate_right
    case' _ =>
      intro hb45
      (try (exfalso; exact absurd hb45 (by decide)))
      all_goals (try simp only [decide_eq_true_eq, decide_eq_false_iff_not, beq_iff_eq, beq_eq_false_iff_ne, bne_iff_ne, bne_eq_false_iff_eq, Bool.not_eq_true, Bool.not_eq_false, Bool.not_eq_true', Bool.not_eq_false', ne_eq, Bool.and_eq_true, Bool.or_eq_true, Bool.and_eq_false_iff, Bool.or_eq_false_iff, Bool.cond_true, Bool.cond_false] at hb45)
      all_goals (try (exfalso; first | exact absurd hb45 id | omega))
    all_goals (first | refine ao_yes rfl rfl rfl rfl rfl rfl (op1_move rfl rfl) ?_ | refine ao_no rfl rfl rfl rfl rfl rfl ?_)
    all_goals (first | refine ao_yes rfl rfl rfl rfl rfl rfl (op1_move rfl rfl) ?_ | refine ao_no rfl rfl rfl rfl rfl rfl ?_)
    all_goals (first | refine ao_yes rfl rfl rfl rfl rfl rfl (op1_move rfl rfl) ?_ | refine ao_no rfl rfl rfl rfl rfl rfl ?_)
    all_goals (first | refine ao_yes rfl rfl rfl rfl rfl rfl (op1_len Try.underlying22 rfl rfl) ?_ | refine ao_yes rfl rfl rfl rfl rfl rfl (op1_len0 Try.underlying22 rfl rfl) ?_ | refine ao_no rfl rfl rfl rfl rfl rfl ?_)
    all_goals (first | refine ao_yes rfl rfl rfl rfl rfl rfl (op1_cut (0) (((readF ((packL l).take c)).1.map frPV).length) Try.underlying22 inf_33 rfl rfl rfl rfl (by first | rfl | (simp only [cutN, bytes_len, numF_len, packH_len, List.length_map]; omega)) (by first | rfl | (simp only [cutN, bytes_len, numF_len, packH_len, List.length_map]; omega)) (by intro k i h; first | (cases h; done) | (cases h; omega)) (by intro k i h; first | (cases h; done) | (cases h; omega)) (by first | omega | (simp [bytes_len, numF_len, packH_len, List.length_map]; done) | (simp [bytes_len, numF_len, packH_len, List.length_map]; omega)) (by first | omega | (simp [bytes_len, numF_len, packH_len, List.length_map]; done) | (simp [bytes_len, numF_len, packH_len, List.length_map]; omega))) ?_ | refine ao_no rfl rfl rfl rfl rfl rfl ?_)
    all_goals (first | refine ao_yes rfl rfl rfl rfl rfl rfl (op1_pcall rfl en_10 rfl (by first | exact WkL.refl _ | (repeat (first | exact .nil | refine .cons (Wk.refl _) ?_ | refine .cons Wk.tok ?_ | refine .cons Wk.nil ?_ | refine .cons (Wk.tokE (by first | exact cut0 _ _ | exact cutF _ _)) ?_))) (by repeat (first | exact trivial | refine ⟨(by first | rfl | exact bsl_ids _ | exact frs_ids _ | exact fr_ids _ | exact next_ids _ | exact pk_ids _ | exact read_ids _ | exact packed_ids _), ?_⟩)) (frames_c (readF ((packL l).take c)).1 ((wholeF l).take ((readF ((packL l).take c)).1.map frPV).length) hL1 hL2 hL3 hL4) (by exact (by first | rfl | exact bsl_ids _ | exact frs_ids _ | exact fr_ids _ | exact next_ids _ | exact pk_ids _ | exact read_ids _ | exact packed_ids _))) ?_ | refine ao_no rfl rfl rfl rfl rfl rfl ?_)
    all_goals (first | refine ao_yes rfl rfl rfl rfl rfl rfl (op1_not rfl rfl) ?_ | refine ao_no rfl rfl rfl rfl rfl rfl ?_)
    all_goals (first | refine ao_step rfl rfl rfl (op1_pickT rfl rfl rfl) ?_ | refine ao_step rfl rfl rfl (op1_pickF rfl rfl rfl) ?_ | refine ao_step rfl rfl rfl (op1_pickB rfl rfl rfl rfl) ?_)
    all_goals (refine ao_step rfl rfl rfl (op1_move rfl rfl) ?_)
    all_goals (
      refine ao_cases (t := 54) rfl ?_ ?_
      rotate_left
      case' _ =>
        intro hb54
        (try (exfalso; exact absurd hb54 (by decide)))
        all_goals (try simp only [decide_eq_true_eq, decide_eq_false_iff_not, beq_iff_eq, beq_eq_false_iff_ne, bne_iff_ne, bne_eq_false_iff_eq, Bool.not_eq_true, Bool.not_eq_false, Bool.not_eq_true', Bool.not_eq_false', ne_eq, Bool.and_eq_true, Bool.or_eq_true, Bool.and_eq_false_iff, Bool.or_eq_false_iff, Bool.cond_true, Bool.cond_false] at hb54)
        all_goals (try (exfalso; first | exact absurd hb54 id | omega))
        all_goals (try (exact absurd hpt hb54))
      rotate_right
      case' _ =>
        intro hb54
        (try (exfalso; exact absurd hb54 (by decide)))
        all_goals (try simp only [decide_eq_true_eq, decide_eq_false_iff_not, beq_iff_eq, beq_eq_false_iff_ne, bne_iff_ne, bne_eq_false_iff_eq, Bool.not_eq_true, Bool.not_eq_false, Bool.not_eq_true', Bool.not_eq_false', ne_eq, Bool.and_eq_true, Bool.or_eq_true, Bool.and_eq_false_iff, Bool.or_eq_false_iff, Bool.cond_true, Bool.cond_false] at hb54)
        all_goals (try (exfalso; first | exact absurd hb54 id | omega))
        all_goals (try (exact absurd hpt hb54))
      )
    all_goals (first | refine ao_yes rfl rfl rfl rfl rfl rfl (op1_move rfl rfl) ?_ | refine ao_no rfl rfl rfl rfl rfl rfl ?_)
    all_goals (first | refine ao_yes rfl rfl rfl rfl rfl rfl (op1_move rfl rfl) ?_ | refine ao_no rfl rfl rfl rfl rfl rfl ?_)
    all_goals (first | refine ao_yes rfl rfl rfl rfl rfl rfl (op1_cmp rfl rfl rfl rfl) ?_ | refine ao_no rfl rfl rfl rfl rfl rfl ?_)
    all_goals (first | refine ao_step rfl rfl rfl (op1_pickT rfl rfl rfl) ?_ | refine ao_step rfl rfl rfl (op1_pickF rfl rfl rfl) ?_ | refine ao_step rfl rfl rfl (op1_pickB rfl rfl rfl rfl) ?_)
    all_goals (refine ao_step rfl rfl rfl (op1_move rfl rfl) ?_)
    all_goals (
      refine ao_cases (t := 59) rfl ?_ ?_
      rotate_left
      case' _ =>
        intro hb59
        (try (exfalso; exact absurd hb59 (by decide)))
        all_goals (try simp only [decide_eq_true_eq, decide_eq_false_iff_not, beq_iff_eq, beq_eq_false_iff_ne, bne_iff_ne, bne_eq_false_iff_eq, Bool.not_eq_true, Bool.not_eq_false, Bool.not_eq_true', Bool.not_eq_false', ne_eq, Bool.and_eq_true, Bool.or_eq_true, Bool.and_eq_false_iff, Bool.or_eq_false_iff, Bool.cond_true, Bool.cond_false] at hb59)
        all_goals (try (exfalso; first | exact absurd hb59 id | omega))
      rotate_right
      case' _ =>
        intro hb59
        (try (exfalso; exact absurd hb59 (by decide)))
        all_goals (try simp only [decide_eq_true_eq, decide_eq_false_iff_not, beq_iff_eq, beq_eq_false_iff_ne, bne_iff_ne, bne_eq_false_iff_eq, Bool.not_eq_true, Bool.not_eq_false, Bool.not_eq_true', Bool.not_eq_false', ne_eq, Bool.and_eq_true, Bool.or_eq_true, Bool.and_eq_false_iff, Bool.or_eq_false_iff, Bool.cond_true, Bool.cond_false] at hb59)
        all_goals (try (exfalso; first | exact absurd hb59 id | omega))
      )
    all_goals (first | refine ao_yes rfl rfl rfl rfl rfl rfl (op1_move rfl rfl) ?_ | refine ao_no rfl rfl rfl rfl rfl rfl ?_)
    all_goals (first | refine ao_yes rfl rfl rfl rfl rfl rfl (op1_cmp rfl rfl rfl rfl) ?_ | refine ao_no rfl rfl rfl rfl rfl rfl ?_)
    all_goals (first | refine ao_yes rfl rfl rfl rfl rfl rfl (op1_move rfl rfl) ?_ | refine ao_no rfl rfl rfl rfl rfl rfl ?_)
    all_goals (first | refine ao_yes rfl rfl rfl rfl rfl rfl (op1_move rfl rfl) ?_ | refine ao_no rfl rfl rfl rfl rfl rfl ?_)
    all_goals (first | refine ao_yes rfl rfl rfl rfl rfl rfl (op1_cmp rfl rfl rfl rfl) ?_ | refine ao_no rfl rfl rfl rfl rfl rfl ?_)
    all_goals (first | refine ao_yes rfl rfl rfl rfl rfl rfl (op1_neB Try.underlying4 rfl rfl rfl) ?_ | refine ao_no rfl rfl rfl rfl rfl rfl ?_)
    all_goals (first | refine ao_step rfl rfl rfl (op1_pickT rfl rfl rfl) ?_ | refine ao_step rfl rfl rfl (op1_pickF rfl rfl rfl) ?_ | refine ao_step rfl rfl rfl (op1_pickB rfl rfl rfl rfl) ?_)
    all_goals (refine ao_step rfl rfl rfl (op1_move rfl rfl) ?_)
    all_goals (
      refine ao_cases (t := 67) rfl ?_ ?_
      rotate_left
      case' _ =>
        intro hb67
        (try (exfalso; exact absurd hb67 (by decide)))
        all_goals (try simp only [decide_eq_true_eq, decide_eq_false_iff_not, beq_iff_eq, beq_eq_false_iff_ne, bne_iff_ne, bne_eq_false_iff_eq, Bool.not_eq_true, Bool.not_eq_false, Bool.not_eq_true', Bool.not_eq_false', ne_eq, Bool.and_eq_true, Bool.or_eq_true, Bool.and_eq_false_iff, Bool.or_eq_false_iff, Bool.cond_true, Bool.cond_false] at hb67)
        all_goals (try (exfalso; first | exact absurd hb67 id | omega))
        all_goals (try (exact absurd hq hb67))
      rotate_right
      case' _ =>
        intro hb67
        (try (exfalso; exact absurd hb67 (by decide)))
        all_goals (try simp only [decide_eq_true_eq, decide_eq_false_iff_not, beq_iff_eq, beq_eq_false_iff_ne, bne_iff_ne, bne_eq_false_iff_eq, Bool.not_eq_true, Bool.not_eq_false, Bool.not_eq_true', Bool.not_eq_false', ne_eq, Bool.and_eq_true, Bool.or_eq_true, Bool.and_eq_false_iff, Bool.or_eq_false_iff, Bool.cond_true, Bool.cond_false] at hb67)
        all_goals (try (exfalso; first | exact absurd hb67 id | omega))
        all_goals (try (exact absurd hq hb67))
      )
    all_goals (first | refine ao_yes rfl rfl rfl rfl rfl rfl (op1_move rfl rfl) ?_ | refine ao_no rfl rfl rfl rfl rfl rfl ?_)
    all_goals (first | refine ao_yes rfl rfl rfl rfl rfl rfl (op1_cmp rfl rfl rfl rfl) ?_ | refine ao_no rfl rfl rfl rfl rfl rfl ?_)
    all_goals (first | refine ao_yes rfl rfl rfl rfl rfl rfl (op1_move rfl rfl) ?_ | refine ao_no rfl rfl rfl rfl rfl rfl ?_)
    all_goals (
      refine ao_cases (t := 70) rfl ?_ ?_
      rotate_left
      case' _ =>
        intro hb70
        (try (exfalso; exact absurd hb70 (by decide)))
        all_goals (try simp only [decide_eq_true_eq, decide_eq_false_iff_not, beq_iff_eq, beq_eq_false_iff_ne, bne_iff_ne, bne_eq_false_iff_eq, Bool.not_eq_true, Bool.not_eq_false, Bool.not_eq_true', Bool.not_eq_false', ne_eq, Bool.and_eq_true, Bool.or_eq_true, Bool.and_eq_false_iff, Bool.or_eq_false_iff, Bool.cond_true, Bool.cond_false] at hb70)
        all_goals (try (exfalso; first | exact absurd hb70 id | omega))
      rotate_right
      case' _ =>
        intro hb70
        (try (exfalso; exact absurd hb70 (by decide)))
        all_goals (try simp only [decide_eq_true_eq, decide_eq_false_iff_not, beq_iff_eq, beq_eq_false_iff_ne, bne_iff_ne, bne_eq_false_iff_eq, Bool.not_eq_true, Bool.not_eq_false, Bool.not_eq_true', Bool.not_eq_false', ne_eq, Bool.and_eq_true, Bool.or_eq_true, Bool.and_eq_false_iff, Bool.or_eq_false_iff, Bool.cond_true, Bool.cond_false] at hb70)
        all_goals (try (exfalso; first | exact absurd hb70 id | omega))
      )
    all_goals (first | refine ao_yes rfl rfl rfl rfl rfl rfl (op1_move rfl rfl) ?_ | refine ao_no rfl rfl rfl rfl rfl rfl ?_)
    all_goals (first | refine ao_yes rfl rfl rfl rfl rfl rfl (op1_cmp rfl rfl rfl rfl) ?_ | refine ao_no rfl rfl rfl rfl rfl rfl ?_)
    all_goals (first | refine ao_yes rfl rfl rfl rfl rfl rfl (op1_pickT rfl rfl rfl) ?_ | refine ao_yes rfl rfl rfl rfl rfl rfl (op1_pickF rfl rfl rfl) ?_ | refine ao_yes rfl rfl rfl rfl rfl rfl (op1_pickB rfl rfl rfl rfl) ?_ | refine ao_no rfl rfl rfl rfl rfl rfl ?_)
    all_goals (first | refine ao_step rfl rfl rfl (op1_pickT rfl rfl rfl) ?_ | refine ao_step rfl rfl rfl (op1_pickF rfl rfl rfl) ?_ | refine ao_step rfl rfl rfl (op1_pickB rfl rfl rfl rfl) ?_)
    all_goals refine ao_nil ?_
    all_goals (
      change AW _ _ _ _
      refine aw_cond rfl ?_ ?_
      rotate_left
      case' _ =>
        intro hc2
        (try (exfalso; exact absurd hc2 (by decide)))
        all_goals (try simp only [decide_eq_true_eq, decide_eq_false_iff_not, beq_iff_eq, beq_eq_false_iff_ne, bne_iff_ne, bne_eq_false_iff_eq, Bool.not_eq_true, Bool.not_eq_false, Bool.not_eq_true', Bool.not_eq_false', ne_eq, Bool.and_eq_true, Bool.or_eq_true, Bool.and_eq_false_iff, Bool.or_eq_false_iff, Bool.cond_true, Bool.cond_false] at hc2)
        all_goals (try (exfalso; first | exact absurd hc2 id | omega))
        all_goals (
          refine aw_skip ?_
          )
      rotate_right
      case' _ =>
        intro hc2
        (try (exfalso; exact absurd hc2 (by decide)))
        all_goals (try simp only [decide_eq_true_eq, decide_eq_false_iff_not, beq_iff_eq, beq_eq_false_iff_ne, bne_iff_ne, bne_eq_false_iff_eq, Bool.not_eq_true, Bool.not_eq_false, Bool.not_eq_true', Bool.not_eq_false', ne_eq, Bool.and_eq_true, Bool.or_eq_true, Bool.and_eq_false_iff, Bool.or_eq_false_iff, Bool.cond_true, Bool.cond_false] at hc2)
        all_goals (try (exfalso; first | exact absurd hc2 id | omega))
        all_goals (
          refine aw_seq ?_
          refine aw_region ?_
          refine ao_step rfl rfl rfl (op1_assign rfl rfl) ?_
          refine ao_nil ?_
          change AW _ _ _ _
          refine aw_ret ?_
          change ∃ xs, _ = some xs ∧ EndOk _ _ _ _
          exact ⟨_, rfl, endOk0 (Wk.refl _) rfl ⟨ret_true (by first | rfl | exact decide_eq_true (by omega)), rfl⟩⟩
          )
      )
    all_goals (
      change AW _ _ _ _
      refine aw_seq ?_
      refine aw_seq ?_
      refine aw_region ?_
      refine ao_step rfl rfl rfl (op1_move rfl rfl) ?_
      first | refine ao_step rfl rfl rfl (op1_len Try.underlying22 rfl rfl) ?_ | refine ao_step rfl rfl rfl (op1_len0 Try.underlying22 rfl rfl) ?_
      refine ao_step rfl rfl rfl (op1_move rfl rfl) ?_
      first | refine ao_step rfl rfl rfl (op1_len Try.underlying22 rfl rfl) ?_ | refine ao_step rfl rfl rfl (op1_len0 Try.underlying22 rfl rfl) ?_
      refine ao_step rfl rfl rfl (op1_cmp rfl rfl rfl rfl) ?_
      refine ao_nil ?_
      change AW _ _ _ _
      refine aw_cond rfl ?_ ?_
      rotate_left
      case' _ =>
        intro hc3
        (try (exfalso; exact absurd hc3 (by decide)))
        all_goals (try simp only [decide_eq_true_eq, decide_eq_false_iff_not, beq_iff_eq, beq_eq_false_iff_ne, bne_iff_ne, bne_eq_false_iff_eq, Bool.not_eq_true, Bool.not_eq_false, Bool.not_eq_true', Bool.not_eq_false', ne_eq, Bool.and_eq_true, Bool.or_eq_true, Bool.and_eq_false_iff, Bool.or_eq_false_iff, Bool.cond_true, Bool.cond_false] at hc3)
        all_goals (try (exfalso; first | exact absurd hc3 id | omega))
        all_goals (
          first | (have hr0 : r ≠ [] := (by rintro rfl; simp at hlen; omega); obtain ⟨f, r', rfl⟩ := List.exists_cons_of_ne_nil hr0; have gi : ((wholeF l).map frPV)[((readF ((packL l).take c)).1.map frPV).length]? = some (frPV f) := (by rw [e1]; simp); have hfm : f ∈ wholeF l := (by rw [e1]; simp); have hfp := whole_ok l f hfm; have hfl : f.2.length ≤ 1099511627776 := (by have := hwm f hfm; omega); have hx := e3 f r' rfl; have hpr : packR f = packB f := (by rw [packR, if_pos hfp]); have hbl : (bytesPV (packR f)).length = 13 + f.2.length := (by rw [bytes_len, hpr, packB_len]); rw [packB_len] at hx; have hfz := hwm f hfm) | (have hr0 : r = [] := List.length_eq_zero_iff.1 (by omega))
          )
        all_goals (
          refine aw_skip ?_
          )
      rotate_right
      case' _ =>
        intro hc3
        (try (exfalso; exact absurd hc3 (by decide)))
        all_goals (try simp only [decide_eq_true_eq, decide_eq_false_iff_not, beq_iff_eq, beq_eq_false_iff_ne, bne_iff_ne, bne_eq_false_iff_eq, Bool.not_eq_true, Bool.not_eq_false, Bool.not_eq_true', Bool.not_eq_false', ne_eq, Bool.and_eq_true, Bool.or_eq_true, Bool.and_eq_false_iff, Bool.or_eq_false_iff, Bool.cond_true, Bool.cond_false] at hc3)
        all_goals (try (exfalso; first | exact absurd hc3 id | omega))
        all_goals (
          first | (have hr0 : r ≠ [] := (by rintro rfl; simp at hlen; omega); obtain ⟨f, r', rfl⟩ := List.exists_cons_of_ne_nil hr0; have gi : ((wholeF l).map frPV)[((readF ((packL l).take c)).1.map frPV).length]? = some (frPV f) := (by rw [e1]; simp); have hfm : f ∈ wholeF l := (by rw [e1]; simp); have hfp := whole_ok l f hfm; have hfl : f.2.length ≤ 1099511627776 := (by have := hwm f hfm; omega); have hx := e3 f r' rfl; have hpr : packR f = packB f := (by rw [packR, if_pos hfp]); have hbl : (bytesPV (packR f)).length = 13 + f.2.length := (by rw [bytes_len, hpr, packB_len]); rw [packB_len] at hx; have hfz := hwm f hfm) | (have hr0 : r = [] := List.length_eq_zero_iff.1 (by omega))
          )
        all_goals (
          refine aw_seq ?_
          refine aw_region ?_
          refine ao_step rfl rfl rfl (op1_move rfl rfl) ?_
          refine ao_step rfl rfl rfl (op1_move rfl rfl) ?_
          first | refine ao_step rfl rfl rfl (op1_len Try.underlying22 rfl rfl) ?_ | refine ao_step rfl rfl rfl (op1_len0 Try.underlying22 rfl rfl) ?_
          refine ao_step rfl rfl rfl (op1_idx Try.underlying22 inf_33 rfl rfl rfl (by omega) (by first | rfl | assumption)) ?_
          first | refine ao_step rfl rfl rfl (op1_ldRA inf_33 Try.underlying33 rfl rfl rfl rfl rfl rfl) ?_ | refine ao_step rfl rfl rfl (op1_ldRA inf_33 Try.underlying33 rfl rfl rfl (by first | rfl | exact look_snoc | exact look_set | (simp; done)) (by rfl) (by rfl)) ?_ | refine ao_step rfl rfl rfl (op1_ldPW inf_33 Try.underlying33 rfl rfl rfl rfl rfl) ?_ | refine ao_step rfl rfl rfl (op1_ldPA inf_33 Try.underlying33 rfl rfl rfl rfl rfl) ?_
          refine ao_step rfl rfl rfl (op1_pcall rfl en_11 rfl (by first | exact WkL.refl _ | (repeat (first | exact .nil | refine .cons (Wk.refl _) ?_ | refine .cons Wk.tok ?_ | refine .cons Wk.nil ?_ | refine .cons (Wk.tokE (by first | exact cut0 _ _ | exact cutF _ _)) ?_))) (by repeat (first | exact trivial | refine ⟨(by first | rfl | exact bsl_ids _ | exact frs_ids _ | exact fr_ids _ | exact next_ids _ | exact pk_ids _ | exact read_ids _ | exact packed_ids _), ?_⟩)) (Pack_c f hfl) (by exact (by first | rfl | exact bsl_ids _ | exact frs_ids _ | exact fr_ids _ | exact next_ids _ | exact pk_ids _ | exact read_ids _ | exact packed_ids _))) ?_
          refine ao_step rfl rfl rfl (op1_move rfl rfl) ?_
          refine ao_step rfl rfl rfl (op1_ext rfl rfl rfl) ?_
          refine ao_step rfl rfl rfl (op1_ext rfl rfl rfl) ?_
          refine ao_step rfl rfl rfl (op1_assign rfl rfl) ?_
          refine ao_step rfl rfl rfl (op1_assign rfl rfl) ?_
          refine ao_nil ?_
          change AW _ _ _ _
          refine aw_seq ?_
          refine aw_region ?_
          refine ao_step rfl rfl rfl (op1_move rfl rfl) ?_
          refine ao_step rfl rfl rfl (op1_move rfl rfl) ?_
          first | refine ao_step rfl rfl rfl (op1_len Try.underlying23 rfl rfl) ?_ | refine ao_step rfl rfl rfl (op1_len0 Try.underlying23 rfl rfl) ?_
          first | refine ao_step rfl rfl rfl (op1_add rfl rfl rfl (by constructor <;> omega)) ?_ | refine ao_step rfl rfl rfl (op1_addW rfl rfl rfl) ?_
          refine ao_step rfl rfl rfl (op1_move rfl rfl) ?_
          refine ao_step rfl rfl rfl (op1_cmp rfl rfl rfl rfl) ?_
          refine ao_step rfl rfl rfl (op1_assign rfl rfl) ?_
          refine ao_nil ?_
          change AW _ _ _ _
          refine aw_ret ?_
          change ∃ xs, _ = some xs ∧ EndOk _ _ _ _
          exact ⟨_, rfl, endOk0 (Wk.refl _) rfl ⟨ret_true (by first | rfl | exact decide_eq_true (by omega)), rfl⟩⟩
          )
      all_goals (
        change AW _ _ _ _
        refine aw_seq ?_
        refine aw_region ?_
        refine ao_step rfl rfl rfl (op1_pcall rfl en_9 rfl (by first | exact WkL.refl _ | (repeat (first | exact .nil | refine .cons (Wk.refl _) ?_ | refine .cons Wk.tok ?_ | refine .cons Wk.nil ?_ | refine .cons (Wk.tokE (by first | exact cut0 _ _ | exact cutF _ _)) ?_))) (by repeat (first | exact trivial | refine ⟨(by first | rfl | exact bsl_ids _ | exact frs_ids _ | exact fr_ids _ | exact next_ids _ | exact pk_ids _ | exact read_ids _ | exact packed_ids _), ?_⟩)) (Read_c [] (by simp)) (by exact (by first | rfl | exact bsl_ids _ | exact frs_ids _ | exact fr_ids _ | exact next_ids _ | exact pk_ids _ | exact read_ids _ | exact packed_ids _))) ?_
        refine ao_step rfl rfl rfl (op1_move rfl rfl) ?_
        refine ao_step rfl rfl rfl (op1_ext rfl rfl rfl) ?_
        refine ao_step rfl rfl rfl (op1_ext rfl rfl rfl) ?_
        refine ao_step rfl rfl rfl (op1_ext rfl rfl rfl) ?_
        refine ao_step rfl rfl rfl (op1_assign rfl rfl) ?_
        refine ao_step rfl rfl rfl (op1_assign rfl rfl) ?_
        refine ao_step rfl rfl rfl (op1_assign rfl rfl) ?_
        refine ao_nil ?_
        change AW _ _ _ _
        refine aw_seq ?_
        refine aw_region ?_
        refine ao_step rfl rfl rfl (op1_move rfl rfl) ?_
        refine ao_step rfl rfl rfl (op1_cmp rfl rfl rfl rfl) ?_
        refine ao_step rfl rfl rfl (op1_move rfl rfl) ?_
        refine ao_cases (t := 102) rfl ?_ ?_
        rotate_left
        case' _ =>
          intro hb102
          (try (exfalso; exact absurd hb102 (by decide)))
          all_goals (try simp only [decide_eq_true_eq, decide_eq_false_iff_not, beq_iff_eq, beq_eq_false_iff_ne, bne_iff_ne, bne_eq_false_iff_eq, Bool.not_eq_true, Bool.not_eq_false, Bool.not_eq_true', Bool.not_eq_false', ne_eq, Bool.and_eq_true, Bool.or_eq_true, Bool.and_eq_false_iff, Bool.or_eq_false_iff, Bool.cond_true, Bool.cond_false] at hb102)
          all_goals (try (exfalso; first | exact absurd hb102 id | omega))
          all_goals (try (rcases e2 with h | h; exact absurd h hb102; exact absurd hr0 h))
        rotate_right
        case' _ =>
          intro hb102
          (try (exfalso; exact absurd hb102 (by decide)))
          all_goals (try simp only [decide_eq_true_eq, decide_eq_false_iff_not, beq_iff_eq, beq_eq_false_iff_ne, bne_iff_ne, bne_eq_false_iff_eq, Bool.not_eq_true, Bool.not_eq_false, Bool.not_eq_true', Bool.not_eq_false', ne_eq, Bool.and_eq_true, Bool.or_eq_true, Bool.and_eq_false_iff, Bool.or_eq_false_iff, Bool.cond_true, Bool.cond_false] at hb102)
          all_goals (try (exfalso; first | exact absurd hb102 id | omega))
          all_goals (try (rcases e2 with h | h; exact absurd h hb102; exact absurd hr0 h))
        all_goals (first | refine ao_yes rfl rfl rfl rfl rfl rfl (op1_move rfl rfl) ?_ | refine ao_no rfl rfl rfl rfl rfl rfl ?_)
        all_goals (first | refine ao_yes rfl rfl rfl rfl rfl rfl (op1_len Try.underlying22 rfl rfl) ?_ | refine ao_yes rfl rfl rfl rfl rfl rfl (op1_len0 Try.underlying22 rfl rfl) ?_ | refine ao_no rfl rfl rfl rfl rfl rfl ?_)
        all_goals (first | refine ao_yes rfl rfl rfl rfl rfl rfl (op1_cmp rfl rfl rfl rfl) ?_ | refine ao_no rfl rfl rfl rfl rfl rfl ?_)
        all_goals (first | refine ao_step rfl rfl rfl (op1_pickT rfl rfl rfl) ?_ | refine ao_step rfl rfl rfl (op1_pickF rfl rfl rfl) ?_ | refine ao_step rfl rfl rfl (op1_pickB rfl rfl rfl rfl) ?_)
        all_goals (refine ao_step rfl rfl rfl (op1_move rfl rfl) ?_)
        all_goals (
          refine ao_cases (t := 107) rfl ?_ ?_
          rotate_left
          case' _ =>
            intro hb107
            (try (exfalso; exact absurd hb107 (by decide)))
            all_goals (try simp only [decide_eq_true_eq, decide_eq_false_iff_not, beq_iff_eq, beq_eq_false_iff_ne, bne_iff_ne, bne_eq_false_iff_eq, Bool.not_eq_true, Bool.not_eq_false, Bool.not_eq_true', Bool.not_eq_false', ne_eq, Bool.and_eq_true, Bool.or_eq_true, Bool.and_eq_false_iff, Bool.or_eq_false_iff, Bool.cond_true, Bool.cond_false] at hb107)
            all_goals (try (exfalso; first | exact absurd hb107 id | omega))
            all_goals (try (exact absurd rfl hb107))
          rotate_right
          case' _ =>
            intro hb107
            (try (exfalso; exact absurd hb107 (by decide)))
            all_goals (try simp only [decide_eq_true_eq, decide_eq_false_iff_not, beq_iff_eq, beq_eq_false_iff_ne, bne_iff_ne, bne_eq_false_iff_eq, Bool.not_eq_true, Bool.not_eq_false, Bool.not_eq_true', Bool.not_eq_false', ne_eq, Bool.and_eq_true, Bool.or_eq_true, Bool.and_eq_false_iff, Bool.or_eq_false_iff, Bool.cond_true, Bool.cond_false] at hb107)
            all_goals (try (exfalso; first | exact absurd hb107 id | omega))
            all_goals (try (exact absurd rfl hb107))
          )
        all_goals (first | refine ao_yes rfl rfl rfl rfl rfl rfl (op1_move rfl rfl) ?_ | refine ao_no rfl rfl rfl rfl rfl rfl ?_)
        all_goals (first | refine ao_yes rfl rfl rfl rfl rfl rfl (op1_cmp rfl rfl rfl rfl) ?_ | refine ao_no rfl rfl rfl rfl rfl rfl ?_)
        all_goals (first | refine ao_step rfl rfl rfl (op1_pickT rfl rfl rfl) ?_ | refine ao_step rfl rfl rfl (op1_pickF rfl rfl rfl) ?_ | refine ao_step rfl rfl rfl (op1_pickB rfl rfl rfl rfl) ?_)
        all_goals (refine ao_step rfl rfl rfl (op1_assign rfl rfl) ?_)
        all_goals refine ao_nil ?_
        all_goals (
          change AW _ _ _ _
          refine aw_ret ?_
          change ∃ xs, _ = some xs ∧ EndOk _ _ _ _
          exact ⟨_, rfl, endOk0 (Wk.refl _) rfl ⟨ret_true (by first | rfl | exact decide_eq_true (by omega)), rfl⟩⟩
          )
        )
      )
    )
end Go.Proofs.Ytpmbflnoohpbnaa
