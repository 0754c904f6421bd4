/- Chapter 19: frames packed by the document. -/
import Derived.Test.YtpmbflnoohpbnaaL2
namespace Go.Proofs.Ytpmbflnoohpbnaa
open Go Aw
set_option linter.unusedVariables false
set_option linter.unusedSimpArgs false
set_option maxRecDepth 8000

def packH (f : Fr) : List UInt8 := ([u8 f.1] ++ numF 4 (IntKind.u64.wrap f.2.length)) ++ f.2
def packB (f : Fr) : List UInt8 := packH f ++ numF 8 (sumF (packH f))
def packE (f : Fr) : Int := if f.1 < 1 ∨ 255 < f.1 then 1 else if 1048576 < f.2.length then 2 else 0
def packR (f : Fr) : List UInt8 := if packE f = 0 then packB f else []
theorem packH_len (f : Fr) : (packH f).length = 5 + f.2.length := by simp [packH, numF_len]; omega
theorem packB_len (f : Fr) : (packB f).length = 13 + f.2.length := by simp [packB, packH_len, numF_len]; omega
theorem Wk.tokE {o : Option Nat} {sz : Nat} {xs ys : List PV} (h : xs = ys) : Wk (.sl o sz xs) (.sl none sz ys) := h ▸ Wk.tok
theorem one_byte (i : Int) : [PV.v (.int .u8 (IntKind.u8.wrap i))] = bytesPV [u8 i] := bytes_push [] i
theorem packE_1 {f : Fr} (h : f.1 < 1) : packE f = 1 := by unfold packE; rw [if_pos (.inl h)]
theorem packE_1' {f : Fr} (h : 255 < f.1) : packE f = 1 := by unfold packE; rw [if_pos (.inr h)]
theorem packE_2 {f : Fr} (h1 : ¬ f.1 < 1) (h2 : ¬ 255 < f.1) (h : 1048576 < f.2.length) : packE f = 2 := by unfold packE; rw [if_neg (by omega), if_pos h]
theorem packE_0 {f : Fr} (h1 : ¬ f.1 < 1) (h2 : ¬ 255 < f.1) (h : ¬ 1048576 < f.2.length) : packE f = 0 := by unfold packE; rw [if_neg (by omega), if_neg h]

theorem Pack_bad {f : Fr} {e : Int} (h : packE f = e) (he : e ≠ 0) : Wk (.tup [.v (.slice none 0 0), pi e]) (.tup [bsl (packR f), pi (packE f)]) := by
  rw [packR, h, if_neg he]; exact Wk.tup (.cons Wk.nil (.cons (.refl _) .nil))
theorem Pack_good {f : Fr} {o : Option Nat} {xs : List PV} (h : packE f = 0) (hx : xs = bytesPV (packB f)) : Wk (.tup [.sl o 1 xs, pi 0]) (.tup [bsl (packR f), pi (packE f)]) := by
  rw [packR, h, if_pos rfl]; exact Wk.tup (.cons (Wk.tokE hx) (.cons (.refl _) .nil))
theorem pk_ids (f : Fr) : (PV.tup [bsl (packR f), pi (packE f)]).ids = [] := by simp only [PV.ids, PV.ids.idsL]; rw [idsL_nil (ids_bytes _)]; rfl
theorem Pack_c (f : Fr) (hf : f.2.length ≤ 1099511627776) : PCalls Try.prog 11 [frPV f] (.tup [bsl (packR f), pi (packE f)]) := by
  obtain ⟨k, b⟩ := f
  have hb : b.length ≤ 1099511627776 := hf
  have hl := bytes_len b
  refine acalls_of Try.func11 rfl Try.ntmps11 Try.results11 rfl ?_
  simp only [frPV]
  change AW _ _ ⟨[(0, _)], _, _⟩ _
  refine aw_seq ?_
  refine aw_region ?_
  refine ao_step rfl rfl rfl (op1_box rfl rfl rfl) ?_
  refine ao_step rfl rfl rfl (op1_assign rfl rfl) ?_
  refine ao_step rfl rfl rfl (op1_assign rfl rfl) ?_
  refine ao_nil ?_
  change AW _ _ _ _
  refine aw_seq ?_
  refine aw_seq ?_
  refine aw_region ?_
  first | refine ao_step rfl rfl rfl (op1_faR st_33 (i := 0) rfl rfl rfl) ?_ | refine ao_step rfl rfl rfl (op1_faP st_33 (i := 0) rfl rfl rfl) ?_
  first | refine ao_step rfl rfl rfl (op1_ldR Try.underlying3 rfl rfl rfl rfl rfl) ?_ | refine ao_step rfl rfl rfl (op1_ldR Try.underlying3 rfl rfl rfl (by first | rfl | exact look_snoc | exact look_set | (simp; done)) (by rfl)) ?_ | refine ao_step rfl rfl rfl (op1_ldP Try.underlying3 rfl rfl rfl rfl) ?_
  refine ao_step rfl rfl rfl (op1_cmp rfl rfl rfl rfl) ?_
  refine ao_step rfl rfl rfl (op1_move rfl rfl) ?_
  refine ao_cases (t := 8) rfl ?_ ?_
  rotate_left
  case' _ =>
    intro hb8
    (try (exfalso; exact absurd hb8 (by decide)))
    all_goals (try simp only [decide_eq_true_eq, decide_eq_false_iff_not, beq_iff_eq, beq_eq_false_iff_ne, bne_iff_ne, bne_eq_false_iff_eq, Bool.not_eq_true, Bool.not_eq_false, Bool.not_eq_true', Bool.not_eq_false', ne_eq, Bool.and_eq_true, Bool.or_eq_true, Bool.and_eq_false_iff, Bool.or_eq_false_iff, Bool.cond_true, Bool.cond_false] at hb8)
    all_goals (try (exfalso; first | exact absurd hb8 id | omega))
  rotate_right
  case' _ =>
    intro hb8
    (try (exfalso; exact absurd hb8 (by decide)))
    all_goals (try simp only [decide_eq_true_eq, decide_eq_false_iff_not, beq_iff_eq, beq_eq_false_iff_ne, bne_iff_ne, bne_eq_false_iff_eq, Bool.not_eq_true, Bool.not_eq_false, Bool.not_eq_true', Bool.not_eq_false', ne_eq, Bool.and_eq_true, Bool.or_eq_true, Bool.and_eq_false_iff, Bool.or_eq_false_iff, Bool.cond_true, Bool.cond_false] at hb8)
    all_goals (try (exfalso; first | exact absurd hb8 id | omega))
  all_goals (first | refine ao_yes rfl rfl rfl rfl rfl rfl (op1_faR st_33 (i := 0) rfl rfl rfl) ?_ | refine ao_yes rfl rfl rfl rfl rfl rfl (op1_faP st_33 (i := 0) rfl rfl rfl) ?_ | refine ao_no rfl rfl rfl rfl rfl rfl ?_)
  all_goals (first | refine ao_yes rfl rfl rfl rfl rfl rfl (op1_ldR Try.underlying3 rfl rfl rfl rfl rfl) ?_ | refine ao_yes rfl rfl rfl rfl rfl rfl (op1_ldR Try.underlying3 rfl rfl rfl (by first | rfl | exact look_snoc | exact look_set | (simp; done)) (by rfl)) ?_ | refine ao_yes rfl rfl rfl rfl rfl rfl (op1_ldP Try.underlying3 rfl rfl rfl rfl) ?_ | refine ao_no rfl rfl rfl rfl rfl rfl ?_)
  all_goals (first | refine ao_yes rfl rfl rfl rfl rfl rfl (op1_cmp rfl rfl rfl rfl) ?_ | refine ao_no rfl rfl rfl rfl rfl rfl ?_)
  all_goals (first | refine ao_step rfl rfl rfl (op1_pickT rfl rfl rfl) ?_ | refine ao_step rfl rfl rfl (op1_pickF rfl rfl rfl) ?_ | refine ao_step rfl rfl rfl (op1_pickB rfl rfl rfl rfl) ?_)
  all_goals refine ao_nil ?_
  all_goals (
    change AW _ _ _ _
    refine aw_cond rfl ?_ ?_
    rotate_left
    case' _ =>
      intro hc1
      (try (exfalso; exact absurd hc1 (by decide)))
      all_goals (try simp only [decide_eq_true_eq, decide_eq_false_iff_not, beq_iff_eq, beq_eq_false_iff_ne, bne_iff_ne, bne_eq_false_iff_eq, Bool.not_eq_true, Bool.not_eq_false, Bool.not_eq_true', Bool.not_eq_false', ne_eq, Bool.and_eq_true, Bool.or_eq_true, Bool.and_eq_false_iff, Bool.or_eq_false_iff, Bool.cond_true, Bool.cond_false] at hc1)
      all_goals (try (exfalso; first | exact absurd hc1 id | omega))
      all_goals (
        refine aw_skip ?_
        )
    rotate_right
    case' _ =>
      intro hc1
      (try (exfalso; exact absurd hc1 (by decide)))
      all_goals (try simp only [decide_eq_true_eq, decide_eq_false_iff_not, beq_iff_eq, beq_eq_false_iff_ne, bne_iff_ne, bne_eq_false_iff_eq, Bool.not_eq_true, Bool.not_eq_false, Bool.not_eq_true', Bool.not_eq_false', ne_eq, Bool.and_eq_true, Bool.or_eq_true, Bool.and_eq_false_iff, Bool.or_eq_false_iff, Bool.cond_true, Bool.cond_false] at hc1)
      all_goals (try (exfalso; first | exact absurd hc1 id | omega))
      all_goals (
        refine aw_seq ?_
        refine aw_region ?_
        refine ao_step rfl rfl rfl (op1_assign rfl rfl) ?_
        refine ao_step rfl rfl rfl (op1_assign rfl rfl) ?_
        refine ao_nil ?_
        change AW _ _ _ _
        refine aw_ret ?_
        change ∃ xs, _ = some xs ∧ EndOk _ _ _ _
        refine ⟨_, rfl, endOk0 (y := .tup [bsl (packR (k, b)), pi (packE (k, b))]) ?_ (pk_ids _) ⟨rfl, rfl⟩⟩
        first | exact Pack_bad (packE_1 (by simp; omega)) (by decide) | exact Pack_bad (packE_1' (by simp; omega)) (by decide) | exact Pack_bad (packE_2 (by simp; omega) (by simp; omega) (by simp; omega)) (by decide) | exact Pack_good hpe (by rw [bytes_app]; rfl)
        )
    )
  all_goals (
    change AW _ _ _ _
    refine aw_seq ?_
    refine aw_seq ?_
    refine aw_region ?_
    first | refine ao_step rfl rfl rfl (op1_faR st_33 (i := 1) rfl rfl rfl) ?_ | refine ao_step rfl rfl rfl (op1_faP st_33 (i := 1) rfl rfl rfl) ?_
    first | refine ao_step rfl rfl rfl (op1_ldR Try.underlying23 rfl rfl rfl rfl rfl) ?_ | refine ao_step rfl rfl rfl (op1_ldR Try.underlying23 rfl rfl rfl (by first | rfl | exact look_snoc | exact look_set | (simp; done)) (by rfl)) ?_ | refine ao_step rfl rfl rfl (op1_ldP Try.underlying23 rfl rfl rfl rfl) ?_
    first | refine ao_step rfl rfl rfl (op1_len Try.underlying23 rfl rfl) ?_ | refine ao_step rfl rfl rfl (op1_len0 Try.underlying23 rfl rfl) ?_
    refine ao_step rfl rfl rfl (op1_cmp rfl rfl rfl rfl) ?_
    refine ao_nil ?_
    change AW _ _ _ _
    refine aw_cond rfl ?_ ?_
    rotate_left
    case' _ =>
      intro hc2
      (try (exfalso; exact absurd hc2 (by decide)))
      all_goals (try simp only [decide_eq_true_eq, decide_eq_false_iff_not, beq_iff_eq, beq_eq_false_iff_ne, bne_iff_ne, bne_eq_false_iff_eq, Bool.not_eq_true, Bool.not_eq_false, Bool.not_eq_true', Bool.not_eq_false', ne_eq, Bool.and_eq_true, Bool.or_eq_true, Bool.and_eq_false_iff, Bool.or_eq_false_iff, Bool.cond_true, Bool.cond_false] at hc2)
      all_goals (try (exfalso; first | exact absurd hc2 id | omega))
      all_goals (
        refine aw_skip ?_
        )
    rotate_right
    case' _ =>
      intro hc2
      (try (exfalso; exact absurd hc2 (by decide)))
      all_goals (try simp only [decide_eq_true_eq, decide_eq_false_iff_not, beq_iff_eq, beq_eq_false_iff_ne, bne_iff_ne, bne_eq_false_iff_eq, Bool.not_eq_true, Bool.not_eq_false, Bool.not_eq_true', Bool.not_eq_false', ne_eq, Bool.and_eq_true, Bool.or_eq_true, Bool.and_eq_false_iff, Bool.or_eq_false_iff, Bool.cond_true, Bool.cond_false] at hc2)
      all_goals (try (exfalso; first | exact absurd hc2 id | omega))
      all_goals (
        refine aw_seq ?_
        refine aw_region ?_
        refine ao_step rfl rfl rfl (op1_assign rfl rfl) ?_
        refine ao_step rfl rfl rfl (op1_assign rfl rfl) ?_
        refine ao_nil ?_
        change AW _ _ _ _
        refine aw_ret ?_
        change ∃ xs, _ = some xs ∧ EndOk _ _ _ _
        refine ⟨_, rfl, endOk0 (y := .tup [bsl (packR (k, b)), pi (packE (k, b))]) ?_ (pk_ids _) ⟨rfl, rfl⟩⟩
        first | exact Pack_bad (packE_1 (by simp; omega)) (by decide) | exact Pack_bad (packE_1' (by simp; omega)) (by decide) | exact Pack_bad (packE_2 (by simp; omega) (by simp; omega) (by simp; omega)) (by decide) | exact Pack_good hpe (by rw [bytes_app]; rfl)
        )
    all_goals (
      change AW _ _ _ _
      refine aw_seq ?_
      refine aw_chain [3, 9] [0] mo (by kernel_rfl) ?_
      first | refine ac_go rfl rfl rfl rfl (fun H hp => op1_faR st_33 (i := 0) rfl rfl rfl) ?_ | refine ac_go rfl rfl rfl rfl (fun H hp => op1_faP st_33 (i := 0) rfl rfl rfl) ?_
      first | refine ac_go rfl rfl rfl rfl (fun H hp => op1_ldR Try.underlying3 rfl rfl rfl (hp.at rfl rfl) rfl) ?_ | refine ac_go rfl rfl rfl rfl (fun H hp => op1_ldR Try.underlying3 rfl rfl rfl (by first | rfl | exact look_snoc | exact look_set | (simp; done)) (by rfl)) ?_ | refine ac_go rfl rfl rfl rfl (fun H hp => op1_ldP Try.underlying3 rfl rfl rfl rfl) ?_
      refine ac_go rfl rfl rfl rfl (fun H hp => op1_convI Try.underlying3 Try.underlying5 rfl rfl) ?_
      refine ac_lgo rfl rfl rfl rfl (op1_bslice (xs := [_]) Try.underlying23 inf_5 rfl rfl rfl (by first | rfl | simp [cok, one1, PV.cells, frPV, bytesPV]) (by first | rfl | exact bytes_one _ | exact bytes_sz _ | exact frs_one _ | exact frs_sz _ | simp [cok, one1, PV.cells, frPV, bytesPV]) rfl (by decide) (by first | rfl | simp [cok, one1, PV.cells, frPV, bytesPV, afill, setL, zipN])) (by first | exact Pins.refl | (repeat (first | exact trivial | refine ⟨rfl, ?_⟩))) ?_
      first | refine ac_go rfl rfl rfl rfl (fun H hp => op1_faR st_33 (i := 1) rfl rfl rfl) ?_ | refine ac_go rfl rfl rfl rfl (fun H hp => op1_faP st_33 (i := 1) rfl rfl rfl) ?_
      first | refine ac_go rfl rfl rfl rfl (fun H hp => op1_ldR Try.underlying23 rfl rfl rfl (hp.at rfl rfl) rfl) ?_ | refine ac_go rfl rfl rfl rfl (fun H hp => op1_ldR Try.underlying23 rfl rfl rfl (by first | rfl | exact look_snoc | exact look_set | (simp; done)) (by rfl)) ?_ | refine ac_go rfl rfl rfl rfl (fun H hp => op1_ldP Try.underlying23 rfl rfl rfl rfl) ?_
      first | refine ac_go rfl rfl rfl rfl (fun H hp => op1_len Try.underlying23 rfl rfl) ?_ | refine ac_go rfl rfl rfl rfl (fun H hp => op1_len0 Try.underlying23 rfl rfl) ?_
      refine ac_go rfl rfl rfl rfl (fun H hp => op1_convI Try.underlying3 Try.underlying75 rfl rfl) ?_
      refine ac_go rfl rfl rfl rfl (fun H hp => op1_pcall rfl en_31 rfl (by first | exact WkL.refl _ | (repeat (first | exact .nil | refine .cons (Wk.refl _) ?_ | refine .cons Wk.tok ?_ | refine .cons Wk.nil ?_ | refine .cons (Wk.refl _) ?_))) (by repeat (first | exact trivial | refine ⟨(by first | rfl | exact bsl_ids _ | exact frs_ids _ | exact fr_ids _), ?_⟩)) (number_c _ 4 (by decide)) (by exact (by first | rfl | exact bsl_ids _ | exact frs_ids _ | exact fr_ids _))) ?_
      refine ac_lgo rfl rfl rfl rfl (op1_app Try.underlying23 inf_5 rfl rfl rfl (by first | rfl | assumption | (simp [bytes_len, numF_len, packH_len]; done)) (fun F g a w hr => src_sl hr rfl Try.underlying23 (by first | rfl | exact bytes_one _ | exact bytes_sz _ | exact frs_one _ | exact frs_sz _ | simp [cok, one1, PV.cells, frPV, bytesPV])) (by first | rfl | exact bytes_one _ | exact bytes_sz _ | exact frs_one _ | exact frs_sz _ | simp [cok, one1, PV.cells, frPV, bytesPV]) (by first | decide | omega | (simp [bytes_len, numF_len, packH_len]; done) | (simp [bytes_len, numF_len, packH_len]; omega)) (by first | decide | omega | (simp [bytes_len, numF_len, packH_len]; done) | (simp [bytes_len, numF_len, packH_len]; omega))) (by first | exact Pins.refl | (repeat (first | exact trivial | refine ⟨rfl, ?_⟩))) ?_
      refine ac_go rfl rfl rfl rfl (fun H hp => op1_assign rfl rfl) ?_
      refine ac_nil ?_
      change AW _ _ _ _
      refine aw_seq ?_
      refine aw_region ?_
      refine ao_step rfl rfl rfl (op1_move rfl rfl) ?_
      first | refine ao_step rfl rfl rfl (op1_faR st_33 (i := 1) rfl rfl rfl) ?_ | refine ao_step rfl rfl rfl (op1_faP st_33 (i := 1) rfl rfl rfl) ?_
      first | refine ao_step rfl rfl rfl (op1_ldR Try.underlying23 rfl rfl rfl rfl rfl) ?_ | refine ao_step rfl rfl rfl (op1_ldR Try.underlying23 rfl rfl rfl (by first | rfl | exact look_snoc | exact look_set | (simp; done)) (by rfl)) ?_ | refine ao_step rfl rfl rfl (op1_ldP Try.underlying23 rfl rfl rfl rfl) ?_
      refine ao_step rfl rfl rfl (op1_app Try.underlying23 inf_5 rfl rfl rfl (by first | rfl | assumption | (simp [bytes_len, numF_len, packH_len]; done)) (fun F g a w hr => src_sl hr rfl Try.underlying23 (by first | rfl | exact bytes_one _ | exact bytes_sz _ | exact frs_one _ | exact frs_sz _ | simp [cok, one1, PV.cells, frPV, bytesPV])) (by first | rfl | exact bytes_one _ | exact bytes_sz _ | exact frs_one _ | exact frs_sz _ | simp [cok, one1, PV.cells, frPV, bytesPV]) (by first | decide | omega | (simp [bytes_len, numF_len, packH_len]; done) | (simp [bytes_len, numF_len, packH_len]; omega)) (by first | decide | omega | (simp [bytes_len, numF_len, packH_len]; done) | (simp [bytes_len, numF_len, packH_len]; omega))) ?_
      refine ao_step rfl rfl rfl (op1_assign rfl rfl) ?_
      refine ao_nil ?_
      change AW _ _ _ _
      refine aw_seq ?_
      refine aw_sub (e' := [(4, .sl (some 1) 1 (bytesPV (packH (k, b))))]) (by refine sub_eq rfl ?_ sub_nil; rw [one_byte, bytes_app, bytes_app, hl]; rfl) ?_
      have hpl := packH_len (k, b)
      have hpe := packE_0 (f := (k, b)) (by simp; omega) (by simp; omega) (by simp; omega)
      have hbl := bytes_len (packH (k, b))
      refine aw_region ?_
      refine ao_step rfl rfl rfl (op1_move rfl rfl) ?_
      refine ao_step rfl rfl rfl (op1_move rfl rfl) ?_
      refine ao_step rfl rfl rfl (op1_pcall rfl en_32 rfl (by first | exact WkL.refl _ | (repeat (first | exact .nil | refine .cons (Wk.refl _) ?_ | refine .cons Wk.tok ?_ | refine .cons Wk.nil ?_ | refine .cons (Wk.refl _) ?_))) (by repeat (first | exact trivial | refine ⟨(by first | rfl | exact bsl_ids _ | exact frs_ids _ | exact fr_ids _), ?_⟩)) (Sum_c _ (by simp [packH_len]; omega)) (by exact (by first | rfl | exact bsl_ids _ | exact frs_ids _ | exact fr_ids _))) ?_
      refine ao_step rfl rfl rfl (op1_pcall rfl en_31 rfl (by first | exact WkL.refl _ | (repeat (first | exact .nil | refine .cons (Wk.refl _) ?_ | refine .cons Wk.tok ?_ | refine .cons Wk.nil ?_ | refine .cons (Wk.refl _) ?_))) (by repeat (first | exact trivial | refine ⟨(by first | rfl | exact bsl_ids _ | exact frs_ids _ | exact fr_ids _), ?_⟩)) (number_c _ 8 (by decide)) (by exact (by first | rfl | exact bsl_ids _ | exact frs_ids _ | exact fr_ids _))) ?_
      refine ao_step rfl rfl rfl (op1_app Try.underlying23 inf_5 rfl rfl rfl (by first | rfl | assumption | (simp [bytes_len, numF_len, packH_len]; done)) (fun F g a w hr => src_sl hr rfl Try.underlying23 (by first | rfl | exact bytes_one _ | exact bytes_sz _ | exact frs_one _ | exact frs_sz _ | simp [cok, one1, PV.cells, frPV, bytesPV])) (by first | rfl | exact bytes_one _ | exact bytes_sz _ | exact frs_one _ | exact frs_sz _ | simp [cok, one1, PV.cells, frPV, bytesPV]) (by first | decide | omega | (simp [bytes_len, numF_len, packH_len]; done) | (simp [bytes_len, numF_len, packH_len]; omega)) (by first | decide | omega | (simp [bytes_len, numF_len, packH_len]; done) | (simp [bytes_len, numF_len, packH_len]; omega))) ?_
      refine ao_step rfl rfl rfl (op1_assign rfl rfl) ?_
      refine ao_step rfl rfl rfl (op1_assign rfl rfl) ?_
      refine ao_nil ?_
      change AW _ _ _ _
      refine aw_ret ?_
      change ∃ xs, _ = some xs ∧ EndOk _ _ _ _
      refine ⟨_, rfl, endOk0 (y := .tup [bsl (packR (k, b)), pi (packE (k, b))]) ?_ (pk_ids _) ⟨rfl, rfl⟩⟩
      first | exact Pack_bad (packE_1 (by simp; omega)) (by decide) | exact Pack_bad (packE_1' (by simp; omega)) (by decide) | exact Pack_bad (packE_2 (by simp; omega) (by simp; omega) (by simp; omega)) (by decide) | exact Pack_good hpe (by rw [bytes_app]; rfl)
      )
    )
end Go.Proofs.Ytpmbflnoohpbnaa
