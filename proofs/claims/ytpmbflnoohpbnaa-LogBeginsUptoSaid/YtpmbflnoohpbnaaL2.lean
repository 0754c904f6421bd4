/- Chapter 19: frames packed, compared. -/
import Derived.Test.YtpmbflnoohpbnaaL1
namespace Go.Proofs.Ytpmbflnoohpbnaa
open Go Aw
set_option linter.unusedVariables false
set_option linter.unusedSimpArgs false
set_option maxRecDepth 8000

abbrev Fr := Int × List UInt8
def frPV (f : Fr) : PV := .agg [pi f.1, bsl f.2]
abbrev frsl (l : List Fr) : PV := .sl none 2 (l.map frPV)
def isI64 (i : Int) : Prop := -9223372036854775808 ≤ i ∧ i ≤ 9223372036854775807
theorem ret_t {p : Prop} [Decidable p] (h : p) : ARes.ret (tupPV [.v (.bool true)]) = .ret (.v (.bool (decide p))) := by rw [decide_eq_true h]; rfl
theorem ret_f {p : Prop} [Decidable p] (h : ¬ p) : ARes.ret (tupPV [.v (.bool false)]) = .ret (.v (.bool (decide p))) := by rw [decide_eq_false h]; rfl
theorem fr_ids (f : Fr) : (frPV f).ids = [] := by simp only [frPV, PV.ids, PV.ids.idsL]; rw [idsL_nil (ids_bytes f.2)]; rfl
theorem frs_ids (l : List Fr) : (frsl l).ids = [] := ids_sl (fun x hx => by obtain ⟨f, _, rfl⟩ := List.mem_map.1 hx; exact fr_ids f)
theorem fr_get {l : List Fr} {i : Nat} (h : i < l.length) : (l.map frPV)[i]? = some (frPV l[i]) := by simp [h]

theorem frs_one (l : List Fr) : (l.map frPV).all (fun y => y.cells.all one1) = true := by
  rw [List.all_eq_true]; intro y hy; obtain ⟨b, _, rfl⟩ := List.mem_map.1 hy; rfl
theorem frs_sz (l : List Fr) : (l.map frPV).all (fun y => Nat.beq y.cells.length 2) = true := by
  rw [List.all_eq_true]; intro y hy; obtain ⟨b, _, rfl⟩ := List.mem_map.1 hy; rfl
theorem u8_inj {a b : UInt8} (h : (a.toNat : Int) = b.toNat) : a = b := UInt8.toNat_inj.1 (by omega)
theorem take_eq_succ {α : Type} {a b : List α} {i : Nat} (h : a.take i = b.take i) (ha : i < a.length) (hb : i < b.length) (he : a[i] = b[i]) : a.take (i + 1) = b.take (i + 1) := by
  rw [← List.take_append_getElem ha, ← List.take_append_getElem hb, h, he]
theorem take_all_eq {α : Type} {a b : List α} (hl : a.length = b.length) (h : a.take a.length = b.take a.length) : a = b := by
  rw [List.take_length] at h; rw [hl, List.take_length] at h; exact h
theorem ne_at {α : Type} {a b : List α} {i : Nat} (ha : i < a.length) (hb : i < b.length) (h : a[i] ≠ b[i]) : a ≠ b := by
  rintro rfl; exact h rfl

theorem same_c (a b : List UInt8) (ha : a.length ≤ 1099511627776) (hb : b.length ≤ 1099511627776) : PCalls Try.prog 15 [bsl a, bsl b] (.v (.bool (decide (a = b)))) := by
  refine acalls_of Try.func15 rfl Try.ntmps15 Try.results15 rfl ?_
  have hla := bytes_len a
  have hlb := bytes_len b
  change AW _ _ ⟨[(0, _), (1, _)], _, _⟩ _
  refine aw_seq ?_
  refine aw_region ?_
  refine ao_step rfl rfl rfl (op1_assign rfl rfl) ?_
  refine ao_nil ?_
  change AW _ _ _ _
  refine aw_seq ?_
  refine aw_seq ?_
  refine aw_region ?_
  refine ao_step rfl rfl rfl (op1_move rfl rfl) ?_
  first | refine ao_step rfl rfl rfl (op1_len Try.underlying23 rfl rfl) ?_ | refine ao_step rfl rfl rfl (op1_len0 Try.underlying23 rfl rfl) ?_
  refine ao_step rfl rfl rfl (op1_move rfl rfl) ?_
  first | refine ao_step rfl rfl rfl (op1_len Try.underlying23 rfl rfl) ?_ | refine ao_step rfl rfl rfl (op1_len0 Try.underlying23 rfl rfl) ?_
  refine ao_step rfl rfl rfl (op1_cmp rfl rfl rfl rfl) ?_
  refine ao_nil ?_
  change AW _ _ _ _
  refine aw_cond rfl ?_ ?_
  rotate_left
  case' _ =>
    intro hc1
    (try (exfalso; exact absurd hc1 (by decide)))
    all_goals (try simp only [decide_eq_true_eq, decide_eq_false_iff_not, beq_iff_eq, beq_eq_false_iff_ne, bne_iff_ne, bne_eq_false_iff_eq, Bool.not_eq_true, Bool.not_eq_false, Bool.not_eq_true', Bool.not_eq_false', ne_eq, Bool.and_eq_true, Bool.or_eq_true, Bool.and_eq_false_iff, Bool.or_eq_false_iff, Bool.cond_true, Bool.cond_false] at hc1)
    all_goals (try (exfalso; first | exact absurd hc1 id | omega))
    all_goals (
      have hab : a.length = b.length ∨ a.length ≠ b.length := by omega
      )
    all_goals (
      refine aw_skip ?_
      )
  rotate_right
  case' _ =>
    intro hc1
    (try (exfalso; exact absurd hc1 (by decide)))
    all_goals (try simp only [decide_eq_true_eq, decide_eq_false_iff_not, beq_iff_eq, beq_eq_false_iff_ne, bne_iff_ne, bne_eq_false_iff_eq, Bool.not_eq_true, Bool.not_eq_false, Bool.not_eq_true', Bool.not_eq_false', ne_eq, Bool.and_eq_true, Bool.or_eq_true, Bool.and_eq_false_iff, Bool.or_eq_false_iff, Bool.cond_true, Bool.cond_false] at hc1)
    all_goals (try (exfalso; first | exact absurd hc1 id | omega))
    all_goals (
      have hab : a.length = b.length ∨ a.length ≠ b.length := by omega
      )
    all_goals (
      refine aw_seq ?_
      refine aw_region ?_
      refine ao_step rfl rfl rfl (op1_assign rfl rfl) ?_
      refine ao_nil ?_
      change AW _ _ _ _
      refine aw_ret ?_
      change ∃ xs, _ = some xs ∧ EndOk _ _ _ _
      refine ⟨_, rfl, endOk0 (Wk.refl _) rfl ⟨?_, rfl⟩⟩
      first | exact ret_t (take_all_eq (by omega) (by rw [← h1]; exact hs)) | exact ret_f (by intro h; subst h; omega) | exact ret_f (ne_at (i := i) (by omega) (by omega) (fun h => hc3 (by rw [h])))
      )
  all_goals (
    change AW _ _ _ _
    refine aw_seq ?_
    refine aw_seq ?_
    refine aw_region ?_
    refine ao_step rfl rfl rfl (op1_assign rfl rfl) ?_
    refine ao_nil ?_
    change AW _ _ _ _
    refine aw_block ?_
    change AW _ _ _ _
    refine aw_loop (fun m s => ∃ (i : Nat), (m + i = a.length) ∧ (a.take i = b.take i) ∧ s.H = [] ∧ s.n = 26 ∧ Sub [(0, bsl a), (1, bsl b), (5, pi i)] s.env) (n := a.length) ⟨0, (by first | rfl | omega | (simp; done)), (by first | rfl | omega | (simp; done)), (by first | rfl | (simp; done)), rfl, (by repeat (first | exact sub_nil | refine sub_eq rfl (by first | rfl | (simp [bytes_len]; done)) ?_))⟩ ?_
    rintro m ⟨env, H, N⟩ ⟨i, hi, hs, hH, hn, hs⟩
    dsimp only at hH hn hs
    subst hH hn
    refine aw_sub hs ?_
    clear hs
    
    refine aw_seq ?_
    refine aw_seq ?_
    refine aw_region ?_
    refine ao_step rfl rfl rfl (op1_move rfl rfl) ?_
    refine ao_step rfl rfl rfl (op1_move rfl rfl) ?_
    first | refine ao_step rfl rfl rfl (op1_len Try.underlying23 rfl rfl) ?_ | refine ao_step rfl rfl rfl (op1_len0 Try.underlying23 rfl rfl) ?_
    refine ao_step rfl rfl rfl (op1_cmp rfl rfl rfl rfl) ?_
    refine ao_nil ?_
    change AW _ _ _ _
    refine aw_cond rfl ?_ ?_
    rotate_left
    case' _ =>
      intro hc2
      (try (exfalso; exact absurd hc2 (by decide)))
      all_goals (try simp only [decide_eq_true_eq, decide_eq_false_iff_not, beq_iff_eq, beq_eq_false_iff_ne, bne_iff_ne, bne_eq_false_iff_eq, Bool.not_eq_true, Bool.not_eq_false, Bool.not_eq_true', Bool.not_eq_false', ne_eq, Bool.and_eq_true, Bool.or_eq_true, Bool.and_eq_false_iff, Bool.or_eq_false_iff, Bool.cond_true, Bool.cond_false] at hc2)
      all_goals (try (exfalso; first | exact absurd hc2 id | omega))
      all_goals (
        first | (have h1 := bytes_get (bs := a) (i := i) (by omega); have h2 := bytes_get (bs := b) (i := i) (by omega)) | (have h1 : i = a.length := by omega)
        )
      all_goals (
        refine aw_exit ?_
        change AW _ _ _ _
        refine aw_seq ?_
        refine aw_region ?_
        refine ao_step rfl rfl rfl (op1_assign rfl rfl) ?_
        refine ao_nil ?_
        change AW _ _ _ _
        refine aw_ret ?_
        change ∃ xs, _ = some xs ∧ EndOk _ _ _ _
        refine ⟨_, rfl, endOk0 (Wk.refl _) rfl ⟨?_, rfl⟩⟩
        first | exact ret_t (take_all_eq (by omega) (by rw [← h1]; exact hs)) | exact ret_f (by intro h; subst h; omega) | exact ret_f (ne_at (i := i) (by omega) (by omega) (fun h => hc3 (by rw [h])))
        )
    rotate_right
    case' _ =>
      intro hc2
      (try (exfalso; exact absurd hc2 (by decide)))
      all_goals (try simp only [decide_eq_true_eq, decide_eq_false_iff_not, beq_iff_eq, beq_eq_false_iff_ne, bne_iff_ne, bne_eq_false_iff_eq, Bool.not_eq_true, Bool.not_eq_false, Bool.not_eq_true', Bool.not_eq_false', ne_eq, Bool.and_eq_true, Bool.or_eq_true, Bool.and_eq_false_iff, Bool.or_eq_false_iff, Bool.cond_true, Bool.cond_false] at hc2)
      all_goals (try (exfalso; first | exact absurd hc2 id | omega))
      all_goals (
        first | (have h1 := bytes_get (bs := a) (i := i) (by omega); have h2 := bytes_get (bs := b) (i := i) (by omega)) | (have h1 : i = a.length := by omega)
        )
      all_goals (
        refine aw_skip ?_
        )
    all_goals (
      change AW _ _ _ _
      refine aw_seq ?_
      refine aw_block ?_
      change AW _ _ _ _
      refine aw_seq ?_
      refine aw_draw 9 mo (by kernel_rfl) ?_
      refine aq_go rfl rfl rfl (op1_move rfl rfl) ?_
      refine aq_go rfl rfl rfl (op1_move rfl rfl) ?_
      refine aq_go rfl rfl rfl (op1_idx Try.underlying23 inf_5 rfl rfl rfl (by omega) (by first | rfl | assumption)) ?_
      first | refine aq_go rfl rfl rfl (op1_ldR Try.underlying5 rfl rfl rfl rfl rfl) ?_ | refine aq_go rfl rfl rfl (op1_ldR Try.underlying5 rfl rfl rfl (by first | rfl | exact look_snoc | exact look_set | (simp; done)) (by rfl)) ?_ | refine aq_go rfl rfl rfl (op1_ldP Try.underlying5 rfl rfl rfl rfl) ?_
      refine aq_go rfl rfl rfl (op1_move rfl rfl) ?_
      refine aq_go rfl rfl rfl (op1_move rfl rfl) ?_
      refine aq_go rfl rfl rfl (op1_idx Try.underlying23 inf_5 rfl rfl rfl (by omega) (by first | rfl | assumption)) ?_
      first | refine aq_go rfl rfl rfl (op1_ldR Try.underlying5 rfl rfl rfl rfl rfl) ?_ | refine aq_go rfl rfl rfl (op1_ldR Try.underlying5 rfl rfl rfl (by first | rfl | exact look_snoc | exact look_set | (simp; done)) (by rfl)) ?_ | refine aq_go rfl rfl rfl (op1_ldP Try.underlying5 rfl rfl rfl rfl) ?_
      refine aq_go rfl rfl rfl (op1_cmp rfl rfl rfl rfl) ?_
      refine aq_nil ?_
      refine ao_nil ?_
      change AW _ _ _ _
      refine aw_cond rfl ?_ ?_
      rotate_left
      case' _ =>
        intro hc3
        (try (exfalso; exact absurd hc3 (by decide)))
        all_goals (try simp only [decide_eq_true_eq, decide_eq_false_iff_not, beq_iff_eq, beq_eq_false_iff_ne, bne_iff_ne, bne_eq_false_iff_eq, Bool.not_eq_true, Bool.not_eq_false, Bool.not_eq_true', Bool.not_eq_false', ne_eq, Bool.and_eq_true, Bool.or_eq_true, Bool.and_eq_false_iff, Bool.or_eq_false_iff, Bool.cond_true, Bool.cond_false] at hc3)
        all_goals (try (exfalso; first | exact absurd hc3 id | omega))
        all_goals (
          refine aw_skip ?_
          )
      rotate_right
      case' _ =>
        intro hc3
        (try (exfalso; exact absurd hc3 (by decide)))
        all_goals (try simp only [decide_eq_true_eq, decide_eq_false_iff_not, beq_iff_eq, beq_eq_false_iff_ne, bne_iff_ne, bne_eq_false_iff_eq, Bool.not_eq_true, Bool.not_eq_false, Bool.not_eq_true', Bool.not_eq_false', ne_eq, Bool.and_eq_true, Bool.or_eq_true, Bool.and_eq_false_iff, Bool.or_eq_false_iff, Bool.cond_true, Bool.cond_false] at hc3)
        all_goals (try (exfalso; first | exact absurd hc3 id | omega))
        all_goals (
          refine aw_seq ?_
          refine aw_region ?_
          refine ao_step rfl rfl rfl (op1_assign rfl rfl) ?_
          refine ao_nil ?_
          change AW _ _ _ _
          refine aw_ret ?_
          change ∃ xs, _ = some xs ∧ EndOk _ _ _ _
          refine ⟨_, rfl, endOk0 (Wk.refl _) rfl ⟨?_, rfl⟩⟩
          first | exact ret_t (take_all_eq (by omega) (by rw [← h1]; exact hs)) | exact ret_f (by intro h; subst h; omega) | exact ret_f (ne_at (i := i) (by omega) (by omega) (fun h => hc3 (by rw [h])))
          )
      all_goals (
        change AW _ _ _ _
        refine aw_region ?_
        refine ao_step rfl rfl rfl (op1_move rfl rfl) ?_
        first | refine ao_step rfl rfl rfl (op1_add rfl rfl rfl (by constructor <;> omega)) ?_ | refine ao_step rfl rfl rfl (op1_addW rfl rfl rfl) ?_
        refine ao_step rfl rfl rfl (op1_assign rfl rfl) ?_
        refine ao_nil ?_
        )
      )
    all_goals (
      exact ⟨m - 1, by omega, i + 1, (by omega), (take_eq_succ hs (by omega) (by omega) (u8_inj hc3)), (by first | rfl | (simp; done)), rfl, (by repeat (first | exact sub_nil | refine sub_eq rfl (by first | rfl | (simp [bytes_len]; done)) ?_))⟩
      )
    all_goals (
      change AW _ _ _ _
      refine aw_seq ?_
      refine aw_region ?_
      refine ao_step rfl rfl rfl (op1_assign rfl rfl) ?_
      refine ao_nil ?_
      change AW _ _ _ _
      refine aw_ret ?_
      change ∃ xs, _ = some xs ∧ EndOk _ _ _ _
      refine ⟨_, rfl, endOk0 (Wk.refl _) rfl ⟨?_, rfl⟩⟩
      first | exact ret_t (take_all_eq (by omega) (by rw [← h1]; exact hs)) | exact ret_f (by intro h; subst h; omega) | exact ret_f (ne_at (i := i) (by omega) (by omega) (fun h => hc3 (by rw [h])))
      )
    )
theorem frames_c (a b : List Fr) (ha : a.length ≤ 1099511627776) (hb : b.length ≤ 1099511627776) (hab : ∀ f, f ∈ a → f.2.length ≤ 1099511627776) (hbb : ∀ f, f ∈ b → f.2.length ≤ 1099511627776) : PCalls Try.prog 10 [frsl a, frsl b] (.v (.bool (decide (a = b)))) := by
  refine acalls_of Try.func10 rfl Try.ntmps10 Try.results10 rfl ?_
  have hla : (a.map frPV).length = a.length := List.length_map ..
  have hlb : (b.map frPV).length = b.length := List.length_map ..
  change AW _ _ ⟨[(0, _), (1, _)], _, _⟩ _
  refine aw_seq ?_
  refine aw_region ?_
  refine ao_step rfl rfl rfl (op1_assign rfl rfl) ?_
  refine ao_nil ?_
  change AW _ _ _ _
  refine aw_seq ?_
  refine aw_seq ?_
  refine aw_region ?_
  refine ao_step rfl rfl rfl (op1_move rfl rfl) ?_
  first | refine ao_step rfl rfl rfl (op1_len Try.underlying22 rfl rfl) ?_ | refine ao_step rfl rfl rfl (op1_len0 Try.underlying22 rfl rfl) ?_
  refine ao_step rfl rfl rfl (op1_move rfl rfl) ?_
  first | refine ao_step rfl rfl rfl (op1_len Try.underlying22 rfl rfl) ?_ | refine ao_step rfl rfl rfl (op1_len0 Try.underlying22 rfl rfl) ?_
  refine ao_step rfl rfl rfl (op1_cmp rfl rfl rfl rfl) ?_
  refine ao_nil ?_
  change AW _ _ _ _
  refine aw_cond rfl ?_ ?_
  rotate_left
  case' _ =>
    intro hc1
    (try (exfalso; exact absurd hc1 (by decide)))
    all_goals (try simp only [decide_eq_true_eq, decide_eq_false_iff_not, beq_iff_eq, beq_eq_false_iff_ne, bne_iff_ne, bne_eq_false_iff_eq, Bool.not_eq_true, Bool.not_eq_false, Bool.not_eq_true', Bool.not_eq_false', ne_eq, Bool.and_eq_true, Bool.or_eq_true, Bool.and_eq_false_iff, Bool.or_eq_false_iff, Bool.cond_true, Bool.cond_false] at hc1)
    all_goals (try (exfalso; first | exact absurd hc1 id | omega))
    all_goals (
      refine aw_skip ?_
      )
  rotate_right
  case' _ =>
    intro hc1
    (try (exfalso; exact absurd hc1 (by decide)))
    all_goals (try simp only [decide_eq_true_eq, decide_eq_false_iff_not, beq_iff_eq, beq_eq_false_iff_ne, bne_iff_ne, bne_eq_false_iff_eq, Bool.not_eq_true, Bool.not_eq_false, Bool.not_eq_true', Bool.not_eq_false', ne_eq, Bool.and_eq_true, Bool.or_eq_true, Bool.and_eq_false_iff, Bool.or_eq_false_iff, Bool.cond_true, Bool.cond_false] at hc1)
    all_goals (try (exfalso; first | exact absurd hc1 id | omega))
    all_goals (
      refine aw_seq ?_
      refine aw_region ?_
      refine ao_step rfl rfl rfl (op1_assign rfl rfl) ?_
      refine ao_nil ?_
      change AW _ _ _ _
      refine aw_ret ?_
      change ∃ xs, _ = some xs ∧ EndOk _ _ _ _
      refine ⟨_, rfl, endOk0 (Wk.refl _) rfl ⟨?_, rfl⟩⟩
      first | exact ret_t (take_all_eq (by omega) (by rw [← h1]; exact hs)) | exact ret_f (by intro h; subst h; omega) | exact ret_f (ne_at (i := i) (by omega) (by omega) (fun h => hc3 (by rw [h]))) | exact ret_f (ne_at (i := i) (by omega) (by omega) (fun h => hb28 (by rw [h])))
      )
  all_goals (
    change AW _ _ _ _
    refine aw_seq ?_
    refine aw_seq ?_
    refine aw_region ?_
    refine ao_step rfl rfl rfl (op1_assign rfl rfl) ?_
    refine ao_nil ?_
    change AW _ _ _ _
    refine aw_block ?_
    change AW _ _ _ _
    refine aw_loop (fun m s => ∃ (i : Nat), (m + i = a.length) ∧ (a.take i = b.take i) ∧ s.H = [] ∧ s.n = 42 ∧ Sub [(0, frsl a), (1, frsl b), (5, pi i)] s.env) (n := a.length) ⟨0, (by first | rfl | omega | (simp; done)), (by first | rfl | omega | (simp; done)), (by first | rfl | (simp; done)), rfl, (by repeat (first | exact sub_nil | refine sub_eq rfl (by first | rfl | (simp [bytes_len]; done)) ?_))⟩ ?_
    rintro m ⟨env, H, N⟩ ⟨i, hi, hs, hH, hn, hs⟩
    dsimp only at hH hn hs
    subst hH hn
    refine aw_sub hs ?_
    clear hs
    
    refine aw_seq ?_
    refine aw_seq ?_
    refine aw_region ?_
    refine ao_step rfl rfl rfl (op1_move rfl rfl) ?_
    refine ao_step rfl rfl rfl (op1_move rfl rfl) ?_
    first | refine ao_step rfl rfl rfl (op1_len Try.underlying22 rfl rfl) ?_ | refine ao_step rfl rfl rfl (op1_len0 Try.underlying22 rfl rfl) ?_
    refine ao_step rfl rfl rfl (op1_cmp rfl rfl rfl rfl) ?_
    refine ao_nil ?_
    change AW _ _ _ _
    refine aw_cond rfl ?_ ?_
    rotate_left
    case' _ =>
      intro hc2
      (try (exfalso; exact absurd hc2 (by decide)))
      all_goals (try simp only [decide_eq_true_eq, decide_eq_false_iff_not, beq_iff_eq, beq_eq_false_iff_ne, bne_iff_ne, bne_eq_false_iff_eq, Bool.not_eq_true, Bool.not_eq_false, Bool.not_eq_true', Bool.not_eq_false', ne_eq, Bool.and_eq_true, Bool.or_eq_true, Bool.and_eq_false_iff, Bool.or_eq_false_iff, Bool.cond_true, Bool.cond_false] at hc2)
      all_goals (try (exfalso; first | exact absurd hc2 id | omega))
      all_goals (
        first | (have h1 := fr_get (l := a) (i := i) (by omega); have h2 := fr_get (l := b) (i := i) (by omega); have h3 := hab _ (List.getElem_mem (show i < a.length by omega)); have h4 := hbb _ (List.getElem_mem (show i < b.length by omega))) | (have h1 : i = a.length := by omega)
        )
      all_goals (
        refine aw_exit ?_
        change AW _ _ _ _
        refine aw_seq ?_
        refine aw_region ?_
        refine ao_step rfl rfl rfl (op1_assign rfl rfl) ?_
        refine ao_nil ?_
        change AW _ _ _ _
        refine aw_ret ?_
        change ∃ xs, _ = some xs ∧ EndOk _ _ _ _
        refine ⟨_, rfl, endOk0 (Wk.refl _) rfl ⟨?_, rfl⟩⟩
        first | exact ret_t (take_all_eq (by omega) (by rw [← h1]; exact hs)) | exact ret_f (by intro h; subst h; omega) | exact ret_f (ne_at (i := i) (by omega) (by omega) (fun h => hc3 (by rw [h]))) | exact ret_f (ne_at (i := i) (by omega) (by omega) (fun h => hb28 (by rw [h])))
        )
    rotate_right
    case' _ =>
      intro hc2
      (try (exfalso; exact absurd hc2 (by decide)))
      all_goals (try simp only [decide_eq_true_eq, decide_eq_false_iff_not, beq_iff_eq, beq_eq_false_iff_ne, bne_iff_ne, bne_eq_false_iff_eq, Bool.not_eq_true, Bool.not_eq_false, Bool.not_eq_true', Bool.not_eq_false', ne_eq, Bool.and_eq_true, Bool.or_eq_true, Bool.and_eq_false_iff, Bool.or_eq_false_iff, Bool.cond_true, Bool.cond_false] at hc2)
      all_goals (try (exfalso; first | exact absurd hc2 id | omega))
      all_goals (
        first | (have h1 := fr_get (l := a) (i := i) (by omega); have h2 := fr_get (l := b) (i := i) (by omega); have h3 := hab _ (List.getElem_mem (show i < a.length by omega)); have h4 := hbb _ (List.getElem_mem (show i < b.length by omega))) | (have h1 : i = a.length := by omega)
        )
      all_goals (
        refine aw_skip ?_
        )
    all_goals (
      change AW _ _ _ _
      refine aw_seq ?_
      refine aw_block ?_
      change AW _ _ _ _
      refine aw_seq ?_
      refine aw_draw 25 mo (by kernel_rfl) ?_
      refine aq_go rfl rfl rfl (op1_move rfl rfl) ?_
      refine aq_go rfl rfl rfl (op1_move rfl rfl) ?_
      refine aq_go rfl rfl rfl (op1_idx Try.underlying22 inf_33 rfl rfl rfl (by omega) (by first | rfl | assumption)) ?_
      first | refine aq_go rfl rfl rfl (op1_faR st_33 (i := 0) rfl rfl rfl) ?_ | refine aq_go rfl rfl rfl (op1_faP st_33 (i := 0) rfl rfl rfl) ?_
      first | refine aq_go rfl rfl rfl (op1_ldR Try.underlying3 rfl rfl rfl rfl rfl) ?_ | refine aq_go rfl rfl rfl (op1_ldR Try.underlying3 rfl rfl rfl (by first | rfl | exact look_snoc | exact look_set | (simp; done)) (by rfl)) ?_ | refine aq_go rfl rfl rfl (op1_ldP Try.underlying3 rfl rfl rfl rfl) ?_
      refine aq_go rfl rfl rfl (op1_move rfl rfl) ?_
      refine aq_go rfl rfl rfl (op1_move rfl rfl) ?_
      refine aq_go rfl rfl rfl (op1_idx Try.underlying22 inf_33 rfl rfl rfl (by omega) (by first | rfl | assumption)) ?_
      first | refine aq_go rfl rfl rfl (op1_faR st_33 (i := 0) rfl rfl rfl) ?_ | refine aq_go rfl rfl rfl (op1_faP st_33 (i := 0) rfl rfl rfl) ?_
      first | refine aq_go rfl rfl rfl (op1_ldR Try.underlying3 rfl rfl rfl rfl rfl) ?_ | refine aq_go rfl rfl rfl (op1_ldR Try.underlying3 rfl rfl rfl (by first | rfl | exact look_snoc | exact look_set | (simp; done)) (by rfl)) ?_ | refine aq_go rfl rfl rfl (op1_ldP Try.underlying3 rfl rfl rfl rfl) ?_
      refine aq_go rfl rfl rfl (op1_cmp rfl rfl rfl rfl) ?_
      refine aq_go rfl rfl rfl (op1_move rfl rfl) ?_
      refine aq_cases 28 rfl ?_ ?_
      rotate_left
      case' _ =>
        intro hb28
        (try (exfalso; exact absurd hb28 (by decide)))
        all_goals (try simp only [decide_eq_true_eq, decide_eq_false_iff_not, beq_iff_eq, beq_eq_false_iff_ne, bne_iff_ne, bne_eq_false_iff_eq, Bool.not_eq_true, Bool.not_eq_false, Bool.not_eq_true', Bool.not_eq_false', ne_eq, Bool.and_eq_true, Bool.or_eq_true, Bool.and_eq_false_iff, Bool.or_eq_false_iff, Bool.cond_true, Bool.cond_false] at hb28)
        all_goals (try (exfalso; first | exact absurd hb28 id | omega))
      rotate_right
      case' _ =>
        intro hb28
        (try (exfalso; exact absurd hb28 (by decide)))
        all_goals (try simp only [decide_eq_true_eq, decide_eq_false_iff_not, beq_iff_eq, beq_eq_false_iff_ne, bne_iff_ne, bne_eq_false_iff_eq, Bool.not_eq_true, Bool.not_eq_false, Bool.not_eq_true', Bool.not_eq_false', ne_eq, Bool.and_eq_true, Bool.or_eq_true, Bool.and_eq_false_iff, Bool.or_eq_false_iff, Bool.cond_true, Bool.cond_false] at hb28)
        all_goals (try (exfalso; first | exact absurd hb28 id | omega))
      all_goals (first | refine aq_yes rfl rfl rfl rfl rfl rfl (op1_move rfl rfl) ?_ | refine aq_no rfl rfl rfl rfl rfl rfl ?_)
      all_goals (first | refine aq_yes rfl rfl rfl rfl rfl rfl (op1_move rfl rfl) ?_ | refine aq_no rfl rfl rfl rfl rfl rfl ?_)
      all_goals (first | refine aq_yes rfl rfl rfl rfl rfl rfl (op1_idx Try.underlying22 inf_33 rfl rfl rfl (by omega) (by first | rfl | assumption)) ?_ | refine aq_no rfl rfl rfl rfl rfl rfl ?_)
      all_goals (first | refine aq_yes rfl rfl rfl rfl rfl rfl (op1_faR st_33 (i := 1) rfl rfl rfl) ?_ | refine aq_yes rfl rfl rfl rfl rfl rfl (op1_faP st_33 (i := 1) rfl rfl rfl) ?_ | refine aq_no rfl rfl rfl rfl rfl rfl ?_)
      all_goals (first | refine aq_yes rfl rfl rfl rfl rfl rfl (op1_ldR Try.underlying23 rfl rfl rfl rfl rfl) ?_ | refine aq_yes rfl rfl rfl rfl rfl rfl (op1_ldR Try.underlying23 rfl rfl rfl (by first | rfl | exact look_snoc | exact look_set | (simp; done)) (by rfl)) ?_ | refine aq_yes rfl rfl rfl rfl rfl rfl (op1_ldP Try.underlying23 rfl rfl rfl rfl) ?_ | refine aq_no rfl rfl rfl rfl rfl rfl ?_)
      all_goals (first | refine aq_yes rfl rfl rfl rfl rfl rfl (op1_move rfl rfl) ?_ | refine aq_no rfl rfl rfl rfl rfl rfl ?_)
      all_goals (first | refine aq_yes rfl rfl rfl rfl rfl rfl (op1_move rfl rfl) ?_ | refine aq_no rfl rfl rfl rfl rfl rfl ?_)
      all_goals (first | refine aq_yes rfl rfl rfl rfl rfl rfl (op1_idx Try.underlying22 inf_33 rfl rfl rfl (by omega) (by first | rfl | assumption)) ?_ | refine aq_no rfl rfl rfl rfl rfl rfl ?_)
      all_goals (first | refine aq_yes rfl rfl rfl rfl rfl rfl (op1_faR st_33 (i := 1) rfl rfl rfl) ?_ | refine aq_yes rfl rfl rfl rfl rfl rfl (op1_faP st_33 (i := 1) rfl rfl rfl) ?_ | refine aq_no rfl rfl rfl rfl rfl rfl ?_)
      all_goals (first | refine aq_yes rfl rfl rfl rfl rfl rfl (op1_ldR Try.underlying23 rfl rfl rfl rfl rfl) ?_ | refine aq_yes rfl rfl rfl rfl rfl rfl (op1_ldR Try.underlying23 rfl rfl rfl (by first | rfl | exact look_snoc | exact look_set | (simp; done)) (by rfl)) ?_ | refine aq_yes rfl rfl rfl rfl rfl rfl (op1_ldP Try.underlying23 rfl rfl rfl rfl) ?_ | refine aq_no rfl rfl rfl rfl rfl rfl ?_)
      all_goals (first | refine aq_yes rfl rfl rfl rfl rfl rfl (op1_pcall rfl en_15 rfl (by first | exact WkL.refl _ | (repeat (first | exact .nil | refine .cons (Wk.refl _) ?_ | refine .cons Wk.tok ?_ | refine .cons Wk.nil ?_ | refine .cons (Wk.refl _) ?_))) (by repeat (first | exact trivial | refine ⟨(by first | rfl | exact bsl_ids _ | exact frs_ids _ | exact fr_ids _), ?_⟩)) (same_c _ _ h3 h4) (by exact (by first | rfl | exact bsl_ids _ | exact frs_ids _ | exact fr_ids _))) ?_ | refine aq_no rfl rfl rfl rfl rfl rfl ?_)
      all_goals (first | refine aq_yes rfl rfl rfl rfl rfl rfl (op1_not rfl rfl) ?_ | refine aq_no rfl rfl rfl rfl rfl rfl ?_)
      all_goals (first | refine aq_go rfl rfl rfl (op1_pickT rfl rfl rfl) ?_ | refine aq_go rfl rfl rfl (op1_pickF rfl rfl rfl) ?_ | refine aq_go rfl rfl rfl (op1_pickB rfl rfl rfl rfl) ?_)
      all_goals refine aq_nil ?_
      all_goals refine ao_nil ?_
      all_goals (
        change AW _ _ _ _
        refine aw_cond rfl ?_ ?_
        rotate_left
        case' _ =>
          intro hc3
          (try (exfalso; exact absurd hc3 (by decide)))
          all_goals (try simp only [decide_eq_true_eq, decide_eq_false_iff_not, beq_iff_eq, beq_eq_false_iff_ne, bne_iff_ne, bne_eq_false_iff_eq, Bool.not_eq_true, Bool.not_eq_false, Bool.not_eq_true', Bool.not_eq_false', ne_eq, Bool.and_eq_true, Bool.or_eq_true, Bool.and_eq_false_iff, Bool.or_eq_false_iff, Bool.cond_true, Bool.cond_false] at hc3)
          all_goals (try (exfalso; first | exact absurd hc3 id | omega))
          all_goals (
            refine aw_skip ?_
            )
        rotate_right
        case' _ =>
          intro hc3
          (try (exfalso; exact absurd hc3 (by decide)))
          all_goals (try simp only [decide_eq_true_eq, decide_eq_false_iff_not, beq_iff_eq, beq_eq_false_iff_ne, bne_iff_ne, bne_eq_false_iff_eq, Bool.not_eq_true, Bool.not_eq_false, Bool.not_eq_true', Bool.not_eq_false', ne_eq, Bool.and_eq_true, Bool.or_eq_true, Bool.and_eq_false_iff, Bool.or_eq_false_iff, Bool.cond_true, Bool.cond_false] at hc3)
          all_goals (try (exfalso; first | exact absurd hc3 id | omega))
          all_goals (
            refine aw_seq ?_
            refine aw_region ?_
            refine ao_step rfl rfl rfl (op1_assign rfl rfl) ?_
            refine ao_nil ?_
            change AW _ _ _ _
            refine aw_ret ?_
            change ∃ xs, _ = some xs ∧ EndOk _ _ _ _
            refine ⟨_, rfl, endOk0 (Wk.refl _) rfl ⟨?_, rfl⟩⟩
            first | exact ret_t (take_all_eq (by omega) (by rw [← h1]; exact hs)) | exact ret_f (by intro h; subst h; omega) | exact ret_f (ne_at (i := i) (by omega) (by omega) (fun h => hc3 (by rw [h]))) | exact ret_f (ne_at (i := i) (by omega) (by omega) (fun h => hb28 (by rw [h])))
            )
        )
      all_goals (
        change AW _ _ _ _
        refine aw_region ?_
        refine ao_step rfl rfl rfl (op1_move rfl rfl) ?_
        first | refine ao_step rfl rfl rfl (op1_add rfl rfl rfl (by constructor <;> omega)) ?_ | refine ao_step rfl rfl rfl (op1_addW rfl rfl rfl) ?_
        refine ao_step rfl rfl rfl (op1_assign rfl rfl) ?_
        refine ao_nil ?_
        )
      )
    all_goals (
      exact ⟨m - 1, by omega, i + 1, (by omega), (take_eq_succ hs (by omega) (by omega) (Prod.ext hb28 hc3)), (by first | rfl | (simp; done)), rfl, (by repeat (first | exact sub_nil | refine sub_eq rfl (by first | rfl | (simp [bytes_len]; done)) ?_))⟩
      )
    all_goals (
      change AW _ _ _ _
      refine aw_seq ?_
      refine aw_region ?_
      refine ao_step rfl rfl rfl (op1_assign rfl rfl) ?_
      refine ao_nil ?_
      change AW _ _ _ _
      refine aw_ret ?_
      change ∃ xs, _ = some xs ∧ EndOk _ _ _ _
      refine ⟨_, rfl, endOk0 (Wk.refl _) rfl ⟨?_, rfl⟩⟩
      first | exact ret_t (take_all_eq (by omega) (by rw [← h1]; exact hs)) | exact ret_f (by intro h; subst h; omega) | exact ret_f (ne_at (i := i) (by omega) (by omega) (fun h => hc3 (by rw [h]))) | exact ret_f (ne_at (i := i) (by omega) (by omega) (fun h => hb28 (by rw [h])))
      )
    )
end Go.Proofs.Ytpmbflnoohpbnaa
