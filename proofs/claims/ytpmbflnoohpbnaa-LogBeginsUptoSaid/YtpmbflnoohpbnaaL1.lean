/- Chapter 19: what the small functions tell, over trees. -/
import Derived.Test.YtpmbflnoohpbnaaV0
namespace Go.Proofs.Ytpmbflnoohpbnaa
open Go Aw
set_option linter.unusedVariables false
set_option linter.unusedSimpArgs false
set_option maxRecDepth 8000

theorem sub_eq {e e' : List (Nat × PV)} {k : Nat} {x y : PV} (h : get e k = some y) (he : y = x) (hs : Sub e' e) : Sub ((k, x) :: e') e := sub_cons (he ▸ h) hs
theorem look_snoc {H : List AEnt} {b : AEnt} : (H ++ [b])[H.length]? = some b := by simp
theorem look_set {H : List AEnt} {b e : AEnt} : ((H ++ [b]).set H.length e)[H.length]? = some e := by simp
abbrev bsl (bs : List UInt8) : PV := .sl none 1 (bytesPV bs)
abbrev pi (i : Int) : PV := .v (.int .i64 i)
abbrev pu (i : Int) : PV := .v (.int .u64 i)
theorem bytes_len (bs : List UInt8) : (bytesPV bs).length = bs.length := by simp [bytesPV]
theorem bytes_get {bs : List UInt8} {i : Nat} (h : i < bs.length) : (bytesPV bs)[i]? = some (.v (.int .u8 (bs[i]).toNat)) := by simp [bytesPV, h]
def u8 (i : Int) : UInt8 := UInt8.ofNat (i % 256).toNat
theorem u8_nat (i : Int) : ((u8 i).toNat : Int) = IntKind.u8.wrap i := by
  unfold u8 IntKind.wrap
  simp only [UInt8.toNat_ofNat', IntKind.bits, IntKind.signed, Bool.false_and, if_false, Bool.false_eq_true]
  have h1 : 0 ≤ i % 256 := Int.emod_nonneg _ (by decide)
  have h2 : i % 256 < 256 := Int.emod_lt_of_pos _ (by decide)
  have h3 : (i % 256).toNat % 2 ^ 8 = (i % 256).toNat := Nat.mod_eq_of_lt (by omega)
  rw [h3]
  show ((i % 256).toNat : Int) = i % 256
  omega
theorem bytes_push (bs : List UInt8) (i : Int) : bytesPV bs ++ [.v (.int .u8 (IntKind.u8.wrap i))] = bytesPV (bs ++ [u8 i]) := by simp [bytesPV, u8_nat]
theorem bytes_app (a b : List UInt8) : bytesPV a ++ bytesPV b = bytesPV (a ++ b) := by simp [bytesPV]
theorem bytes_cut (a : List UInt8) (l h : Nat) : ((bytesPV a).take h).drop l = bytesPV ((a.take h).drop l) := by simp [bytesPV, List.map_take, List.map_drop]
theorem bsl_ids (bs : List UInt8) : (bsl bs).ids = [] := ids_sl (ids_bytes bs)

theorem bytes_one (bs : List UInt8) : (bytesPV bs).all (fun y => y.cells.all one1) = true := by
  rw [List.all_eq_true]; intro y hy; obtain ⟨b, _, rfl⟩ := List.mem_map.1 hy; rfl
theorem bytes_sz (bs : List UInt8) : (bytesPV bs).all (fun y => Nat.beq y.cells.length 1) = true := by
  rw [List.all_eq_true]; intro y hy; obtain ⟨b, _, rfl⟩ := List.mem_map.1 hy; rfl
/-- One step of a sum. -/
def sumS (h : Int) (c : UInt8) : Int := IntKind.u64.wrap (IntKind.u64.wrap ((BitVec.ofInt 64 h ^^^ BitVec.ofInt 64 (IntKind.u64.wrap c.toNat)).toNat : Int) * 1099511628211)
def sumF (bs : List UInt8) : Int := bs.foldl sumS 14695981039346656037
theorem sumF_take {bs : List UInt8} {i : Nat} (h : i < bs.length) : sumF (bs.take (i + 1)) = sumS (sumF (bs.take i)) bs[i] := by
  have : bs.take (i + 1) = bs.take i ++ [bs[i]] := (List.take_append_getElem h).symm
  rw [this]; unfold sumF; rw [List.foldl_append]; rfl

theorem sum_c (bs : List UInt8) (hb : bs.length ≤ 1099511627776) : PCalls Try.prog 52 [bsl bs] (pu (sumF bs)) := by
  have hl := bytes_len bs
  refine acalls_of Try.func52 rfl Try.ntmps52 Try.results52 rfl ?_
  change AW _ _ ⟨[(0, _)], _, _⟩ _
  refine aw_seq ?_
  refine aw_region ?_
  refine ao_step rfl rfl rfl (op1_assign rfl rfl) ?_
  refine ao_nil ?_
  change AW _ _ _ _
  refine aw_seq ?_
  refine aw_region ?_
  refine ao_step rfl rfl rfl (op1_assign rfl rfl) ?_
  refine ao_nil ?_
  change AW _ _ _ _
  refine aw_seq ?_
  refine aw_seq ?_
  refine aw_region ?_
  refine ao_step rfl rfl rfl (op1_move rfl rfl) ?_
  first | refine ao_step rfl rfl rfl (op1_len Try.underlying23 rfl rfl) ?_ | refine ao_step rfl rfl rfl (op1_len0 Try.underlying23 rfl rfl) ?_
  refine ao_step rfl rfl rfl (op1_move rfl rfl) ?_
  refine ao_nil ?_
  change AW _ _ _ _
  refine aw_block ?_
  change AW _ _ _ _
  refine aw_loop (fun m s => ∃ i : Nat, m + i = bs.length ∧ s.H = [] ∧ s.n = 19 ∧ Sub [(3, pu (sumF (bs.take i))), (6, bsl bs), (7, pi bs.length), (8, pi i)] s.env) (n := bs.length) ⟨0, rfl, rfl, rfl, by repeat (first | exact sub_nil | refine sub_eq rfl (by first | rfl | (simp [bytes_len]; done)) ?_)⟩ ?_
  rintro m ⟨env, H, n⟩ ⟨i, hi, hH, hn, hs⟩
  dsimp only at hH hn hs
  subst hH hn
  refine aw_sub hs ?_
  clear hs
  refine aw_seq ?_
  refine aw_region ?_
  refine ao_step rfl rfl rfl (op1_cmp rfl rfl rfl rfl) ?_
  refine ao_nil ?_
  change AW _ _ _ _
  refine aw_seq ?_
  refine aw_cond rfl ?_ ?_
  rotate_left
  case' _ =>
    intro hc1
    (try (exfalso; exact absurd hc1 (by decide)))
    all_goals (try simp only [decide_eq_true_eq, decide_eq_false_iff_not, beq_iff_eq, beq_eq_false_iff_ne, bne_iff_ne, bne_eq_false_iff_eq, Bool.not_eq_true, Bool.not_eq_false, Bool.not_eq_true', Bool.not_eq_false', ne_eq, Bool.and_eq_true, Bool.or_eq_true, Bool.and_eq_false_iff, Bool.or_eq_false_iff, Bool.cond_true, Bool.cond_false] at hc1)
    all_goals (try (exfalso; first | exact absurd hc1 id | omega))
    all_goals (
      first | (have hb := bytes_get (bs := bs) (i := i) (by omega)) | (obtain rfl : i = bs.length := by omega)
      )
    all_goals (
      refine aw_exit ?_
      change AW _ _ _ _
      refine aw_seq ?_
      refine aw_region ?_
      refine ao_step rfl rfl rfl (op1_move rfl rfl) ?_
      refine ao_step rfl rfl rfl (op1_assign rfl rfl) ?_
      refine ao_nil ?_
      change AW _ _ _ _
      refine aw_ret ?_
      change ∃ xs, _ = some xs ∧ EndOk _ _ _ _
      refine ⟨_, rfl, endOk0 (Wk.refl _) rfl ⟨?_, rfl⟩⟩
      rw [List.take_length]; rfl
      )
  rotate_right
  case' _ =>
    intro hc1
    (try (exfalso; exact absurd hc1 (by decide)))
    all_goals (try simp only [decide_eq_true_eq, decide_eq_false_iff_not, beq_iff_eq, beq_eq_false_iff_ne, bne_iff_ne, bne_eq_false_iff_eq, Bool.not_eq_true, Bool.not_eq_false, Bool.not_eq_true', Bool.not_eq_false', ne_eq, Bool.and_eq_true, Bool.or_eq_true, Bool.and_eq_false_iff, Bool.or_eq_false_iff, Bool.cond_true, Bool.cond_false] at hc1)
    all_goals (try (exfalso; first | exact absurd hc1 id | omega))
    all_goals (
      first | (have hb := bytes_get (bs := bs) (i := i) (by omega)) | (obtain rfl : i = bs.length := by omega)
      )
    all_goals (
      refine aw_skip ?_
      )
  all_goals (
    change AW _ _ _ _
    refine aw_seq ?_
    refine aw_block ?_
    change AW _ _ _ _
    refine aw_seq ?_
    refine aw_region ?_
    refine ao_step rfl rfl rfl (op1_idx Try.underlying23 inf_5 rfl rfl rfl (by omega) (by first | rfl | assumption)) ?_
    first | refine ao_step rfl rfl rfl (op1_ldR Try.underlying5 rfl rfl rfl rfl rfl) ?_ | refine ao_step rfl rfl rfl (op1_ldR Try.underlying5 rfl rfl rfl (by first | rfl | exact look_snoc | exact look_set | (simp; done)) (by rfl)) ?_ | refine ao_step rfl rfl rfl (op1_ldP Try.underlying5 rfl rfl rfl rfl) ?_
    refine ao_step rfl rfl rfl (op1_assign rfl rfl) ?_
    refine ao_nil ?_
    change AW _ _ _ _
    refine aw_region ?_
    refine ao_step rfl rfl rfl (op1_move rfl rfl) ?_
    refine ao_step rfl rfl rfl (op1_move rfl rfl) ?_
    refine ao_step rfl rfl rfl (op1_convI Try.underlying5 Try.underlying75 rfl rfl) ?_
    refine ao_step rfl rfl rfl (op1_xorW rfl rfl rfl) ?_
    refine ao_step rfl rfl rfl (op1_mulW rfl rfl rfl) ?_
    refine ao_step rfl rfl rfl (op1_assign rfl rfl) ?_
    refine ao_nil ?_
    change AW _ _ _ _
    refine aw_region ?_
    first | refine ao_step rfl rfl rfl (op1_add rfl rfl rfl (by constructor <;> omega)) ?_ | refine ao_step rfl rfl rfl (op1_addW rfl rfl rfl) ?_
    refine ao_step rfl rfl rfl (op1_move rfl rfl) ?_
    refine ao_nil ?_
    )
  all_goals (
    exact ⟨m - 1, by omega, i + 1, by omega, rfl, rfl, (by rw [sumF_take (by omega)]; repeat (first | exact sub_nil | refine sub_eq rfl (by first | rfl | (simp [bytes_len]; done)) ?_))⟩
    )
  all_goals (
    change AW _ _ _ _
    refine aw_seq ?_
    refine aw_region ?_
    refine ao_step rfl rfl rfl (op1_move rfl rfl) ?_
    refine ao_step rfl rfl rfl (op1_assign rfl rfl) ?_
    refine ao_nil ?_
    change AW _ _ _ _
    refine aw_ret ?_
    change ∃ xs, _ = some xs ∧ EndOk _ _ _ _
    refine ⟨_, rfl, endOk0 (Wk.refl _) rfl ⟨?_, rfl⟩⟩
    rw [List.take_length]; rfl
    )

theorem Sum_c (bs : List UInt8) (hb : bs.length ≤ 1099511627776) : PCalls Try.prog 32 [bsl bs] (pu (sumF bs)) := by
  have hl := bytes_len bs
  refine acalls_of Try.func32 rfl Try.ntmps32 Try.results32 rfl ?_
  change AW _ _ ⟨[(0, _)], _, _⟩ _
  refine aw_seq ?_
  refine aw_region ?_
  refine ao_step rfl rfl rfl (op1_assign rfl rfl) ?_
  refine ao_nil ?_
  change AW _ _ _ _
  refine aw_seq ?_
  refine aw_region ?_
  refine ao_step rfl rfl rfl (op1_assign rfl rfl) ?_
  refine ao_nil ?_
  change AW _ _ _ _
  refine aw_seq ?_
  refine aw_seq ?_
  refine aw_region ?_
  refine ao_step rfl rfl rfl (op1_assign rfl rfl) ?_
  refine ao_nil ?_
  change AW _ _ _ _
  refine aw_block ?_
  change AW _ _ _ _
  refine aw_loop (fun m s => ∃ i : Nat, m + i = bs.length ∧ s.H = [] ∧ s.n = 20 ∧ Sub [(0, bsl bs), (3, pu (sumF (bs.take i))), (4, pi i)] s.env) (n := bs.length) ⟨0, rfl, rfl, rfl, by repeat (first | exact sub_nil | refine sub_eq rfl (by first | rfl | (simp [bytes_len]; done)) ?_)⟩ ?_
  rintro m ⟨env, H, n⟩ ⟨i, hi, hH, hn, hs⟩
  dsimp only at hH hn hs
  subst hH hn
  refine aw_sub hs ?_
  clear hs
  refine aw_seq ?_
  refine aw_seq ?_
  refine aw_region ?_
  refine ao_step rfl rfl rfl (op1_move rfl rfl) ?_
  refine ao_step rfl rfl rfl (op1_move rfl rfl) ?_
  first | refine ao_step rfl rfl rfl (op1_len Try.underlying23 rfl rfl) ?_ | refine ao_step rfl rfl rfl (op1_len0 Try.underlying23 rfl rfl) ?_
  refine ao_step rfl rfl rfl (op1_cmp rfl rfl rfl rfl) ?_
  refine ao_nil ?_
  change AW _ _ _ _
  refine aw_cond rfl ?_ ?_
  rotate_left
  case' _ =>
    intro hc1
    (try (exfalso; exact absurd hc1 (by decide)))
    all_goals (try simp only [decide_eq_true_eq, decide_eq_false_iff_not, beq_iff_eq, beq_eq_false_iff_ne, bne_iff_ne, bne_eq_false_iff_eq, Bool.not_eq_true, Bool.not_eq_false, Bool.not_eq_true', Bool.not_eq_false', ne_eq, Bool.and_eq_true, Bool.or_eq_true, Bool.and_eq_false_iff, Bool.or_eq_false_iff, Bool.cond_true, Bool.cond_false] at hc1)
    all_goals (try (exfalso; first | exact absurd hc1 id | omega))
    all_goals (
      first | (have hb := bytes_get (bs := bs) (i := i) (by omega)) | (obtain rfl : i = bs.length := by omega)
      )
    all_goals (
      refine aw_exit ?_
      change AW _ _ _ _
      refine aw_seq ?_
      refine aw_region ?_
      refine ao_step rfl rfl rfl (op1_move rfl rfl) ?_
      refine ao_step rfl rfl rfl (op1_assign rfl rfl) ?_
      refine ao_nil ?_
      change AW _ _ _ _
      refine aw_ret ?_
      change ∃ xs, _ = some xs ∧ EndOk _ _ _ _
      refine ⟨_, rfl, endOk0 (Wk.refl _) rfl ⟨?_, rfl⟩⟩
      rw [List.take_length]; rfl
      )
  rotate_right
  case' _ =>
    intro hc1
    (try (exfalso; exact absurd hc1 (by decide)))
    all_goals (try simp only [decide_eq_true_eq, decide_eq_false_iff_not, beq_iff_eq, beq_eq_false_iff_ne, bne_iff_ne, bne_eq_false_iff_eq, Bool.not_eq_true, Bool.not_eq_false, Bool.not_eq_true', Bool.not_eq_false', ne_eq, Bool.and_eq_true, Bool.or_eq_true, Bool.and_eq_false_iff, Bool.or_eq_false_iff, Bool.cond_true, Bool.cond_false] at hc1)
    all_goals (try (exfalso; first | exact absurd hc1 id | omega))
    all_goals (
      first | (have hb := bytes_get (bs := bs) (i := i) (by omega)) | (obtain rfl : i = bs.length := by omega)
      )
    all_goals (
      refine aw_skip ?_
      )
  all_goals (
    change AW _ _ _ _
    refine aw_seq ?_
    refine aw_block ?_
    change AW _ _ _ _
    refine aw_region ?_
    refine ao_step rfl rfl rfl (op1_move rfl rfl) ?_
    refine ao_step rfl rfl rfl (op1_move rfl rfl) ?_
    refine ao_step rfl rfl rfl (op1_move rfl rfl) ?_
    refine ao_step rfl rfl rfl (op1_idx Try.underlying23 inf_5 rfl rfl rfl (by omega) (by first | rfl | assumption)) ?_
    first | refine ao_step rfl rfl rfl (op1_ldR Try.underlying5 rfl rfl rfl rfl rfl) ?_ | refine ao_step rfl rfl rfl (op1_ldR Try.underlying5 rfl rfl rfl (by first | rfl | exact look_snoc | exact look_set | (simp; done)) (by rfl)) ?_ | refine ao_step rfl rfl rfl (op1_ldP Try.underlying5 rfl rfl rfl rfl) ?_
    refine ao_step rfl rfl rfl (op1_convI Try.underlying5 Try.underlying75 rfl rfl) ?_
    refine ao_step rfl rfl rfl (op1_xorW rfl rfl rfl) ?_
    refine ao_step rfl rfl rfl (op1_mulW rfl rfl rfl) ?_
    refine ao_step rfl rfl rfl (op1_assign rfl rfl) ?_
    refine ao_nil ?_
    change AW _ _ _ _
    refine aw_region ?_
    refine ao_step rfl rfl rfl (op1_move rfl rfl) ?_
    first | refine ao_step rfl rfl rfl (op1_add rfl rfl rfl (by constructor <;> omega)) ?_ | refine ao_step rfl rfl rfl (op1_addW rfl rfl rfl) ?_
    refine ao_step rfl rfl rfl (op1_assign rfl rfl) ?_
    refine ao_nil ?_
    )
  all_goals (
    exact ⟨m - 1, by omega, i + 1, by omega, rfl, rfl, (by rw [sumF_take (by omega)]; repeat (first | exact sub_nil | refine sub_eq rfl (by first | rfl | (simp [bytes_len]; done)) ?_))⟩
    )
  all_goals (
    change AW _ _ _ _
    refine aw_seq ?_
    refine aw_region ?_
    refine ao_step rfl rfl rfl (op1_move rfl rfl) ?_
    refine ao_step rfl rfl rfl (op1_assign rfl rfl) ?_
    refine ao_nil ?_
    change AW _ _ _ _
    refine aw_ret ?_
    change ∃ xs, _ = some xs ∧ EndOk _ _ _ _
    refine ⟨_, rfl, endOk0 (Wk.refl _) rfl ⟨?_, rfl⟩⟩
    rw [List.take_length]; rfl
    )

def numF : Nat → Int → List UInt8
  | 0, _ => []
  | k + 1, n => u8 (n.tmod 256) :: numF k (IntKind.u64.wrap (n.tdiv 256))
theorem numF_len : ∀ (k : Nat) (n : Int), (numF k n).length = k
  | 0, _ => rfl
  | k + 1, n => by simp [numF, numF_len k]
theorem number_c (n : Int) (k : Nat) (hk : k ≤ 64) : PCalls Try.prog 31 [pu n, pi k] (bsl (numF k n)) := by
  refine acalls_of Try.func31 rfl Try.ntmps31 Try.results31 rfl ?_
  change AW _ _ ⟨[(0, _), (1, _)], _, _⟩ _
  refine aw_seq ?_
  refine aw_region ?_
  refine ao_step rfl rfl rfl (op1_assign rfl rfl) ?_
  refine ao_nil ?_
  change AW _ _ _ _
  refine aw_seq ?_
  refine aw_region ?_
  refine ao_step rfl rfl rfl (op1_bslice (xs := []) Try.underlying23 inf_5 rfl rfl rfl (by first | rfl | simp [cok, one1, PV.cells]) (by first | rfl | rfl | simp [cok, one1, PV.cells]) rfl (by decide) (by first | rfl | simp [cok, one1, PV.cells, afill, setL, zipN])) ?_
  refine ao_step rfl rfl rfl (op1_assign rfl rfl) ?_
  refine ao_nil ?_
  change AW _ _ _ _
  refine aw_seq ?_
  refine aw_seq ?_
  refine aw_region ?_
  refine ao_step rfl rfl rfl (op1_assign rfl rfl) ?_
  refine ao_nil ?_
  change AW _ _ _ _
  refine aw_block ?_
  change AW _ _ _ _
  refine aw_loop (fun m s => ∃ (i : Nat) (u : Int) (bs : List UInt8) (T : List AEnt), (m + i = k) ∧ (bs ++ numF m u = numF k n) ∧ (bs.length = i) ∧ s.H = .arr 5 (bytesPV bs).length :: T ∧ s.n = 22 ∧ Sub [(0, pu u), (1, pi k), (5, .sl (some 0) 1 (bytesPV bs)), (6, pi i)] s.env) (n := k) ⟨0, n, [], [], (by first | rfl | omega | (simp; done)), (by first | rfl | omega | (simp; done)), (by first | rfl | omega | (simp; done)), (by first | rfl | (simp; done)), rfl, (by repeat (first | exact sub_nil | refine sub_eq rfl (by first | rfl | (simp [bytes_len]; done)) ?_))⟩ ?_
  rintro m ⟨env, H, N⟩ ⟨i, u, bs, T, hi, hbs, hbl, hH, hn, hs⟩
  dsimp only at hH hn hs
  subst hH hn
  refine aw_sub hs ?_
  clear hs
  have hl := bytes_len bs
  refine aw_seq ?_
  refine aw_seq ?_
  refine aw_region ?_
  refine ao_step rfl rfl rfl (op1_move rfl rfl) ?_
  refine ao_step rfl rfl rfl (op1_move rfl rfl) ?_
  refine ao_step rfl rfl rfl (op1_cmp rfl rfl rfl rfl) ?_
  refine ao_nil ?_
  change AW _ _ _ _
  refine aw_cond rfl ?_ ?_
  rotate_left
  case' _ =>
    intro hc1
    (try (exfalso; exact absurd hc1 (by decide)))
    all_goals (try simp only [decide_eq_true_eq, decide_eq_false_iff_not, beq_iff_eq, beq_eq_false_iff_ne, bne_iff_ne, bne_eq_false_iff_eq, Bool.not_eq_true, Bool.not_eq_false, Bool.not_eq_true', Bool.not_eq_false', ne_eq, Bool.and_eq_true, Bool.or_eq_true, Bool.and_eq_false_iff, Bool.or_eq_false_iff, Bool.cond_true, Bool.cond_false] at hc1)
    all_goals (try (exfalso; first | exact absurd hc1 id | omega))
    all_goals (
      first | (have h0 : m = 0 := (by omega)) | (obtain ⟨m, rfl⟩ := Nat.exists_eq_succ_of_ne_zero (show m ≠ 0 by omega))
      )
    all_goals (
      refine aw_exit ?_
      change AW _ _ _ _
      refine aw_seq ?_
      refine aw_region ?_
      refine ao_step rfl rfl rfl (op1_move rfl rfl) ?_
      refine ao_step rfl rfl rfl (op1_assign rfl rfl) ?_
      refine ao_nil ?_
      change AW _ _ _ _
      refine aw_ret ?_
      change ∃ xs, _ = some xs ∧ EndOk _ _ _ _
      refine ⟨_, rfl, endOk0 Wk.tok (bsl_ids _) ⟨?_, rfl⟩⟩
      subst h0; rw [← hbs]; simp [numF]
      )
  rotate_right
  case' _ =>
    intro hc1
    (try (exfalso; exact absurd hc1 (by decide)))
    all_goals (try simp only [decide_eq_true_eq, decide_eq_false_iff_not, beq_iff_eq, beq_eq_false_iff_ne, bne_iff_ne, bne_eq_false_iff_eq, Bool.not_eq_true, Bool.not_eq_false, Bool.not_eq_true', Bool.not_eq_false', ne_eq, Bool.and_eq_true, Bool.or_eq_true, Bool.and_eq_false_iff, Bool.or_eq_false_iff, Bool.cond_true, Bool.cond_false] at hc1)
    all_goals (try (exfalso; first | exact absurd hc1 id | omega))
    all_goals (
      first | (have h0 : m = 0 := (by omega)) | (obtain ⟨m, rfl⟩ := Nat.exists_eq_succ_of_ne_zero (show m ≠ 0 by omega))
      )
    all_goals (
      refine aw_skip ?_
      )
  all_goals (
    change AW _ _ _ _
    refine aw_seq ?_
    refine aw_block ?_
    change AW _ _ _ _
    refine aw_seq ?_
    refine aw_region ?_
    refine ao_step rfl rfl rfl (op1_move rfl rfl) ?_
    refine ao_step rfl rfl rfl (op1_move rfl rfl) ?_
    refine ao_step rfl rfl rfl (op1_rem rfl rfl rfl (by first | decide | omega)) ?_
    refine ao_step rfl rfl rfl (op1_convI Try.underlying75 Try.underlying5 rfl rfl) ?_
    refine ao_step rfl rfl rfl (op1_bslice (xs := [_]) Try.underlying23 inf_5 rfl rfl rfl (by first | rfl | simp [cok, one1, PV.cells]) (by first | rfl | rfl | simp [cok, one1, PV.cells]) rfl (by decide) (by first | rfl | simp [cok, one1, PV.cells, afill, setL, zipN])) ?_
    refine ao_step rfl rfl rfl (op1_app Try.underlying23 inf_5 rfl rfl rfl (by first | rfl | assumption | (simp [List.length_map]; done)) (fun F g a w hr => src_sl hr rfl Try.underlying23 (by first | rfl | rfl | simp [cok, one1, PV.cells])) (by first | rfl | rfl | simp [cok, one1, PV.cells]) (by first | decide | omega | (simp [List.length_map]; done) | (simp [List.length_map]; omega)) (by first | decide | omega | (simp [List.length_map]; done) | (simp [List.length_map]; omega))) ?_
    refine ao_step rfl rfl rfl (op1_assign rfl rfl) ?_
    refine ao_nil ?_
    change AW _ _ _ _
    refine aw_region ?_
    refine ao_step rfl rfl rfl (op1_move rfl rfl) ?_
    refine ao_step rfl rfl rfl (op1_quo rfl rfl rfl (by first | decide | omega)) ?_
    refine ao_step rfl rfl rfl (op1_assign rfl rfl) ?_
    refine ao_nil ?_
    change AW _ _ _ _
    refine aw_region ?_
    refine ao_step rfl rfl rfl (op1_move rfl rfl) ?_
    first | refine ao_step rfl rfl rfl (op1_add rfl rfl rfl (by constructor <;> omega)) ?_ | refine ao_step rfl rfl rfl (op1_addW rfl rfl rfl) ?_
    refine ao_step rfl rfl rfl (op1_assign rfl rfl) ?_
    refine ao_nil ?_
    )
  all_goals (
    exact ⟨m, by omega, i + 1, IntKind.u64.wrap (u.tdiv 256), bs ++ [u8 (u.tmod 256)], _, (by omega), (by rw [← hbs]; simp [numF]), (by simp [hbl]), (by rw [← bytes_push]; simp; rfl), rfl, (by rw [← bytes_push]; repeat (first | exact sub_nil | refine sub_eq rfl (by first | rfl | (simp [bytes_len]; done)) ?_))⟩
    )
  all_goals (
    change AW _ _ _ _
    refine aw_seq ?_
    refine aw_region ?_
    refine ao_step rfl rfl rfl (op1_move rfl rfl) ?_
    refine ao_step rfl rfl rfl (op1_assign rfl rfl) ?_
    refine ao_nil ?_
    change AW _ _ _ _
    refine aw_ret ?_
    change ∃ xs, _ = some xs ∧ EndOk _ _ _ _
    refine ⟨_, rfl, endOk0 Wk.tok (bsl_ids _) ⟨?_, rfl⟩⟩
    subst h0; rw [← hbs]; simp [numF]
    )
end Go.Proofs.Ytpmbflnoohpbnaa
