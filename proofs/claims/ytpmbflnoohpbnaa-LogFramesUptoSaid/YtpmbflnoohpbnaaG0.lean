/- Pure functions, and that calls answer as they say. Written by gen.py. -/
import Derived.Test.YtpmbflnoohpbnaaGS
namespace Go.Proofs.Ytpmbflnoohpbnaa
open Go Aw
set_option linter.unusedVariables false
set_option linter.unusedSimpArgs false
set_option maxRecDepth 20000
set_option maxHeartbeats 2000000
noncomputable def law19_lent_l1b (a0 : Str) (g1 : Str → Int → Option (Str × Str)) (s4 : Str) (s5 : Int) : Option (Str × Str) :=
 bif (decide (s5 < 32)) then (
  Option.bind (appO 1 s4 ([(UInt8.ofInt (IntKind.i64.wrap (171 + s5)))] : Str)) fun x7 =>
  g1 x7 (IntKind.i64.wrap (s5 + 1))
 ) else (
  Option.bind (cutO s4 0 (((a0).length : Nat) : Int)) fun x8 =>
  some (x8, s4)
 )
theorem law19_lent_l1b_cm {ι : Type} {ρ : ι → Type} (g1 : (∀ i, Option (ρ i)) → Str → Int → Option (Str × Str)) (h_g1 : ∀ y0 y1, CM (fun G => g1 G y0 y1)) (a0 : Str) (s4 : Str) (s5 : Int) : CM (fun G : (∀ i, Option (ρ i)) => law19_lent_l1b a0 (g1 G) s4 s5) := by
 simp only [law19_lent_l1b]
 repeat (first | exact cm_const | exact h_g1 _ _ | refine cm_cond ?_ ?_ | refine cm_bind ?_ (fun _ => ?_))
noncomputable def law19_lent_l1 (a0 : Str) (s4 : Str) (s5 : Int) : Option (Str × Str) :=
 fixO (ι := (Str × Int)) (ρ := fun _ => (Str × Str)) (fun g i => law19_lent_l1b a0 (fun s4 s5 => g (s4, s5)) i.1 i.2) (s4, s5)
theorem law19_lent_l1_eq (a0 : Str) (s4 : Str) (s5 : Int) : law19_lent_l1 a0 s4 s5 = law19_lent_l1b a0 (law19_lent_l1 a0) s4 s5 :=
 fixO_eq (ι := (Str × Int)) (ρ := fun _ => (Str × Str)) (Φ := fun g i => law19_lent_l1b a0 (fun s4 s5 => g (s4, s5)) i.1 i.2) (fun i => law19_lent_l1b_cm (ι := (Str × Int)) (ρ := fun _ => (Str × Str)) (fun g => (fun s4 s5 => g (s4, s5))) (fun _ _ => cm_app) a0 i.1 i.2) (s4, s5)
noncomputable def p_law19_lent (a0 : Str) : Option (Str × Str) :=
 Option.bind (natO (IntKind.i64.wrap ((((a0).length : Nat) : Int) + 32))) fun x1 =>
 Option.bind (roomO x1 1) fun x2 =>
 Option.bind (appO 1 ([] : Str) a0) fun x3 =>
 law19_lent_l1 a0 x3 0
theorem s_law19_lent (a0 : Str) (r : (Str × Str)) (h : p_law19_lent a0 = some r) : PCalls Try.prog 12 [(PV.sl none 5 1 (List.map ofB a0))] (PV.tup [(PV.sl none 5 1 (List.map ofB r.1)), (PV.sl none 5 1 (List.map ofB r.2))]) := by
 unfold p_law19_lent at h
 refine acalls_of Try.func12 rfl Try.ntmps12 Try.results12 rfl (aw_of_bw ?_)
 change BW _ _ _ ⟨[(0, (PV.sl none 5 1 (List.map ofB a0)))], [], _⟩ _
 refine bR ?_
 refine sA rfl rfl rfl rfl rfl ?_
 refine sA rfl rfl rfl rfl rfl (ao_nil ?_)
 change BW _ _ _ _ _
 refine bR ?_
 refine sM rfl rfl rfl rfl rfl ?_
 refine sS rfl rfl rfl (op1_lenM Try.underlying23 rfl rfl) ?_
 refine sS rfl rfl rfl (op1_addW rfl rfl rfl) ?_
 obtain ⟨x1, hx1, h⟩ := obind h
 obtain ⟨x2, hx2, h⟩ := obind h
 refine sS rfl rfl rfl ((op1_mkMI (f := ofB) (c := x1) hx1 Try.underlying23 inf_5 rfl rfl rfl rfl hx2 (p := (ofB 0)) rfl).cast (y := (PV.sl (some 0) 5 1 (List.map ofB ([] : Str)))) rfl rfl) ?_
 refine sA rfl rfl rfl rfl rfl (ao_nil ?_)
 change BW _ _ _ _ _
 refine bR ?_
 refine sM rfl rfl rfl rfl rfl ?_
 refine sM rfl rfl rfl rfl rfl ?_
 obtain ⟨x3, hx3, h⟩ := obind h
 refine sS rfl rfl rfl (op1_appM Try.underlying23 inf_5 rfl Try.underlying23 rfl rfl rfl rfl (fun _ => rfl) (fun _ => rfl) hx3 rfl) ?_
 refine sA rfl rfl rfl rfl rfl (ao_nil ?_)
 change BW _ _ _ _ _
 refine bw_seq ?_
 refine bR ?_
 refine sA rfl rfl rfl rfl rfl (ao_nil ?_)
 change BW _ _ _ _ _
 refine bw_block ?_
 change BW _ _ _ _ _
 unfold law19_lent_l1 at h
 refine bw_loop (σ := (Str × Int)) (fun i => [(0, (PV.sl none 5 1 (List.map ofB a0))), (4, (PV.sl (some 0) 5 1 (List.map ofB i.1))), (5, (I64 i.2))]) (fun i => [.arr 5 (i.1).length]) (x3, 0) h ?_ ?_ ?_
 ·intro i; exact ⟨Nat.le_of_ble_eq_true rfl, ⟨(il_nil (ids_slM (fun _ => rfl) _)), ⟨(il_tok rfl (ids_map (fun _ => rfl) _)), ⟨(il_nil rfl), trivial⟩⟩⟩, trivial⟩
 ·exact ⟨(.cons .same .nil), (sC rfl (sC rfl (sC rfl sub_nil)))⟩
 ·rintro g1_f ⟨s4, s5⟩ h; replace h : law19_lent_l1b a0 (fun y0 y1 => g1_f (y0, y1)) s4 s5 = some r := h; unfold law19_lent_l1b at h
  change BW _ _ _ ⟨[(0, (PV.sl none 5 1 (List.map ofB a0))), (4, (PV.sl (some 0) 5 1 (List.map ofB s4))), (5, (I64 s5))], [.arr 5 (s4).length], _⟩ _
  refine bw_seq ?_
  refine bR ?_
  refine sM rfl rfl rfl rfl rfl ?_
  refine sS rfl rfl rfl ((op1_cmp rfl rfl rfl rfl).cast (y := (BO ((decide (s5 < 32))))) rfl rfl) (ao_nil ?_)
  change BW _ _ _ _ _
  refine bw_cond rfl ?_ ?_
  ·intro hc6; replace h := ocond_t hc6 h
   refine bw_skip ?_
   change BW _ _ _ _ _
   refine bw_seq ?_
   refine bw_block ?_
   change BW _ _ _ _ _
   refine bw_region ?_
   refine sM rfl rfl rfl rfl rfl ?_
   refine sM rfl rfl rfl rfl rfl ?_
   refine sS rfl rfl rfl (op1_addW rfl rfl rfl) ?_
   refine sS rfl rfl rfl (op1_toU8 Try.underlying3 Try.underlying5 rfl rfl) ?_
   refine sS rfl rfl rfl ((op1_bslice (xs := [(ofB (UInt8.ofInt (IntKind.i64.wrap (171 + s5))))]) Try.underlying23 inf_5 rfl rfl rfl rfl rfl rfl ⟨Nat.le_of_ble_eq_true rfl, Nat.le_of_ble_eq_true rfl⟩ rfl).cast (y := (PV.sl (some 1) 5 1 (List.map ofB ([(UInt8.ofInt (IntKind.i64.wrap (171 + s5)))] : Str)))) rfl rfl) ?_
   obtain ⟨x7, hx7, h⟩ := obind h
   refine sS rfl rfl rfl (op1_appM Try.underlying23 inf_5 rfl Try.underlying23 rfl rfl rfl rfl (fun _ => rfl) (fun _ => rfl) hx7 rfl) ?_
   refine sA rfl rfl rfl rfl rfl (ao_nil ?_)
   change BW _ _ _ _ _
   refine bw_region ?_
   refine sM rfl rfl rfl rfl rfl ?_
   refine sS rfl rfl rfl (op1_addW rfl rfl rfl) ?_
   refine sA rfl rfl rfl rfl rfl (ao_nil ?_)
   exact ⟨rfl, (x7, (IntKind.i64.wrap (s5 + 1))), h, ⟨(.cons .same .nil), (sC rfl (sC rfl (sC rfl sub_nil)))⟩⟩
  ·intro hc6; replace h := ocond_f hc6 h
   refine bw_exit ?_
   change BW _ _ _ _ _
   refine bR ?_
   refine sM rfl rfl rfl rfl rfl ?_
   refine sM rfl rfl rfl rfl rfl ?_
   refine sS rfl rfl rfl (op1_lenM Try.underlying23 rfl rfl) ?_
   obtain ⟨x8, hx8, h⟩ := obind h
   refine sS rfl rfl rfl (op1_cutM (a := 0) (b := (((a0).length : Nat) : Int)) Try.underlying23 inf_5 rfl rfl rfl rfl rfl rfl hx8) ?_
   refine sM rfl rfl rfl rfl rfl ?_
   refine sA rfl rfl rfl rfl rfl ?_
   refine sA rfl rfl rfl rfl rfl (ao_nil ?_)
   change BW _ _ _ _ _
   refine bw_ret ?_
   change ∃ xs, _ = some xs ∧ EndOk _ _ _ _
   obtain rfl := Option.some.inj h
   exact ⟨_, rfl, endOk0 (y := (PV.tup [(PV.sl none 5 1 (List.map ofB x8)), (PV.sl none 5 1 (List.map ofB s4))])) (Wk.tup (.cons (Wk.refl _) (.cons Wk.tok .nil))) (ids_tup_cons (ids_slM (fun _ => rfl) x8) (ids_tup_cons (ids_slM (fun _ => rfl) s4) ids_tup_nil)) ⟨rfl, rfl⟩⟩
noncomputable def log_can_j1 (a0 : S_api_Frame) (s1 : Bool) : Option Int :=
 bif s1 then (
  some 1
 ) else (
  bif (decide ((((a0.f_Body).length : Nat) : Int) > 1048576)) then (
   some 2
  ) else (
   some 0
  )
 )
noncomputable def p_log_can (a0 : S_api_Frame) : Option Int :=
 bif (decide (a0.f_Kind < 1)) then (
  log_can_j1 a0 true
 ) else (
  log_can_j1 a0 (decide (a0.f_Kind > 255))
 )
theorem s_log_can (a0 : S_api_Frame) (r : Int) (h : p_log_can a0 = some r) : PCalls Try.prog 33 [(PV.old (of_api_Frame a0))] (I64 r) := by
 unfold p_log_can at h
 refine acalls_of Try.func33 rfl Try.ntmps33 Try.results33 rfl (aw_of_bw ?_)
 change BW _ _ _ ⟨[(0, (PV.old (of_api_Frame a0)))], [], _⟩ _
 refine bw_wk 0 rfl (Wk.opened (cs := [(I64 a0.f_Kind), (PV.sl none 5 1 (List.map ofB a0.f_Body))]) (.cons (Wk.oldSc Sc.v) (.cons (Wk.refl _) .nil))) ?_
 refine bR ?_
 refine sS rfl rfl rfl (op1_box rfl rfl rfl) ?_
 refine sA rfl rfl rfl rfl rfl (ao_nil ?_)
 change BW _ _ _ _ _
 refine bw_seq ?_
 refine bw_block ?_
 change BW _ _ _ _ _
 refine bw_seqJ (ι := Bool) (fun i => log_can_j1 a0 i = some r) (fun i => [(1, (PV.rf 0 0)), (3, (BO i))]) (fun i => [.box 33 [(I64 a0.f_Kind), (PV.old (PV.sl none 5 1 (List.map ofB a0.f_Body)))]]) ?_ ?_ ?_
 ·intro i; exact ⟨Nat.le_of_ble_eq_true rfl, ⟨(il_rf rfl), ⟨(il_nil rfl), trivial⟩⟩, ⟨⟨(il_nil rfl), ⟨(il_nil (ids_old (ids_slM (fun _ => rfl) _))), trivial⟩⟩, trivial⟩⟩
 ·rintro s1 h; replace h : log_can_j1 a0 s1 = some r := h; unfold log_can_j1 at h
  change BW _ _ _ ⟨[(1, (PV.rf 0 0)), (3, (BO s1))], [.box 33 [(I64 a0.f_Kind), (PV.old (PV.sl none 5 1 (List.map ofB a0.f_Body)))]], _⟩ _
  refine bw_cond rfl ?_ ?_
  ·intro hc2; replace h := ocond_t hc2 h
   refine bR ?_
   refine sA rfl rfl rfl rfl rfl (ao_nil ?_)
   change BW _ _ _ _ _
   refine bw_ret ?_
   change ∃ xs, _ = some xs ∧ EndOk _ _ _ _
   obtain rfl := Option.some.inj h
   exact ⟨_, rfl, endOk0 (y := (I64 1)) (Wk.refl _) rfl ⟨rfl, rfl⟩⟩
  ·intro hc2; replace h := ocond_f hc2 h
   refine bR ?_
   refine sS rfl rfl rfl (op1_faR st_33 (i := 1) rfl rfl rfl) ?_
   refine sS rfl rfl rfl ((op1_ldR Try.underlying23 rfl rfl rfl rfl rfl)) ?_
   refine sS rfl rfl rfl (op1_oldS (op1_lenM Try.underlying23 rfl rfl) Sc.v) ?_
   refine sS rfl rfl rfl ((op1_cmp rfl rfl rfl rfl).cast (y := (BO ((decide ((((a0.f_Body).length : Nat) : Int) > 1048576))))) rfl rfl) ?_
   refine sA rfl rfl rfl rfl rfl (ao_nil ?_)
   change BW _ _ _ _ _
   refine bw_cond rfl ?_ ?_
   ·intro hc3; replace h := ocond_t hc3 h
    refine bR ?_
    refine sA rfl rfl rfl rfl rfl (ao_nil ?_)
    change BW _ _ _ _ _
    refine bw_ret ?_
    change ∃ xs, _ = some xs ∧ EndOk _ _ _ _
    obtain rfl := Option.some.inj h
    exact ⟨_, rfl, endOk0 (y := (I64 2)) (Wk.refl _) rfl ⟨rfl, rfl⟩⟩
   ·intro hc3; replace h := ocond_f hc3 h
    refine bw_skip ?_
    change BW _ _ _ _ _
    refine bR ?_
    refine sA rfl rfl rfl rfl rfl (ao_nil ?_)
    change BW _ _ _ _ _
    refine bw_ret ?_
    change ∃ xs, _ = some xs ∧ EndOk _ _ _ _
    obtain rfl := Option.some.inj h
    exact ⟨_, rfl, endOk0 (y := (I64 0)) (Wk.refl _) rfl ⟨rfl, rfl⟩⟩
 ·refine bw_region ?_
  refine sS rfl rfl rfl (op1_faR st_33 (i := 0) rfl rfl rfl) ?_
  refine sS rfl rfl rfl ((op1_ldR Try.underlying3 rfl rfl rfl rfl rfl)) ?_
  refine sS rfl rfl rfl ((op1_cmp rfl rfl rfl rfl).cast (y := (BO ((decide (a0.f_Kind < 1))))) rfl rfl) ?_
  refine sM rfl rfl rfl rfl rfl ?_
  refine ao_cases (t := 7) rfl ?_ ?_
  ·intro hb4; replace h := ocond_t hb4 h
   refine ao_no rfl rfl rfl rfl rfl rfl ?_
   refine ao_no rfl rfl rfl rfl rfl rfl ?_
   refine ao_no rfl rfl rfl rfl rfl rfl ?_
   refine sS rfl rfl rfl (op1_pickT rfl rfl rfl) ?_
   refine sA rfl rfl rfl rfl rfl (ao_nil ?_)
   exact ⟨rfl, true, h, ⟨(.cons .same .nil), (sC rfl (sC rfl sub_nil))⟩⟩
  ·intro hb4; replace h := ocond_f hb4 h
   refine ao_yes rfl rfl rfl rfl rfl rfl (op1_faR st_33 (i := 0) rfl rfl rfl) ?_
   refine ao_yes rfl rfl rfl rfl rfl rfl ((op1_ldR Try.underlying3 rfl rfl rfl rfl rfl)) ?_
   refine ao_yes rfl rfl rfl rfl rfl rfl ((op1_cmp rfl rfl rfl rfl).cast (y := (BO ((decide (a0.f_Kind > 255))))) rfl rfl) ?_
   refine sS rfl rfl rfl (op1_pickF rfl rfl rfl) ?_
   refine sA rfl rfl rfl rfl rfl (ao_nil ?_)
   exact ⟨rfl, (decide (a0.f_Kind > 255)), h, ⟨(.cons .same .nil), (sC rfl (sC rfl sub_nil))⟩⟩
noncomputable def log_sum_l1b (a0 : Str) (g1 : Int → Nat → Option Int) (s1 : Int) (s2 : Nat) : Option Int :=
 bif (decide (((s2 : Nat) : Int) < (((a0).length : Nat) : Int))) then (
  Option.bind ((a0)[s2]?) fun x5 =>
  g1 (IntKind.u64.wrap ((xorK .u64 s1 ((x5).toNat : Int)) * 1099511628211)) (s2 + 1)
 ) else (
  some s1
 )
theorem log_sum_l1b_cm {ι : Type} {ρ : ι → Type} (g1 : (∀ i, Option (ρ i)) → Int → Nat → Option Int) (h_g1 : ∀ y0 y1, CM (fun G => g1 G y0 y1)) (a0 : Str) (s1 : Int) (s2 : Nat) : CM (fun G : (∀ i, Option (ρ i)) => log_sum_l1b a0 (g1 G) s1 s2) := by
 simp only [log_sum_l1b]
 repeat (first | exact cm_const | exact h_g1 _ _ | refine cm_cond ?_ ?_ | refine cm_bind ?_ (fun _ => ?_))
noncomputable def log_sum_l1 (a0 : Str) (s1 : Int) (s2 : Nat) : Option Int :=
 fixO (ι := (Int × Nat)) (ρ := fun _ => Int) (fun g i => log_sum_l1b a0 (fun s1 s2 => g (s1, s2)) i.1 i.2) (s1, s2)
theorem log_sum_l1_eq (a0 : Str) (s1 : Int) (s2 : Nat) : log_sum_l1 a0 s1 s2 = log_sum_l1b a0 (log_sum_l1 a0) s1 s2 :=
 fixO_eq (ι := (Int × Nat)) (ρ := fun _ => Int) (Φ := fun g i => log_sum_l1b a0 (fun s1 s2 => g (s1, s2)) i.1 i.2) (fun i => log_sum_l1b_cm (ι := (Int × Nat)) (ρ := fun _ => Int) (fun g => (fun s1 s2 => g (s1, s2))) (fun _ _ => cm_app) a0 i.1 i.2) (s1, s2)
noncomputable def p_log_sum (a0 : Str) : Option Int :=
 log_sum_l1 a0 14695981039346656037 0
theorem s_log_sum (a0 : Str) (r : Int) (h : p_log_sum a0 = some r) : PCalls Try.prog 52 [(PV.old (PV.sl none 5 1 (List.map ofB a0)))] (PV.v (.int .u64 r)) := by
 unfold p_log_sum at h
 refine acalls_of Try.func52 rfl Try.ntmps52 Try.results52 rfl (aw_of_bw ?_)
 change BW _ _ _ ⟨[(0, (PV.old (PV.sl none 5 1 (List.map ofB a0))))], [], _⟩ _
 refine bR ?_
 refine sA rfl rfl rfl rfl rfl (ao_nil ?_)
 change BW _ _ _ _ _
 refine bR ?_
 refine sA rfl rfl rfl rfl rfl (ao_nil ?_)
 change BW _ _ _ _ _
 refine bw_seq ?_
 refine bR ?_
 refine sM rfl rfl rfl rfl rfl ?_
 refine sS rfl rfl rfl (op1_oldS (op1_lenM Try.underlying23 rfl rfl) Sc.v) ?_
 refine sM rfl rfl rfl rfl rfl (ao_nil ?_)
 change BW _ _ _ _ _
 refine bw_block ?_
 change BW _ _ _ _ _
 unfold log_sum_l1 at h
 refine bw_loop (σ := (Int × Nat)) (fun i => [(3, (PV.v (.int .u64 i.1))), (6, (PV.old (PV.sl none 5 1 (List.map ofB a0)))), (7, (I64 ((((a0).length : Nat) : Int)))), (8, (I64 (((i.2 : Nat) : Int))))]) (fun i => []) (14695981039346656037, 0) h ?_ ?_ ?_
 ·intro i; exact ⟨Nat.le_of_ble_eq_true rfl, ⟨(il_nil rfl), ⟨(il_nil (ids_old (ids_slM (fun _ => rfl) _))), ⟨(il_nil rfl), ⟨(il_nil rfl), trivial⟩⟩⟩⟩, trivial⟩
 ·exact ⟨.nil, (sC rfl (sC rfl (sC rfl (sC rfl sub_nil))))⟩
 ·rintro g1_f ⟨s1, s2⟩ h; replace h : log_sum_l1b a0 (fun y0 y1 => g1_f (y0, y1)) s1 s2 = some r := h; unfold log_sum_l1b at h
  change BW _ _ _ ⟨[(3, (PV.v (.int .u64 s1))), (6, (PV.old (PV.sl none 5 1 (List.map ofB a0)))), (7, (I64 ((((a0).length : Nat) : Int)))), (8, (I64 (((s2 : Nat) : Int))))], [], _⟩ _
  refine bR ?_
  refine sS rfl rfl rfl ((op1_cmp rfl rfl rfl rfl).cast (y := (BO ((decide (((s2 : Nat) : Int) < (((a0).length : Nat) : Int)))))) rfl rfl) (ao_nil ?_)
  change BW _ _ _ _ _
  refine bw_seq ?_
  refine bw_lenO (t := 6) rfl fun hb4 => ?_
  try rw [List.length_map] at hb4
  refine bw_cond rfl ?_ ?_
  ·intro hc3; replace h := ocond_t hc3 h
   have hc3_ := of_decide_eq_true hc3
   refine bw_skip ?_
   change BW _ _ _ _ _
   refine bw_seq ?_
   refine bw_block ?_
   change BW _ _ _ _ _
   refine bR ?_
   obtain ⟨x5, hx5, h⟩ := obind h
   refine sS rfl rfl rfl (op1_old (op1_idxN (i := s2) Try.underlying23 inf_5 rfl rfl rfl hx5 rfl)) ?_
   refine sS rfl rfl rfl (op1_oldS (op1_ldP (y := (ofB x5)) Try.underlying5 rfl rfl rfl rfl) Sc.v) ?_
   refine sA rfl rfl rfl rfl rfl (ao_nil ?_)
   change BW _ _ _ _ _
   refine bw_region ?_
   refine sM rfl rfl rfl rfl rfl ?_
   refine sM rfl rfl rfl rfl rfl ?_
   refine sS rfl rfl rfl ((op1_convI Try.underlying5 Try.underlying75 rfl rfl).cast (y := (PV.v (.int .u64 ((x5).toNat : Int)))) (by rw [wrapB_u64]) rfl) ?_
   refine sS rfl rfl rfl ((op1_xorW rfl rfl rfl).cast (y := (PV.v (.int .u64 (xorK .u64 s1 ((x5).toNat : Int))))) rfl rfl) ?_
   refine sS rfl rfl rfl (op1_mulW rfl rfl rfl) ?_
   refine sA rfl rfl rfl rfl rfl (ao_nil ?_)
   change BW _ _ _ _ _
   refine bw_region ?_
   refine sS rfl rfl rfl (op1_incN (k := s2) (c := 1) rfl rfl rfl (by omega)) ?_
   refine sM rfl rfl rfl rfl rfl (ao_nil ?_)
   exact ⟨rfl, ((IntKind.u64.wrap ((xorK .u64 s1 ((x5).toNat : Int)) * 1099511628211)), (s2 + 1)), h, ⟨.nil, (sC rfl (sC rfl (sC rfl (sC rfl sub_nil))))⟩⟩
  ·intro hc3; replace h := ocond_f hc3 h
   refine bw_exit ?_
   change BW _ _ _ _ _
   refine bR ?_
   refine sM rfl rfl rfl rfl rfl ?_
   refine sA rfl rfl rfl rfl rfl (ao_nil ?_)
   change BW _ _ _ _ _
   refine bw_ret ?_
   change ∃ xs, _ = some xs ∧ EndOk _ _ _ _
   obtain rfl := Option.some.inj h
   exact ⟨_, rfl, endOk0 (y := (PV.v (.int .u64 s1))) (Wk.refl _) rfl ⟨rfl, rfl⟩⟩
noncomputable def log_put_l1b (x4 : Int) (g1 : Str → Int → Option Str) (s5 : Str) (s6 : Int) : Option Str :=
 bif (decide (s6 < 64)) then (
  Option.bind (negO s6) fun x8 =>
  Option.bind (appO 1 s5 ([(UInt8.ofInt (shrK .u64 x4 s6))] : Str)) fun x9 =>
  g1 x9 (IntKind.i64.wrap (s6 + 8))
 ) else (
  some s5
 )
theorem log_put_l1b_cm {ι : Type} {ρ : ι → Type} (g1 : (∀ i, Option (ρ i)) → Str → Int → Option Str) (h_g1 : ∀ y0 y1, CM (fun G => g1 G y0 y1)) (x4 : Int) (s5 : Str) (s6 : Int) : CM (fun G : (∀ i, Option (ρ i)) => log_put_l1b x4 (g1 G) s5 s6) := by
 simp only [log_put_l1b]
 repeat (first | exact cm_const | exact h_g1 _ _ | refine cm_cond ?_ ?_ | refine cm_bind ?_ (fun _ => ?_))
noncomputable def log_put_l1 (x4 : Int) (s5 : Str) (s6 : Int) : Option Str :=
 fixO (ι := (Str × Int)) (ρ := fun _ => Str) (fun g i => log_put_l1b x4 (fun s5 s6 => g (s5, s6)) i.1 i.2) (s5, s6)
theorem log_put_l1_eq (x4 : Int) (s5 : Str) (s6 : Int) : log_put_l1 x4 s5 s6 = log_put_l1b x4 (log_put_l1 x4) s5 s6 :=
 fixO_eq (ι := (Str × Int)) (ρ := fun _ => Str) (Φ := fun g i => log_put_l1b x4 (fun s5 s6 => g (s5, s6)) i.1 i.2) (fun i => log_put_l1b_cm (ι := (Str × Int)) (ρ := fun _ => Str) (fun g => (fun s5 s6 => g (s5, s6))) (fun _ _ => cm_app) x4 i.1 i.2) (s5, s6)
noncomputable def p_log_put (a0 : Str) (a1 : S_api_Frame) : Option Str :=
 Option.bind (appO 1 a0 ([(UInt8.ofInt a1.f_Kind), (UInt8.ofInt (((a1.f_Body).length : Nat) : Int)), (UInt8.ofInt (shrK .i64 (((a1.f_Body).length : Nat) : Int) 8)), (UInt8.ofInt (shrK .i64 (((a1.f_Body).length : Nat) : Int) 16)), (UInt8.ofInt (shrK .i64 (((a1.f_Body).length : Nat) : Int) 24))] : Str)) fun x1 =>
 Option.bind (appO 1 x1 a1.f_Body) fun x2 =>
 Option.bind (cutO x2 (((a0).length : Nat) : Int) ((x2).length : Int)) fun x3 =>
 Option.bind (p_log_sum x3) fun x4 =>
 log_put_l1 x4 x2 0
theorem s_log_put (a0 : Str) (a1 : S_api_Frame) (r : Str) (h : p_log_put a0 a1 = some r) : MCalls Try.prog 34 [(PV.sl (some 0) 5 1 (List.map ofB a0)), (PV.old (of_api_Frame a1))] [.arr 5 (a0).length] (PV.sl (some 0) 5 1 (List.map ofB r)) [.arr 5 (r).length] := by
 unfold p_log_put at h
 refine acalls_of Try.func34 rfl Try.ntmps34 Try.results34 rfl (aw_of_bw ?_)
 change BW _ _ _ ⟨[(0, (PV.sl (some 0) 5 1 (List.map ofB a0))), (1, (PV.old (of_api_Frame a1)))], [.arr 5 (a0).length], _⟩ _
 refine bw_wk 1 rfl (Wk.opened (cs := [(I64 a1.f_Kind), (PV.sl none 5 1 (List.map ofB a1.f_Body))]) (.cons (Wk.oldSc Sc.v) (.cons (Wk.refl _) .nil))) ?_
 refine bR ?_
 refine sS rfl rfl rfl (op1_box rfl rfl rfl) ?_
 refine sA rfl rfl rfl rfl rfl (ao_nil ?_)
 change BW _ _ _ _ _
 refine bw_seq (bw_tail 6 [] [1] mo (by kernel_rfl) ?_)
 refine ac_go rfl rfl rfl rfl (fun H hp => op1_move rfl rfl) ?_
 refine ac_go rfl rfl rfl rfl (fun H hp => op1_lenM Try.underlying23 rfl rfl) ?_
 refine ac_go rfl rfl rfl rfl (fun H hp => op1_faR st_33 (i := 1) rfl rfl rfl) ?_
 refine ac_go rfl rfl rfl rfl (fun H hp => (op1_ldR Try.underlying23 rfl rfl rfl (hp.at rfl rfl) rfl)) ?_
 refine ac_go rfl rfl rfl rfl (fun H hp => op1_oldS (op1_lenM Try.underlying23 rfl rfl) Sc.v) ?_
 refine ac_go rfl rfl rfl rfl (fun H hp => op1_assign rfl rfl) ?_
 refine ac_nil ?_
 change AO _ _ _ _ _
 refine sA rfl rfl rfl rfl rfl (ao_nil ?_)
 change BW _ _ _ _ _
 refine bR ?_
 refine sM rfl rfl rfl rfl rfl ?_
 refine sS rfl rfl rfl (op1_faR st_33 (i := 0) rfl rfl rfl) ?_
 refine sS rfl rfl rfl ((op1_ldR Try.underlying3 rfl rfl rfl rfl rfl)) ?_
 refine sS rfl rfl rfl (op1_toU8 Try.underlying3 Try.underlying5 rfl rfl) ?_
 refine sM rfl rfl rfl rfl rfl ?_
 refine sS rfl rfl rfl (op1_toU8 Try.underlying3 Try.underlying5 rfl rfl) ?_
 refine sM rfl rfl rfl rfl rfl ?_
 refine sS rfl rfl rfl ((op1_shr rfl rfl rfl (by decide)).cast (y := (I64 ((shrK .i64 (((a1.f_Body).length : Nat) : Int) 8)))) rfl rfl) ?_
 refine sS rfl rfl rfl (op1_toU8 Try.underlying3 Try.underlying5 rfl rfl) ?_
 refine sM rfl rfl rfl rfl rfl ?_
 refine sS rfl rfl rfl ((op1_shr rfl rfl rfl (by decide)).cast (y := (I64 ((shrK .i64 (((a1.f_Body).length : Nat) : Int) 16)))) rfl rfl) ?_
 refine sS rfl rfl rfl (op1_toU8 Try.underlying3 Try.underlying5 rfl rfl) ?_
 refine sM rfl rfl rfl rfl rfl ?_
 refine sS rfl rfl rfl ((op1_shr rfl rfl rfl (by decide)).cast (y := (I64 ((shrK .i64 (((a1.f_Body).length : Nat) : Int) 24)))) rfl rfl) ?_
 refine sS rfl rfl rfl (op1_toU8 Try.underlying3 Try.underlying5 rfl rfl) ?_
 refine sS rfl rfl rfl ((op1_bslice (xs := [(ofB (UInt8.ofInt a1.f_Kind)), (ofB (UInt8.ofInt (((a1.f_Body).length : Nat) : Int))), (ofB (UInt8.ofInt (shrK .i64 (((a1.f_Body).length : Nat) : Int) 8))), (ofB (UInt8.ofInt (shrK .i64 (((a1.f_Body).length : Nat) : Int) 16))), (ofB (UInt8.ofInt (shrK .i64 (((a1.f_Body).length : Nat) : Int) 24)))]) Try.underlying23 inf_5 rfl rfl rfl rfl rfl rfl ⟨Nat.le_of_ble_eq_true rfl, Nat.le_of_ble_eq_true rfl⟩ rfl).cast (y := (PV.sl (some 2) 5 1 (List.map ofB ([(UInt8.ofInt a1.f_Kind), (UInt8.ofInt (((a1.f_Body).length : Nat) : Int)), (UInt8.ofInt (shrK .i64 (((a1.f_Body).length : Nat) : Int) 8)), (UInt8.ofInt (shrK .i64 (((a1.f_Body).length : Nat) : Int) 16)), (UInt8.ofInt (shrK .i64 (((a1.f_Body).length : Nat) : Int) 24))] : Str)))) rfl rfl) ?_
 obtain ⟨x1, hx1, h⟩ := obind h
 refine sS rfl rfl rfl (op1_appM Try.underlying23 inf_5 rfl Try.underlying23 rfl rfl rfl rfl (fun _ => rfl) (fun _ => rfl) hx1 rfl) ?_
 refine sA rfl rfl rfl rfl rfl (ao_nil ?_)
 change BW _ _ _ _ _
 refine bR ?_
 refine sM rfl rfl rfl rfl rfl ?_
 refine sS rfl rfl rfl (op1_faR st_33 (i := 1) rfl rfl rfl) ?_
 refine sS rfl rfl rfl ((op1_ldR Try.underlying23 rfl rfl rfl rfl rfl)) ?_
 obtain ⟨x2, hx2, h⟩ := obind h
 refine sS rfl rfl rfl (op1_appMO Try.underlying23 inf_5 rfl Try.underlying23 rfl rfl rfl rfl (fun _ => rfl) (fun _ => rfl) hx2 rfl (fun _ => (sc_cons Sc.v sc_nil))) ?_
 refine sA rfl rfl rfl rfl rfl (ao_nil ?_)
 change BW _ _ _ _ _
 refine bR ?_
 refine sM rfl rfl rfl rfl rfl ?_
 refine sM rfl rfl rfl rfl rfl ?_
 obtain ⟨x3, hx3, h⟩ := obind h
 refine sS rfl rfl rfl (op1_cutM (a := (((a0).length : Nat) : Int)) (b := ((x2).length : Int)) Try.underlying23 inf_5 rfl rfl rfl rfl rfl rfl hx3) ?_
 obtain ⟨x4, hx4, h⟩ := obind h
 refine sS rfl rfl rfl (op1_pcall rfl en_52 rfl (.cons (Wk.toOld (pl_sl (fun _ => Pl.v) x3)) .nil) ⟨(ids_old (ids_slM (fun _ => rfl) x3)), trivial⟩ (s_log_sum x3 x4 hx4) rfl) ?_
 refine sA rfl rfl rfl rfl rfl (ao_nil ?_)
 change BW _ _ _ _ _
 refine bw_seq ?_
 refine bR ?_
 refine sA rfl rfl rfl rfl rfl (ao_nil ?_)
 change BW _ _ _ _ _
 refine bw_block ?_
 change BW _ _ _ _ _
 unfold log_put_l1 at h
 refine bw_loop (σ := (Str × Int)) (fun i => [(0, (PV.sl (some 0) 5 1 (List.map ofB i.1))), (7, (PV.v (.int .u64 x4))), (8, (I64 i.2))]) (fun i => [.arr 5 (i.1).length]) (x2, 0) h ?_ ?_ ?_
 ·intro i; exact ⟨Nat.le_of_ble_eq_true rfl, ⟨(il_tok rfl (ids_map (fun _ => rfl) _)), ⟨(il_nil rfl), ⟨(il_nil rfl), trivial⟩⟩⟩, trivial⟩
 ·exact ⟨(.cons .same .nil), (sC rfl (sC rfl (sC rfl sub_nil)))⟩
 ·rintro g1_f ⟨s5, s6⟩ h; replace h : log_put_l1b x4 (fun y0 y1 => g1_f (y0, y1)) s5 s6 = some r := h; unfold log_put_l1b at h
  change BW _ _ _ ⟨[(0, (PV.sl (some 0) 5 1 (List.map ofB s5))), (7, (PV.v (.int .u64 x4))), (8, (I64 s6))], [.arr 5 (s5).length], _⟩ _
  refine bw_seq ?_
  refine bR ?_
  refine sM rfl rfl rfl rfl rfl ?_
  refine sS rfl rfl rfl ((op1_cmp rfl rfl rfl rfl).cast (y := (BO ((decide (s6 < 64))))) rfl rfl) (ao_nil ?_)
  change BW _ _ _ _ _
  refine bw_cond rfl ?_ ?_
  ·intro hc7; replace h := ocond_t hc7 h
   refine bw_skip ?_
   change BW _ _ _ _ _
   refine bw_seq ?_
   refine bw_block ?_
   change BW _ _ _ _ _
   refine bw_region ?_
   refine sM rfl rfl rfl rfl rfl ?_
   refine sM rfl rfl rfl rfl rfl ?_
   refine sM rfl rfl rfl rfl rfl ?_
   obtain ⟨x8, hx8, h⟩ := obind h
   refine sS rfl rfl rfl ((op1_shr rfl rfl rfl (negO_some hx8)).cast (y := (PV.v (.int .u64 (shrK .u64 x4 s6)))) rfl rfl) ?_
   refine sS rfl rfl rfl (op1_toU8 Try.underlying75 Try.underlying5 rfl rfl) ?_
   refine sS rfl rfl rfl ((op1_bslice (xs := [(ofB (UInt8.ofInt (shrK .u64 x4 s6)))]) Try.underlying23 inf_5 rfl rfl rfl rfl rfl rfl ⟨Nat.le_of_ble_eq_true rfl, Nat.le_of_ble_eq_true rfl⟩ rfl).cast (y := (PV.sl (some 1) 5 1 (List.map ofB ([(UInt8.ofInt (shrK .u64 x4 s6))] : Str)))) rfl rfl) ?_
   obtain ⟨x9, hx9, h⟩ := obind h
   refine sS rfl rfl rfl (op1_appM Try.underlying23 inf_5 rfl Try.underlying23 rfl rfl rfl rfl (fun _ => rfl) (fun _ => rfl) hx9 rfl) ?_
   refine sA rfl rfl rfl rfl rfl (ao_nil ?_)
   change BW _ _ _ _ _
   refine bw_region ?_
   refine sM rfl rfl rfl rfl rfl ?_
   refine sS rfl rfl rfl (op1_addW rfl rfl rfl) ?_
   refine sA rfl rfl rfl rfl rfl (ao_nil ?_)
   exact ⟨rfl, (x9, (IntKind.i64.wrap (s6 + 8))), h, ⟨(.cons .same .nil), (sC rfl (sC rfl (sC rfl sub_nil)))⟩⟩
  ·intro hc7; replace h := ocond_f hc7 h
   refine bw_exit ?_
   change BW _ _ _ _ _
   refine bR ?_
   refine sM rfl rfl rfl rfl rfl ?_
   refine sA rfl rfl rfl rfl rfl (ao_nil ?_)
   change BW _ _ _ _ _
   refine bw_ret ?_
   change ∃ xs, _ = some xs ∧ EndOk _ _ _ _
   obtain rfl := Option.some.inj h
   exact ⟨_, rfl, endR (y := (PV.sl (some 0) 5 1 (List.map ofB s5))) 1 (Wk.refl _) rfl rfl (.row rfl (ids_map (fun _ => rfl) _)) (.cons .arr .nil) ⟨rfl, rfl⟩⟩
noncomputable def p_log_Pack (a0 : S_api_Frame) : Option (Str × Int) :=
 Option.bind (p_log_can a0) fun x1 =>
 bif (x1 != 0) then (
  some ([], x1)
 ) else (
  Option.bind (p_log_put ([] : Str) a0) fun x3 =>
  some (x3, 0)
 )
theorem s_log_Pack (a0 : S_api_Frame) (r : (Str × Int)) (h : p_log_Pack a0 = some r) : PCalls Try.prog 13 [(PV.old (of_api_Frame a0))] (PV.tup [(PV.sl none 5 1 (List.map ofB r.1)), (I64 r.2)]) := by
 unfold p_log_Pack at h
 refine acalls_of Try.func13 rfl Try.ntmps13 Try.results13 rfl (aw_of_bw ?_)
 change BW _ _ _ ⟨[(0, (PV.old (of_api_Frame a0)))], [], _⟩ _
 refine bw_wk 0 rfl (Wk.opened (cs := [(I64 a0.f_Kind), (PV.sl none 5 1 (List.map ofB a0.f_Body))]) (.cons (Wk.oldSc Sc.v) (.cons (Wk.refl _) .nil))) ?_
 refine bR ?_
 refine sS rfl rfl rfl (op1_box rfl rfl rfl) ?_
 refine sA rfl rfl rfl rfl rfl ?_
 refine sA rfl rfl rfl rfl rfl (ao_nil ?_)
 change BW _ _ _ _ _
 refine bw_seq ?_
 refine bR ?_
 refine sS rfl rfl rfl ((op1_ldRA inf_33 Try.underlying33 rfl rfl rfl rfl rfl rfl)) ?_
 obtain ⟨x1, hx1, h⟩ := obind h
 refine sS rfl rfl rfl (op1_pcall rfl en_33 rfl (.cons (Wk.aggOld (ys := [(I64 a0.f_Kind), (PV.sl none 5 1 (List.map ofB a0.f_Body))]) (.cons (Wk.toOld Pl.v) (.cons (Wk.refl _) .nil))) .nil) ⟨(ids_old (ids_S_api_Frame a0)), trivial⟩ (s_log_can a0 x1 hx1) rfl) ?_
 refine sA rfl rfl rfl rfl rfl (ao_nil ?_)
 change BW _ _ _ _ _
 refine bR ?_
 refine sM rfl rfl rfl rfl rfl ?_
 refine sS rfl rfl rfl ((op1_cmp rfl rfl rfl rfl).cast (y := (BO ((x1 != 0)))) rfl rfl) (ao_nil ?_)
 change BW _ _ _ _ _
 refine bw_cond rfl ?_ ?_
 ·intro hc2; replace h := ocond_t hc2 h
  refine bR ?_
  refine sM rfl rfl rfl rfl rfl ?_
  refine sA rfl rfl rfl rfl rfl ?_
  refine sA rfl rfl rfl rfl rfl (ao_nil ?_)
  change BW _ _ _ _ _
  refine bw_ret ?_
  change ∃ xs, _ = some xs ∧ EndOk _ _ _ _
  obtain rfl := Option.some.inj h
  exact ⟨_, rfl, endOk0 (y := (PV.tup [(PV.sl none 5 1 (List.map ofB [])), (I64 x1)])) (Wk.tup (.cons Wk.nil (.cons (Wk.refl _) .nil))) (ids_tup_cons (ids_slM (fun _ => rfl) ([])) (ids_tup_cons rfl ids_tup_nil)) ⟨rfl, rfl⟩⟩
 ·intro hc2; replace h := ocond_f hc2 h
  refine bw_skip ?_
  change BW _ _ _ _ _
  refine bR ?_
  refine sS rfl rfl rfl ((op1_ldRA inf_33 Try.underlying33 rfl rfl rfl rfl rfl rfl)) ?_
  obtain ⟨x3, hx3, h⟩ := obind h
  refine sS rfl rfl rfl (op1_mcallN 5 [1] rfl en_34 rfl rfl (.row (.val (Wk.aggOld (ys := [(I64 a0.f_Kind), (PV.sl none 5 1 (List.map ofB a0.f_Body))]) (.cons (Wk.toOld Pl.v) (.cons (Wk.refl _) .nil))) .nil)) rfl (.cons rfl .arr .nil) (.cons (.row rfl rfl) (.cons (.same (ids_old (ids_S_api_Frame a0))) .nil)) (s_log_put ([] : Str) a0 x3 hx3) (.row rfl (ids_map (fun _ => rfl) _)) (.cons .arr .nil) rfl) ?_
  refine sA rfl rfl rfl rfl rfl ?_
  refine sA rfl rfl rfl rfl rfl (ao_nil ?_)
  change BW _ _ _ _ _
  refine bw_ret ?_
  change ∃ xs, _ = some xs ∧ EndOk _ _ _ _
  obtain rfl := Option.some.inj h
  exact ⟨_, rfl, endOk0 (y := (PV.tup [(PV.sl none 5 1 (List.map ofB x3)), (I64 0)])) (Wk.tup (.cons Wk.tok (.cons (Wk.refl _) .nil))) (ids_tup_cons (ids_slM (fun _ => rfl) x3) (ids_tup_cons rfl ids_tup_nil)) ⟨rfl, rfl⟩⟩
noncomputable def ref19_number_l1b (a1 : Int) (g1 : Int → Str → Int → Option Str) (s1 : Int) (s2 : Str) (s3 : Int) : Option Str :=
 bif (decide (s3 < a1)) then (
  Option.bind (appO 1 s2 ([(UInt8.ofInt (Int.tmod s1 256))] : Str)) fun x5 =>
  g1 (IntKind.u64.wrap (Int.tdiv s1 256)) x5 (IntKind.i64.wrap (s3 + 1))
 ) else (
  some s2
 )
theorem ref19_number_l1b_cm {ι : Type} {ρ : ι → Type} (g1 : (∀ i, Option (ρ i)) → Int → Str → Int → Option Str) (h_g1 : ∀ y0 y1 y2, CM (fun G => g1 G y0 y1 y2)) (a1 : Int) (s1 : Int) (s2 : Str) (s3 : Int) : CM (fun G : (∀ i, Option (ρ i)) => ref19_number_l1b a1 (g1 G) s1 s2 s3) := by
 simp only [ref19_number_l1b]
 repeat (first | exact cm_const | exact h_g1 _ _ _ | refine cm_cond ?_ ?_ | refine cm_bind ?_ (fun _ => ?_))
noncomputable def ref19_number_l1 (a1 : Int) (s1 : Int) (s2 : Str) (s3 : Int) : Option Str :=
 fixO (ι := (Int × Str × Int)) (ρ := fun _ => Str) (fun g i => ref19_number_l1b a1 (fun s1 s2 s3 => g (s1, s2, s3)) i.1 i.2.1 i.2.2) (s1, s2, s3)
theorem ref19_number_l1_eq (a1 : Int) (s1 : Int) (s2 : Str) (s3 : Int) : ref19_number_l1 a1 s1 s2 s3 = ref19_number_l1b a1 (ref19_number_l1 a1) s1 s2 s3 :=
 fixO_eq (ι := (Int × Str × Int)) (ρ := fun _ => Str) (Φ := fun g i => ref19_number_l1b a1 (fun s1 s2 s3 => g (s1, s2, s3)) i.1 i.2.1 i.2.2) (fun i => ref19_number_l1b_cm (ι := (Int × Str × Int)) (ρ := fun _ => Str) (fun g => (fun s1 s2 s3 => g (s1, s2, s3))) (fun _ _ _ => cm_app) a1 i.1 i.2.1 i.2.2) (s1, s2, s3)
noncomputable def p_ref19_number (a0 : Int) (a1 : Int) : Option Str :=
 ref19_number_l1 a1 a0 ([] : Str) 0
theorem s_ref19_number (a0 : Int) (a1 : Int) (r : Str) (h : p_ref19_number a0 a1 = some r) : PCalls Try.prog 31 [(PV.v (.int .u64 a0)), (I64 a1)] (PV.sl none 5 1 (List.map ofB r)) := by
 unfold p_ref19_number at h
 refine acalls_of Try.func31 rfl Try.ntmps31 Try.results31 rfl (aw_of_bw ?_)
 change BW _ _ _ ⟨[(0, (PV.v (.int .u64 a0))), (1, (I64 a1))], [], _⟩ _
 refine bR ?_
 refine sA rfl rfl rfl rfl rfl (ao_nil ?_)
 change BW _ _ _ _ _
 refine bR ?_
 refine sS rfl rfl rfl ((op1_bslice (xs := []) Try.underlying23 inf_5 rfl rfl rfl rfl rfl rfl ⟨Nat.le_of_ble_eq_true rfl, Nat.le_of_ble_eq_true rfl⟩ rfl).cast (y := (PV.sl (some 0) 5 1 (List.map ofB ([] : Str)))) rfl rfl) ?_
 refine sA rfl rfl rfl rfl rfl (ao_nil ?_)
 change BW _ _ _ _ _
 refine bw_seq ?_
 refine bR ?_
 refine sA rfl rfl rfl rfl rfl (ao_nil ?_)
 change BW _ _ _ _ _
 refine bw_block ?_
 change BW _ _ _ _ _
 unfold ref19_number_l1 at h
 refine bw_loop (σ := (Int × Str × Int)) (fun i => [(0, (PV.v (.int .u64 i.1))), (1, (I64 a1)), (5, (PV.sl (some 0) 5 1 (List.map ofB i.2.1))), (6, (I64 i.2.2))]) (fun i => [.arr 5 (i.2.1).length]) (a0, ([] : Str), 0) h ?_ ?_ ?_
 ·intro i; exact ⟨Nat.le_of_ble_eq_true rfl, ⟨(il_nil rfl), ⟨(il_nil rfl), ⟨(il_tok rfl (ids_map (fun _ => rfl) _)), ⟨(il_nil rfl), trivial⟩⟩⟩⟩, trivial⟩
 ·exact ⟨(.cons .same .nil), (sC rfl (sC rfl (sC rfl (sC rfl sub_nil))))⟩
 ·rintro g1_f ⟨s1, s2, s3⟩ h; replace h : ref19_number_l1b a1 (fun y0 y1 y2 => g1_f (y0, y1, y2)) s1 s2 s3 = some r := h; unfold ref19_number_l1b at h
  change BW _ _ _ ⟨[(0, (PV.v (.int .u64 s1))), (1, (I64 a1)), (5, (PV.sl (some 0) 5 1 (List.map ofB s2))), (6, (I64 s3))], [.arr 5 (s2).length], _⟩ _
  refine bw_seq ?_
  refine bR ?_
  refine sM rfl rfl rfl rfl rfl ?_
  refine sM rfl rfl rfl rfl rfl ?_
  refine sS rfl rfl rfl ((op1_cmp rfl rfl rfl rfl).cast (y := (BO ((decide (s3 < a1))))) rfl rfl) (ao_nil ?_)
  change BW _ _ _ _ _
  refine bw_cond rfl ?_ ?_
  ·intro hc4; replace h := ocond_t hc4 h
   refine bw_skip ?_
   change BW _ _ _ _ _
   refine bw_seq ?_
   refine bw_block ?_
   change BW _ _ _ _ _
   refine bR ?_
   refine sM rfl rfl rfl rfl rfl ?_
   refine sM rfl rfl rfl rfl rfl ?_
   refine sS rfl rfl rfl (op1_rem rfl rfl rfl (by decide)) ?_
   refine sS rfl rfl rfl (op1_toU8 Try.underlying75 Try.underlying5 rfl rfl) ?_
   refine sS rfl rfl rfl ((op1_bslice (xs := [(ofB (UInt8.ofInt (Int.tmod s1 256)))]) Try.underlying23 inf_5 rfl rfl rfl rfl rfl rfl ⟨Nat.le_of_ble_eq_true rfl, Nat.le_of_ble_eq_true rfl⟩ rfl).cast (y := (PV.sl (some 1) 5 1 (List.map ofB ([(UInt8.ofInt (Int.tmod s1 256))] : Str)))) rfl rfl) ?_
   obtain ⟨x5, hx5, h⟩ := obind h
   refine sS rfl rfl rfl (op1_appM Try.underlying23 inf_5 rfl Try.underlying23 rfl rfl rfl rfl (fun _ => rfl) (fun _ => rfl) hx5 rfl) ?_
   refine sA rfl rfl rfl rfl rfl (ao_nil ?_)
   change BW _ _ _ _ _
   refine bw_region ?_
   refine sM rfl rfl rfl rfl rfl ?_
   refine sS rfl rfl rfl (op1_quo rfl rfl rfl (by decide)) ?_
   refine sA rfl rfl rfl rfl rfl (ao_nil ?_)
   change BW _ _ _ _ _
   refine bw_region ?_
   refine sM rfl rfl rfl rfl rfl ?_
   refine sS rfl rfl rfl (op1_addW rfl rfl rfl) ?_
   refine sA rfl rfl rfl rfl rfl (ao_nil ?_)
   exact ⟨rfl, ((IntKind.u64.wrap (Int.tdiv s1 256)), x5, (IntKind.i64.wrap (s3 + 1))), h, ⟨(.cons .same .nil), (sC rfl (sC rfl (sC rfl (sC rfl sub_nil))))⟩⟩
  ·intro hc4; replace h := ocond_f hc4 h
   refine bw_exit ?_
   change BW _ _ _ _ _
   refine bR ?_
   refine sM rfl rfl rfl rfl rfl ?_
   refine sA rfl rfl rfl rfl rfl (ao_nil ?_)
   change BW _ _ _ _ _
   refine bw_ret ?_
   change ∃ xs, _ = some xs ∧ EndOk _ _ _ _
   obtain rfl := Option.some.inj h
   exact ⟨_, rfl, endOk0 (y := (PV.sl none 5 1 (List.map ofB s2))) Wk.tok (ids_slM (fun _ => rfl) s2) ⟨rfl, rfl⟩⟩
noncomputable def ref19_Sum_l1b (a0 : Str) (g1 : Int → Nat → Option Int) (s1 : Int) (s2 : Nat) : Option Int :=
 bif (decide (((s2 : Nat) : Int) < (((a0).length : Nat) : Int))) then (
  Option.bind ((a0)[s2]?) fun x5 =>
  g1 (IntKind.u64.wrap ((xorK .u64 s1 ((x5).toNat : Int)) * 1099511628211)) (s2 + 1)
 ) else (
  some s1
 )
theorem ref19_Sum_l1b_cm {ι : Type} {ρ : ι → Type} (g1 : (∀ i, Option (ρ i)) → Int → Nat → Option Int) (h_g1 : ∀ y0 y1, CM (fun G => g1 G y0 y1)) (a0 : Str) (s1 : Int) (s2 : Nat) : CM (fun G : (∀ i, Option (ρ i)) => ref19_Sum_l1b a0 (g1 G) s1 s2) := by
 simp only [ref19_Sum_l1b]
 repeat (first | exact cm_const | exact h_g1 _ _ | refine cm_cond ?_ ?_ | refine cm_bind ?_ (fun _ => ?_))
noncomputable def ref19_Sum_l1 (a0 : Str) (s1 : Int) (s2 : Nat) : Option Int :=
 fixO (ι := (Int × Nat)) (ρ := fun _ => Int) (fun g i => ref19_Sum_l1b a0 (fun s1 s2 => g (s1, s2)) i.1 i.2) (s1, s2)
theorem ref19_Sum_l1_eq (a0 : Str) (s1 : Int) (s2 : Nat) : ref19_Sum_l1 a0 s1 s2 = ref19_Sum_l1b a0 (ref19_Sum_l1 a0) s1 s2 :=
 fixO_eq (ι := (Int × Nat)) (ρ := fun _ => Int) (Φ := fun g i => ref19_Sum_l1b a0 (fun s1 s2 => g (s1, s2)) i.1 i.2) (fun i => ref19_Sum_l1b_cm (ι := (Int × Nat)) (ρ := fun _ => Int) (fun g => (fun s1 s2 => g (s1, s2))) (fun _ _ => cm_app) a0 i.1 i.2) (s1, s2)
noncomputable def p_ref19_Sum (a0 : Str) : Option Int :=
 ref19_Sum_l1 a0 14695981039346656037 0
theorem s_ref19_Sum (a0 : Str) (r : Int) (h : p_ref19_Sum a0 = some r) : PCalls Try.prog 32 [(PV.sl none 5 1 (List.map ofB a0))] (PV.v (.int .u64 r)) := by
 unfold p_ref19_Sum at h
 refine acalls_of Try.func32 rfl Try.ntmps32 Try.results32 rfl (aw_of_bw ?_)
 change BW _ _ _ ⟨[(0, (PV.sl none 5 1 (List.map ofB a0)))], [], _⟩ _
 refine bR ?_
 refine sA rfl rfl rfl rfl rfl (ao_nil ?_)
 change BW _ _ _ _ _
 refine bR ?_
 refine sA rfl rfl rfl rfl rfl (ao_nil ?_)
 change BW _ _ _ _ _
 refine bw_seq ?_
 refine bR ?_
 refine sA rfl rfl rfl rfl rfl (ao_nil ?_)
 change BW _ _ _ _ _
 refine bw_block ?_
 change BW _ _ _ _ _
 unfold ref19_Sum_l1 at h
 refine bw_loop (σ := (Int × Nat)) (fun i => [(0, (PV.sl none 5 1 (List.map ofB a0))), (3, (PV.v (.int .u64 i.1))), (4, (I64 (((i.2 : Nat) : Int))))]) (fun i => []) (14695981039346656037, 0) h ?_ ?_ ?_
 ·intro i; exact ⟨Nat.le_of_ble_eq_true rfl, ⟨(il_nil (ids_slM (fun _ => rfl) _)), ⟨(il_nil rfl), ⟨(il_nil rfl), trivial⟩⟩⟩, trivial⟩
 ·exact ⟨.nil, (sC rfl (sC rfl (sC rfl sub_nil)))⟩
 ·rintro g1_f ⟨s1, s2⟩ h; replace h : ref19_Sum_l1b a0 (fun y0 y1 => g1_f (y0, y1)) s1 s2 = some r := h; unfold ref19_Sum_l1b at h
  change BW _ _ _ ⟨[(0, (PV.sl none 5 1 (List.map ofB a0))), (3, (PV.v (.int .u64 s1))), (4, (I64 (((s2 : Nat) : Int))))], [], _⟩ _
  refine bw_seq ?_
  refine bR ?_
  refine sM rfl rfl rfl rfl rfl ?_
  refine sM rfl rfl rfl rfl rfl ?_
  refine sS rfl rfl rfl (op1_lenM Try.underlying23 rfl rfl) ?_
  refine sS rfl rfl rfl ((op1_cmp rfl rfl rfl rfl).cast (y := (BO ((decide (((s2 : Nat) : Int) < (((a0).length : Nat) : Int)))))) rfl rfl) (ao_nil ?_)
  change BW _ _ _ _ _
  refine bw_len (t := 6) rfl fun hb4 => ?_
  try rw [List.length_map] at hb4
  refine bw_cond rfl ?_ ?_
  ·intro hc3; replace h := ocond_t hc3 h
   have hc3_ := of_decide_eq_true hc3
   refine bw_skip ?_
   change BW _ _ _ _ _
   refine bw_seq ?_
   refine bw_block ?_
   change BW _ _ _ _ _
   refine bw_region ?_
   refine sM rfl rfl rfl rfl rfl ?_
   refine sM rfl rfl rfl rfl rfl ?_
   refine sM rfl rfl rfl rfl rfl ?_
   obtain ⟨x5, hx5, h⟩ := obind h
   refine sS rfl rfl rfl (op1_idxN (i := s2) Try.underlying23 inf_5 rfl rfl rfl hx5 rfl) ?_
   refine sS rfl rfl rfl (op1_ldP (y := (ofB x5)) Try.underlying5 rfl rfl rfl rfl) ?_
   refine sS rfl rfl rfl ((op1_convI Try.underlying5 Try.underlying75 rfl rfl).cast (y := (PV.v (.int .u64 ((x5).toNat : Int)))) (by rw [wrapB_u64]) rfl) ?_
   refine sS rfl rfl rfl ((op1_xorW rfl rfl rfl).cast (y := (PV.v (.int .u64 (xorK .u64 s1 ((x5).toNat : Int))))) rfl rfl) ?_
   refine sS rfl rfl rfl (op1_mulW rfl rfl rfl) ?_
   refine sA rfl rfl rfl rfl rfl (ao_nil ?_)
   change BW _ _ _ _ _
   refine bw_region ?_
   refine sM rfl rfl rfl rfl rfl ?_
   refine sS rfl rfl rfl (op1_incN (k := s2) (c := 1) rfl rfl rfl (by omega)) ?_
   refine sA rfl rfl rfl rfl rfl (ao_nil ?_)
   exact ⟨rfl, ((IntKind.u64.wrap ((xorK .u64 s1 ((x5).toNat : Int)) * 1099511628211)), (s2 + 1)), h, ⟨.nil, (sC rfl (sC rfl (sC rfl sub_nil)))⟩⟩
  ·intro hc3; replace h := ocond_f hc3 h
   refine bw_exit ?_
   change BW _ _ _ _ _
   refine bR ?_
   refine sM rfl rfl rfl rfl rfl ?_
   refine sA rfl rfl rfl rfl rfl (ao_nil ?_)
   change BW _ _ _ _ _
   refine bw_ret ?_
   change ∃ xs, _ = some xs ∧ EndOk _ _ _ _
   obtain rfl := Option.some.inj h
   exact ⟨_, rfl, endOk0 (y := (PV.v (.int .u64 s1))) (Wk.refl _) rfl ⟨rfl, rfl⟩⟩
noncomputable def ref19_Pack_j1 (a0 : S_api_Frame) (s1 : Bool) : Option (Str × Int) :=
 bif s1 then (
  some ([], 1)
 ) else (
  bif (decide ((((a0.f_Body).length : Nat) : Int) > 1048576)) then (
   some ([], 2)
  ) else (
   Option.bind (p_ref19_number (IntKind.u64.wrap (((a0.f_Body).length : Nat) : Int)) 4) fun x4 =>
   Option.bind (appO 1 ([(UInt8.ofInt a0.f_Kind)] : Str) x4) fun x5 =>
   Option.bind (appO 1 x5 a0.f_Body) fun x6 =>
   Option.bind (p_ref19_Sum x6) fun x7 =>
   Option.bind (p_ref19_number x7 8) fun x8 =>
   Option.bind (appO 1 x6 x8) fun x9 =>
   some (x9, 0)
  )
 )
noncomputable def p_ref19_Pack (a0 : S_api_Frame) : Option (Str × Int) :=
 bif (decide (a0.f_Kind < 1)) then (
  ref19_Pack_j1 a0 true
 ) else (
  ref19_Pack_j1 a0 (decide (a0.f_Kind > 255))
 )
theorem s_ref19_Pack (a0 : S_api_Frame) (r : (Str × Int)) (h : p_ref19_Pack a0 = some r) : PCalls Try.prog 11 [(of_api_Frame a0)] (PV.tup [(PV.sl none 5 1 (List.map ofB r.1)), (I64 r.2)]) := by
 unfold p_ref19_Pack at h
 refine acalls_of Try.func11 rfl Try.ntmps11 Try.results11 rfl (aw_of_bw ?_)
 change BW _ _ _ ⟨[(0, (of_api_Frame a0))], [], _⟩ _
 refine bR ?_
 refine sS rfl rfl rfl (op1_box rfl rfl rfl) ?_
 refine sA rfl rfl rfl rfl rfl ?_
 refine sA rfl rfl rfl rfl rfl (ao_nil ?_)
 change BW _ _ _ _ _
 refine bw_seq ?_
 refine bw_seqJ (ι := Bool) (fun i => ref19_Pack_j1 a0 i = some r) (fun i => [(1, (PV.rf 0 0)), (12, (BO i))]) (fun i => [.box 33 [(I64 a0.f_Kind), (PV.sl none 5 1 (List.map ofB a0.f_Body))]]) ?_ ?_ ?_
 ·intro i; exact ⟨Nat.le_of_ble_eq_true rfl, ⟨(il_rf rfl), ⟨(il_nil rfl), trivial⟩⟩, ⟨⟨(il_nil rfl), ⟨(il_nil (ids_slM (fun _ => rfl) _)), trivial⟩⟩, trivial⟩⟩
 ·rintro s1 h; replace h : ref19_Pack_j1 a0 s1 = some r := h; unfold ref19_Pack_j1 at h
  change BW _ _ _ ⟨[(1, (PV.rf 0 0)), (12, (BO s1))], [.box 33 [(I64 a0.f_Kind), (PV.sl none 5 1 (List.map ofB a0.f_Body))]], _⟩ _
  refine bw_cond rfl ?_ ?_
  ·intro hc2; replace h := ocond_t hc2 h
   refine bR ?_
   refine sA rfl rfl rfl rfl rfl ?_
   refine sA rfl rfl rfl rfl rfl (ao_nil ?_)
   change BW _ _ _ _ _
   refine bw_ret ?_
   change ∃ xs, _ = some xs ∧ EndOk _ _ _ _
   obtain rfl := Option.some.inj h
   exact ⟨_, rfl, endOk0 (y := (PV.tup [(PV.sl none 5 1 (List.map ofB [])), (I64 1)])) (Wk.tup (.cons Wk.nil (.cons (Wk.refl _) .nil))) (ids_tup_cons (ids_slM (fun _ => rfl) ([])) (ids_tup_cons rfl ids_tup_nil)) ⟨rfl, rfl⟩⟩
  ·intro hc2; replace h := ocond_f hc2 h
   refine bw_skip ?_
   change BW _ _ _ _ _
   refine bw_seq ?_
   refine bR ?_
   refine sS rfl rfl rfl (op1_faR st_33 (i := 1) rfl rfl rfl) ?_
   refine sS rfl rfl rfl ((op1_ldR Try.underlying23 rfl rfl rfl rfl rfl)) ?_
   refine sS rfl rfl rfl (op1_lenM Try.underlying23 rfl rfl) ?_
   refine sS rfl rfl rfl ((op1_cmp rfl rfl rfl rfl).cast (y := (BO ((decide ((((a0.f_Body).length : Nat) : Int) > 1048576))))) rfl rfl) (ao_nil ?_)
   change BW _ _ _ _ _
   refine bw_cond rfl ?_ ?_
   ·intro hc3; replace h := ocond_t hc3 h
    refine bR ?_
    refine sA rfl rfl rfl rfl rfl ?_
    refine sA rfl rfl rfl rfl rfl (ao_nil ?_)
    change BW _ _ _ _ _
    refine bw_ret ?_
    change ∃ xs, _ = some xs ∧ EndOk _ _ _ _
    obtain rfl := Option.some.inj h
    exact ⟨_, rfl, endOk0 (y := (PV.tup [(PV.sl none 5 1 (List.map ofB [])), (I64 2)])) (Wk.tup (.cons Wk.nil (.cons (Wk.refl _) .nil))) (ids_tup_cons (ids_slM (fun _ => rfl) ([])) (ids_tup_cons rfl ids_tup_nil)) ⟨rfl, rfl⟩⟩
   ·intro hc3; replace h := ocond_f hc3 h
    refine bw_skip ?_
    change BW _ _ _ _ _
    refine bw_seq (bw_tail 9 [3] [0] mo (by kernel_rfl) ?_)
    refine ac_go rfl rfl rfl rfl (fun H hp => op1_faR st_33 (i := 0) rfl rfl rfl) ?_
    refine ac_go rfl rfl rfl rfl (fun H hp => (op1_ldR Try.underlying3 rfl rfl rfl (hp.at rfl rfl) rfl)) ?_
    refine ac_go rfl rfl rfl rfl (fun H hp => op1_toU8 Try.underlying3 Try.underlying5 rfl rfl) ?_
    refine ac_lgo rfl rfl rfl rfl ((op1_bslice (xs := [(ofB (UInt8.ofInt a0.f_Kind))]) Try.underlying23 inf_5 rfl rfl rfl rfl rfl rfl ⟨Nat.le_of_ble_eq_true rfl, Nat.le_of_ble_eq_true rfl⟩ rfl).cast (y := (PV.sl (some 1) 5 1 (List.map ofB ([(UInt8.ofInt a0.f_Kind)] : Str)))) rfl rfl) ⟨rfl, trivial⟩ ?_
    refine ac_go rfl rfl rfl rfl (fun H hp => op1_faR st_33 (i := 1) rfl rfl rfl) ?_
    refine ac_go rfl rfl rfl rfl (fun H hp => (op1_ldR Try.underlying23 rfl rfl rfl (hp.at rfl rfl) rfl)) ?_
    refine ac_go rfl rfl rfl rfl (fun H hp => op1_lenM Try.underlying23 rfl rfl) ?_
    refine ac_go rfl rfl rfl rfl (fun H hp => op1_convI Try.underlying3 Try.underlying75 rfl rfl) ?_
    obtain ⟨x4, hx4, h⟩ := obind h
    refine ac_go rfl rfl rfl rfl (fun H hp => op1_pcall rfl en_31 rfl (.cons (Wk.refl _) (.cons (Wk.refl _) .nil)) ⟨rfl, ⟨rfl, trivial⟩⟩ (s_ref19_number (IntKind.u64.wrap (((a0.f_Body).length : Nat) : Int)) 4 x4 hx4) (ids_slM (fun _ => rfl) x4)) ?_
    refine ac_nil ?_
    change AO _ _ _ _ _
    obtain ⟨x5, hx5, h⟩ := obind h
    refine sS rfl rfl rfl (op1_appM Try.underlying23 inf_5 rfl Try.underlying23 rfl rfl rfl rfl (fun _ => rfl) (fun _ => rfl) hx5 rfl) ?_
    refine sA rfl rfl rfl rfl rfl (ao_nil ?_)
    change BW _ _ _ _ _
    refine bR ?_
    refine sM rfl rfl rfl rfl rfl ?_
    refine sS rfl rfl rfl (op1_faR st_33 (i := 1) rfl rfl rfl) ?_
    refine sS rfl rfl rfl ((op1_ldR Try.underlying23 rfl rfl rfl rfl rfl)) ?_
    obtain ⟨x6, hx6, h⟩ := obind h
    refine sS rfl rfl rfl (op1_appM Try.underlying23 inf_5 rfl Try.underlying23 rfl rfl rfl rfl (fun _ => rfl) (fun _ => rfl) hx6 rfl) ?_
    refine sA rfl rfl rfl rfl rfl (ao_nil ?_)
    change BW _ _ _ _ _
    refine bR ?_
    refine sM rfl rfl rfl rfl rfl ?_
    refine sM rfl rfl rfl rfl rfl ?_
    obtain ⟨x7, hx7, h⟩ := obind h
    refine sS rfl rfl rfl (op1_pcall rfl en_32 rfl (.cons Wk.tok .nil) ⟨(ids_slM (fun _ => rfl) x6), trivial⟩ (s_ref19_Sum x6 x7 hx7) rfl) ?_
    obtain ⟨x8, hx8, h⟩ := obind h
    refine sS rfl rfl rfl (op1_pcall rfl en_31 rfl (.cons (Wk.refl _) (.cons (Wk.refl _) .nil)) ⟨rfl, ⟨rfl, trivial⟩⟩ (s_ref19_number x7 8 x8 hx8) (ids_slM (fun _ => rfl) x8)) ?_
    obtain ⟨x9, hx9, h⟩ := obind h
    refine sS rfl rfl rfl (op1_appM Try.underlying23 inf_5 rfl Try.underlying23 rfl rfl rfl rfl (fun _ => rfl) (fun _ => rfl) hx9 rfl) ?_
    refine sA rfl rfl rfl rfl rfl ?_
    refine sA rfl rfl rfl rfl rfl (ao_nil ?_)
    change BW _ _ _ _ _
    refine bw_ret ?_
    change ∃ xs, _ = some xs ∧ EndOk _ _ _ _
    obtain rfl := Option.some.inj h
    exact ⟨_, rfl, endOk0 (y := (PV.tup [(PV.sl none 5 1 (List.map ofB x9)), (I64 0)])) (Wk.tup (.cons Wk.tok (.cons (Wk.refl _) .nil))) (ids_tup_cons (ids_slM (fun _ => rfl) x9) (ids_tup_cons rfl ids_tup_nil)) ⟨rfl, rfl⟩⟩
 ·refine bw_region ?_
  refine sS rfl rfl rfl (op1_faR st_33 (i := 0) rfl rfl rfl) ?_
  refine sS rfl rfl rfl ((op1_ldR Try.underlying3 rfl rfl rfl rfl rfl)) ?_
  refine sS rfl rfl rfl ((op1_cmp rfl rfl rfl rfl).cast (y := (BO ((decide (a0.f_Kind < 1))))) rfl rfl) ?_
  refine sM rfl rfl rfl rfl rfl ?_
  refine ao_cases (t := 8) rfl ?_ ?_
  ·intro hb10; replace h := ocond_t hb10 h
   refine ao_no rfl rfl rfl rfl rfl rfl ?_
   refine ao_no rfl rfl rfl rfl rfl rfl ?_
   refine ao_no rfl rfl rfl rfl rfl rfl ?_
   refine sS rfl rfl rfl (op1_pickT rfl rfl rfl) (ao_nil ?_)
   exact ⟨rfl, true, h, ⟨(.cons .same .nil), (sC rfl (sC rfl sub_nil))⟩⟩
  ·intro hb10; replace h := ocond_f hb10 h
   refine ao_yes rfl rfl rfl rfl rfl rfl (op1_faR st_33 (i := 0) rfl rfl rfl) ?_
   refine ao_yes rfl rfl rfl rfl rfl rfl ((op1_ldR Try.underlying3 rfl rfl rfl rfl rfl)) ?_
   refine ao_yes rfl rfl rfl rfl rfl rfl ((op1_cmp rfl rfl rfl rfl).cast (y := (BO ((decide (a0.f_Kind > 255))))) rfl rfl) ?_
   refine sS rfl rfl rfl (op1_pickF rfl rfl rfl) (ao_nil ?_)
   exact ⟨rfl, (decide (a0.f_Kind > 255)), h, ⟨(.cons .same .nil), (sC rfl (sC rfl sub_nil))⟩⟩
noncomputable def log_next_l1b (a0 : Str) (x4 : UInt8) (x5 : UInt8) (x6 : UInt8) (x7 : UInt8) (x11 : Int) (x12 : Str) (g1 : Nat → Option (S_api_Frame × Int × Int)) (s13 : Nat) : Option (S_api_Frame × Int × Int) :=
 bif (decide (((s13 : Nat) : Int) < (((x12).length : Nat) : Int))) then (
  Option.bind ((x12)[s13]?) fun x16 =>
  Option.bind (negO (IntKind.i64.wrap (8 * ((s13 : Nat) : Int)))) fun x17 =>
  bif (((x16).toNat : Int) != (((UInt8.ofInt (shrK .u64 x11 (IntKind.i64.wrap (8 * ((s13 : Nat) : Int)))))).toNat : Int)) then (
   some ((S_api_Frame.mk 0 []), 0, 190)
  ) else (
   g1 (s13 + 1)
  )
 ) else (
  Option.bind ((a0)[0]?) fun x19 =>
  Option.bind (cutO a0 5 (IntKind.i64.wrap (5 + (orK .i64 (orK .i64 (orK .i64 ((x4).toNat : Int) (shlK .i64 ((x5).toNat : Int) 8)) (shlK .i64 ((x6).toNat : Int) 16)) (shlK .i64 ((x7).toNat : Int) 24))))) fun x20 =>
  Option.bind (appO 1 ([] : Str) x20) fun x21 =>
  some ((S_api_Frame.mk ((x19).toNat : Int) x21), (IntKind.i64.wrap ((IntKind.i64.wrap (5 + (orK .i64 (orK .i64 (orK .i64 ((x4).toNat : Int) (shlK .i64 ((x5).toNat : Int) 8)) (shlK .i64 ((x6).toNat : Int) 16)) (shlK .i64 ((x7).toNat : Int) 24)))) + 8)), 0)
 )
theorem log_next_l1b_cm {ι : Type} {ρ : ι → Type} (g1 : (∀ i, Option (ρ i)) → Nat → Option (S_api_Frame × Int × Int)) (h_g1 : ∀ y0, CM (fun G => g1 G y0)) (a0 : Str) (x4 : UInt8) (x5 : UInt8) (x6 : UInt8) (x7 : UInt8) (x11 : Int) (x12 : Str) (s13 : Nat) : CM (fun G : (∀ i, Option (ρ i)) => log_next_l1b a0 x4 x5 x6 x7 x11 x12 (g1 G) s13) := by
 simp only [log_next_l1b]
 repeat (first | exact cm_const | exact h_g1 _ | refine cm_cond ?_ ?_ | refine cm_bind ?_ (fun _ => ?_))
noncomputable def log_next_l1 (a0 : Str) (x4 : UInt8) (x5 : UInt8) (x6 : UInt8) (x7 : UInt8) (x11 : Int) (x12 : Str) (s13 : Nat) : Option (S_api_Frame × Int × Int) :=
 fixO (ι := Nat) (ρ := fun _ => (S_api_Frame × Int × Int)) (fun g i => log_next_l1b a0 x4 x5 x6 x7 x11 x12 (fun s13 => g s13) i) s13
theorem log_next_l1_eq (a0 : Str) (x4 : UInt8) (x5 : UInt8) (x6 : UInt8) (x7 : UInt8) (x11 : Int) (x12 : Str) (s13 : Nat) : log_next_l1 a0 x4 x5 x6 x7 x11 x12 s13 = log_next_l1b a0 x4 x5 x6 x7 x11 x12 (log_next_l1 a0 x4 x5 x6 x7 x11 x12) s13 :=
 fixO_eq (ι := Nat) (ρ := fun _ => (S_api_Frame × Int × Int)) (Φ := fun g i => log_next_l1b a0 x4 x5 x6 x7 x11 x12 (fun s13 => g s13) i) (fun i => log_next_l1b_cm (ι := Nat) (ρ := fun _ => (S_api_Frame × Int × Int)) (fun g => (fun s13 => g s13)) (fun _ => cm_app) a0 x4 x5 x6 x7 x11 x12 i) s13
noncomputable def log_next_j1 (a0 : Str) (s1 : Bool) : Option (S_api_Frame × Int × Int) :=
 bif s1 then (
  some ((S_api_Frame.mk 0 []), 0, 1)
 ) else (
  bif (decide ((((a0).length : Nat) : Int) < 5)) then (
   some ((S_api_Frame.mk 0 []), 0, 191)
  ) else (
   Option.bind ((a0)[1]?) fun x4 =>
   Option.bind ((a0)[2]?) fun x5 =>
   Option.bind ((a0)[3]?) fun x6 =>
   Option.bind ((a0)[4]?) fun x7 =>
   bif (decide ((orK .i64 (orK .i64 (orK .i64 ((x4).toNat : Int) (shlK .i64 ((x5).toNat : Int) 8)) (shlK .i64 ((x6).toNat : Int) 16)) (shlK .i64 ((x7).toNat : Int) 24)) > 1048576)) then (
    some ((S_api_Frame.mk 0 []), 0, 2)
   ) else (
    bif (decide ((((a0).length : Nat) : Int) < (IntKind.i64.wrap ((IntKind.i64.wrap (5 + (orK .i64 (orK .i64 (orK .i64 ((x4).toNat : Int) (shlK .i64 ((x5).toNat : Int) 8)) (shlK .i64 ((x6).toNat : Int) 16)) (shlK .i64 ((x7).toNat : Int) 24)))) + 8)))) then (
     some ((S_api_Frame.mk 0 []), 0, 191)
    ) else (
     Option.bind (cutO a0 0 (IntKind.i64.wrap (5 + (orK .i64 (orK .i64 (orK .i64 ((x4).toNat : Int) (shlK .i64 ((x5).toNat : Int) 8)) (shlK .i64 ((x6).toNat : Int) 16)) (shlK .i64 ((x7).toNat : Int) 24))))) fun x10 =>
     Option.bind (p_log_sum x10) fun x11 =>
     Option.bind (cutO a0 (IntKind.i64.wrap (5 + (orK .i64 (orK .i64 (orK .i64 ((x4).toNat : Int) (shlK .i64 ((x5).toNat : Int) 8)) (shlK .i64 ((x6).toNat : Int) 16)) (shlK .i64 ((x7).toNat : Int) 24)))) (IntKind.i64.wrap ((IntKind.i64.wrap (5 + (orK .i64 (orK .i64 (orK .i64 ((x4).toNat : Int) (shlK .i64 ((x5).toNat : Int) 8)) (shlK .i64 ((x6).toNat : Int) 16)) (shlK .i64 ((x7).toNat : Int) 24)))) + 8))) fun x12 =>
     log_next_l1 a0 x4 x5 x6 x7 x11 x12 0
    )
   )
  )
 )
noncomputable def p_log_next (a0 : Str) : Option (S_api_Frame × Int × Int) :=
 bif (decide ((((a0).length : Nat) : Int) > 0)) then (
  Option.bind ((a0)[0]?) fun x23 =>
  log_next_j1 a0 (((x23).toNat : Int) == (((0 : UInt8)).toNat : Int))
 ) else (
  log_next_j1 a0 false
 )
theorem s_log_next (a0 : Str) (r : (S_api_Frame × Int × Int)) (h : p_log_next a0 = some r) : PCalls Try.prog 51 [(PV.old (PV.sl none 5 1 (List.map ofB a0)))] (PV.tup [(of_api_Frame r.1), (I64 r.2.1), (I64 r.2.2)]) := by
 unfold p_log_next at h
 refine acalls_of Try.func51 rfl Try.ntmps51 Try.results51 rfl (aw_of_bw ?_)
 change BW _ _ _ ⟨[(0, (PV.old (PV.sl none 5 1 (List.map ofB a0))))], [], _⟩ _
 refine bR ?_
 refine sS rfl rfl rfl (op1_alloc inf_33 rfl) ?_
 refine sA rfl rfl rfl rfl rfl ?_
 refine sA rfl rfl rfl rfl rfl (ao_nil ?_)
 change BW _ _ _ _ _
 refine bw_seq ?_
 refine bw_seqJ (ι := Bool) (fun i => log_next_j1 a0 i = some r) (fun i => [(0, (PV.old (PV.sl none 5 1 (List.map ofB a0)))), (2, (PV.rf 0 0)), (17, (BO i))]) (fun i => [.box 33 [(I64 0), (PV.v (.slice none 0 0))]]) ?_ ?_ ?_
 ·intro i; exact ⟨Nat.le_of_ble_eq_true rfl, ⟨(il_nil (ids_old (ids_slM (fun _ => rfl) _))), ⟨(il_rf rfl), ⟨(il_nil rfl), trivial⟩⟩⟩, ⟨⟨(il_nil rfl), ⟨(il_nil rfl), trivial⟩⟩, trivial⟩⟩
 ·rintro s1 h; replace h : log_next_j1 a0 s1 = some r := h; unfold log_next_j1 at h
  change BW _ _ _ ⟨[(0, (PV.old (PV.sl none 5 1 (List.map ofB a0)))), (2, (PV.rf 0 0)), (17, (BO s1))], [.box 33 [(I64 0), (PV.v (.slice none 0 0))]], _⟩ _
  refine bw_cond rfl ?_ ?_
  ·intro hc2; replace h := ocond_t hc2 h
   refine bR ?_
   refine sS rfl rfl rfl (op1_build (cs := [(I64 0), (PV.v (.slice none 0 0))]) st_33 inf_33 rfl rfl rfl rfl) ?_
   refine ao_step0 rfl rfl (op1_store inf_33 rfl rfl rfl rfl rfl rfl (Nat.le_of_ble_eq_true rfl) rfl) ?_
   refine sA rfl rfl rfl rfl rfl ?_
   refine sA rfl rfl rfl rfl rfl (ao_nil ?_)
   change BW _ _ _ _ _
   refine bw_ret ?_
   change ∃ xs, _ = some xs ∧ EndOk _ _ _ _
   obtain rfl := Option.some.inj h
   exact ⟨_, rfl, endOk0 (y := (PV.tup [(of_api_Frame (S_api_Frame.mk 0 [])), (I64 0), (I64 1)])) (Wk.tup (.cons (Wk.agg (.cons (Wk.refl _) (.cons Wk.nil .nil))) (.cons (Wk.refl _) (.cons (Wk.refl _) .nil)))) (ids_tup_cons (ids_S_api_Frame (S_api_Frame.mk 0 [])) (ids_tup_cons rfl (ids_tup_cons rfl ids_tup_nil))) ⟨rfl, rfl⟩⟩
  ·intro hc2; replace h := ocond_f hc2 h
   refine bw_skip ?_
   change BW _ _ _ _ _
   refine bw_seq ?_
   refine bR ?_
   refine sM rfl rfl rfl rfl rfl ?_
   refine sS rfl rfl rfl (op1_oldS (op1_lenM Try.underlying23 rfl rfl) Sc.v) ?_
   refine sS rfl rfl rfl ((op1_cmp rfl rfl rfl rfl).cast (y := (BO ((decide ((((a0).length : Nat) : Int) < 5))))) rfl rfl) (ao_nil ?_)
   change BW _ _ _ _ _
   refine bw_cond rfl ?_ ?_
   ·intro hc3; replace h := ocond_t hc3 h
    refine bR ?_
    refine sS rfl rfl rfl (op1_build (cs := [(I64 0), (PV.v (.slice none 0 0))]) st_33 inf_33 rfl rfl rfl rfl) ?_
    refine ao_step0 rfl rfl (op1_store inf_33 rfl rfl rfl rfl rfl rfl (Nat.le_of_ble_eq_true rfl) rfl) ?_
    refine sA rfl rfl rfl rfl rfl ?_
    refine sA rfl rfl rfl rfl rfl (ao_nil ?_)
    change BW _ _ _ _ _
    refine bw_ret ?_
    change ∃ xs, _ = some xs ∧ EndOk _ _ _ _
    obtain rfl := Option.some.inj h
    exact ⟨_, rfl, endOk0 (y := (PV.tup [(of_api_Frame (S_api_Frame.mk 0 [])), (I64 0), (I64 191)])) (Wk.tup (.cons (Wk.agg (.cons (Wk.refl _) (.cons Wk.nil .nil))) (.cons (Wk.refl _) (.cons (Wk.refl _) .nil)))) (ids_tup_cons (ids_S_api_Frame (S_api_Frame.mk 0 [])) (ids_tup_cons rfl (ids_tup_cons rfl ids_tup_nil))) ⟨rfl, rfl⟩⟩
   ·intro hc3; replace h := ocond_f hc3 h
    refine bw_skip ?_
    change BW _ _ _ _ _
    refine bw_seq (bw_tail 21 [] [] mo (by kernel_rfl) ?_)
    refine ac_go rfl rfl rfl rfl (fun H hp => op1_move rfl rfl) ?_
    obtain ⟨x4, hx4, h⟩ := obind h
    refine ac_go rfl rfl rfl rfl (fun H hp => op1_old (op1_idxN (i := 1) Try.underlying23 inf_5 rfl rfl rfl hx4 rfl)) ?_
    refine ac_go rfl rfl rfl rfl (fun H hp => op1_oldS (op1_ldP (y := (ofB x4)) Try.underlying5 rfl rfl rfl rfl) Sc.v) ?_
    refine ac_go rfl rfl rfl rfl (fun H hp => (op1_convI Try.underlying5 Try.underlying3 rfl rfl).cast (y := (I64 (((x4).toNat : Int)))) (by rw [wrapB_i64]) rfl) ?_
    refine ac_go rfl rfl rfl rfl (fun H hp => op1_move rfl rfl) ?_
    obtain ⟨x5, hx5, h⟩ := obind h
    refine ac_go rfl rfl rfl rfl (fun H hp => op1_old (op1_idxN (i := 2) Try.underlying23 inf_5 rfl rfl rfl hx5 rfl)) ?_
    refine ac_go rfl rfl rfl rfl (fun H hp => op1_oldS (op1_ldP (y := (ofB x5)) Try.underlying5 rfl rfl rfl rfl) Sc.v) ?_
    refine ac_go rfl rfl rfl rfl (fun H hp => (op1_convI Try.underlying5 Try.underlying3 rfl rfl).cast (y := (I64 (((x5).toNat : Int)))) (by rw [wrapB_i64]) rfl) ?_
    refine ac_go rfl rfl rfl rfl (fun H hp => (op1_shl rfl rfl rfl (by decide)).cast (y := (I64 ((shlK .i64 ((x5).toNat : Int) 8)))) rfl rfl) ?_
    refine ac_go rfl rfl rfl rfl (fun H hp => (op1_orW rfl rfl rfl).cast (y := (I64 ((orK .i64 ((x4).toNat : Int) (shlK .i64 ((x5).toNat : Int) 8))))) rfl rfl) ?_
    refine ac_go rfl rfl rfl rfl (fun H hp => op1_move rfl rfl) ?_
    obtain ⟨x6, hx6, h⟩ := obind h
    refine ac_go rfl rfl rfl rfl (fun H hp => op1_old (op1_idxN (i := 3) Try.underlying23 inf_5 rfl rfl rfl hx6 rfl)) ?_
    refine ac_go rfl rfl rfl rfl (fun H hp => op1_oldS (op1_ldP (y := (ofB x6)) Try.underlying5 rfl rfl rfl rfl) Sc.v) ?_
    refine ac_go rfl rfl rfl rfl (fun H hp => (op1_convI Try.underlying5 Try.underlying3 rfl rfl).cast (y := (I64 (((x6).toNat : Int)))) (by rw [wrapB_i64]) rfl) ?_
    refine ac_go rfl rfl rfl rfl (fun H hp => (op1_shl rfl rfl rfl (by decide)).cast (y := (I64 ((shlK .i64 ((x6).toNat : Int) 16)))) rfl rfl) ?_
    refine ac_go rfl rfl rfl rfl (fun H hp => (op1_orW rfl rfl rfl).cast (y := (I64 ((orK .i64 (orK .i64 ((x4).toNat : Int) (shlK .i64 ((x5).toNat : Int) 8)) (shlK .i64 ((x6).toNat : Int) 16))))) rfl rfl) ?_
    refine ac_go rfl rfl rfl rfl (fun H hp => op1_move rfl rfl) ?_
    obtain ⟨x7, hx7, h⟩ := obind h
    refine ac_go rfl rfl rfl rfl (fun H hp => op1_old (op1_idxN (i := 4) Try.underlying23 inf_5 rfl rfl rfl hx7 rfl)) ?_
    refine ac_go rfl rfl rfl rfl (fun H hp => op1_oldS (op1_ldP (y := (ofB x7)) Try.underlying5 rfl rfl rfl rfl) Sc.v) ?_
    refine ac_go rfl rfl rfl rfl (fun H hp => (op1_convI Try.underlying5 Try.underlying3 rfl rfl).cast (y := (I64 (((x7).toNat : Int)))) (by rw [wrapB_i64]) rfl) ?_
    refine ac_go rfl rfl rfl rfl (fun H hp => (op1_shl rfl rfl rfl (by decide)).cast (y := (I64 ((shlK .i64 ((x7).toNat : Int) 24)))) rfl rfl) ?_
    refine ac_nil ?_
    change AO _ _ _ _ _
    refine sS rfl rfl rfl ((op1_orW rfl rfl rfl).cast (y := (I64 ((orK .i64 (orK .i64 (orK .i64 ((x4).toNat : Int) (shlK .i64 ((x5).toNat : Int) 8)) (shlK .i64 ((x6).toNat : Int) 16)) (shlK .i64 ((x7).toNat : Int) 24))))) rfl rfl) ?_
    refine sA rfl rfl rfl rfl rfl (ao_nil ?_)
    change BW _ _ _ _ _
    refine bw_seq ?_
    refine bw_block ?_
    change BW _ _ _ _ _
    refine bR ?_
    refine sM rfl rfl rfl rfl rfl ?_
    refine sS rfl rfl rfl ((op1_cmp rfl rfl rfl rfl).cast (y := (BO ((decide ((orK .i64 (orK .i64 (orK .i64 ((x4).toNat : Int) (shlK .i64 ((x5).toNat : Int) 8)) (shlK .i64 ((x6).toNat : Int) 16)) (shlK .i64 ((x7).toNat : Int) 24)) > 1048576))))) rfl rfl) ?_
    refine sA rfl rfl rfl rfl rfl (ao_nil ?_)
    change BW _ _ _ _ _
    refine bw_cond rfl ?_ ?_
    ·intro hc8; replace h := ocond_t hc8 h
     refine bR ?_
     refine sS rfl rfl rfl (op1_build (cs := [(I64 0), (PV.v (.slice none 0 0))]) st_33 inf_33 rfl rfl rfl rfl) ?_
     refine ao_step0 rfl rfl (op1_store inf_33 rfl rfl rfl rfl rfl rfl (Nat.le_of_ble_eq_true rfl) rfl) ?_
     refine sA rfl rfl rfl rfl rfl ?_
     refine sA rfl rfl rfl rfl rfl (ao_nil ?_)
     change BW _ _ _ _ _
     refine bw_ret ?_
     change ∃ xs, _ = some xs ∧ EndOk _ _ _ _
     obtain rfl := Option.some.inj h
     exact ⟨_, rfl, endOk0 (y := (PV.tup [(of_api_Frame (S_api_Frame.mk 0 [])), (I64 0), (I64 2)])) (Wk.tup (.cons (Wk.agg (.cons (Wk.refl _) (.cons Wk.nil .nil))) (.cons (Wk.refl _) (.cons (Wk.refl _) .nil)))) (ids_tup_cons (ids_S_api_Frame (S_api_Frame.mk 0 [])) (ids_tup_cons rfl (ids_tup_cons rfl ids_tup_nil))) ⟨rfl, rfl⟩⟩
    ·intro hc8; replace h := ocond_f hc8 h
     refine bR ?_
     refine sM rfl rfl rfl rfl rfl ?_
     refine sS rfl rfl rfl (op1_oldS (op1_lenM Try.underlying23 rfl rfl) Sc.v) ?_
     refine sM rfl rfl rfl rfl rfl ?_
     refine sS rfl rfl rfl (op1_addW rfl rfl rfl) ?_
     refine sS rfl rfl rfl (op1_addW rfl rfl rfl) ?_
     refine sS rfl rfl rfl ((op1_cmp rfl rfl rfl rfl).cast (y := (BO ((decide ((((a0).length : Nat) : Int) < (IntKind.i64.wrap ((IntKind.i64.wrap (5 + (orK .i64 (orK .i64 (orK .i64 ((x4).toNat : Int) (shlK .i64 ((x5).toNat : Int) 8)) (shlK .i64 ((x6).toNat : Int) 16)) (shlK .i64 ((x7).toNat : Int) 24)))) + 8))))))) rfl rfl) ?_
     refine sA rfl rfl rfl rfl rfl (ao_nil ?_)
     change BW _ _ _ _ _
     refine bw_cond rfl ?_ ?_
     ·intro hc9; replace h := ocond_t hc9 h
      refine bR ?_
      refine sS rfl rfl rfl (op1_build (cs := [(I64 0), (PV.v (.slice none 0 0))]) st_33 inf_33 rfl rfl rfl rfl) ?_
      refine ao_step0 rfl rfl (op1_store inf_33 rfl rfl rfl rfl rfl rfl (Nat.le_of_ble_eq_true rfl) rfl) ?_
      refine sA rfl rfl rfl rfl rfl ?_
      refine sA rfl rfl rfl rfl rfl (ao_nil ?_)
      change BW _ _ _ _ _
      refine bw_ret ?_
      change ∃ xs, _ = some xs ∧ EndOk _ _ _ _
      obtain rfl := Option.some.inj h
      exact ⟨_, rfl, endOk0 (y := (PV.tup [(of_api_Frame (S_api_Frame.mk 0 [])), (I64 0), (I64 191)])) (Wk.tup (.cons (Wk.agg (.cons (Wk.refl _) (.cons Wk.nil .nil))) (.cons (Wk.refl _) (.cons (Wk.refl _) .nil)))) (ids_tup_cons (ids_S_api_Frame (S_api_Frame.mk 0 [])) (ids_tup_cons rfl (ids_tup_cons rfl ids_tup_nil))) ⟨rfl, rfl⟩⟩
     ·intro hc9; replace h := ocond_f hc9 h
      refine bw_skip ?_
      change BW _ _ _ _ _
      refine bR ?_
      refine sM rfl rfl rfl rfl rfl ?_
      refine sM rfl rfl rfl rfl rfl ?_
      refine sS rfl rfl rfl (op1_addW rfl rfl rfl) ?_
      obtain ⟨x10, hx10, h⟩ := obind h
      refine sS rfl rfl rfl (op1_old (op1_cutM (a := 0) (b := (IntKind.i64.wrap (5 + (orK .i64 (orK .i64 (orK .i64 ((x4).toNat : Int) (shlK .i64 ((x5).toNat : Int) 8)) (shlK .i64 ((x6).toNat : Int) 16)) (shlK .i64 ((x7).toNat : Int) 24))))) Try.underlying23 inf_5 rfl rfl rfl rfl rfl rfl hx10)) ?_
      obtain ⟨x11, hx11, h⟩ := obind h
      refine sS rfl rfl rfl (op1_pcall rfl en_52 rfl (.cons (Wk.refl _) .nil) ⟨(ids_old (ids_slM (fun _ => rfl) x10)), trivial⟩ (s_log_sum x10 x11 hx11) rfl) ?_
      refine sA rfl rfl rfl rfl rfl (ao_nil ?_)
      change BW _ _ _ _ _
      refine bw_seq ?_
      refine bR ?_
      refine sM rfl rfl rfl rfl rfl ?_
      refine sM rfl rfl rfl rfl rfl ?_
      refine sS rfl rfl rfl (op1_addW rfl rfl rfl) ?_
      refine sM rfl rfl rfl rfl rfl ?_
      refine sS rfl rfl rfl (op1_addW rfl rfl rfl) ?_
      refine sS rfl rfl rfl (op1_addW rfl rfl rfl) ?_
      obtain ⟨x12, hx12, h⟩ := obind h
      refine sS rfl rfl rfl (op1_old (op1_cutM (a := (IntKind.i64.wrap (5 + (orK .i64 (orK .i64 (orK .i64 ((x4).toNat : Int) (shlK .i64 ((x5).toNat : Int) 8)) (shlK .i64 ((x6).toNat : Int) 16)) (shlK .i64 ((x7).toNat : Int) 24))))) (b := (IntKind.i64.wrap ((IntKind.i64.wrap (5 + (orK .i64 (orK .i64 (orK .i64 ((x4).toNat : Int) (shlK .i64 ((x5).toNat : Int) 8)) (shlK .i64 ((x6).toNat : Int) 16)) (shlK .i64 ((x7).toNat : Int) 24)))) + 8))) Try.underlying23 inf_5 rfl rfl rfl rfl rfl rfl hx12)) ?_
      refine sS rfl rfl rfl (op1_oldS (op1_lenM Try.underlying23 rfl rfl) Sc.v) ?_
      refine sM rfl rfl rfl rfl rfl (ao_nil ?_)
      change BW _ _ _ _ _
      refine bw_block ?_
      change BW _ _ _ _ _
      unfold log_next_l1 at h
      refine bw_loop (σ := Nat) (fun i => [(0, (PV.old (PV.sl none 5 1 (List.map ofB a0)))), (2, (PV.rf 0 0)), (5, (I64 ((orK .i64 (orK .i64 (orK .i64 ((x4).toNat : Int) (shlK .i64 ((x5).toNat : Int) 8)) (shlK .i64 ((x6).toNat : Int) 16)) (shlK .i64 ((x7).toNat : Int) 24))))), (6, (PV.v (.int .u64 x11))), (68, (PV.old (PV.sl none 5 1 (List.map ofB x12)))), (69, (I64 ((((x12).length : Nat) : Int)))), (70, (I64 (((i : Nat) : Int))))]) (fun i => [.box 33 [(I64 0), (PV.v (.slice none 0 0))]]) 0 h ?_ ?_ ?_
      ·intro i; exact ⟨Nat.le_of_ble_eq_true rfl, ⟨(il_nil (ids_old (ids_slM (fun _ => rfl) _))), ⟨(il_rf rfl), ⟨(il_nil rfl), ⟨(il_nil rfl), ⟨(il_nil (ids_old (ids_slM (fun _ => rfl) _))), ⟨(il_nil rfl), ⟨(il_nil rfl), trivial⟩⟩⟩⟩⟩⟩⟩, ⟨⟨(il_nil rfl), ⟨(il_nil rfl), trivial⟩⟩, trivial⟩⟩
      ·exact ⟨(.cons .same .nil), (sC rfl (sC rfl (sC rfl (sC rfl (sC rfl (sC rfl (sC rfl sub_nil)))))))⟩
      ·rintro g1_f s13 h; replace h : log_next_l1b a0 x4 x5 x6 x7 x11 x12 (fun y0 => g1_f y0) s13 = some r := h; unfold log_next_l1b at h
       change BW _ _ _ ⟨[(0, (PV.old (PV.sl none 5 1 (List.map ofB a0)))), (2, (PV.rf 0 0)), (5, (I64 ((orK .i64 (orK .i64 (orK .i64 ((x4).toNat : Int) (shlK .i64 ((x5).toNat : Int) 8)) (shlK .i64 ((x6).toNat : Int) 16)) (shlK .i64 ((x7).toNat : Int) 24))))), (6, (PV.v (.int .u64 x11))), (68, (PV.old (PV.sl none 5 1 (List.map ofB x12)))), (69, (I64 ((((x12).length : Nat) : Int)))), (70, (I64 (((s13 : Nat) : Int))))], [.box 33 [(I64 0), (PV.v (.slice none 0 0))]], _⟩ _
       refine bR ?_
       refine sS rfl rfl rfl ((op1_cmp rfl rfl rfl rfl).cast (y := (BO ((decide (((s13 : Nat) : Int) < (((x12).length : Nat) : Int)))))) rfl rfl) (ao_nil ?_)
       change BW _ _ _ _ _
       refine bw_seq ?_
       refine bw_lenO (t := 68) rfl fun hb15 => ?_
       try rw [List.length_map] at hb15
       refine bw_cond rfl ?_ ?_
       ·intro hc14; replace h := ocond_t hc14 h
        have hc14_ := of_decide_eq_true hc14
        refine bw_skip ?_
        change BW _ _ _ _ _
        refine bw_seq ?_
        refine bw_block ?_
        change BW _ _ _ _ _
        refine bR ?_
        refine sM rfl rfl rfl rfl rfl ?_
        obtain ⟨x16, hx16, h⟩ := obind h
        refine sS rfl rfl rfl (op1_old (op1_idxN (i := s13) Try.underlying23 inf_5 rfl rfl rfl hx16 rfl)) ?_
        refine sS rfl rfl rfl (op1_oldS (op1_ldP (y := (ofB x16)) Try.underlying5 rfl rfl rfl rfl) Sc.v) ?_
        refine sA rfl rfl rfl rfl rfl ?_
        refine sA rfl rfl rfl rfl rfl (ao_nil ?_)
        change BW _ _ _ _ _
        refine bR ?_
        refine sM rfl rfl rfl rfl rfl ?_
        refine sM rfl rfl rfl rfl rfl ?_
        refine sM rfl rfl rfl rfl rfl ?_
        refine sS rfl rfl rfl (op1_mulW rfl rfl rfl) ?_
        obtain ⟨x17, hx17, h⟩ := obind h
        refine sS rfl rfl rfl ((op1_shr rfl rfl rfl (negO_some hx17)).cast (y := (PV.v (.int .u64 (shrK .u64 x11 (IntKind.i64.wrap (8 * ((s13 : Nat) : Int))))))) rfl rfl) ?_
        refine sS rfl rfl rfl (op1_toU8 Try.underlying75 Try.underlying5 rfl rfl) ?_
        refine sS rfl rfl rfl ((op1_cmp rfl rfl rfl rfl).cast (y := (BO ((((x16).toNat : Int) != (((UInt8.ofInt (shrK .u64 x11 (IntKind.i64.wrap (8 * ((s13 : Nat) : Int)))))).toNat : Int))))) rfl rfl) (ao_nil ?_)
        change BW _ _ _ _ _
        refine bw_cond rfl ?_ ?_
        ·intro hc18; replace h := ocond_t hc18 h
         refine bR ?_
         refine sS rfl rfl rfl (op1_build (cs := [(I64 0), (PV.v (.slice none 0 0))]) st_33 inf_33 rfl rfl rfl rfl) ?_
         refine ao_step0 rfl rfl (op1_store inf_33 rfl rfl rfl rfl rfl rfl (Nat.le_of_ble_eq_true rfl) rfl) ?_
         refine sA rfl rfl rfl rfl rfl ?_
         refine sA rfl rfl rfl rfl rfl (ao_nil ?_)
         change BW _ _ _ _ _
         refine bw_ret ?_
         change ∃ xs, _ = some xs ∧ EndOk _ _ _ _
         obtain rfl := Option.some.inj h
         exact ⟨_, rfl, endOk0 (y := (PV.tup [(of_api_Frame (S_api_Frame.mk 0 [])), (I64 0), (I64 190)])) (Wk.tup (.cons (Wk.agg (.cons (Wk.refl _) (.cons Wk.nil .nil))) (.cons (Wk.refl _) (.cons (Wk.refl _) .nil)))) (ids_tup_cons (ids_S_api_Frame (S_api_Frame.mk 0 [])) (ids_tup_cons rfl (ids_tup_cons rfl ids_tup_nil))) ⟨rfl, rfl⟩⟩
        ·intro hc18; replace h := ocond_f hc18 h
         refine bw_skip ?_
         change BW _ _ _ _ _
         refine bw_region ?_
         refine sS rfl rfl rfl (op1_incN (k := s13) (c := 1) rfl rfl rfl (by omega)) ?_
         refine sM rfl rfl rfl rfl rfl (ao_nil ?_)
         exact ⟨rfl, (s13 + 1), h, ⟨(.cons .same .nil), (sC rfl (sC rfl (sC rfl (sC rfl (sC rfl (sC rfl (sC rfl sub_nil)))))))⟩⟩
       ·intro hc14; replace h := ocond_f hc14 h
        refine bw_exit ?_
        change BW _ _ _ _ _
        refine bw_seq (bw_tail 15 [4, 9, 14] [] mo (by kernel_rfl) ?_)
        refine ac_go rfl rfl rfl rfl (fun H hp => op1_move rfl rfl) ?_
        obtain ⟨x19, hx19, h⟩ := obind h
        refine ac_go rfl rfl rfl rfl (fun H hp => op1_old (op1_idxN (i := 0) Try.underlying23 inf_5 rfl rfl rfl hx19 rfl)) ?_
        refine ac_go rfl rfl rfl rfl (fun H hp => op1_oldS (op1_ldP (y := (ofB x19)) Try.underlying5 rfl rfl rfl rfl) Sc.v) ?_
        refine ac_go rfl rfl rfl rfl (fun H hp => (op1_convI Try.underlying5 Try.underlying3 rfl rfl).cast (y := (I64 (((x19).toNat : Int)))) (by rw [wrapB_i64]) rfl) ?_
        refine ac_lgo rfl rfl rfl rfl ((op1_bslice (xs := []) Try.underlying23 inf_5 rfl rfl rfl rfl rfl rfl ⟨Nat.le_of_ble_eq_true rfl, Nat.le_of_ble_eq_true rfl⟩ rfl).cast (y := (PV.sl (some 1) 5 1 (List.map ofB ([] : Str)))) rfl rfl) trivial ?_
        refine ac_go rfl rfl rfl rfl (fun H hp => op1_move rfl rfl) ?_
        refine ac_go rfl rfl rfl rfl (fun H hp => op1_move rfl rfl) ?_
        refine ac_go rfl rfl rfl rfl (fun H hp => op1_addW rfl rfl rfl) ?_
        obtain ⟨x20, hx20, h⟩ := obind h
        refine ac_go rfl rfl rfl rfl (fun H hp => op1_old (op1_cutM (a := 5) (b := (IntKind.i64.wrap (5 + (orK .i64 (orK .i64 (orK .i64 ((x4).toNat : Int) (shlK .i64 ((x5).toNat : Int) 8)) (shlK .i64 ((x6).toNat : Int) 16)) (shlK .i64 ((x7).toNat : Int) 24))))) Try.underlying23 inf_5 rfl rfl rfl rfl rfl rfl hx20)) ?_
        obtain ⟨x21, hx21, h⟩ := obind h
        refine ac_lgo rfl rfl rfl rfl (op1_appMO Try.underlying23 inf_5 rfl Try.underlying23 rfl rfl rfl rfl (fun _ => rfl) (fun _ => rfl) hx21 rfl (fun _ => (sc_cons Sc.v sc_nil))) trivial ?_
        refine ac_go rfl rfl rfl rfl (fun H hp => op1_build (cs := [(I64 (((x19).toNat : Int))), (PV.sl (some 1) 5 1 (List.map ofB x21))]) st_33 inf_33 rfl rfl rfl rfl) ?_
        refine ac_go rfl rfl rfl rfl (fun H hp => op1_move rfl rfl) ?_
        refine ac_go rfl rfl rfl rfl (fun H hp => op1_addW rfl rfl rfl) ?_
        refine ac_go rfl rfl rfl rfl (fun H hp => op1_addW rfl rfl rfl) ?_
        refine ac_lgo0 rfl rfl rfl (op1_store inf_33 rfl rfl rfl rfl rfl rfl (Nat.le_of_ble_eq_true rfl) rfl) trivial ?_
        refine ac_nil ?_
        change AO _ _ _ _ _
        refine sA rfl rfl rfl rfl rfl ?_
        refine sA rfl rfl rfl rfl rfl (ao_nil ?_)
        change BW _ _ _ _ _
        refine bw_ret ?_
        change ∃ xs, _ = some xs ∧ EndOk _ _ _ _
        obtain rfl := Option.some.inj h
        exact ⟨_, rfl, endOk0 (y := (PV.tup [(of_api_Frame (S_api_Frame.mk ((x19).toNat : Int) x21)), (I64 ((IntKind.i64.wrap ((IntKind.i64.wrap (5 + (orK .i64 (orK .i64 (orK .i64 ((x4).toNat : Int) (shlK .i64 ((x5).toNat : Int) 8)) (shlK .i64 ((x6).toNat : Int) 16)) (shlK .i64 ((x7).toNat : Int) 24)))) + 8)))), (I64 0)])) (Wk.tup (.cons (Wk.agg (.cons (Wk.refl _) (.cons Wk.tok .nil))) (.cons (Wk.refl _) (.cons (Wk.refl _) .nil)))) (ids_tup_cons (ids_S_api_Frame (S_api_Frame.mk ((x19).toNat : Int) x21)) (ids_tup_cons rfl (ids_tup_cons rfl ids_tup_nil))) ⟨rfl, rfl⟩⟩
 ·refine bw_region ?_
  refine sM rfl rfl rfl rfl rfl ?_
  refine sS rfl rfl rfl (op1_oldS (op1_lenM Try.underlying23 rfl rfl) Sc.v) ?_
  refine sS rfl rfl rfl ((op1_cmp rfl rfl rfl rfl).cast (y := (BO ((decide ((((a0).length : Nat) : Int) > 0))))) rfl rfl) ?_
  refine sM rfl rfl rfl rfl rfl ?_
  refine ao_cases (t := 12) rfl ?_ ?_
  ·intro hb22; replace h := ocond_t hb22 h
   refine ao_yes rfl rfl rfl rfl rfl rfl (op1_move rfl rfl) ?_
   obtain ⟨x23, hx23, h⟩ := obind h
   refine ao_yes rfl rfl rfl rfl rfl rfl (op1_old (op1_idxN (i := 0) Try.underlying23 inf_5 rfl rfl rfl hx23 rfl)) ?_
   refine ao_yes rfl rfl rfl rfl rfl rfl (op1_oldS (op1_ldP (y := (ofB x23)) Try.underlying5 rfl rfl rfl rfl) Sc.v) ?_
   refine ao_yes rfl rfl rfl rfl rfl rfl ((op1_cmp rfl rfl rfl rfl).cast (y := (BO ((((x23).toNat : Int) == (((0 : UInt8)).toNat : Int))))) rfl rfl) ?_
   refine sS rfl rfl rfl (op1_pickT rfl rfl rfl) (ao_nil ?_)
   exact ⟨rfl, (((x23).toNat : Int) == (((0 : UInt8)).toNat : Int)), h, ⟨(.cons .same .nil), (sC rfl (sC rfl (sC rfl sub_nil)))⟩⟩
  ·intro hb22; replace h := ocond_f hb22 h
   refine ao_no rfl rfl rfl rfl rfl rfl ?_
   refine ao_no rfl rfl rfl rfl rfl rfl ?_
   refine ao_no rfl rfl rfl rfl rfl rfl ?_
   refine ao_no rfl rfl rfl rfl rfl rfl ?_
   refine sS rfl rfl rfl (op1_pickF rfl rfl rfl) (ao_nil ?_)
   exact ⟨rfl, false, h, ⟨(.cons .same .nil), (sC rfl (sC rfl (sC rfl sub_nil)))⟩⟩
noncomputable def log_read_l1b (a0 : Str) (g1 : (List S_api_Frame) → Int → Option ((List S_api_Frame) × Int × Int)) (s1 : (List S_api_Frame)) (s2 : Int) : Option ((List S_api_Frame) × Int × Int) :=
 bif (decide (s2 < (((a0).length : Nat) : Int))) then (
  Option.bind (cutO a0 s2 ((a0).length : Int)) fun x4 =>
  Option.bind (p_log_next x4) fun x5 =>
  bif (x5.2.2 != 0) then (
   some (s1, s2, x5.2.2)
  ) else (
   Option.bind (appO 32 s1 ([(x5.1)] : (List S_api_Frame))) fun x7 =>
   g1 x7 (IntKind.i64.wrap (s2 + x5.2.1))
  )
 ) else (
  some (s1, s2, 0)
 )
theorem log_read_l1b_cm {ι : Type} {ρ : ι → Type} (g1 : (∀ i, Option (ρ i)) → (List S_api_Frame) → Int → Option ((List S_api_Frame) × Int × Int)) (h_g1 : ∀ y0 y1, CM (fun G => g1 G y0 y1)) (a0 : Str) (s1 : (List S_api_Frame)) (s2 : Int) : CM (fun G : (∀ i, Option (ρ i)) => log_read_l1b a0 (g1 G) s1 s2) := by
 simp only [log_read_l1b]
 repeat (first | exact cm_const | exact h_g1 _ _ | refine cm_cond ?_ ?_ | refine cm_bind ?_ (fun _ => ?_))
noncomputable def log_read_l1 (a0 : Str) (s1 : (List S_api_Frame)) (s2 : Int) : Option ((List S_api_Frame) × Int × Int) :=
 fixO (ι := ((List S_api_Frame) × Int)) (ρ := fun _ => ((List S_api_Frame) × Int × Int)) (fun g i => log_read_l1b a0 (fun s1 s2 => g (s1, s2)) i.1 i.2) (s1, s2)
theorem log_read_l1_eq (a0 : Str) (s1 : (List S_api_Frame)) (s2 : Int) : log_read_l1 a0 s1 s2 = log_read_l1b a0 (log_read_l1 a0) s1 s2 :=
 fixO_eq (ι := ((List S_api_Frame) × Int)) (ρ := fun _ => ((List S_api_Frame) × Int × Int)) (Φ := fun g i => log_read_l1b a0 (fun s1 s2 => g (s1, s2)) i.1 i.2) (fun i => log_read_l1b_cm (ι := ((List S_api_Frame) × Int)) (ρ := fun _ => ((List S_api_Frame) × Int × Int)) (fun g => (fun s1 s2 => g (s1, s2))) (fun _ _ => cm_app) a0 i.1 i.2) (s1, s2)
noncomputable def p_log_read (a0 : Str) : Option ((List S_api_Frame) × Int × Int) :=
 log_read_l1 a0 ([]) 0
theorem s_log_read (a0 : Str) (r : ((List S_api_Frame) × Int × Int)) (h : p_log_read a0 = some r) : PCalls Try.prog 30 [(PV.old (PV.sl none 5 1 (List.map ofB a0)))] (PV.tup [(PV.sl none 33 2 (List.map of_api_Frame r.1)), (I64 r.2.1), (I64 r.2.2)]) := by
 unfold p_log_read at h
 refine acalls_of Try.func30 rfl Try.ntmps30 Try.results30 rfl (aw_of_bw ?_)
 change BW _ _ _ ⟨[(0, (PV.old (PV.sl none 5 1 (List.map ofB a0))))], [], _⟩ _
 refine bR ?_
 refine sA rfl rfl rfl rfl rfl ?_
 refine sA rfl rfl rfl rfl rfl ?_
 refine sA rfl rfl rfl rfl rfl (ao_nil ?_)
 change BW _ _ _ _ _
 refine bR ?_
 refine sA rfl rfl rfl rfl rfl (ao_nil ?_)
 change BW _ _ _ _ _
 refine bR ?_
 refine sA rfl rfl rfl rfl rfl (ao_nil ?_)
 change BW _ _ _ _ _
 refine bw_seq ?_
 refine bw_block ?_
 change BW _ _ _ _ _
 refine bw_ghost (s := ⟨_, _, _⟩) 5 33 (sz := 2) rfl rfl ?_
 unfold log_read_l1 at h
 refine bw_loop (σ := ((List S_api_Frame) × Int)) (fun i => [(0, (PV.old (PV.sl none 5 1 (List.map ofB a0)))), (5, (PV.sl (some 0) 33 2 (List.map of_api_Frame i.1))), (6, (I64 i.2))]) (fun i => [.arr 33 (i.1).length]) ([], 0) h ?_ ?_ ?_
 ·intro i; exact ⟨Nat.le_of_ble_eq_true rfl, ⟨(il_nil (ids_old (ids_slM (fun _ => rfl) _))), ⟨(il_tok rfl (ids_map ids_S_api_Frame _)), ⟨(il_nil rfl), trivial⟩⟩⟩, trivial⟩
 ·exact ⟨(.cons .same .nil), (sC rfl (sC rfl (sC rfl sub_nil)))⟩
 ·rintro g1_f ⟨s1, s2⟩ h; replace h : log_read_l1b a0 (fun y0 y1 => g1_f (y0, y1)) s1 s2 = some r := h; unfold log_read_l1b at h
  change BW _ _ _ ⟨[(0, (PV.old (PV.sl none 5 1 (List.map ofB a0)))), (5, (PV.sl (some 0) 33 2 (List.map of_api_Frame s1))), (6, (I64 s2))], [.arr 33 (s1).length], _⟩ _
  refine bw_seq ?_
  refine bR ?_
  refine sM rfl rfl rfl rfl rfl ?_
  refine sM rfl rfl rfl rfl rfl ?_
  refine sS rfl rfl rfl (op1_oldS (op1_lenM Try.underlying23 rfl rfl) Sc.v) ?_
  refine sS rfl rfl rfl ((op1_cmp rfl rfl rfl rfl).cast (y := (BO ((decide (s2 < (((a0).length : Nat) : Int)))))) rfl rfl) (ao_nil ?_)
  change BW _ _ _ _ _
  refine bw_cond rfl ?_ ?_
  ·intro hc3; replace h := ocond_t hc3 h
   refine bw_skip ?_
   change BW _ _ _ _ _
   refine bw_block ?_
   change BW _ _ _ _ _
   refine bR ?_
   refine sM rfl rfl rfl rfl rfl ?_
   refine sM rfl rfl rfl rfl rfl ?_
   obtain ⟨x4, hx4, h⟩ := obind h
   refine sS rfl rfl rfl (op1_old (op1_cutM (a := s2) (b := ((a0).length : Int)) Try.underlying23 inf_5 rfl rfl rfl rfl rfl rfl hx4)) ?_
   obtain ⟨x5, hx5, h⟩ := obind h
   refine sS rfl rfl rfl (op1_pcall rfl en_51 rfl (.cons (Wk.refl _) .nil) ⟨(ids_old (ids_slM (fun _ => rfl) x4)), trivial⟩ (s_log_next x4 x5 hx5) (ids_tup_cons (ids_S_api_Frame x5.1) (ids_tup_cons rfl (ids_tup_cons rfl ids_tup_nil)))) ?_
   refine sM rfl rfl rfl rfl rfl ?_
   refine sS rfl rfl rfl (op1_ext rfl rfl rfl) ?_
   refine sS rfl rfl rfl (op1_ext rfl rfl rfl) ?_
   refine sS rfl rfl rfl (op1_ext rfl rfl rfl) ?_
   refine sS rfl rfl rfl (op1_alloc inf_33 rfl) ?_
   refine ao_step0 rfl rfl (op1_store inf_33 rfl rfl rfl rfl rfl rfl (Nat.le_of_ble_eq_true rfl) rfl) ?_
   refine sA rfl rfl rfl rfl rfl ?_
   refine sA rfl rfl rfl rfl rfl (ao_nil ?_)
   change BW _ _ _ _ _
   refine bw_seq ?_
   refine bR ?_
   refine sM rfl rfl rfl rfl rfl ?_
   refine sS rfl rfl rfl ((op1_cmp rfl rfl rfl rfl).cast (y := (BO ((x5.2.2 != 0)))) rfl rfl) (ao_nil ?_)
   change BW _ _ _ _ _
   refine bw_cond rfl ?_ ?_
   ·intro hc6; replace h := ocond_t hc6 h
    refine bR ?_
    refine sM rfl rfl rfl rfl rfl ?_
    refine sM rfl rfl rfl rfl rfl ?_
    refine sM rfl rfl rfl rfl rfl ?_
    refine sA rfl rfl rfl rfl rfl ?_
    refine sA rfl rfl rfl rfl rfl ?_
    refine sA rfl rfl rfl rfl rfl (ao_nil ?_)
    change BW _ _ _ _ _
    refine bw_ret ?_
    change ∃ xs, _ = some xs ∧ EndOk _ _ _ _
    obtain rfl := Option.some.inj h
    exact ⟨_, rfl, endOk0 (y := (PV.tup [(PV.sl none 33 2 (List.map of_api_Frame s1)), (I64 s2), (I64 x5.2.2)])) (Wk.tup (.cons Wk.tok (.cons (Wk.refl _) (.cons (Wk.refl _) .nil)))) (ids_tup_cons (ids_slM ids_S_api_Frame s1) (ids_tup_cons rfl (ids_tup_cons rfl ids_tup_nil))) ⟨rfl, rfl⟩⟩
   ·intro hc6; replace h := ocond_f hc6 h
    refine bw_skip ?_
    change BW _ _ _ _ _
    refine bw_region ?_
    refine sM rfl rfl rfl rfl rfl ?_
    refine sS rfl rfl rfl ((op1_ldRA inf_33 Try.underlying33 rfl rfl rfl rfl rfl rfl)) ?_
    refine sS rfl rfl rfl ((op1_bslice (xs := [(PV.agg [(I64 ((x5.1).f_Kind)), (PV.sl none 5 1 (List.map ofB (x5.1).f_Body))])]) Try.underlying22 inf_33 rfl rfl rfl rfl rfl rfl ⟨Nat.le_of_ble_eq_true rfl, Nat.le_of_ble_eq_true rfl⟩ rfl).cast (y := (PV.sl (some 2) 33 2 (List.map of_api_Frame ([(x5.1)] : (List S_api_Frame))))) rfl rfl) ?_
    obtain ⟨x7, hx7, h⟩ := obind h
    refine sS rfl rfl rfl (op1_appM Try.underlying22 inf_33 rfl Try.underlying22 rfl rfl rfl rfl csz_S_api_Frame call1_S_api_Frame hx7 rfl) ?_
    refine sM rfl rfl rfl rfl rfl ?_
    refine sM rfl rfl rfl rfl rfl ?_
    refine sS rfl rfl rfl (op1_addW rfl rfl rfl) ?_
    refine sA rfl rfl rfl rfl rfl ?_
    refine sA rfl rfl rfl rfl rfl (ao_nil ?_)
    exact ⟨rfl, (x7, (IntKind.i64.wrap (s2 + x5.2.1))), h, ⟨(.cons .same .nil), (sC rfl (sC rfl (sC rfl sub_nil)))⟩⟩
  ·intro hc3; replace h := ocond_f hc3 h
   refine bw_exit ?_
   change BW _ _ _ _ _
   refine bR ?_
   refine sM rfl rfl rfl rfl rfl ?_
   refine sM rfl rfl rfl rfl rfl ?_
   refine sA rfl rfl rfl rfl rfl ?_
   refine sA rfl rfl rfl rfl rfl ?_
   refine sA rfl rfl rfl rfl rfl (ao_nil ?_)
   change BW _ _ _ _ _
   refine bw_ret ?_
   change ∃ xs, _ = some xs ∧ EndOk _ _ _ _
   obtain rfl := Option.some.inj h
   exact ⟨_, rfl, endOk0 (y := (PV.tup [(PV.sl none 33 2 (List.map of_api_Frame s1)), (I64 s2), (I64 0)])) (Wk.tup (.cons Wk.tok (.cons (Wk.refl _) (.cons (Wk.refl _) .nil)))) (ids_tup_cons (ids_slM ids_S_api_Frame s1) (ids_tup_cons rfl (ids_tup_cons rfl ids_tup_nil))) ⟨rfl, rfl⟩⟩
noncomputable def p_log_Read (a0 : Str) : Option ((List S_api_Frame) × Int × Int) :=
 Option.bind (p_log_read a0) fun x1 =>
 some (x1.1, x1.2.1, x1.2.2)
theorem s_log_Read (a0 : Str) (r : ((List S_api_Frame) × Int × Int)) (h : p_log_Read a0 = some r) : PCalls Try.prog 9 [(PV.old (PV.sl none 5 1 (List.map ofB a0)))] (PV.tup [(PV.sl none 33 2 (List.map of_api_Frame r.1)), (I64 r.2.1), (I64 r.2.2)]) := by
 unfold p_log_Read at h
 refine acalls_of Try.func9 rfl Try.ntmps9 Try.results9 rfl (aw_of_bw ?_)
 change BW _ _ _ ⟨[(0, (PV.old (PV.sl none 5 1 (List.map ofB a0))))], [], _⟩ _
 refine bR ?_
 refine sA rfl rfl rfl rfl rfl ?_
 refine sA rfl rfl rfl rfl rfl ?_
 refine sA rfl rfl rfl rfl rfl (ao_nil ?_)
 change BW _ _ _ _ _
 refine bR ?_
 refine sM rfl rfl rfl rfl rfl ?_
 obtain ⟨x1, hx1, h⟩ := obind h
 refine sS rfl rfl rfl (op1_pcall rfl en_30 rfl (.cons (Wk.refl _) .nil) ⟨(ids_old (ids_slM (fun _ => rfl) a0)), trivial⟩ (s_log_read a0 x1 hx1) (ids_tup_cons (ids_slM ids_S_api_Frame x1.1) (ids_tup_cons rfl (ids_tup_cons rfl ids_tup_nil)))) ?_
 refine sS rfl rfl rfl (op1_ext rfl rfl rfl) ?_
 refine sS rfl rfl rfl (op1_ext rfl rfl rfl) ?_
 refine sS rfl rfl rfl (op1_ext rfl rfl rfl) ?_
 refine sA rfl rfl rfl rfl rfl ?_
 refine sA rfl rfl rfl rfl rfl ?_
 refine sA rfl rfl rfl rfl rfl (ao_nil ?_)
 change BW _ _ _ _ _
 refine bw_ret ?_
 change ∃ xs, _ = some xs ∧ EndOk _ _ _ _
 obtain rfl := Option.some.inj h
 exact ⟨_, rfl, endOk0 (y := (PV.tup [(PV.sl none 33 2 (List.map of_api_Frame x1.1)), (I64 x1.2.1), (I64 x1.2.2)])) (Wk.refl _) (ids_tup_cons (ids_slM ids_S_api_Frame x1.1) (ids_tup_cons rfl (ids_tup_cons rfl ids_tup_nil))) ⟨rfl, rfl⟩⟩
noncomputable def ref19_at_l1b (a0 : Str) (g1 : Int → Int → Option Int) (s1 : Int) (s2 : Int) : Option Int :=
 bif (decide (s2 ≥ 0)) then (
  Option.bind (idxI a0 s2) fun x4 =>
  g1 (IntKind.u64.wrap ((IntKind.u64.wrap (s1 * 256)) + ((x4).toNat : Int))) (IntKind.i64.wrap (s2 - 1))
 ) else (
  some s1
 )
theorem ref19_at_l1b_cm {ι : Type} {ρ : ι → Type} (g1 : (∀ i, Option (ρ i)) → Int → Int → Option Int) (h_g1 : ∀ y0 y1, CM (fun G => g1 G y0 y1)) (a0 : Str) (s1 : Int) (s2 : Int) : CM (fun G : (∀ i, Option (ρ i)) => ref19_at_l1b a0 (g1 G) s1 s2) := by
 simp only [ref19_at_l1b]
 repeat (first | exact cm_const | exact h_g1 _ _ | refine cm_cond ?_ ?_ | refine cm_bind ?_ (fun _ => ?_))
noncomputable def ref19_at_l1 (a0 : Str) (s1 : Int) (s2 : Int) : Option Int :=
 fixO (ι := (Int × Int)) (ρ := fun _ => Int) (fun g i => ref19_at_l1b a0 (fun s1 s2 => g (s1, s2)) i.1 i.2) (s1, s2)
theorem ref19_at_l1_eq (a0 : Str) (s1 : Int) (s2 : Int) : ref19_at_l1 a0 s1 s2 = ref19_at_l1b a0 (ref19_at_l1 a0) s1 s2 :=
 fixO_eq (ι := (Int × Int)) (ρ := fun _ => Int) (Φ := fun g i => ref19_at_l1b a0 (fun s1 s2 => g (s1, s2)) i.1 i.2) (fun i => ref19_at_l1b_cm (ι := (Int × Int)) (ρ := fun _ => Int) (fun g => (fun s1 s2 => g (s1, s2))) (fun _ _ => cm_app) a0 i.1 i.2) (s1, s2)
noncomputable def p_ref19_at (a0 : Str) : Option Int :=
 ref19_at_l1 a0 0 (IntKind.i64.wrap ((((a0).length : Nat) : Int) - 1))
theorem s_ref19_at (a0 : Str) (r : Int) (h : p_ref19_at a0 = some r) : PCalls Try.prog 53 [(PV.sl none 5 1 (List.map ofB a0))] (PV.v (.int .u64 r)) := by
 unfold p_ref19_at at h
 refine acalls_of Try.func53 rfl Try.ntmps53 Try.results53 rfl (aw_of_bw ?_)
 change BW _ _ _ ⟨[(0, (PV.sl none 5 1 (List.map ofB a0)))], [], _⟩ _
 refine bR ?_
 refine sA rfl rfl rfl rfl rfl (ao_nil ?_)
 change BW _ _ _ _ _
 refine bR ?_
 refine sA rfl rfl rfl rfl rfl (ao_nil ?_)
 change BW _ _ _ _ _
 refine bw_seq ?_
 refine bR ?_
 refine sM rfl rfl rfl rfl rfl ?_
 refine sS rfl rfl rfl (op1_lenM Try.underlying23 rfl rfl) ?_
 refine sS rfl rfl rfl (op1_subW rfl rfl rfl) ?_
 refine sA rfl rfl rfl rfl rfl (ao_nil ?_)
 change BW _ _ _ _ _
 refine bw_block ?_
 change BW _ _ _ _ _
 unfold ref19_at_l1 at h
 refine bw_loop (σ := (Int × Int)) (fun i => [(0, (PV.sl none 5 1 (List.map ofB a0))), (3, (PV.v (.int .u64 i.1))), (4, (I64 i.2))]) (fun i => []) (0, (IntKind.i64.wrap ((((a0).length : Nat) : Int) - 1))) h ?_ ?_ ?_
 ·intro i; exact ⟨Nat.le_of_ble_eq_true rfl, ⟨(il_nil (ids_slM (fun _ => rfl) _)), ⟨(il_nil rfl), ⟨(il_nil rfl), trivial⟩⟩⟩, trivial⟩
 ·exact ⟨.nil, (sC rfl (sC rfl (sC rfl sub_nil)))⟩
 ·rintro g1_f ⟨s1, s2⟩ h; replace h : ref19_at_l1b a0 (fun y0 y1 => g1_f (y0, y1)) s1 s2 = some r := h; unfold ref19_at_l1b at h
  change BW _ _ _ ⟨[(0, (PV.sl none 5 1 (List.map ofB a0))), (3, (PV.v (.int .u64 s1))), (4, (I64 s2))], [], _⟩ _
  refine bw_seq ?_
  refine bR ?_
  refine sM rfl rfl rfl rfl rfl ?_
  refine sS rfl rfl rfl ((op1_cmp rfl rfl rfl rfl).cast (y := (BO ((decide (s2 ≥ 0))))) rfl rfl) (ao_nil ?_)
  change BW _ _ _ _ _
  refine bw_cond rfl ?_ ?_
  ·intro hc3; replace h := ocond_t hc3 h
   refine bw_skip ?_
   change BW _ _ _ _ _
   refine bw_seq ?_
   refine bw_block ?_
   change BW _ _ _ _ _
   refine bw_region ?_
   refine sM rfl rfl rfl rfl rfl ?_
   refine sS rfl rfl rfl (op1_mulW rfl rfl rfl) ?_
   refine sM rfl rfl rfl rfl rfl ?_
   refine sM rfl rfl rfl rfl rfl ?_
   obtain ⟨x4, hx4, h⟩ := obind h
   refine sS rfl rfl rfl (op1_idxM Try.underlying23 inf_5 rfl rfl rfl hx4 rfl) ?_
   refine sS rfl rfl rfl (op1_ldP (y := (ofB x4)) Try.underlying5 rfl rfl rfl rfl) ?_
   refine sS rfl rfl rfl ((op1_convI Try.underlying5 Try.underlying75 rfl rfl).cast (y := (PV.v (.int .u64 ((x4).toNat : Int)))) (by rw [wrapB_u64]) rfl) ?_
   refine sS rfl rfl rfl (op1_addW rfl rfl rfl) ?_
   refine sA rfl rfl rfl rfl rfl (ao_nil ?_)
   change BW _ _ _ _ _
   refine bw_region ?_
   refine sM rfl rfl rfl rfl rfl ?_
   refine sS rfl rfl rfl (op1_subW rfl rfl rfl) ?_
   refine sA rfl rfl rfl rfl rfl (ao_nil ?_)
   exact ⟨rfl, ((IntKind.u64.wrap ((IntKind.u64.wrap (s1 * 256)) + ((x4).toNat : Int))), (IntKind.i64.wrap (s2 - 1))), h, ⟨.nil, (sC rfl (sC rfl (sC rfl sub_nil)))⟩⟩
  ·intro hc3; replace h := ocond_f hc3 h
   refine bw_exit ?_
   change BW _ _ _ _ _
   refine bR ?_
   refine sM rfl rfl rfl rfl rfl ?_
   refine sA rfl rfl rfl rfl rfl (ao_nil ?_)
   change BW _ _ _ _ _
   refine bw_ret ?_
   change ∃ xs, _ = some xs ∧ EndOk _ _ _ _
   obtain rfl := Option.some.inj h
   exact ⟨_, rfl, endOk0 (y := (PV.v (.int .u64 s1))) (Wk.refl _) rfl ⟨rfl, rfl⟩⟩
noncomputable def p_ref19_one (a0 : Str) : Option (S_api_Frame × Int × Int) :=
 bif ((((a0).length : Nat) : Int) == 0) then (
  some ((S_api_Frame.mk 0 []), 0, 191)
 ) else (
  Option.bind ((a0)[0]?) fun x2 =>
  bif (((x2).toNat : Int) == (((0 : UInt8)).toNat : Int)) then (
   some ((S_api_Frame.mk 0 []), 0, 1)
  ) else (
   bif (decide ((((a0).length : Nat) : Int) < 5)) then (
    some ((S_api_Frame.mk 0 []), 0, 191)
   ) else (
    Option.bind (cutO a0 1 5) fun x5 =>
    Option.bind (p_ref19_at x5) fun x6 =>
    bif (decide (x6 > 1048576)) then (
     some ((S_api_Frame.mk 0 []), 0, 2)
    ) else (
     bif (decide ((((a0).length : Nat) : Int) < (IntKind.i64.wrap ((IntKind.i64.wrap (5 + (IntKind.i64.wrap x6))) + 8)))) then (
      some ((S_api_Frame.mk 0 []), 0, 191)
     ) else (
      Option.bind (cutO a0 (IntKind.i64.wrap (5 + (IntKind.i64.wrap x6))) (IntKind.i64.wrap ((IntKind.i64.wrap (5 + (IntKind.i64.wrap x6))) + 8))) fun x9 =>
      Option.bind (p_ref19_at x9) fun x10 =>
      Option.bind (cutO a0 0 (IntKind.i64.wrap (5 + (IntKind.i64.wrap x6)))) fun x11 =>
      Option.bind (p_ref19_Sum x11) fun x12 =>
      bif (x10 != x12) then (
       some ((S_api_Frame.mk 0 []), 0, 190)
      ) else (
       Option.bind ((a0)[0]?) fun x14 =>
       Option.bind (cutO a0 5 (IntKind.i64.wrap (5 + (IntKind.i64.wrap x6)))) fun x15 =>
       Option.bind (appO 1 ([] : Str) x15) fun x16 =>
       some ((S_api_Frame.mk ((x14).toNat : Int) x16), (IntKind.i64.wrap ((IntKind.i64.wrap (5 + (IntKind.i64.wrap x6))) + 8)), 0)
      )
     )
    )
   )
  )
 )
theorem s_ref19_one (a0 : Str) (r : (S_api_Frame × Int × Int)) (h : p_ref19_one a0 = some r) : PCalls Try.prog 35 [(PV.sl none 5 1 (List.map ofB a0))] (PV.tup [(of_api_Frame r.1), (I64 r.2.1), (I64 r.2.2)]) := by
 unfold p_ref19_one at h
 refine acalls_of Try.func35 rfl Try.ntmps35 Try.results35 rfl (aw_of_bw ?_)
 change BW _ _ _ ⟨[(0, (PV.sl none 5 1 (List.map ofB a0)))], [], _⟩ _
 refine bR ?_
 refine sS rfl rfl rfl (op1_alloc inf_33 rfl) ?_
 refine sA rfl rfl rfl rfl rfl ?_
 refine sA rfl rfl rfl rfl rfl (ao_nil ?_)
 change BW _ _ _ _ _
 refine bw_seq ?_
 refine bR ?_
 refine sM rfl rfl rfl rfl rfl ?_
 refine sS rfl rfl rfl (op1_lenM Try.underlying23 rfl rfl) ?_
 refine sS rfl rfl rfl ((op1_cmp rfl rfl rfl rfl).cast (y := (BO (((((a0).length : Nat) : Int) == 0)))) rfl rfl) (ao_nil ?_)
 change BW _ _ _ _ _
 refine bw_cond rfl ?_ ?_
 ·intro hc1; replace h := ocond_t hc1 h
  refine bR ?_
  refine sS rfl rfl rfl (op1_build (cs := [(I64 0), (PV.v (.slice none 0 0))]) st_33 inf_33 rfl rfl rfl rfl) ?_
  refine ao_step0 rfl rfl (op1_store inf_33 rfl rfl rfl rfl rfl rfl (Nat.le_of_ble_eq_true rfl) rfl) ?_
  refine sA rfl rfl rfl rfl rfl ?_
  refine sA rfl rfl rfl rfl rfl (ao_nil ?_)
  change BW _ _ _ _ _
  refine bw_ret ?_
  change ∃ xs, _ = some xs ∧ EndOk _ _ _ _
  obtain rfl := Option.some.inj h
  exact ⟨_, rfl, endOk0 (y := (PV.tup [(of_api_Frame (S_api_Frame.mk 0 [])), (I64 0), (I64 191)])) (Wk.tup (.cons (Wk.agg (.cons (Wk.refl _) (.cons Wk.nil .nil))) (.cons (Wk.refl _) (.cons (Wk.refl _) .nil)))) (ids_tup_cons (ids_S_api_Frame (S_api_Frame.mk 0 [])) (ids_tup_cons rfl (ids_tup_cons rfl ids_tup_nil))) ⟨rfl, rfl⟩⟩
 ·intro hc1; replace h := ocond_f hc1 h
  refine bw_skip ?_
  change BW _ _ _ _ _
  refine bw_seq ?_
  refine bR ?_
  refine sM rfl rfl rfl rfl rfl ?_
  obtain ⟨x2, hx2, h⟩ := obind h
  refine sS rfl rfl rfl (op1_idxN (i := 0) Try.underlying23 inf_5 rfl rfl rfl hx2 rfl) ?_
  refine sS rfl rfl rfl (op1_ldP (y := (ofB x2)) Try.underlying5 rfl rfl rfl rfl) ?_
  refine sS rfl rfl rfl ((op1_cmp rfl rfl rfl rfl).cast (y := (BO ((((x2).toNat : Int) == (((0 : UInt8)).toNat : Int))))) rfl rfl) (ao_nil ?_)
  change BW _ _ _ _ _
  refine bw_cond rfl ?_ ?_
  ·intro hc3; replace h := ocond_t hc3 h
   refine bR ?_
   refine sS rfl rfl rfl (op1_build (cs := [(I64 0), (PV.v (.slice none 0 0))]) st_33 inf_33 rfl rfl rfl rfl) ?_
   refine ao_step0 rfl rfl (op1_store inf_33 rfl rfl rfl rfl rfl rfl (Nat.le_of_ble_eq_true rfl) rfl) ?_
   refine sA rfl rfl rfl rfl rfl ?_
   refine sA rfl rfl rfl rfl rfl (ao_nil ?_)
   change BW _ _ _ _ _
   refine bw_ret ?_
   change ∃ xs, _ = some xs ∧ EndOk _ _ _ _
   obtain rfl := Option.some.inj h
   exact ⟨_, rfl, endOk0 (y := (PV.tup [(of_api_Frame (S_api_Frame.mk 0 [])), (I64 0), (I64 1)])) (Wk.tup (.cons (Wk.agg (.cons (Wk.refl _) (.cons Wk.nil .nil))) (.cons (Wk.refl _) (.cons (Wk.refl _) .nil)))) (ids_tup_cons (ids_S_api_Frame (S_api_Frame.mk 0 [])) (ids_tup_cons rfl (ids_tup_cons rfl ids_tup_nil))) ⟨rfl, rfl⟩⟩
  ·intro hc3; replace h := ocond_f hc3 h
   refine bw_skip ?_
   change BW _ _ _ _ _
   refine bw_seq ?_
   refine bR ?_
   refine sM rfl rfl rfl rfl rfl ?_
   refine sS rfl rfl rfl (op1_lenM Try.underlying23 rfl rfl) ?_
   refine sS rfl rfl rfl ((op1_cmp rfl rfl rfl rfl).cast (y := (BO ((decide ((((a0).length : Nat) : Int) < 5))))) rfl rfl) (ao_nil ?_)
   change BW _ _ _ _ _
   refine bw_cond rfl ?_ ?_
   ·intro hc4; replace h := ocond_t hc4 h
    refine bR ?_
    refine sS rfl rfl rfl (op1_build (cs := [(I64 0), (PV.v (.slice none 0 0))]) st_33 inf_33 rfl rfl rfl rfl) ?_
    refine ao_step0 rfl rfl (op1_store inf_33 rfl rfl rfl rfl rfl rfl (Nat.le_of_ble_eq_true rfl) rfl) ?_
    refine sA rfl rfl rfl rfl rfl ?_
    refine sA rfl rfl rfl rfl rfl (ao_nil ?_)
    change BW _ _ _ _ _
    refine bw_ret ?_
    change ∃ xs, _ = some xs ∧ EndOk _ _ _ _
    obtain rfl := Option.some.inj h
    exact ⟨_, rfl, endOk0 (y := (PV.tup [(of_api_Frame (S_api_Frame.mk 0 [])), (I64 0), (I64 191)])) (Wk.tup (.cons (Wk.agg (.cons (Wk.refl _) (.cons Wk.nil .nil))) (.cons (Wk.refl _) (.cons (Wk.refl _) .nil)))) (ids_tup_cons (ids_S_api_Frame (S_api_Frame.mk 0 [])) (ids_tup_cons rfl (ids_tup_cons rfl ids_tup_nil))) ⟨rfl, rfl⟩⟩
   ·intro hc4; replace h := ocond_f hc4 h
    refine bw_skip ?_
    change BW _ _ _ _ _
    refine bR ?_
    refine sM rfl rfl rfl rfl rfl ?_
    obtain ⟨x5, hx5, h⟩ := obind h
    refine sS rfl rfl rfl (op1_cutM (a := 1) (b := 5) Try.underlying23 inf_5 rfl rfl rfl rfl rfl rfl hx5) ?_
    obtain ⟨x6, hx6, h⟩ := obind h
    refine sS rfl rfl rfl (op1_pcall rfl en_53 rfl (.cons (Wk.refl _) .nil) ⟨(ids_slM (fun _ => rfl) x5), trivial⟩ (s_ref19_at x5 x6 hx6) rfl) ?_
    refine sA rfl rfl rfl rfl rfl (ao_nil ?_)
    change BW _ _ _ _ _
    refine bw_seq ?_
    refine bR ?_
    refine sM rfl rfl rfl rfl rfl ?_
    refine sS rfl rfl rfl ((op1_cmp rfl rfl rfl rfl).cast (y := (BO ((decide (x6 > 1048576))))) rfl rfl) (ao_nil ?_)
    change BW _ _ _ _ _
    refine bw_cond rfl ?_ ?_
    ·intro hc7; replace h := ocond_t hc7 h
     refine bR ?_
     refine sS rfl rfl rfl (op1_build (cs := [(I64 0), (PV.v (.slice none 0 0))]) st_33 inf_33 rfl rfl rfl rfl) ?_
     refine ao_step0 rfl rfl (op1_store inf_33 rfl rfl rfl rfl rfl rfl (Nat.le_of_ble_eq_true rfl) rfl) ?_
     refine sA rfl rfl rfl rfl rfl ?_
     refine sA rfl rfl rfl rfl rfl (ao_nil ?_)
     change BW _ _ _ _ _
     refine bw_ret ?_
     change ∃ xs, _ = some xs ∧ EndOk _ _ _ _
     obtain rfl := Option.some.inj h
     exact ⟨_, rfl, endOk0 (y := (PV.tup [(of_api_Frame (S_api_Frame.mk 0 [])), (I64 0), (I64 2)])) (Wk.tup (.cons (Wk.agg (.cons (Wk.refl _) (.cons Wk.nil .nil))) (.cons (Wk.refl _) (.cons (Wk.refl _) .nil)))) (ids_tup_cons (ids_S_api_Frame (S_api_Frame.mk 0 [])) (ids_tup_cons rfl (ids_tup_cons rfl ids_tup_nil))) ⟨rfl, rfl⟩⟩
    ·intro hc7; replace h := ocond_f hc7 h
     refine bw_skip ?_
     change BW _ _ _ _ _
     refine bR ?_
     refine sM rfl rfl rfl rfl rfl ?_
     refine sS rfl rfl rfl (op1_convI Try.underlying75 Try.underlying3 rfl rfl) ?_
     refine sS rfl rfl rfl (op1_addW rfl rfl rfl) ?_
     refine sA rfl rfl rfl rfl rfl (ao_nil ?_)
     change BW _ _ _ _ _
     refine bw_seq ?_
     refine bR ?_
     refine sM rfl rfl rfl rfl rfl ?_
     refine sS rfl rfl rfl (op1_lenM Try.underlying23 rfl rfl) ?_
     refine sM rfl rfl rfl rfl rfl ?_
     refine sS rfl rfl rfl (op1_addW rfl rfl rfl) ?_
     refine sS rfl rfl rfl ((op1_cmp rfl rfl rfl rfl).cast (y := (BO ((decide ((((a0).length : Nat) : Int) < (IntKind.i64.wrap ((IntKind.i64.wrap (5 + (IntKind.i64.wrap x6))) + 8))))))) rfl rfl) (ao_nil ?_)
     change BW _ _ _ _ _
     refine bw_cond rfl ?_ ?_
     ·intro hc8; replace h := ocond_t hc8 h
      refine bR ?_
      refine sS rfl rfl rfl (op1_build (cs := [(I64 0), (PV.v (.slice none 0 0))]) st_33 inf_33 rfl rfl rfl rfl) ?_
      refine ao_step0 rfl rfl (op1_store inf_33 rfl rfl rfl rfl rfl rfl (Nat.le_of_ble_eq_true rfl) rfl) ?_
      refine sA rfl rfl rfl rfl rfl ?_
      refine sA rfl rfl rfl rfl rfl (ao_nil ?_)
      change BW _ _ _ _ _
      refine bw_ret ?_
      change ∃ xs, _ = some xs ∧ EndOk _ _ _ _
      obtain rfl := Option.some.inj h
      exact ⟨_, rfl, endOk0 (y := (PV.tup [(of_api_Frame (S_api_Frame.mk 0 [])), (I64 0), (I64 191)])) (Wk.tup (.cons (Wk.agg (.cons (Wk.refl _) (.cons Wk.nil .nil))) (.cons (Wk.refl _) (.cons (Wk.refl _) .nil)))) (ids_tup_cons (ids_S_api_Frame (S_api_Frame.mk 0 [])) (ids_tup_cons rfl (ids_tup_cons rfl ids_tup_nil))) ⟨rfl, rfl⟩⟩
     ·intro hc8; replace h := ocond_f hc8 h
      refine bw_skip ?_
      change BW _ _ _ _ _
      refine bw_seq ?_
      refine bw_seq (bw_tail 9 [] [] mo (by kernel_rfl) ?_)
      refine ac_go rfl rfl rfl rfl (fun H hp => op1_move rfl rfl) ?_
      refine ac_go rfl rfl rfl rfl (fun H hp => op1_move rfl rfl) ?_
      refine ac_go rfl rfl rfl rfl (fun H hp => op1_move rfl rfl) ?_
      refine ac_go rfl rfl rfl rfl (fun H hp => op1_addW rfl rfl rfl) ?_
      obtain ⟨x9, hx9, h⟩ := obind h
      refine ac_go rfl rfl rfl rfl (fun H hp => op1_cutM (a := (IntKind.i64.wrap (5 + (IntKind.i64.wrap x6)))) (b := (IntKind.i64.wrap ((IntKind.i64.wrap (5 + (IntKind.i64.wrap x6))) + 8))) Try.underlying23 inf_5 rfl rfl rfl rfl rfl rfl hx9) ?_
      obtain ⟨x10, hx10, h⟩ := obind h
      refine ac_go rfl rfl rfl rfl (fun H hp => op1_pcall rfl en_53 rfl (.cons (Wk.refl _) .nil) ⟨(ids_slM (fun _ => rfl) x9), trivial⟩ (s_ref19_at x9 x10 hx10) rfl) ?_
      refine ac_go rfl rfl rfl rfl (fun H hp => op1_move rfl rfl) ?_
      refine ac_go rfl rfl rfl rfl (fun H hp => op1_move rfl rfl) ?_
      obtain ⟨x11, hx11, h⟩ := obind h
      refine ac_go rfl rfl rfl rfl (fun H hp => op1_cutM (a := 0) (b := (IntKind.i64.wrap (5 + (IntKind.i64.wrap x6)))) Try.underlying23 inf_5 rfl rfl rfl rfl rfl rfl hx11) ?_
      refine ac_nil ?_
      change AO _ _ _ _ _
      obtain ⟨x12, hx12, h⟩ := obind h
      refine sS rfl rfl rfl (op1_pcall rfl en_32 rfl (.cons (Wk.refl _) .nil) ⟨(ids_slM (fun _ => rfl) x11), trivial⟩ (s_ref19_Sum x11 x12 hx12) rfl) ?_
      refine sS rfl rfl rfl ((op1_cmp rfl rfl rfl rfl).cast (y := (BO ((x10 != x12)))) rfl rfl) (ao_nil ?_)
      change BW _ _ _ _ _
      refine bw_cond rfl ?_ ?_
      ·intro hc13; replace h := ocond_t hc13 h
       refine bR ?_
       refine sS rfl rfl rfl (op1_build (cs := [(I64 0), (PV.v (.slice none 0 0))]) st_33 inf_33 rfl rfl rfl rfl) ?_
       refine ao_step0 rfl rfl (op1_store inf_33 rfl rfl rfl rfl rfl rfl (Nat.le_of_ble_eq_true rfl) rfl) ?_
       refine sA rfl rfl rfl rfl rfl ?_
       refine sA rfl rfl rfl rfl rfl (ao_nil ?_)
       change BW _ _ _ _ _
       refine bw_ret ?_
       change ∃ xs, _ = some xs ∧ EndOk _ _ _ _
       obtain rfl := Option.some.inj h
       exact ⟨_, rfl, endOk0 (y := (PV.tup [(of_api_Frame (S_api_Frame.mk 0 [])), (I64 0), (I64 190)])) (Wk.tup (.cons (Wk.agg (.cons (Wk.refl _) (.cons Wk.nil .nil))) (.cons (Wk.refl _) (.cons (Wk.refl _) .nil)))) (ids_tup_cons (ids_S_api_Frame (S_api_Frame.mk 0 [])) (ids_tup_cons rfl (ids_tup_cons rfl ids_tup_nil))) ⟨rfl, rfl⟩⟩
      ·intro hc13; replace h := ocond_f hc13 h
       refine bw_skip ?_
       change BW _ _ _ _ _
       refine bw_seq (bw_tail 13 [4, 8, 12] [] mo (by kernel_rfl) ?_)
       refine ac_go rfl rfl rfl rfl (fun H hp => op1_move rfl rfl) ?_
       obtain ⟨x14, hx14, h⟩ := obind h
       refine ac_go rfl rfl rfl rfl (fun H hp => op1_idxN (i := 0) Try.underlying23 inf_5 rfl rfl rfl hx14 rfl) ?_
       refine ac_go rfl rfl rfl rfl (fun H hp => op1_ldP (y := (ofB x14)) Try.underlying5 rfl rfl rfl rfl) ?_
       refine ac_go rfl rfl rfl rfl (fun H hp => (op1_convI Try.underlying5 Try.underlying3 rfl rfl).cast (y := (I64 (((x14).toNat : Int)))) (by rw [wrapB_i64]) rfl) ?_
       refine ac_lgo rfl rfl rfl rfl ((op1_bslice (xs := []) Try.underlying23 inf_5 rfl rfl rfl rfl rfl rfl ⟨Nat.le_of_ble_eq_true rfl, Nat.le_of_ble_eq_true rfl⟩ rfl).cast (y := (PV.sl (some 1) 5 1 (List.map ofB ([] : Str)))) rfl rfl) trivial ?_
       refine ac_go rfl rfl rfl rfl (fun H hp => op1_move rfl rfl) ?_
       refine ac_go rfl rfl rfl rfl (fun H hp => op1_move rfl rfl) ?_
       obtain ⟨x15, hx15, h⟩ := obind h
       refine ac_go rfl rfl rfl rfl (fun H hp => op1_cutM (a := 5) (b := (IntKind.i64.wrap (5 + (IntKind.i64.wrap x6)))) Try.underlying23 inf_5 rfl rfl rfl rfl rfl rfl hx15) ?_
       obtain ⟨x16, hx16, h⟩ := obind h
       refine ac_lgo rfl rfl rfl rfl (op1_appM Try.underlying23 inf_5 rfl Try.underlying23 rfl rfl rfl rfl (fun _ => rfl) (fun _ => rfl) hx16 rfl) trivial ?_
       refine ac_go rfl rfl rfl rfl (fun H hp => op1_build (cs := [(I64 (((x14).toNat : Int))), (PV.sl (some 1) 5 1 (List.map ofB x16))]) st_33 inf_33 rfl rfl rfl rfl) ?_
       refine ac_go rfl rfl rfl rfl (fun H hp => op1_move rfl rfl) ?_
       refine ac_go rfl rfl rfl rfl (fun H hp => op1_addW rfl rfl rfl) ?_
       refine ac_lgo0 rfl rfl rfl (op1_store inf_33 rfl rfl rfl rfl rfl rfl (Nat.le_of_ble_eq_true rfl) rfl) trivial ?_
       refine ac_nil ?_
       change AO _ _ _ _ _
       refine sA rfl rfl rfl rfl rfl ?_
       refine sA rfl rfl rfl rfl rfl (ao_nil ?_)
       change BW _ _ _ _ _
       refine bw_ret ?_
       change ∃ xs, _ = some xs ∧ EndOk _ _ _ _
       obtain rfl := Option.some.inj h
       exact ⟨_, rfl, endOk0 (y := (PV.tup [(of_api_Frame (S_api_Frame.mk ((x14).toNat : Int) x16)), (I64 ((IntKind.i64.wrap ((IntKind.i64.wrap (5 + (IntKind.i64.wrap x6))) + 8)))), (I64 0)])) (Wk.tup (.cons (Wk.agg (.cons (Wk.refl _) (.cons Wk.tok .nil))) (.cons (Wk.refl _) (.cons (Wk.refl _) .nil)))) (ids_tup_cons (ids_S_api_Frame (S_api_Frame.mk ((x14).toNat : Int) x16)) (ids_tup_cons rfl (ids_tup_cons rfl ids_tup_nil))) ⟨rfl, rfl⟩⟩
end Go.Proofs.Ytpmbflnoohpbnaa
