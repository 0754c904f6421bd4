/- Pure functions, and that calls answer as they say. Written by gen.py. -/
import Derived.Test.YtpmbflnoohpbnaaG0
namespace Go.Proofs.Ytpmbflnoohpbnaa
open Go Aw
set_option linter.unusedVariables false
set_option linter.unusedSimpArgs false
set_option maxRecDepth 20000
set_option maxHeartbeats 2000000
noncomputable def ref19_Read_l1b (a0 : Str) (g1 : (List S_api_Frame) → Int → Option ((List S_api_Frame) × Int × Int)) (s1 : (List S_api_Frame)) (s2 : Int) : Option ((List S_api_Frame) × Int × Int) :=
 bif (decide (s2 < (((a0).length : Nat) : Int))) then (
  Option.bind (cutO a0 s2 ((a0).length : Int)) fun x4 =>
  Option.bind (p_ref19_one x4) fun x5 =>
  bif (x5.2.2 != 0) then (
   some (s1, s2, x5.2.2)
  ) else (
   Option.bind (appO 32 s1 ([(x5.1)] : (List S_api_Frame))) fun x7 =>
   g1 x7 (IntKind.i64.wrap (s2 + x5.2.1))
  )
 ) else (
  some (s1, s2, 0)
 )
theorem ref19_Read_l1b_cm {ι : Type} {ρ : ι → Type} (g1 : (∀ i, Option (ρ i)) → (List S_api_Frame) → Int → Option ((List S_api_Frame) × Int × Int)) (h_g1 : ∀ y0 y1, CM (fun G => g1 G y0 y1)) (a0 : Str) (s1 : (List S_api_Frame)) (s2 : Int) : CM (fun G : (∀ i, Option (ρ i)) => ref19_Read_l1b a0 (g1 G) s1 s2) := by
 simp only [ref19_Read_l1b]
 repeat (first | exact cm_const | exact h_g1 _ _ | refine cm_cond ?_ ?_ | refine cm_bind ?_ (fun _ => ?_))
noncomputable def ref19_Read_l1 (a0 : Str) (s1 : (List S_api_Frame)) (s2 : Int) : Option ((List S_api_Frame) × Int × Int) :=
 fixO (ι := ((List S_api_Frame) × Int)) (ρ := fun _ => ((List S_api_Frame) × Int × Int)) (fun g i => ref19_Read_l1b a0 (fun s1 s2 => g (s1, s2)) i.1 i.2) (s1, s2)
theorem ref19_Read_l1_eq (a0 : Str) (s1 : (List S_api_Frame)) (s2 : Int) : ref19_Read_l1 a0 s1 s2 = ref19_Read_l1b a0 (ref19_Read_l1 a0) s1 s2 :=
 fixO_eq (ι := ((List S_api_Frame) × Int)) (ρ := fun _ => ((List S_api_Frame) × Int × Int)) (Φ := fun g i => ref19_Read_l1b a0 (fun s1 s2 => g (s1, s2)) i.1 i.2) (fun i => ref19_Read_l1b_cm (ι := ((List S_api_Frame) × Int)) (ρ := fun _ => ((List S_api_Frame) × Int × Int)) (fun g => (fun s1 s2 => g (s1, s2))) (fun _ _ => cm_app) a0 i.1 i.2) (s1, s2)
noncomputable def p_ref19_Read (a0 : Str) : Option ((List S_api_Frame) × Int × Int) :=
 ref19_Read_l1 a0 ([] : (List S_api_Frame)) 0
theorem s_ref19_Read (a0 : Str) (r : ((List S_api_Frame) × Int × Int)) (h : p_ref19_Read a0 = some r) : PCalls Try.prog 14 [(PV.sl none 5 1 (List.map ofB a0))] (PV.tup [(PV.sl none 33 2 (List.map of_api_Frame r.1)), (I64 r.2.1), (I64 r.2.2)]) := by
 unfold p_ref19_Read at h
 refine acalls_of Try.func14 rfl Try.ntmps14 Try.results14 rfl (aw_of_bw ?_)
 change BW _ _ _ ⟨[(0, (PV.sl none 5 1 (List.map ofB a0)))], [], _⟩ _
 refine bR ?_
 refine sA rfl rfl rfl rfl rfl ?_
 refine sA rfl rfl rfl rfl rfl ?_
 refine sA rfl rfl rfl rfl rfl (ao_nil ?_)
 change BW _ _ _ _ _
 refine bR ?_
 refine sS rfl rfl rfl ((op1_bslice (xs := []) Try.underlying22 inf_33 rfl rfl rfl rfl rfl rfl ⟨Nat.le_of_ble_eq_true rfl, Nat.le_of_ble_eq_true rfl⟩ rfl).cast (y := (PV.sl (some 0) 33 2 (List.map of_api_Frame ([] : (List S_api_Frame))))) rfl rfl) ?_
 refine sA rfl rfl rfl rfl rfl (ao_nil ?_)
 change BW _ _ _ _ _
 refine bR ?_
 refine sA rfl rfl rfl rfl rfl (ao_nil ?_)
 change BW _ _ _ _ _
 refine bw_seq ?_
 refine bw_block ?_
 change BW _ _ _ _ _
 unfold ref19_Read_l1 at h
 refine bw_loop (σ := ((List S_api_Frame) × Int)) (fun i => [(0, (PV.sl none 5 1 (List.map ofB a0))), (5, (PV.sl (some 0) 33 2 (List.map of_api_Frame i.1))), (6, (I64 i.2))]) (fun i => [.arr 33 (i.1).length]) (([] : (List S_api_Frame)), 0) h ?_ ?_ ?_
 ·intro i; exact ⟨Nat.le_of_ble_eq_true rfl, ⟨(il_nil (ids_slM (fun _ => rfl) _)), ⟨(il_tok rfl (ids_map ids_S_api_Frame _)), ⟨(il_nil rfl), trivial⟩⟩⟩, trivial⟩
 ·exact ⟨(.cons .same .nil), (sC rfl (sC rfl (sC rfl sub_nil)))⟩
 ·rintro g1_f ⟨s1, s2⟩ h; replace h : ref19_Read_l1b a0 (fun y0 y1 => g1_f (y0, y1)) s1 s2 = some r := h; unfold ref19_Read_l1b at h
  change BW _ _ _ ⟨[(0, (PV.sl none 5 1 (List.map ofB a0))), (5, (PV.sl (some 0) 33 2 (List.map of_api_Frame s1))), (6, (I64 s2))], [.arr 33 (s1).length], _⟩ _
  refine bw_seq ?_
  refine bR ?_
  refine sM rfl rfl rfl rfl rfl ?_
  refine sM rfl rfl rfl rfl rfl ?_
  refine sS rfl rfl rfl (op1_lenM Try.underlying23 rfl rfl) ?_
  refine sS rfl rfl rfl ((op1_cmp rfl rfl rfl rfl).cast (y := (BO ((decide (s2 < (((a0).length : Nat) : Int)))))) rfl rfl) (ao_nil ?_)
  change BW _ _ _ _ _
  refine bw_cond rfl ?_ ?_
  ·intro hc3; replace h := ocond_t hc3 h
   refine bw_skip ?_
   change BW _ _ _ _ _
   refine bw_block ?_
   change BW _ _ _ _ _
   refine bR ?_
   refine sM rfl rfl rfl rfl rfl ?_
   refine sM rfl rfl rfl rfl rfl ?_
   obtain ⟨x4, hx4, h⟩ := obind h
   refine sS rfl rfl rfl (op1_cutM (a := s2) (b := ((a0).length : Int)) Try.underlying23 inf_5 rfl rfl rfl rfl rfl rfl hx4) ?_
   obtain ⟨x5, hx5, h⟩ := obind h
   refine sS rfl rfl rfl (op1_pcall rfl en_35 rfl (.cons (Wk.refl _) .nil) ⟨(ids_slM (fun _ => rfl) x4), trivial⟩ (s_ref19_one x4 x5 hx5) (ids_tup_cons (ids_S_api_Frame x5.1) (ids_tup_cons rfl (ids_tup_cons rfl ids_tup_nil)))) ?_
   refine sM rfl rfl rfl rfl rfl ?_
   refine sS rfl rfl rfl (op1_ext rfl rfl rfl) ?_
   refine sS rfl rfl rfl (op1_ext rfl rfl rfl) ?_
   refine sS rfl rfl rfl (op1_ext rfl rfl rfl) ?_
   refine sS rfl rfl rfl (op1_alloc inf_33 rfl) ?_
   refine ao_step0 rfl rfl (op1_store inf_33 rfl rfl rfl rfl rfl rfl (Nat.le_of_ble_eq_true rfl) rfl) ?_
   refine sA rfl rfl rfl rfl rfl ?_
   refine sA rfl rfl rfl rfl rfl (ao_nil ?_)
   change BW _ _ _ _ _
   refine bw_seq ?_
   refine bR ?_
   refine sM rfl rfl rfl rfl rfl ?_
   refine sS rfl rfl rfl ((op1_cmp rfl rfl rfl rfl).cast (y := (BO ((x5.2.2 != 0)))) rfl rfl) (ao_nil ?_)
   change BW _ _ _ _ _
   refine bw_cond rfl ?_ ?_
   ·intro hc6; replace h := ocond_t hc6 h
    refine bR ?_
    refine sM rfl rfl rfl rfl rfl ?_
    refine sM rfl rfl rfl rfl rfl ?_
    refine sM rfl rfl rfl rfl rfl ?_
    refine sA rfl rfl rfl rfl rfl ?_
    refine sA rfl rfl rfl rfl rfl ?_
    refine sA rfl rfl rfl rfl rfl (ao_nil ?_)
    change BW _ _ _ _ _
    refine bw_ret ?_
    change ∃ xs, _ = some xs ∧ EndOk _ _ _ _
    obtain rfl := Option.some.inj h
    exact ⟨_, rfl, endOk0 (y := (PV.tup [(PV.sl none 33 2 (List.map of_api_Frame s1)), (I64 s2), (I64 x5.2.2)])) (Wk.tup (.cons Wk.tok (.cons (Wk.refl _) (.cons (Wk.refl _) .nil)))) (ids_tup_cons (ids_slM ids_S_api_Frame s1) (ids_tup_cons rfl (ids_tup_cons rfl ids_tup_nil))) ⟨rfl, rfl⟩⟩
   ·intro hc6; replace h := ocond_f hc6 h
    refine bw_skip ?_
    change BW _ _ _ _ _
    refine bR ?_
    refine sM rfl rfl rfl rfl rfl ?_
    refine sS rfl rfl rfl ((op1_ldRA inf_33 Try.underlying33 rfl rfl rfl rfl rfl rfl)) ?_
    refine sS rfl rfl rfl ((op1_bslice (xs := [(PV.agg [(I64 ((x5.1).f_Kind)), (PV.sl none 5 1 (List.map ofB (x5.1).f_Body))])]) Try.underlying22 inf_33 rfl rfl rfl rfl rfl rfl ⟨Nat.le_of_ble_eq_true rfl, Nat.le_of_ble_eq_true rfl⟩ rfl).cast (y := (PV.sl (some 2) 33 2 (List.map of_api_Frame ([(x5.1)] : (List S_api_Frame))))) rfl rfl) ?_
    obtain ⟨x7, hx7, h⟩ := obind h
    refine sS rfl rfl rfl (op1_appM Try.underlying22 inf_33 rfl Try.underlying22 rfl rfl rfl rfl csz_S_api_Frame call1_S_api_Frame hx7 rfl) ?_
    refine sA rfl rfl rfl rfl rfl (ao_nil ?_)
    change BW _ _ _ _ _
    refine bw_region ?_
    refine sM rfl rfl rfl rfl rfl ?_
    refine sM rfl rfl rfl rfl rfl ?_
    refine sS rfl rfl rfl (op1_addW rfl rfl rfl) ?_
    refine sA rfl rfl rfl rfl rfl (ao_nil ?_)
    exact ⟨rfl, (x7, (IntKind.i64.wrap (s2 + x5.2.1))), h, ⟨(.cons .same .nil), (sC rfl (sC rfl (sC rfl sub_nil)))⟩⟩
  ·intro hc3; replace h := ocond_f hc3 h
   refine bw_exit ?_
   change BW _ _ _ _ _
   refine bR ?_
   refine sM rfl rfl rfl rfl rfl ?_
   refine sM rfl rfl rfl rfl rfl ?_
   refine sA rfl rfl rfl rfl rfl ?_
   refine sA rfl rfl rfl rfl rfl ?_
   refine sA rfl rfl rfl rfl rfl (ao_nil ?_)
   change BW _ _ _ _ _
   refine bw_ret ?_
   change ∃ xs, _ = some xs ∧ EndOk _ _ _ _
   obtain rfl := Option.some.inj h
   exact ⟨_, rfl, endOk0 (y := (PV.tup [(PV.sl none 33 2 (List.map of_api_Frame s1)), (I64 s2), (I64 0)])) (Wk.tup (.cons Wk.tok (.cons (Wk.refl _) (.cons (Wk.refl _) .nil)))) (ids_tup_cons (ids_slM ids_S_api_Frame s1) (ids_tup_cons rfl (ids_tup_cons rfl ids_tup_nil))) ⟨rfl, rfl⟩⟩
noncomputable def law19_kept_j1 (g1 : Nat → Option Bool) (s1 : Nat) (s4 : Bool) : Option Bool :=
 bif s4 then (
  some false
 ) else (
  g1 (s1 + 1)
 )
theorem law19_kept_j1_cm {ι : Type} {ρ : ι → Type} (g1 : (∀ i, Option (ρ i)) → Nat → Option Bool) (h_g1 : ∀ y0, CM (fun G => g1 G y0)) (s1 : Nat) (s4 : Bool) : CM (fun G : (∀ i, Option (ρ i)) => law19_kept_j1 (g1 G) s1 s4) := by
 simp only [law19_kept_j1]
 repeat (first | exact cm_const | exact h_g1 _ | refine cm_cond ?_ ?_ | refine cm_bind ?_ (fun _ => ?_))
noncomputable def law19_kept_l1b (a0 : Str) (a1 : Str) (g1 : Nat → Option Bool) (s1 : Nat) : Option Bool :=
 bif (decide (((s1 : Nat) : Int) < (((a0).length : Nat) : Int))) then (
  bif (decide (((s1 : Nat) : Int) < (((a1).length : Nat) : Int))) then (
   Option.bind ((a0)[s1]?) fun x7 =>
   Option.bind ((a1)[s1]?) fun x8 =>
   bif (((x7).toNat : Int) != ((x8).toNat : Int)) then (
    law19_kept_j1 g1 s1 true
   ) else (
    bif (decide (((s1 : Nat) : Int) ≥ (((a1).length : Nat) : Int))) then (
     Option.bind ((a0)[s1]?) fun x11 =>
     law19_kept_j1 g1 s1 (((x11).toNat : Int) != (((UInt8.ofInt (IntKind.i64.wrap ((IntKind.i64.wrap (171 + ((s1 : Nat) : Int))) - (((a1).length : Nat) : Int))))).toNat : Int))
    ) else (
     law19_kept_j1 g1 s1 false
    )
   )
  ) else (
   bif (decide (((s1 : Nat) : Int) ≥ (((a1).length : Nat) : Int))) then (
    Option.bind ((a0)[s1]?) fun x13 =>
    law19_kept_j1 g1 s1 (((x13).toNat : Int) != (((UInt8.ofInt (IntKind.i64.wrap ((IntKind.i64.wrap (171 + ((s1 : Nat) : Int))) - (((a1).length : Nat) : Int))))).toNat : Int))
   ) else (
    law19_kept_j1 g1 s1 false
   )
  )
 ) else (
  some true
 )
theorem law19_kept_l1b_cm {ι : Type} {ρ : ι → Type} (g1 : (∀ i, Option (ρ i)) → Nat → Option Bool) (h_g1 : ∀ y0, CM (fun G => g1 G y0)) (a0 : Str) (a1 : Str) (s1 : Nat) : CM (fun G : (∀ i, Option (ρ i)) => law19_kept_l1b a0 a1 (g1 G) s1) := by
 simp only [law19_kept_l1b]
 repeat (first | exact cm_const | exact h_g1 _ | apply law19_kept_j1_cm | refine cm_cond ?_ ?_ | refine cm_bind ?_ (fun _ => ?_) | intro _ | assumption)
noncomputable def law19_kept_l1 (a0 : Str) (a1 : Str) (s1 : Nat) : Option Bool :=
 fixO (ι := Nat) (ρ := fun _ => Bool) (fun g i => law19_kept_l1b a0 a1 (fun s1 => g s1) i) s1
theorem law19_kept_l1_eq (a0 : Str) (a1 : Str) (s1 : Nat) : law19_kept_l1 a0 a1 s1 = law19_kept_l1b a0 a1 (law19_kept_l1 a0 a1) s1 :=
 fixO_eq (ι := Nat) (ρ := fun _ => Bool) (Φ := fun g i => law19_kept_l1b a0 a1 (fun s1 => g s1) i) (fun i => law19_kept_l1b_cm (ι := Nat) (ρ := fun _ => Bool) (fun g => (fun s1 => g s1)) (fun _ => cm_app) a0 a1 i) s1
noncomputable def p_law19_kept (a0 : Str) (a1 : Str) : Option Bool :=
 law19_kept_l1 a0 a1 0
theorem s_law19_kept (a0 : Str) (a1 : Str) (r : Bool) (h : p_law19_kept a0 a1 = some r) : PCalls Try.prog 16 [(PV.sl none 5 1 (List.map ofB a0)), (PV.sl none 5 1 (List.map ofB a1))] (BO r) := by
 unfold p_law19_kept at h
 refine acalls_of Try.func16 rfl Try.ntmps16 Try.results16 rfl (aw_of_bw ?_)
 change BW _ _ _ ⟨[(0, (PV.sl none 5 1 (List.map ofB a0))), (1, (PV.sl none 5 1 (List.map ofB a1)))], [], _⟩ _
 refine bR ?_
 refine sA rfl rfl rfl rfl rfl (ao_nil ?_)
 change BW _ _ _ _ _
 refine bw_seq ?_
 refine bR ?_
 refine sA rfl rfl rfl rfl rfl (ao_nil ?_)
 change BW _ _ _ _ _
 refine bw_block ?_
 change BW _ _ _ _ _
 unfold law19_kept_l1 at h
 refine bw_loop (σ := Nat) (fun i => [(0, (PV.sl none 5 1 (List.map ofB a0))), (1, (PV.sl none 5 1 (List.map ofB a1))), (5, (I64 (((i : Nat) : Int))))]) (fun i => []) 0 h ?_ ?_ ?_
 ·intro i; exact ⟨Nat.le_of_ble_eq_true rfl, ⟨(il_nil (ids_slM (fun _ => rfl) _)), ⟨(il_nil (ids_slM (fun _ => rfl) _)), ⟨(il_nil rfl), trivial⟩⟩⟩, trivial⟩
 ·exact ⟨.nil, (sC rfl (sC rfl (sC rfl sub_nil)))⟩
 ·rintro g1_f s1 h; replace h : law19_kept_l1b a0 a1 (fun y0 => g1_f y0) s1 = some r := h; unfold law19_kept_l1b at h
  change BW _ _ _ ⟨[(0, (PV.sl none 5 1 (List.map ofB a0))), (1, (PV.sl none 5 1 (List.map ofB a1))), (5, (I64 (((s1 : Nat) : Int))))], [], _⟩ _
  refine bw_seq ?_
  refine bR ?_
  refine sM rfl rfl rfl rfl rfl ?_
  refine sM rfl rfl rfl rfl rfl ?_
  refine sS rfl rfl rfl (op1_lenM Try.underlying23 rfl rfl) ?_
  refine sS rfl rfl rfl ((op1_cmp rfl rfl rfl rfl).cast (y := (BO ((decide (((s1 : Nat) : Int) < (((a0).length : Nat) : Int)))))) rfl rfl) (ao_nil ?_)
  change BW _ _ _ _ _
  refine bw_len (t := 7) rfl fun hb3 => ?_
  try rw [List.length_map] at hb3
  refine bw_cond rfl ?_ ?_
  ·intro hc2; replace h := ocond_t hc2 h
   have hc2_ := of_decide_eq_true hc2
   refine bw_skip ?_
   change BW _ _ _ _ _
   refine bw_seq ?_
   refine bw_block ?_
   change BW _ _ _ _ _
   refine bw_seqJ (ι := Bool) (fun i => law19_kept_j1 (fun y0 => g1_f y0) s1 i = some r) (fun i => [(0, (PV.sl none 5 1 (List.map ofB a0))), (1, (PV.sl none 5 1 (List.map ofB a1))), (5, (I64 (((s1 : Nat) : Int)))), (45, (BO i))]) (fun i => []) ?_ ?_ ?_
   ·intro i; exact ⟨Nat.le_of_ble_eq_true rfl, ⟨(il_nil (ids_slM (fun _ => rfl) _)), ⟨(il_nil (ids_slM (fun _ => rfl) _)), ⟨(il_nil rfl), ⟨(il_nil rfl), trivial⟩⟩⟩⟩, trivial⟩
   ·rintro s4 h; replace h : law19_kept_j1 (fun y0 => g1_f y0) s1 s4 = some r := h; unfold law19_kept_j1 at h
    change BW _ _ _ ⟨[(0, (PV.sl none 5 1 (List.map ofB a0))), (1, (PV.sl none 5 1 (List.map ofB a1))), (5, (I64 (((s1 : Nat) : Int)))), (45, (BO s4))], [], _⟩ _
    refine bw_cond rfl ?_ ?_
    ·intro hc5; replace h := ocond_t hc5 h
     refine bR ?_
     refine sA rfl rfl rfl rfl rfl (ao_nil ?_)
     change BW _ _ _ _ _
     refine bw_ret ?_
     change ∃ xs, _ = some xs ∧ EndOk _ _ _ _
     obtain rfl := Option.some.inj h
     exact ⟨_, rfl, endOk0 (y := (BO false)) (Wk.refl _) rfl ⟨rfl, rfl⟩⟩
    ·intro hc5; replace h := ocond_f hc5 h
     refine bw_skip ?_
     change BW _ _ _ _ _
     refine bw_region ?_
     refine sM rfl rfl rfl rfl rfl ?_
     refine sS rfl rfl rfl (op1_incN (k := s1) (c := 1) rfl rfl rfl (by omega)) ?_
     refine sA rfl rfl rfl rfl rfl (ao_nil ?_)
     exact ⟨rfl, (s1 + 1), h, ⟨.nil, (sC rfl (sC rfl (sC rfl sub_nil)))⟩⟩
   ·refine bw_tail 31 [] [] mo (by kernel_rfl) ?_
    refine ac_go rfl rfl rfl rfl (fun H hp => op1_move rfl rfl) ?_
    refine ac_go rfl rfl rfl rfl (fun H hp => op1_move rfl rfl) ?_
    refine ac_go rfl rfl rfl rfl (fun H hp => op1_lenM Try.underlying23 rfl rfl) ?_
    refine ac_go rfl rfl rfl rfl (fun H hp => (op1_cmp rfl rfl rfl rfl).cast (y := (BO ((decide (((s1 : Nat) : Int) < (((a1).length : Nat) : Int)))))) rfl rfl) ?_
    refine ac_go rfl rfl rfl rfl (fun H hp => op1_move rfl rfl) ?_
    refine ac_cases 16 rfl ?_ ?_
    ·intro hb6; replace h := ocond_t hb6 h
     refine ac_yes rfl rfl rfl rfl rfl rfl rfl (fun H hp => op1_move rfl rfl) ?_
     refine ac_yes rfl rfl rfl rfl rfl rfl rfl (fun H hp => op1_move rfl rfl) ?_
     obtain ⟨x7, hx7, h⟩ := obind h
     refine ac_yes rfl rfl rfl rfl rfl rfl rfl (fun H hp => op1_idxN (i := s1) Try.underlying23 inf_5 rfl rfl rfl hx7 rfl) ?_
     refine ac_yes rfl rfl rfl rfl rfl rfl rfl (fun H hp => op1_ldP (y := (ofB x7)) Try.underlying5 rfl rfl rfl rfl) ?_
     refine ac_yes rfl rfl rfl rfl rfl rfl rfl (fun H hp => op1_move rfl rfl) ?_
     refine ac_yes rfl rfl rfl rfl rfl rfl rfl (fun H hp => op1_move rfl rfl) ?_
     obtain ⟨x8, hx8, h⟩ := obind h
     refine ac_yes rfl rfl rfl rfl rfl rfl rfl (fun H hp => op1_idxN (i := s1) Try.underlying23 inf_5 rfl rfl rfl hx8 rfl) ?_
     refine ac_yes rfl rfl rfl rfl rfl rfl rfl (fun H hp => op1_ldP (y := (ofB x8)) Try.underlying5 rfl rfl rfl rfl) ?_
     refine ac_yes rfl rfl rfl rfl rfl rfl rfl (fun H hp => (op1_cmp rfl rfl rfl rfl).cast (y := (BO ((((x7).toNat : Int) != ((x8).toNat : Int))))) rfl rfl) ?_
     refine ac_go rfl rfl rfl rfl (fun H hp => op1_pickT rfl rfl rfl) ?_
     refine ac_go rfl rfl rfl rfl (fun H hp => op1_move rfl rfl) ?_
     refine ac_cases 27 rfl ?_ ?_
     ·intro hb9; replace h := ocond_t hb9 h
      refine ac_no rfl rfl rfl rfl rfl rfl rfl ?_
      refine ac_no rfl rfl rfl rfl rfl rfl rfl ?_
      refine ac_no rfl rfl rfl rfl rfl rfl rfl ?_
      refine ac_no rfl rfl rfl rfl rfl rfl rfl ?_
      refine ac_no rfl rfl rfl rfl rfl rfl rfl ?_
      refine ac_no rfl rfl rfl rfl rfl rfl rfl ?_
      refine ac_no rfl rfl rfl rfl rfl rfl rfl ?_
      refine ac_no rfl rfl rfl rfl rfl rfl rfl ?_
      refine ac_no rfl rfl rfl rfl rfl rfl rfl ?_
      refine ac_no rfl rfl rfl rfl rfl rfl rfl ?_
      refine ac_no rfl rfl rfl rfl rfl rfl rfl ?_
      refine ac_no rfl rfl rfl rfl rfl rfl rfl ?_
      refine ac_no rfl rfl rfl rfl rfl rfl rfl ?_
      refine ac_no rfl rfl rfl rfl rfl rfl rfl ?_
      refine ac_no rfl rfl rfl rfl rfl rfl rfl ?_
      refine ac_nil ?_
      change AO _ _ _ _ _
      refine ao_no rfl rfl rfl rfl rfl rfl ?_
      refine ao_no rfl rfl rfl rfl rfl rfl ?_
      refine sS rfl rfl rfl (op1_pickT rfl rfl rfl) (ao_nil ?_)
      exact ⟨rfl, true, h, ⟨.nil, (sC rfl (sC rfl (sC rfl (sC rfl sub_nil))))⟩⟩
     ·intro hb9; replace h := ocond_f hb9 h
      refine ac_yes rfl rfl rfl rfl rfl rfl rfl (fun H hp => op1_move rfl rfl) ?_
      refine ac_yes rfl rfl rfl rfl rfl rfl rfl (fun H hp => op1_move rfl rfl) ?_
      refine ac_yes rfl rfl rfl rfl rfl rfl rfl (fun H hp => op1_lenM Try.underlying23 rfl rfl) ?_
      refine ac_yes rfl rfl rfl rfl rfl rfl rfl (fun H hp => (op1_cmp rfl rfl rfl rfl).cast (y := (BO ((decide (((s1 : Nat) : Int) ≥ (((a1).length : Nat) : Int)))))) rfl rfl) ?_
      refine ac_yes rfl rfl rfl rfl rfl rfl rfl (fun H hp => op1_move rfl rfl) ?_
      refine ac_cases 32 rfl ?_ ?_
      ·intro hb10; replace h := ocond_t hb10 h
       refine ac_yes rfl rfl rfl rfl rfl rfl rfl (fun H hp => op1_move rfl rfl) ?_
       refine ac_yes rfl rfl rfl rfl rfl rfl rfl (fun H hp => op1_move rfl rfl) ?_
       obtain ⟨x11, hx11, h⟩ := obind h
       refine ac_yes rfl rfl rfl rfl rfl rfl rfl (fun H hp => op1_idxN (i := s1) Try.underlying23 inf_5 rfl rfl rfl hx11 rfl) ?_
       refine ac_yes rfl rfl rfl rfl rfl rfl rfl (fun H hp => op1_ldP (y := (ofB x11)) Try.underlying5 rfl rfl rfl rfl) ?_
       refine ac_yes rfl rfl rfl rfl rfl rfl rfl (fun H hp => op1_move rfl rfl) ?_
       refine ac_yes rfl rfl rfl rfl rfl rfl rfl (fun H hp => op1_addW rfl rfl rfl) ?_
       refine ac_yes rfl rfl rfl rfl rfl rfl rfl (fun H hp => op1_move rfl rfl) ?_
       refine ac_yes rfl rfl rfl rfl rfl rfl rfl (fun H hp => op1_lenM Try.underlying23 rfl rfl) ?_
       refine ac_yes rfl rfl rfl rfl rfl rfl rfl (fun H hp => op1_subW rfl rfl rfl) ?_
       refine ac_yes rfl rfl rfl rfl rfl rfl rfl (fun H hp => op1_toU8 Try.underlying3 Try.underlying5 rfl rfl) ?_
       refine ac_nil ?_
       change AO _ _ _ _ _
       refine ao_yes rfl rfl rfl rfl rfl rfl ((op1_cmp rfl rfl rfl rfl).cast (y := (BO ((((x11).toNat : Int) != (((UInt8.ofInt (IntKind.i64.wrap ((IntKind.i64.wrap (171 + ((s1 : Nat) : Int))) - (((a1).length : Nat) : Int))))).toNat : Int))))) rfl rfl) ?_
       refine ao_yes rfl rfl rfl rfl rfl rfl (op1_pickT rfl rfl rfl) ?_
       refine sS rfl rfl rfl (op1_pickF rfl rfl rfl) (ao_nil ?_)
       exact ⟨rfl, (((x11).toNat : Int) != (((UInt8.ofInt (IntKind.i64.wrap ((IntKind.i64.wrap (171 + ((s1 : Nat) : Int))) - (((a1).length : Nat) : Int))))).toNat : Int)), h, ⟨.nil, (sC rfl (sC rfl (sC rfl (sC rfl sub_nil))))⟩⟩
      ·intro hb10; replace h := ocond_f hb10 h
       refine ac_no rfl rfl rfl rfl rfl rfl rfl ?_
       refine ac_no rfl rfl rfl rfl rfl rfl rfl ?_
       refine ac_no rfl rfl rfl rfl rfl rfl rfl ?_
       refine ac_no rfl rfl rfl rfl rfl rfl rfl ?_
       refine ac_no rfl rfl rfl rfl rfl rfl rfl ?_
       refine ac_no rfl rfl rfl rfl rfl rfl rfl ?_
       refine ac_no rfl rfl rfl rfl rfl rfl rfl ?_
       refine ac_no rfl rfl rfl rfl rfl rfl rfl ?_
       refine ac_no rfl rfl rfl rfl rfl rfl rfl ?_
       refine ac_no rfl rfl rfl rfl rfl rfl rfl ?_
       refine ac_nil ?_
       change AO _ _ _ _ _
       refine ao_no rfl rfl rfl rfl rfl rfl ?_
       refine ao_yes rfl rfl rfl rfl rfl rfl (op1_pickF rfl rfl rfl) ?_
       refine sS rfl rfl rfl (op1_pickF rfl rfl rfl) (ao_nil ?_)
       exact ⟨rfl, false, h, ⟨.nil, (sC rfl (sC rfl (sC rfl (sC rfl sub_nil))))⟩⟩
    ·intro hb6; replace h := ocond_f hb6 h
     refine ac_no rfl rfl rfl rfl rfl rfl rfl ?_
     refine ac_no rfl rfl rfl rfl rfl rfl rfl ?_
     refine ac_no rfl rfl rfl rfl rfl rfl rfl ?_
     refine ac_no rfl rfl rfl rfl rfl rfl rfl ?_
     refine ac_no rfl rfl rfl rfl rfl rfl rfl ?_
     refine ac_no rfl rfl rfl rfl rfl rfl rfl ?_
     refine ac_no rfl rfl rfl rfl rfl rfl rfl ?_
     refine ac_no rfl rfl rfl rfl rfl rfl rfl ?_
     refine ac_no rfl rfl rfl rfl rfl rfl rfl ?_
     refine ac_go rfl rfl rfl rfl (fun H hp => op1_pickF rfl rfl rfl) ?_
     refine ac_go rfl rfl rfl rfl (fun H hp => op1_move rfl rfl) ?_
     refine ac_yes rfl rfl rfl rfl rfl rfl rfl (fun H hp => op1_move rfl rfl) ?_
     refine ac_yes rfl rfl rfl rfl rfl rfl rfl (fun H hp => op1_move rfl rfl) ?_
     refine ac_yes rfl rfl rfl rfl rfl rfl rfl (fun H hp => op1_lenM Try.underlying23 rfl rfl) ?_
     refine ac_yes rfl rfl rfl rfl rfl rfl rfl (fun H hp => (op1_cmp rfl rfl rfl rfl).cast (y := (BO ((decide (((s1 : Nat) : Int) ≥ (((a1).length : Nat) : Int)))))) rfl rfl) ?_
     refine ac_yes rfl rfl rfl rfl rfl rfl rfl (fun H hp => op1_move rfl rfl) ?_
     refine ac_cases 32 rfl ?_ ?_
     ·intro hb12; replace h := ocond_t hb12 h
      refine ac_yes rfl rfl rfl rfl rfl rfl rfl (fun H hp => op1_move rfl rfl) ?_
      refine ac_yes rfl rfl rfl rfl rfl rfl rfl (fun H hp => op1_move rfl rfl) ?_
      obtain ⟨x13, hx13, h⟩ := obind h
      refine ac_yes rfl rfl rfl rfl rfl rfl rfl (fun H hp => op1_idxN (i := s1) Try.underlying23 inf_5 rfl rfl rfl hx13 rfl) ?_
      refine ac_yes rfl rfl rfl rfl rfl rfl rfl (fun H hp => op1_ldP (y := (ofB x13)) Try.underlying5 rfl rfl rfl rfl) ?_
      refine ac_yes rfl rfl rfl rfl rfl rfl rfl (fun H hp => op1_move rfl rfl) ?_
      refine ac_yes rfl rfl rfl rfl rfl rfl rfl (fun H hp => op1_addW rfl rfl rfl) ?_
      refine ac_yes rfl rfl rfl rfl rfl rfl rfl (fun H hp => op1_move rfl rfl) ?_
      refine ac_yes rfl rfl rfl rfl rfl rfl rfl (fun H hp => op1_lenM Try.underlying23 rfl rfl) ?_
      refine ac_yes rfl rfl rfl rfl rfl rfl rfl (fun H hp => op1_subW rfl rfl rfl) ?_
      refine ac_yes rfl rfl rfl rfl rfl rfl rfl (fun H hp => op1_toU8 Try.underlying3 Try.underlying5 rfl rfl) ?_
      refine ac_nil ?_
      change AO _ _ _ _ _
      refine ao_yes rfl rfl rfl rfl rfl rfl ((op1_cmp rfl rfl rfl rfl).cast (y := (BO ((((x13).toNat : Int) != (((UInt8.ofInt (IntKind.i64.wrap ((IntKind.i64.wrap (171 + ((s1 : Nat) : Int))) - (((a1).length : Nat) : Int))))).toNat : Int))))) rfl rfl) ?_
      refine ao_yes rfl rfl rfl rfl rfl rfl (op1_pickT rfl rfl rfl) ?_
      refine sS rfl rfl rfl (op1_pickF rfl rfl rfl) (ao_nil ?_)
      exact ⟨rfl, (((x13).toNat : Int) != (((UInt8.ofInt (IntKind.i64.wrap ((IntKind.i64.wrap (171 + ((s1 : Nat) : Int))) - (((a1).length : Nat) : Int))))).toNat : Int)), h, ⟨.nil, (sC rfl (sC rfl (sC rfl (sC rfl sub_nil))))⟩⟩
     ·intro hb12; replace h := ocond_f hb12 h
      refine ac_no rfl rfl rfl rfl rfl rfl rfl ?_
      refine ac_no rfl rfl rfl rfl rfl rfl rfl ?_
      refine ac_no rfl rfl rfl rfl rfl rfl rfl ?_
      refine ac_no rfl rfl rfl rfl rfl rfl rfl ?_
      refine ac_no rfl rfl rfl rfl rfl rfl rfl ?_
      refine ac_no rfl rfl rfl rfl rfl rfl rfl ?_
      refine ac_no rfl rfl rfl rfl rfl rfl rfl ?_
      refine ac_no rfl rfl rfl rfl rfl rfl rfl ?_
      refine ac_no rfl rfl rfl rfl rfl rfl rfl ?_
      refine ac_no rfl rfl rfl rfl rfl rfl rfl ?_
      refine ac_nil ?_
      change AO _ _ _ _ _
      refine ao_no rfl rfl rfl rfl rfl rfl ?_
      refine ao_yes rfl rfl rfl rfl rfl rfl (op1_pickF rfl rfl rfl) ?_
      refine sS rfl rfl rfl (op1_pickF rfl rfl rfl) (ao_nil ?_)
      exact ⟨rfl, false, h, ⟨.nil, (sC rfl (sC rfl (sC rfl (sC rfl sub_nil))))⟩⟩
  ·intro hc2; replace h := ocond_f hc2 h
   refine bw_exit ?_
   change BW _ _ _ _ _
   refine bR ?_
   refine sA rfl rfl rfl rfl rfl (ao_nil ?_)
   change BW _ _ _ _ _
   refine bw_ret ?_
   change ∃ xs, _ = some xs ∧ EndOk _ _ _ _
   obtain rfl := Option.some.inj h
   exact ⟨_, rfl, endOk0 (y := (BO true)) (Wk.refl _) rfl ⟨rfl, rfl⟩⟩
noncomputable def law19_same_l1b (a0 : Str) (a1 : Str) (g1 : Nat → Option Bool) (s2 : Nat) : Option Bool :=
 bif (decide (((s2 : Nat) : Int) < (((a0).length : Nat) : Int))) then (
  Option.bind ((a0)[s2]?) fun x5 =>
  Option.bind ((a1)[s2]?) fun x6 =>
  bif (((x5).toNat : Int) != ((x6).toNat : Int)) then (
   some false
  ) else (
   g1 (s2 + 1)
  )
 ) else (
  some true
 )
theorem law19_same_l1b_cm {ι : Type} {ρ : ι → Type} (g1 : (∀ i, Option (ρ i)) → Nat → Option Bool) (h_g1 : ∀ y0, CM (fun G => g1 G y0)) (a0 : Str) (a1 : Str) (s2 : Nat) : CM (fun G : (∀ i, Option (ρ i)) => law19_same_l1b a0 a1 (g1 G) s2) := by
 simp only [law19_same_l1b]
 repeat (first | exact cm_const | exact h_g1 _ | refine cm_cond ?_ ?_ | refine cm_bind ?_ (fun _ => ?_))
noncomputable def law19_same_l1 (a0 : Str) (a1 : Str) (s2 : Nat) : Option Bool :=
 fixO (ι := Nat) (ρ := fun _ => Bool) (fun g i => law19_same_l1b a0 a1 (fun s2 => g s2) i) s2
theorem law19_same_l1_eq (a0 : Str) (a1 : Str) (s2 : Nat) : law19_same_l1 a0 a1 s2 = law19_same_l1b a0 a1 (law19_same_l1 a0 a1) s2 :=
 fixO_eq (ι := Nat) (ρ := fun _ => Bool) (Φ := fun g i => law19_same_l1b a0 a1 (fun s2 => g s2) i) (fun i => law19_same_l1b_cm (ι := Nat) (ρ := fun _ => Bool) (fun g => (fun s2 => g s2)) (fun _ => cm_app) a0 a1 i) s2
noncomputable def p_law19_same (a0 : Str) (a1 : Str) : Option Bool :=
 bif ((((a0).length : Nat) : Int) != (((a1).length : Nat) : Int)) then (
  some false
 ) else (
  law19_same_l1 a0 a1 0
 )
theorem s_law19_same (a0 : Str) (a1 : Str) (r : Bool) (h : p_law19_same a0 a1 = some r) : PCalls Try.prog 15 [(PV.sl none 5 1 (List.map ofB a0)), (PV.sl none 5 1 (List.map ofB a1))] (BO r) := by
 unfold p_law19_same at h
 refine acalls_of Try.func15 rfl Try.ntmps15 Try.results15 rfl (aw_of_bw ?_)
 change BW _ _ _ ⟨[(0, (PV.sl none 5 1 (List.map ofB a0))), (1, (PV.sl none 5 1 (List.map ofB a1)))], [], _⟩ _
 refine bR ?_
 refine sA rfl rfl rfl rfl rfl (ao_nil ?_)
 change BW _ _ _ _ _
 refine bw_seq ?_
 refine bR ?_
 refine sM rfl rfl rfl rfl rfl ?_
 refine sS rfl rfl rfl (op1_lenM Try.underlying23 rfl rfl) ?_
 refine sM rfl rfl rfl rfl rfl ?_
 refine sS rfl rfl rfl (op1_lenM Try.underlying23 rfl rfl) ?_
 refine sS rfl rfl rfl ((op1_cmp rfl rfl rfl rfl).cast (y := (BO (((((a0).length : Nat) : Int) != (((a1).length : Nat) : Int))))) rfl rfl) (ao_nil ?_)
 change BW _ _ _ _ _
 refine bw_cond rfl ?_ ?_
 ·intro hc1; replace h := ocond_t hc1 h
  refine bR ?_
  refine sA rfl rfl rfl rfl rfl (ao_nil ?_)
  change BW _ _ _ _ _
  refine bw_ret ?_
  change ∃ xs, _ = some xs ∧ EndOk _ _ _ _
  obtain rfl := Option.some.inj h
  exact ⟨_, rfl, endOk0 (y := (BO false)) (Wk.refl _) rfl ⟨rfl, rfl⟩⟩
 ·intro hc1; replace h := ocond_f hc1 h
  refine bw_skip ?_
  change BW _ _ _ _ _
  refine bw_seq ?_
  refine bR ?_
  refine sA rfl rfl rfl rfl rfl (ao_nil ?_)
  change BW _ _ _ _ _
  refine bw_block ?_
  change BW _ _ _ _ _
  unfold law19_same_l1 at h
  refine bw_loop (σ := Nat) (fun i => [(0, (PV.sl none 5 1 (List.map ofB a0))), (1, (PV.sl none 5 1 (List.map ofB a1))), (5, (I64 (((i : Nat) : Int))))]) (fun i => []) 0 h ?_ ?_ ?_
  ·intro i; exact ⟨Nat.le_of_ble_eq_true rfl, ⟨(il_nil (ids_slM (fun _ => rfl) _)), ⟨(il_nil (ids_slM (fun _ => rfl) _)), ⟨(il_nil rfl), trivial⟩⟩⟩, trivial⟩
  ·exact ⟨.nil, (sC rfl (sC rfl (sC rfl sub_nil)))⟩
  ·rintro g1_f s2 h; replace h : law19_same_l1b a0 a1 (fun y0 => g1_f y0) s2 = some r := h; unfold law19_same_l1b at h
   change BW _ _ _ ⟨[(0, (PV.sl none 5 1 (List.map ofB a0))), (1, (PV.sl none 5 1 (List.map ofB a1))), (5, (I64 (((s2 : Nat) : Int))))], [], _⟩ _
   refine bw_seq ?_
   refine bR ?_
   refine sM rfl rfl rfl rfl rfl ?_
   refine sM rfl rfl rfl rfl rfl ?_
   refine sS rfl rfl rfl (op1_lenM Try.underlying23 rfl rfl) ?_
   refine sS rfl rfl rfl ((op1_cmp rfl rfl rfl rfl).cast (y := (BO ((decide (((s2 : Nat) : Int) < (((a0).length : Nat) : Int)))))) rfl rfl) (ao_nil ?_)
   change BW _ _ _ _ _
   refine bw_len (t := 12) rfl fun hb4 => ?_
   try rw [List.length_map] at hb4
   refine bw_cond rfl ?_ ?_
   ·intro hc3; replace h := ocond_t hc3 h
    have hc3_ := of_decide_eq_true hc3
    refine bw_skip ?_
    change BW _ _ _ _ _
    refine bw_seq ?_
    refine bw_block ?_
    change BW _ _ _ _ _
    refine bw_seq (bw_tail 8 [] [] mo (by kernel_rfl) ?_)
    refine ac_go rfl rfl rfl rfl (fun H hp => op1_move rfl rfl) ?_
    refine ac_go rfl rfl rfl rfl (fun H hp => op1_move rfl rfl) ?_
    obtain ⟨x5, hx5, h⟩ := obind h
    refine ac_go rfl rfl rfl rfl (fun H hp => op1_idxN (i := s2) Try.underlying23 inf_5 rfl rfl rfl hx5 rfl) ?_
    refine ac_go rfl rfl rfl rfl (fun H hp => op1_ldP (y := (ofB x5)) Try.underlying5 rfl rfl rfl rfl) ?_
    refine ac_go rfl rfl rfl rfl (fun H hp => op1_move rfl rfl) ?_
    refine ac_go rfl rfl rfl rfl (fun H hp => op1_move rfl rfl) ?_
    obtain ⟨x6, hx6, h⟩ := obind h
    refine ac_go rfl rfl rfl rfl (fun H hp => op1_idxN (i := s2) Try.underlying23 inf_5 rfl rfl rfl hx6 rfl) ?_
    refine ac_go rfl rfl rfl rfl (fun H hp => op1_ldP (y := (ofB x6)) Try.underlying5 rfl rfl rfl rfl) ?_
    refine ac_nil ?_
    change AO _ _ _ _ _
    refine sS rfl rfl rfl ((op1_cmp rfl rfl rfl rfl).cast (y := (BO ((((x5).toNat : Int) != ((x6).toNat : Int))))) rfl rfl) (ao_nil ?_)
    change BW _ _ _ _ _
    refine bw_cond rfl ?_ ?_
    ·intro hc7; replace h := ocond_t hc7 h
     refine bR ?_
     refine sA rfl rfl rfl rfl rfl (ao_nil ?_)
     change BW _ _ _ _ _
     refine bw_ret ?_
     change ∃ xs, _ = some xs ∧ EndOk _ _ _ _
     obtain rfl := Option.some.inj h
     exact ⟨_, rfl, endOk0 (y := (BO false)) (Wk.refl _) rfl ⟨rfl, rfl⟩⟩
    ·intro hc7; replace h := ocond_f hc7 h
     refine bw_skip ?_
     change BW _ _ _ _ _
     refine bw_region ?_
     refine sM rfl rfl rfl rfl rfl ?_
     refine sS rfl rfl rfl (op1_incN (k := s2) (c := 1) rfl rfl rfl (by omega)) ?_
     refine sA rfl rfl rfl rfl rfl (ao_nil ?_)
     exact ⟨rfl, (s2 + 1), h, ⟨.nil, (sC rfl (sC rfl (sC rfl sub_nil)))⟩⟩
   ·intro hc3; replace h := ocond_f hc3 h
    refine bw_exit ?_
    change BW _ _ _ _ _
    refine bR ?_
    refine sA rfl rfl rfl rfl rfl (ao_nil ?_)
    change BW _ _ _ _ _
    refine bw_ret ?_
    change ∃ xs, _ = some xs ∧ EndOk _ _ _ _
    obtain rfl := Option.some.inj h
    exact ⟨_, rfl, endOk0 (y := (BO true)) (Wk.refl _) rfl ⟨rfl, rfl⟩⟩
noncomputable def law19_frames_j1 (g1 : Nat → Option Bool) (s2 : Nat) (s5 : Bool) : Option Bool :=
 bif s5 then (
  some false
 ) else (
  g1 (s2 + 1)
 )
theorem law19_frames_j1_cm {ι : Type} {ρ : ι → Type} (g1 : (∀ i, Option (ρ i)) → Nat → Option Bool) (h_g1 : ∀ y0, CM (fun G => g1 G y0)) (s2 : Nat) (s5 : Bool) : CM (fun G : (∀ i, Option (ρ i)) => law19_frames_j1 (g1 G) s2 s5) := by
 simp only [law19_frames_j1]
 repeat (first | exact cm_const | exact h_g1 _ | refine cm_cond ?_ ?_ | refine cm_bind ?_ (fun _ => ?_))
noncomputable def law19_frames_l1b (a0 : (List S_api_Frame)) (a1 : (List S_api_Frame)) (g1 : Nat → Option Bool) (s2 : Nat) : Option Bool :=
 bif (decide (((s2 : Nat) : Int) < (((a0).length : Nat) : Int))) then (
  Option.bind ((a0)[s2]?) fun x7 =>
  Option.bind ((a1)[s2]?) fun x8 =>
  bif (x7.f_Kind != x8.f_Kind) then (
   law19_frames_j1 g1 s2 true
  ) else (
   Option.bind ((a0)[s2]?) fun x10 =>
   Option.bind ((a1)[s2]?) fun x11 =>
   Option.bind (p_law19_same x10.f_Body x11.f_Body) fun x12 =>
   law19_frames_j1 g1 s2 (!x12)
  )
 ) else (
  some true
 )
theorem law19_frames_l1b_cm {ι : Type} {ρ : ι → Type} (g1 : (∀ i, Option (ρ i)) → Nat → Option Bool) (h_g1 : ∀ y0, CM (fun G => g1 G y0)) (a0 : (List S_api_Frame)) (a1 : (List S_api_Frame)) (s2 : Nat) : CM (fun G : (∀ i, Option (ρ i)) => law19_frames_l1b a0 a1 (g1 G) s2) := by
 simp only [law19_frames_l1b]
 repeat (first | exact cm_const | exact h_g1 _ | apply law19_frames_j1_cm | refine cm_cond ?_ ?_ | refine cm_bind ?_ (fun _ => ?_) | intro _ | assumption)
noncomputable def law19_frames_l1 (a0 : (List S_api_Frame)) (a1 : (List S_api_Frame)) (s2 : Nat) : Option Bool :=
 fixO (ι := Nat) (ρ := fun _ => Bool) (fun g i => law19_frames_l1b a0 a1 (fun s2 => g s2) i) s2
theorem law19_frames_l1_eq (a0 : (List S_api_Frame)) (a1 : (List S_api_Frame)) (s2 : Nat) : law19_frames_l1 a0 a1 s2 = law19_frames_l1b a0 a1 (law19_frames_l1 a0 a1) s2 :=
 fixO_eq (ι := Nat) (ρ := fun _ => Bool) (Φ := fun g i => law19_frames_l1b a0 a1 (fun s2 => g s2) i) (fun i => law19_frames_l1b_cm (ι := Nat) (ρ := fun _ => Bool) (fun g => (fun s2 => g s2)) (fun _ => cm_app) a0 a1 i) s2
noncomputable def p_law19_frames (a0 : (List S_api_Frame)) (a1 : (List S_api_Frame)) : Option Bool :=
 bif ((((a0).length : Nat) : Int) != (((a1).length : Nat) : Int)) then (
  some false
 ) else (
  law19_frames_l1 a0 a1 0
 )
theorem s_law19_frames (a0 : (List S_api_Frame)) (a1 : (List S_api_Frame)) (r : Bool) (h : p_law19_frames a0 a1 = some r) : PCalls Try.prog 10 [(PV.sl none 33 2 (List.map of_api_Frame a0)), (PV.sl none 33 2 (List.map of_api_Frame a1))] (BO r) := by
 unfold p_law19_frames at h
 refine acalls_of Try.func10 rfl Try.ntmps10 Try.results10 rfl (aw_of_bw ?_)
 change BW _ _ _ ⟨[(0, (PV.sl none 33 2 (List.map of_api_Frame a0))), (1, (PV.sl none 33 2 (List.map of_api_Frame a1)))], [], _⟩ _
 refine bR ?_
 refine sA rfl rfl rfl rfl rfl (ao_nil ?_)
 change BW _ _ _ _ _
 refine bw_seq ?_
 refine bR ?_
 refine sM rfl rfl rfl rfl rfl ?_
 refine sS rfl rfl rfl (op1_lenM Try.underlying22 rfl rfl) ?_
 refine sM rfl rfl rfl rfl rfl ?_
 refine sS rfl rfl rfl (op1_lenM Try.underlying22 rfl rfl) ?_
 refine sS rfl rfl rfl ((op1_cmp rfl rfl rfl rfl).cast (y := (BO (((((a0).length : Nat) : Int) != (((a1).length : Nat) : Int))))) rfl rfl) (ao_nil ?_)
 change BW _ _ _ _ _
 refine bw_cond rfl ?_ ?_
 ·intro hc1; replace h := ocond_t hc1 h
  refine bR ?_
  refine sA rfl rfl rfl rfl rfl (ao_nil ?_)
  change BW _ _ _ _ _
  refine bw_ret ?_
  change ∃ xs, _ = some xs ∧ EndOk _ _ _ _
  obtain rfl := Option.some.inj h
  exact ⟨_, rfl, endOk0 (y := (BO false)) (Wk.refl _) rfl ⟨rfl, rfl⟩⟩
 ·intro hc1; replace h := ocond_f hc1 h
  refine bw_skip ?_
  change BW _ _ _ _ _
  refine bw_seq ?_
  refine bR ?_
  refine sA rfl rfl rfl rfl rfl (ao_nil ?_)
  change BW _ _ _ _ _
  refine bw_block ?_
  change BW _ _ _ _ _
  unfold law19_frames_l1 at h
  refine bw_loop (σ := Nat) (fun i => [(0, (PV.sl none 33 2 (List.map of_api_Frame a0))), (1, (PV.sl none 33 2 (List.map of_api_Frame a1))), (5, (I64 (((i : Nat) : Int))))]) (fun i => []) 0 h ?_ ?_ ?_
  ·intro i; exact ⟨Nat.le_of_ble_eq_true rfl, ⟨(il_nil (ids_slM ids_S_api_Frame _)), ⟨(il_nil (ids_slM ids_S_api_Frame _)), ⟨(il_nil rfl), trivial⟩⟩⟩, trivial⟩
  ·exact ⟨.nil, (sC rfl (sC rfl (sC rfl sub_nil)))⟩
  ·rintro g1_f s2 h; replace h : law19_frames_l1b a0 a1 (fun y0 => g1_f y0) s2 = some r := h; unfold law19_frames_l1b at h
   change BW _ _ _ ⟨[(0, (PV.sl none 33 2 (List.map of_api_Frame a0))), (1, (PV.sl none 33 2 (List.map of_api_Frame a1))), (5, (I64 (((s2 : Nat) : Int))))], [], _⟩ _
   refine bw_seq ?_
   refine bR ?_
   refine sM rfl rfl rfl rfl rfl ?_
   refine sM rfl rfl rfl rfl rfl ?_
   refine sS rfl rfl rfl (op1_lenM Try.underlying22 rfl rfl) ?_
   refine sS rfl rfl rfl ((op1_cmp rfl rfl rfl rfl).cast (y := (BO ((decide (((s2 : Nat) : Int) < (((a0).length : Nat) : Int)))))) rfl rfl) (ao_nil ?_)
   change BW _ _ _ _ _
   refine bw_len (t := 12) rfl fun hb4 => ?_
   try rw [List.length_map] at hb4
   refine bw_cond rfl ?_ ?_
   ·intro hc3; replace h := ocond_t hc3 h
    have hc3_ := of_decide_eq_true hc3
    refine bw_skip ?_
    change BW _ _ _ _ _
    refine bw_seq ?_
    refine bw_block ?_
    change BW _ _ _ _ _
    refine bw_seqJ (ι := Bool) (fun i => law19_frames_j1 (fun y0 => g1_f y0) s2 i = some r) (fun i => [(0, (PV.sl none 33 2 (List.map of_api_Frame a0))), (1, (PV.sl none 33 2 (List.map of_api_Frame a1))), (5, (I64 (((s2 : Nat) : Int)))), (41, (BO i))]) (fun i => []) ?_ ?_ ?_
    ·intro i; exact ⟨Nat.le_of_ble_eq_true rfl, ⟨(il_nil (ids_slM ids_S_api_Frame _)), ⟨(il_nil (ids_slM ids_S_api_Frame _)), ⟨(il_nil rfl), ⟨(il_nil rfl), trivial⟩⟩⟩⟩, trivial⟩
    ·rintro s5 h; replace h : law19_frames_j1 (fun y0 => g1_f y0) s2 s5 = some r := h; unfold law19_frames_j1 at h
     change BW _ _ _ ⟨[(0, (PV.sl none 33 2 (List.map of_api_Frame a0))), (1, (PV.sl none 33 2 (List.map of_api_Frame a1))), (5, (I64 (((s2 : Nat) : Int)))), (41, (BO s5))], [], _⟩ _
     refine bw_cond rfl ?_ ?_
     ·intro hc6; replace h := ocond_t hc6 h
      refine bR ?_
      refine sA rfl rfl rfl rfl rfl (ao_nil ?_)
      change BW _ _ _ _ _
      refine bw_ret ?_
      change ∃ xs, _ = some xs ∧ EndOk _ _ _ _
      obtain rfl := Option.some.inj h
      exact ⟨_, rfl, endOk0 (y := (BO false)) (Wk.refl _) rfl ⟨rfl, rfl⟩⟩
     ·intro hc6; replace h := ocond_f hc6 h
      refine bw_skip ?_
      change BW _ _ _ _ _
      refine bw_region ?_
      refine sM rfl rfl rfl rfl rfl ?_
      refine sS rfl rfl rfl (op1_incN (k := s2) (c := 1) rfl rfl rfl (by omega)) ?_
      refine sA rfl rfl rfl rfl rfl (ao_nil ?_)
      exact ⟨rfl, (s2 + 1), h, ⟨.nil, (sC rfl (sC rfl (sC rfl sub_nil)))⟩⟩
    ·refine bw_tail 22 [] [] mo (by kernel_rfl) ?_
     refine ac_go rfl rfl rfl rfl (fun H hp => op1_move rfl rfl) ?_
     refine ac_go rfl rfl rfl rfl (fun H hp => op1_move rfl rfl) ?_
     obtain ⟨x7, hx7, h⟩ := obind h
     refine ac_go rfl rfl rfl rfl (fun H hp => op1_idxN (i := s2) Try.underlying22 inf_33 rfl rfl rfl hx7 rfl) ?_
     refine ac_go rfl rfl rfl rfl (fun H hp => op1_faP st_33 (i := 0) rfl rfl rfl) ?_
     refine ac_go rfl rfl rfl rfl (fun H hp => op1_ldP (y := (I64 x7.f_Kind)) Try.underlying3 rfl rfl rfl rfl) ?_
     refine ac_go rfl rfl rfl rfl (fun H hp => op1_move rfl rfl) ?_
     refine ac_go rfl rfl rfl rfl (fun H hp => op1_move rfl rfl) ?_
     obtain ⟨x8, hx8, h⟩ := obind h
     refine ac_go rfl rfl rfl rfl (fun H hp => op1_idxN (i := s2) Try.underlying22 inf_33 rfl rfl rfl hx8 rfl) ?_
     refine ac_go rfl rfl rfl rfl (fun H hp => op1_faP st_33 (i := 0) rfl rfl rfl) ?_
     refine ac_go rfl rfl rfl rfl (fun H hp => op1_ldP (y := (I64 x8.f_Kind)) Try.underlying3 rfl rfl rfl rfl) ?_
     refine ac_go rfl rfl rfl rfl (fun H hp => (op1_cmp rfl rfl rfl rfl).cast (y := (BO ((x7.f_Kind != x8.f_Kind)))) rfl rfl) ?_
     refine ac_go rfl rfl rfl rfl (fun H hp => op1_move rfl rfl) ?_
     refine ac_cases 28 rfl ?_ ?_
     ·intro hb9; replace h := ocond_t hb9 h
      refine ac_no rfl rfl rfl rfl rfl rfl rfl ?_
      refine ac_no rfl rfl rfl rfl rfl rfl rfl ?_
      refine ac_no rfl rfl rfl rfl rfl rfl rfl ?_
      refine ac_no rfl rfl rfl rfl rfl rfl rfl ?_
      refine ac_no rfl rfl rfl rfl rfl rfl rfl ?_
      refine ac_no rfl rfl rfl rfl rfl rfl rfl ?_
      refine ac_no rfl rfl rfl rfl rfl rfl rfl ?_
      refine ac_no rfl rfl rfl rfl rfl rfl rfl ?_
      refine ac_no rfl rfl rfl rfl rfl rfl rfl ?_
      refine ac_no rfl rfl rfl rfl rfl rfl rfl ?_
      refine ac_nil ?_
      change AO _ _ _ _ _
      refine ao_no rfl rfl rfl rfl rfl rfl ?_
      refine ao_no rfl rfl rfl rfl rfl rfl ?_
      refine sS rfl rfl rfl (op1_pickT rfl rfl rfl) (ao_nil ?_)
      exact ⟨rfl, true, h, ⟨.nil, (sC rfl (sC rfl (sC rfl (sC rfl sub_nil))))⟩⟩
     ·intro hb9; replace h := ocond_f hb9 h
      refine ac_yes rfl rfl rfl rfl rfl rfl rfl (fun H hp => op1_move rfl rfl) ?_
      refine ac_yes rfl rfl rfl rfl rfl rfl rfl (fun H hp => op1_move rfl rfl) ?_
      obtain ⟨x10, hx10, h⟩ := obind h
      refine ac_yes rfl rfl rfl rfl rfl rfl rfl (fun H hp => op1_idxN (i := s2) Try.underlying22 inf_33 rfl rfl rfl hx10 rfl) ?_
      refine ac_yes rfl rfl rfl rfl rfl rfl rfl (fun H hp => op1_faP st_33 (i := 1) rfl rfl rfl) ?_
      refine ac_yes rfl rfl rfl rfl rfl rfl rfl (fun H hp => op1_ldP (y := (PV.sl none 5 1 (List.map ofB x10.f_Body))) Try.underlying23 rfl rfl rfl rfl) ?_
      refine ac_yes rfl rfl rfl rfl rfl rfl rfl (fun H hp => op1_move rfl rfl) ?_
      refine ac_yes rfl rfl rfl rfl rfl rfl rfl (fun H hp => op1_move rfl rfl) ?_
      obtain ⟨x11, hx11, h⟩ := obind h
      refine ac_yes rfl rfl rfl rfl rfl rfl rfl (fun H hp => op1_idxN (i := s2) Try.underlying22 inf_33 rfl rfl rfl hx11 rfl) ?_
      refine ac_yes rfl rfl rfl rfl rfl rfl rfl (fun H hp => op1_faP st_33 (i := 1) rfl rfl rfl) ?_
      refine ac_yes rfl rfl rfl rfl rfl rfl rfl (fun H hp => op1_ldP (y := (PV.sl none 5 1 (List.map ofB x11.f_Body))) Try.underlying23 rfl rfl rfl rfl) ?_
      refine ac_nil ?_
      change AO _ _ _ _ _
      obtain ⟨x12, hx12, h⟩ := obind h
      refine ao_yes rfl rfl rfl rfl rfl rfl (op1_pcall rfl en_15 rfl (.cons (Wk.refl _) (.cons (Wk.refl _) .nil)) ⟨(ids_slM (fun _ => rfl) x10.f_Body), ⟨(ids_slM (fun _ => rfl) x11.f_Body), trivial⟩⟩ (s_law19_same x10.f_Body x11.f_Body x12 hx12) rfl) ?_
      refine ao_yes rfl rfl rfl rfl rfl rfl (op1_not rfl rfl) ?_
      refine sS rfl rfl rfl (op1_pickF rfl rfl rfl) (ao_nil ?_)
      exact ⟨rfl, (!x12), h, ⟨.nil, (sC rfl (sC rfl (sC rfl (sC rfl sub_nil))))⟩⟩
   ·intro hc3; replace h := ocond_f hc3 h
    refine bw_exit ?_
    change BW _ _ _ _ _
    refine bR ?_
    refine sA rfl rfl rfl rfl rfl (ao_nil ?_)
    change BW _ _ _ _ _
    refine bw_ret ?_
    change ∃ xs, _ = some xs ∧ EndOk _ _ _ _
    obtain rfl := Option.some.inj h
    exact ⟨_, rfl, endOk0 (y := (BO true)) (Wk.refl _) rfl ⟨rfl, rfl⟩⟩
noncomputable def law19_LogFrames_j1 (a0 : S_api_Frame) (a1 : Str) (x1 : (Str × Str)) (x2 : (Str × Int)) (x4 : (Str × Str)) (x5 : ((List S_api_Frame) × Int × Int)) (s7 : Bool) : Option Bool :=
 bif s7 then (
  some false
 ) else (
  Option.bind (fullO x2.1 (3 : UInt8)) fun x9 =>
  Option.bind (fullsO (List.map (fun p => p.f_Body) x5.1)) fun x10 =>
  Option.bind (p_log_Pack (S_api_Frame.mk 1 [])) fun x11 =>
  Option.bind (p_law19_kept x1.2 a0.f_Body) fun x12 =>
  bif x12 then (
   Option.bind (p_law19_kept x4.2 a1) fun x14 =>
   bif x14 then (
    bif (x11.2 == 0) then (
     some ((((x11.1).length : Nat) : Int) == 13)
    ) else (
     some false
    )
   ) else (
    some false
   )
  ) else (
   some false
  )
 )
noncomputable def p_law19_LogFrames (a0 : S_api_Frame) (a1 : Str) : Option Bool :=
 Option.bind (p_law19_lent a0.f_Body) fun x1 =>
 Option.bind (p_log_Pack (S_api_Frame.mk a0.f_Kind x1.1)) fun x2 =>
 Option.bind (p_ref19_Pack a0) fun x3 =>
 Option.bind (p_law19_lent a1) fun x4 =>
 Option.bind (p_log_Read x4.1) fun x5 =>
 Option.bind (p_ref19_Read a1) fun x6 =>
 Option.bind (p_law19_same x2.1 x3.1) fun x17 =>
 bif (!x17) then (
  law19_LogFrames_j1 a0 a1 x1 x2 x4 x5 true
 ) else (
  bif (x2.2 != x3.2) then (
   law19_LogFrames_j1 a0 a1 x1 x2 x4 x5 true
  ) else (
   Option.bind (p_law19_frames x5.1 x6.1) fun x20 =>
   bif (!x20) then (
    law19_LogFrames_j1 a0 a1 x1 x2 x4 x5 true
   ) else (
    bif (x5.2.1 != x6.2.1) then (
     law19_LogFrames_j1 a0 a1 x1 x2 x4 x5 true
    ) else (
     bif (x5.2.2 != x6.2.2) then (
      law19_LogFrames_j1 a0 a1 x1 x2 x4 x5 true
     ) else (
      Option.bind (p_law19_kept x1.2 a0.f_Body) fun x24 =>
      bif (!x24) then (
       law19_LogFrames_j1 a0 a1 x1 x2 x4 x5 true
      ) else (
       Option.bind (p_law19_kept x4.2 a1) fun x26 =>
       law19_LogFrames_j1 a0 a1 x1 x2 x4 x5 (!x26)
      )
     )
    )
   )
  )
 )
theorem s_law19_LogFrames (a0 : S_api_Frame) (a1 : Str) (r : Bool) (h : p_law19_LogFrames a0 a1 = some r) : PCalls Try.prog 5 [(of_api_Frame a0), (PV.sl none 5 1 (List.map ofB a1))] (BO r) := by
 unfold p_law19_LogFrames at h
 refine acalls_of Try.func5 rfl Try.ntmps5 Try.results5 rfl (aw_of_bw ?_)
 change BW _ _ _ ⟨[(0, (of_api_Frame a0)), (1, (PV.sl none 5 1 (List.map ofB a1)))], [], _⟩ _
 refine bR ?_
 refine sS rfl rfl rfl (op1_box rfl rfl rfl) ?_
 refine sA rfl rfl rfl rfl rfl (ao_nil ?_)
 change BW _ _ _ _ _
 refine bR ?_
 refine sS rfl rfl rfl (op1_faR st_33 (i := 1) rfl rfl rfl) ?_
 refine sS rfl rfl rfl ((op1_ldR Try.underlying23 rfl rfl rfl rfl rfl)) ?_
 obtain ⟨x1, hx1, h⟩ := obind h
 refine sS rfl rfl rfl (op1_pcall rfl en_12 rfl (.cons (Wk.refl _) .nil) ⟨(ids_slM (fun _ => rfl) a0.f_Body), trivial⟩ (s_law19_lent a0.f_Body x1 hx1) (ids_tup_cons (ids_slM (fun _ => rfl) x1.1) (ids_tup_cons (ids_slM (fun _ => rfl) x1.2) ids_tup_nil))) ?_
 refine sM rfl rfl rfl rfl rfl ?_
 refine sS rfl rfl rfl (op1_ext rfl rfl rfl) ?_
 refine sS rfl rfl rfl (op1_ext rfl rfl rfl) ?_
 refine sA rfl rfl rfl rfl rfl ?_
 refine sA rfl rfl rfl rfl rfl (ao_nil ?_)
 change BW _ _ _ _ _
 refine bR ?_
 refine sS rfl rfl rfl (op1_faR st_33 (i := 0) rfl rfl rfl) ?_
 refine sS rfl rfl rfl ((op1_ldR Try.underlying3 rfl rfl rfl rfl rfl)) ?_
 refine sM rfl rfl rfl rfl rfl ?_
 refine sS rfl rfl rfl (op1_build (cs := [(I64 a0.f_Kind), (PV.sl none 5 1 (List.map ofB x1.1))]) st_33 inf_33 rfl rfl rfl rfl) ?_
 obtain ⟨x2, hx2, h⟩ := obind h
 refine sS rfl rfl rfl (op1_fcall rfl en_13 rfl (.cons (.old (.wk (Wk.refl _) (ids_S_api_Frame (S_api_Frame.mk a0.f_Kind x1.1)))) .nil) (s_log_Pack (S_api_Frame.mk a0.f_Kind x1.1) x2 hx2) (Pl.tup (.cons (pl_sl (fun _ => Pl.v) x2.1) (.cons Pl.v .nil)))) ?_
 refine sM rfl rfl rfl rfl rfl ?_
 refine sS rfl rfl rfl (op1_extH rfl rfl rfl) ?_
 refine sS rfl rfl rfl ((op1_extH rfl rfl rfl).wk (Wk.hidSc Sc.v)) ?_
 refine sA rfl rfl rfl rfl rfl ?_
 refine sA rfl rfl rfl rfl rfl (ao_nil ?_)
 change BW _ _ _ _ _
 refine bR ?_
 refine sS rfl rfl rfl ((op1_ldRA inf_33 Try.underlying33 rfl rfl rfl rfl rfl rfl)) ?_
 obtain ⟨x3, hx3, h⟩ := obind h
 refine sS rfl rfl rfl (op1_pcall rfl en_11 rfl (.cons (Wk.refl _) .nil) ⟨(ids_S_api_Frame a0), trivial⟩ (s_ref19_Pack a0 x3 hx3) (ids_tup_cons (ids_slM (fun _ => rfl) x3.1) (ids_tup_cons rfl ids_tup_nil))) ?_
 refine sM rfl rfl rfl rfl rfl ?_
 refine sS rfl rfl rfl (op1_ext rfl rfl rfl) ?_
 refine sS rfl rfl rfl (op1_ext rfl rfl rfl) ?_
 refine sA rfl rfl rfl rfl rfl ?_
 refine sA rfl rfl rfl rfl rfl (ao_nil ?_)
 change BW _ _ _ _ _
 refine bR ?_
 refine sM rfl rfl rfl rfl rfl ?_
 obtain ⟨x4, hx4, h⟩ := obind h
 refine sS rfl rfl rfl (op1_pcall rfl en_12 rfl (.cons (Wk.refl _) .nil) ⟨(ids_slM (fun _ => rfl) a1), trivial⟩ (s_law19_lent a1 x4 hx4) (ids_tup_cons (ids_slM (fun _ => rfl) x4.1) (ids_tup_cons (ids_slM (fun _ => rfl) x4.2) ids_tup_nil))) ?_
 refine sM rfl rfl rfl rfl rfl ?_
 refine sS rfl rfl rfl (op1_ext rfl rfl rfl) ?_
 refine sS rfl rfl rfl (op1_ext rfl rfl rfl) ?_
 refine sA rfl rfl rfl rfl rfl ?_
 refine sA rfl rfl rfl rfl rfl (ao_nil ?_)
 change BW _ _ _ _ _
 refine bR ?_
 refine sM rfl rfl rfl rfl rfl ?_
 obtain ⟨x5, hx5, h⟩ := obind h
 refine sS rfl rfl rfl (op1_fcall rfl en_9 rfl (.cons (.old (.wk (Wk.refl _) (ids_slM (fun _ => rfl) x4.1))) .nil) (s_log_Read x4.1 x5 hx5) (Pl.tup (.cons (pl_sl pl_S_api_Frame x5.1) (.cons Pl.v (.cons Pl.v .nil))))) ?_
 refine sM rfl rfl rfl rfl rfl ?_
 refine sS rfl rfl rfl (op1_extH rfl rfl rfl) ?_
 refine sS rfl rfl rfl ((op1_extH rfl rfl rfl).wk (Wk.hidSc Sc.v)) ?_
 refine sS rfl rfl rfl ((op1_extH rfl rfl rfl).wk (Wk.hidSc Sc.v)) ?_
 refine sA rfl rfl rfl rfl rfl ?_
 refine sA rfl rfl rfl rfl rfl ?_
 refine sA rfl rfl rfl rfl rfl (ao_nil ?_)
 change BW _ _ _ _ _
 refine bR ?_
 refine sM rfl rfl rfl rfl rfl ?_
 obtain ⟨x6, hx6, h⟩ := obind h
 refine sS rfl rfl rfl (op1_pcall rfl en_14 rfl (.cons (Wk.refl _) .nil) ⟨(ids_slM (fun _ => rfl) a1), trivial⟩ (s_ref19_Read a1 x6 hx6) (ids_tup_cons (ids_slM ids_S_api_Frame x6.1) (ids_tup_cons rfl (ids_tup_cons rfl ids_tup_nil)))) ?_
 refine sM rfl rfl rfl rfl rfl ?_
 refine sS rfl rfl rfl (op1_ext rfl rfl rfl) ?_
 refine sS rfl rfl rfl (op1_ext rfl rfl rfl) ?_
 refine sS rfl rfl rfl (op1_ext rfl rfl rfl) ?_
 refine sA rfl rfl rfl rfl rfl ?_
 refine sA rfl rfl rfl rfl rfl ?_
 refine sA rfl rfl rfl rfl rfl (ao_nil ?_)
 change BW _ _ _ _ _
 refine bw_seq ?_
 refine bw_seqJ (ι := Bool) (fun i => law19_LogFrames_j1 a0 a1 x1 x2 x4 x5 i = some r) (fun i => [(1, (PV.sl none 5 1 (List.map ofB a1))), (2, (PV.rf 0 0)), (6, (PV.sl none 5 1 (List.map ofB x1.2))), (7, (PV.hid 1 (PV.sl none 5 1 (List.map ofB x2.1)))), (12, (PV.sl none 5 1 (List.map ofB x4.2))), (13, (PV.hid 2 (PV.sl none 33 2 (List.map of_api_Frame x5.1)))), (95, (BO i))]) (fun i => [.box 33 [(I64 a0.f_Kind), (PV.sl none 5 1 (List.map ofB a0.f_Body))], .reg, .reg]) ?_ ?_ ?_
 ·intro i; exact ⟨Nat.le_of_ble_eq_true rfl, ⟨(il_nil (ids_slM (fun _ => rfl) _)), ⟨(il_rf rfl), ⟨(il_nil (ids_slM (fun _ => rfl) _)), ⟨(il_hid rfl (ids_slM (fun _ => rfl) _)), ⟨(il_nil (ids_slM (fun _ => rfl) _)), ⟨(il_hid rfl (ids_slM ids_S_api_Frame _)), ⟨(il_nil rfl), trivial⟩⟩⟩⟩⟩⟩⟩, ⟨⟨(il_nil rfl), ⟨(il_nil (ids_slM (fun _ => rfl) _)), trivial⟩⟩, trivial⟩⟩
 ·rintro s7 h; replace h : law19_LogFrames_j1 a0 a1 x1 x2 x4 x5 s7 = some r := h; unfold law19_LogFrames_j1 at h
  change BW _ _ _ ⟨[(1, (PV.sl none 5 1 (List.map ofB a1))), (2, (PV.rf 0 0)), (6, (PV.sl none 5 1 (List.map ofB x1.2))), (7, (PV.hid 1 (PV.sl none 5 1 (List.map ofB x2.1)))), (12, (PV.sl none 5 1 (List.map ofB x4.2))), (13, (PV.hid 2 (PV.sl none 33 2 (List.map of_api_Frame x5.1)))), (95, (BO s7))], [.box 33 [(I64 a0.f_Kind), (PV.sl none 5 1 (List.map ofB a0.f_Body))], .reg, .reg], _⟩ _
  refine bw_cond rfl ?_ ?_
  ·intro hc8; replace h := ocond_t hc8 h
   refine bR ?_
   refine sA rfl rfl rfl rfl rfl (ao_nil ?_)
   change BW _ _ _ _ _
   refine bw_ret ?_
   change ∃ xs, _ = some xs ∧ EndOk _ _ _ _
   obtain rfl := Option.some.inj h
   exact ⟨_, rfl, endOk0 (y := (BO false)) (Wk.refl _) rfl ⟨rfl, rfl⟩⟩
  ·intro hc8; replace h := ocond_f hc8 h
   refine bw_skip ?_
   change BW _ _ _ _ _
   refine bR ?_
   refine sM rfl rfl rfl rfl rfl ?_
   obtain ⟨x9, hx9, h⟩ := obind h
   refine sS rfl rfl rfl (op1_spoil 1 rfl en_17 rfl rfl (.cons .hid (.cons (.sc (Wk.refl _) Sc.v) .nil)) (sp_full x2.1 (3 : UInt8) hx9) (Sc.tup sc_nil)) (ao_nil ?_)
   change BW _ _ _ _ _
   obtain ⟨x10, hx10, h⟩ := obind h
   refine bw_seq (bw_spoilC (env' := [(1, (PV.sl none 5 1 (List.map ofB a1))), (2, (PV.rf 0 0)), (6, (PV.sl none 5 1 (List.map ofB x1.2))), (12, (PV.sl none 5 1 (List.map ofB x4.2)))]) 2 13 [19, 98, 99, 100, 101, 102, 103, 104, 105, 106, 107, 108, 109] rfl rfl ?_ (sC rfl (sC rfl (sC rfl (sC rfl sub_nil)))) rfl ?_)
   ·intro S w u env ds hv hu
    obtain ⟨A, cp, rfl, ⟨⟨hlc, hl2⟩, hB⟩, _, hel⟩ := vr_sl.1 hv
    rw [List.length_map] at hlc hl2 hu
    refine xw_seq (xw_region (xl_val rfl rfl (xr_assign rfl rfl) (xl_nil ?_)))
    change XW _ _ _ _ _ _ _
    refine xw_block ?_
    refine xw_loop (fun n env1 w1 => ∃ i : Nat, i + n = x5.1.length ∧ vget env1 19 = some (.int .i64 (i : Nat)) ∧ (∀ s, List.contains [19, 98, 99, 100, 101, 102, 103, 104, 105, 106, 107, 108, 109] s = false → vget env1 s = vget env s) ∧ Wrs (fun b => S b ∧ ∃ c z, w.heap[b]? = some (.cells c 5 z)) w w1) (n := x5.1.length) ⟨0, by omega, rfl, (by repeat (first | exact hkp | exact fun _ _ => rfl | refine keep_cons rfl ?_)), .refl⟩ ?_
    rintro n env1 w1 ⟨i, hin, hctr, hkp, hW⟩
    have hsl : vget env1 13 = some (.slice A x5.1.length cp) := (hkp 13 rfl).trans hu
    refine xw_seq (xw_seq (xw_region (xl_val rfl rfl (xr_move rfl hctr) (xl_val rfl rfl (xr_move rfl hsl) (xl_val rfl rfl (xr_len Try.underlying22 rfl rfl) (xl_val rfl rfl (xr_lss rfl rfl rfl) (xl_nil ?_)))))))
    change XW _ _ _ _ _ _ _
    refine xw_cond rfl (fun hc => xw_skip ?_) (fun hc => xw_exit ?_)
    ·have hil : i < x5.1.length := by have := of_decide_eq_true hc; omega
     change XW _ _ _ _ _ _ _
     refine xw_seq (xw_block ?_)
     obtain ⟨_, b, o, hA, hcell⟩ := hel i (of_api_Frame (x5.1[i])) (by simp [hil])
     obtain ⟨u1, ⟨hSb, hc1⟩, hvb⟩ := hcell 1 _ rfl
     obtain ⟨A1, cp1, rfl, ⟨⟨hlc1, _⟩, hB1⟩, _, _⟩ := vr_sl.1 hvb
     rw [List.length_map] at hlc1 hc1
     subst hA
     have hbk := sub_keep (by decide) hB hW
     have hc2 := (cell_same hbk).trans hc1
     have hbnd := fullsO_len hx10 (List.mem_map_of_mem (List.getElem_mem hil))
     refine xw_region (xl_val rfl rfl (xr_move rfl hsl) (xl_val rfl rfl (xr_move rfl hctr) (xl_val rfl rfl (xr_idx Try.underlying22 inf_33 rfl rfl rfl hil) (xl_val rfl rfl (xr_fa st_33 (i := 1) rfl rfl rfl) (xl_val rfl rfl (xr_ld Try.underlying23 rfl rfl rfl (by rw [Nat.add_assoc]; exact hc2))
      (xl_call (args := [.tmp 108, .const (.int .u8 4)]) (vs := #[.slice A1 _ cp1, .int .u8 4]) (R := fun r w' => r = .tuple #[] ∧ Wrs (fun b => S b ∧ ∃ c z, w.heap[b]? = some (.cells c 5 z)) w w') rfl rfl rfl en_17 (fun a ha => by have e1 := ha.ev (o := .tmp 108) rfl; simp [e1, eval_const]) (full_raw hW hlc1 hbnd (sub_room hB1 hW.kp)) ?_))))))
     rintro r w2 ⟨rfl, hW2⟩
     refine xl_nil ?_
     change XW _ _ _ _ _ _ _
     refine xw_region (xl_val rfl rfl (xr_move rfl hctr) (xl_val rfl rfl (xr_add rfl rfl rfl (by omega)) (xl_val rfl rfl (xr_assign rfl rfl) (xl_nil ?_))))
     exact ⟨n - 1, by omega, i + 1, by omega, rfl, (by repeat (first | exact hkp | exact fun _ _ => rfl | refine keep_cons rfl ?_)), hW2⟩
    ·show Exit.normal = Exit.normal ∧ _
     exact ⟨rfl, (by repeat (first | exact hkp | exact fun _ _ => rfl | refine keep_cons rfl ?_)), hW.os, hW.tape, hW.output, hW.size, fun b hb hn => hW.keep b hb (fun h => hn h.1), hW.kp⟩
   refine bR ?_
   refine sS rfl rfl rfl (op1_build (cs := [(I64 1), (PV.v (.slice none 0 0))]) st_33 inf_33 rfl rfl rfl rfl) ?_
   obtain ⟨x11, hx11, h⟩ := obind h
   refine sS rfl rfl rfl (op1_fcall rfl en_13 rfl (.cons (.old (.wk (Wk.agg (.cons (Wk.refl _) (.cons Wk.nil .nil))) (ids_S_api_Frame (S_api_Frame.mk 1 [])))) .nil) (s_log_Pack (S_api_Frame.mk 1 []) x11 hx11) (Pl.tup (.cons (pl_sl (fun _ => Pl.v) x11.1) (.cons Pl.v .nil)))) ?_
   refine sM rfl rfl rfl rfl rfl ?_
   refine sS rfl rfl rfl (op1_extH rfl rfl rfl) ?_
   refine sS rfl rfl rfl ((op1_extH rfl rfl rfl).wk (Wk.hidSc Sc.v)) ?_
   refine sA rfl rfl rfl rfl rfl ?_
   refine sA rfl rfl rfl rfl rfl (ao_nil ?_)
   change BW _ _ _ _ _
   refine bR ?_
   refine sM rfl rfl rfl rfl rfl ?_
   refine sS rfl rfl rfl (op1_faR st_33 (i := 1) rfl rfl rfl) ?_
   refine sS rfl rfl rfl ((op1_ldR Try.underlying23 rfl rfl rfl rfl rfl)) ?_
   obtain ⟨x12, hx12, h⟩ := obind h
   refine sS rfl rfl rfl (op1_pcall rfl en_16 rfl (.cons (Wk.refl _) (.cons (Wk.refl _) .nil)) ⟨(ids_slM (fun _ => rfl) x1.2), ⟨(ids_slM (fun _ => rfl) a0.f_Body), trivial⟩⟩ (s_law19_kept x1.2 a0.f_Body x12 hx12) rfl) ?_
   refine sM rfl rfl rfl rfl rfl ?_
   refine ao_cases (t := 119) rfl ?_ ?_
   ·intro hb13; replace h := ocond_t hb13 h
    refine ao_yes rfl rfl rfl rfl rfl rfl (op1_move rfl rfl) ?_
    refine ao_yes rfl rfl rfl rfl rfl rfl (op1_move rfl rfl) ?_
    obtain ⟨x14, hx14, h⟩ := obind h
    refine ao_yes rfl rfl rfl rfl rfl rfl (op1_pcall rfl en_16 rfl (.cons (Wk.refl _) (.cons (Wk.refl _) .nil)) ⟨(ids_slM (fun _ => rfl) x4.2), ⟨(ids_slM (fun _ => rfl) a1), trivial⟩⟩ (s_law19_kept x4.2 a1 x14 hx14) rfl) ?_
    refine sS rfl rfl rfl (op1_pickT rfl rfl rfl) ?_
    refine sM rfl rfl rfl rfl rfl ?_
    refine ao_cases (t := 124) rfl ?_ ?_
    ·intro hb15; replace h := ocond_t hb15 h
     refine ao_yes rfl rfl rfl rfl rfl rfl (op1_move rfl rfl) ?_
     refine ao_yes rfl rfl rfl rfl rfl rfl ((op1_cmp rfl rfl rfl rfl).cast (y := (BO ((x11.2 == 0)))) rfl rfl) ?_
     refine sS rfl rfl rfl (op1_pickT rfl rfl rfl) ?_
     refine sM rfl rfl rfl rfl rfl ?_
     refine ao_cases (t := 128) rfl ?_ ?_
     ·intro hb16; replace h := ocond_t hb16 h
      refine ao_yes rfl rfl rfl rfl rfl rfl (op1_move rfl rfl) ?_
      refine ao_yes rfl rfl rfl rfl rfl rfl (op1_regS [3] ⟨rfl, trivial⟩ (op1_lenM Try.underlying23 rfl rfl) Sc.v) ?_
      refine ao_yes rfl rfl rfl rfl rfl rfl ((op1_cmp rfl rfl rfl rfl).cast (y := (BO (((((x11.1).length : Nat) : Int) == 13)))) rfl rfl) ?_
      refine sS rfl rfl rfl (op1_pickT rfl rfl rfl) ?_
      refine sA rfl rfl rfl rfl rfl (ao_nil ?_)
      change BW _ _ _ _ _
      refine bw_ret ?_
      change ∃ xs, _ = some xs ∧ EndOk _ _ _ _
      obtain rfl := Option.some.inj h
      exact ⟨_, rfl, endOk0 (y := (BO (((((x11.1).length : Nat) : Int) == 13)))) (Wk.refl _) rfl ⟨rfl, rfl⟩⟩
     ·intro hb16; replace h := ocond_f hb16 h
      refine ao_no rfl rfl rfl rfl rfl rfl ?_
      refine ao_no rfl rfl rfl rfl rfl rfl ?_
      refine ao_no rfl rfl rfl rfl rfl rfl ?_
      refine sS rfl rfl rfl (op1_pickF rfl rfl rfl) ?_
      refine sA rfl rfl rfl rfl rfl (ao_nil ?_)
      change BW _ _ _ _ _
      refine bw_ret ?_
      change ∃ xs, _ = some xs ∧ EndOk _ _ _ _
      obtain rfl := Option.some.inj h
      exact ⟨_, rfl, endOk0 (y := (BO false)) (Wk.refl _) rfl ⟨rfl, rfl⟩⟩
    ·intro hb15; replace h := ocond_f hb15 h
     refine ao_no rfl rfl rfl rfl rfl rfl ?_
     refine ao_no rfl rfl rfl rfl rfl rfl ?_
     refine sS rfl rfl rfl (op1_pickF rfl rfl rfl) ?_
     refine sM rfl rfl rfl rfl rfl ?_
     refine ao_no rfl rfl rfl rfl rfl rfl ?_
     refine ao_no rfl rfl rfl rfl rfl rfl ?_
     refine ao_no rfl rfl rfl rfl rfl rfl ?_
     refine sS rfl rfl rfl (op1_pickF rfl rfl rfl) ?_
     refine sA rfl rfl rfl rfl rfl (ao_nil ?_)
     change BW _ _ _ _ _
     refine bw_ret ?_
     change ∃ xs, _ = some xs ∧ EndOk _ _ _ _
     obtain rfl := Option.some.inj h
     exact ⟨_, rfl, endOk0 (y := (BO false)) (Wk.refl _) rfl ⟨rfl, rfl⟩⟩
   ·intro hb13; replace h := ocond_f hb13 h
    refine ao_no rfl rfl rfl rfl rfl rfl ?_
    refine ao_no rfl rfl rfl rfl rfl rfl ?_
    refine ao_no rfl rfl rfl rfl rfl rfl ?_
    refine sS rfl rfl rfl (op1_pickF rfl rfl rfl) ?_
    refine sM rfl rfl rfl rfl rfl ?_
    refine ao_no rfl rfl rfl rfl rfl rfl ?_
    refine ao_no rfl rfl rfl rfl rfl rfl ?_
    refine sS rfl rfl rfl (op1_pickF rfl rfl rfl) ?_
    refine sM rfl rfl rfl rfl rfl ?_
    refine ao_no rfl rfl rfl rfl rfl rfl ?_
    refine ao_no rfl rfl rfl rfl rfl rfl ?_
    refine ao_no rfl rfl rfl rfl rfl rfl ?_
    refine sS rfl rfl rfl (op1_pickF rfl rfl rfl) ?_
    refine sA rfl rfl rfl rfl rfl (ao_nil ?_)
    change BW _ _ _ _ _
    refine bw_ret ?_
    change ∃ xs, _ = some xs ∧ EndOk _ _ _ _
    obtain rfl := Option.some.inj h
    exact ⟨_, rfl, endOk0 (y := (BO false)) (Wk.refl _) rfl ⟨rfl, rfl⟩⟩
 ·refine bw_region ?_
  refine sM rfl rfl rfl rfl rfl ?_
  refine sM rfl rfl rfl rfl rfl ?_
  obtain ⟨x17, hx17, h⟩ := obind h
  refine sS rfl rfl rfl (op1_hcall rfl en_15 rfl (.cons (.hid rfl) (.cons (.wk (Wk.refl _) (ids_slM (fun _ => rfl) x3.1)) .nil)) (s_law19_same x2.1 x3.1 x17 hx17) Sc.v) ?_
  refine sS rfl rfl rfl (op1_not rfl rfl) ?_
  refine sM rfl rfl rfl rfl rfl ?_
  refine ao_cases (t := 62) rfl ?_ ?_
  ·intro hb18; replace h := ocond_t hb18 h
   refine ao_no rfl rfl rfl rfl rfl rfl ?_
   refine ao_no rfl rfl rfl rfl rfl rfl ?_
   refine ao_no rfl rfl rfl rfl rfl rfl ?_
   refine sS rfl rfl rfl (op1_pickT rfl rfl rfl) ?_
   refine sM rfl rfl rfl rfl rfl ?_
   refine ao_no rfl rfl rfl rfl rfl rfl ?_
   refine ao_no rfl rfl rfl rfl rfl rfl ?_
   refine ao_no rfl rfl rfl rfl rfl rfl ?_
   refine ao_no rfl rfl rfl rfl rfl rfl ?_
   refine sS rfl rfl rfl (op1_pickT rfl rfl rfl) ?_
   refine sM rfl rfl rfl rfl rfl ?_
   refine ao_no rfl rfl rfl rfl rfl rfl ?_
   refine ao_no rfl rfl rfl rfl rfl rfl ?_
   refine ao_no rfl rfl rfl rfl rfl rfl ?_
   refine sS rfl rfl rfl (op1_pickT rfl rfl rfl) ?_
   refine sM rfl rfl rfl rfl rfl ?_
   refine ao_no rfl rfl rfl rfl rfl rfl ?_
   refine ao_no rfl rfl rfl rfl rfl rfl ?_
   refine ao_no rfl rfl rfl rfl rfl rfl ?_
   refine sS rfl rfl rfl (op1_pickT rfl rfl rfl) ?_
   refine sM rfl rfl rfl rfl rfl ?_
   refine ao_no rfl rfl rfl rfl rfl rfl ?_
   refine ao_no rfl rfl rfl rfl rfl rfl ?_
   refine ao_no rfl rfl rfl rfl rfl rfl ?_
   refine ao_no rfl rfl rfl rfl rfl rfl ?_
   refine ao_no rfl rfl rfl rfl rfl rfl ?_
   refine sS rfl rfl rfl (op1_pickT rfl rfl rfl) ?_
   refine sM rfl rfl rfl rfl rfl ?_
   refine ao_no rfl rfl rfl rfl rfl rfl ?_
   refine ao_no rfl rfl rfl rfl rfl rfl ?_
   refine ao_no rfl rfl rfl rfl rfl rfl ?_
   refine ao_no rfl rfl rfl rfl rfl rfl ?_
   refine sS rfl rfl rfl (op1_pickT rfl rfl rfl) (ao_nil ?_)
   exact ⟨rfl, true, h, ⟨(.cons .same (.cons .same (.cons .same .nil))), (sC rfl (sC rfl (sC rfl (sC rfl (sC rfl (sC rfl (sC rfl sub_nil)))))))⟩⟩
  ·intro hb18; replace h := ocond_f hb18 h
   refine ao_yes rfl rfl rfl rfl rfl rfl (op1_move rfl rfl) ?_
   refine ao_yes rfl rfl rfl rfl rfl rfl (op1_move rfl rfl) ?_
   refine ao_yes rfl rfl rfl rfl rfl rfl ((op1_cmp rfl rfl rfl rfl).cast (y := (BO ((x2.2 != x3.2)))) rfl rfl) ?_
   refine sS rfl rfl rfl (op1_pickF rfl rfl rfl) ?_
   refine sM rfl rfl rfl rfl rfl ?_
   refine ao_cases (t := 67) rfl ?_ ?_
   ·intro hb19; replace h := ocond_t hb19 h
    refine ao_no rfl rfl rfl rfl rfl rfl ?_
    refine ao_no rfl rfl rfl rfl rfl rfl ?_
    refine ao_no rfl rfl rfl rfl rfl rfl ?_
    refine ao_no rfl rfl rfl rfl rfl rfl ?_
    refine sS rfl rfl rfl (op1_pickT rfl rfl rfl) ?_
    refine sM rfl rfl rfl rfl rfl ?_
    refine ao_no rfl rfl rfl rfl rfl rfl ?_
    refine ao_no rfl rfl rfl rfl rfl rfl ?_
    refine ao_no rfl rfl rfl rfl rfl rfl ?_
    refine sS rfl rfl rfl (op1_pickT rfl rfl rfl) ?_
    refine sM rfl rfl rfl rfl rfl ?_
    refine ao_no rfl rfl rfl rfl rfl rfl ?_
    refine ao_no rfl rfl rfl rfl rfl rfl ?_
    refine ao_no rfl rfl rfl rfl rfl rfl ?_
    refine sS rfl rfl rfl (op1_pickT rfl rfl rfl) ?_
    refine sM rfl rfl rfl rfl rfl ?_
    refine ao_no rfl rfl rfl rfl rfl rfl ?_
    refine ao_no rfl rfl rfl rfl rfl rfl ?_
    refine ao_no rfl rfl rfl rfl rfl rfl ?_
    refine ao_no rfl rfl rfl rfl rfl rfl ?_
    refine ao_no rfl rfl rfl rfl rfl rfl ?_
    refine sS rfl rfl rfl (op1_pickT rfl rfl rfl) ?_
    refine sM rfl rfl rfl rfl rfl ?_
    refine ao_no rfl rfl rfl rfl rfl rfl ?_
    refine ao_no rfl rfl rfl rfl rfl rfl ?_
    refine ao_no rfl rfl rfl rfl rfl rfl ?_
    refine ao_no rfl rfl rfl rfl rfl rfl ?_
    refine sS rfl rfl rfl (op1_pickT rfl rfl rfl) (ao_nil ?_)
    exact ⟨rfl, true, h, ⟨(.cons .same (.cons .same (.cons .same .nil))), (sC rfl (sC rfl (sC rfl (sC rfl (sC rfl (sC rfl (sC rfl sub_nil)))))))⟩⟩
   ·intro hb19; replace h := ocond_f hb19 h
    refine ao_yes rfl rfl rfl rfl rfl rfl (op1_move rfl rfl) ?_
    refine ao_yes rfl rfl rfl rfl rfl rfl (op1_move rfl rfl) ?_
    obtain ⟨x20, hx20, h⟩ := obind h
    refine ao_yes rfl rfl rfl rfl rfl rfl (op1_hcall rfl en_10 rfl (.cons (.hid rfl) (.cons (.wk (Wk.refl _) (ids_slM ids_S_api_Frame x6.1)) .nil)) (s_law19_frames x5.1 x6.1 x20 hx20) Sc.v) ?_
    refine ao_yes rfl rfl rfl rfl rfl rfl (op1_not rfl rfl) ?_
    refine sS rfl rfl rfl (op1_pickF rfl rfl rfl) ?_
    refine sM rfl rfl rfl rfl rfl ?_
    refine ao_cases (t := 73) rfl ?_ ?_
    ·intro hb21; replace h := ocond_t hb21 h
     refine ao_no rfl rfl rfl rfl rfl rfl ?_
     refine ao_no rfl rfl rfl rfl rfl rfl ?_
     refine ao_no rfl rfl rfl rfl rfl rfl ?_
     refine sS rfl rfl rfl (op1_pickT rfl rfl rfl) ?_
     refine sM rfl rfl rfl rfl rfl ?_
     refine ao_no rfl rfl rfl rfl rfl rfl ?_
     refine ao_no rfl rfl rfl rfl rfl rfl ?_
     refine ao_no rfl rfl rfl rfl rfl rfl ?_
     refine sS rfl rfl rfl (op1_pickT rfl rfl rfl) ?_
     refine sM rfl rfl rfl rfl rfl ?_
     refine ao_no rfl rfl rfl rfl rfl rfl ?_
     refine ao_no rfl rfl rfl rfl rfl rfl ?_
     refine ao_no rfl rfl rfl rfl rfl rfl ?_
     refine ao_no rfl rfl rfl rfl rfl rfl ?_
     refine ao_no rfl rfl rfl rfl rfl rfl ?_
     refine sS rfl rfl rfl (op1_pickT rfl rfl rfl) ?_
     refine sM rfl rfl rfl rfl rfl ?_
     refine ao_no rfl rfl rfl rfl rfl rfl ?_
     refine ao_no rfl rfl rfl rfl rfl rfl ?_
     refine ao_no rfl rfl rfl rfl rfl rfl ?_
     refine ao_no rfl rfl rfl rfl rfl rfl ?_
     refine sS rfl rfl rfl (op1_pickT rfl rfl rfl) (ao_nil ?_)
     exact ⟨rfl, true, h, ⟨(.cons .same (.cons .same (.cons .same .nil))), (sC rfl (sC rfl (sC rfl (sC rfl (sC rfl (sC rfl (sC rfl sub_nil)))))))⟩⟩
    ·intro hb21; replace h := ocond_f hb21 h
     refine ao_yes rfl rfl rfl rfl rfl rfl (op1_move rfl rfl) ?_
     refine ao_yes rfl rfl rfl rfl rfl rfl (op1_move rfl rfl) ?_
     refine ao_yes rfl rfl rfl rfl rfl rfl ((op1_cmp rfl rfl rfl rfl).cast (y := (BO ((x5.2.1 != x6.2.1)))) rfl rfl) ?_
     refine sS rfl rfl rfl (op1_pickF rfl rfl rfl) ?_
     refine sM rfl rfl rfl rfl rfl ?_
     refine ao_cases (t := 78) rfl ?_ ?_
     ·intro hb22; replace h := ocond_t hb22 h
      refine ao_no rfl rfl rfl rfl rfl rfl ?_
      refine ao_no rfl rfl rfl rfl rfl rfl ?_
      refine ao_no rfl rfl rfl rfl rfl rfl ?_
      refine sS rfl rfl rfl (op1_pickT rfl rfl rfl) ?_
      refine sM rfl rfl rfl rfl rfl ?_
      refine ao_no rfl rfl rfl rfl rfl rfl ?_
      refine ao_no rfl rfl rfl rfl rfl rfl ?_
      refine ao_no rfl rfl rfl rfl rfl rfl ?_
      refine ao_no rfl rfl rfl rfl rfl rfl ?_
      refine ao_no rfl rfl rfl rfl rfl rfl ?_
      refine sS rfl rfl rfl (op1_pickT rfl rfl rfl) ?_
      refine sM rfl rfl rfl rfl rfl ?_
      refine ao_no rfl rfl rfl rfl rfl rfl ?_
      refine ao_no rfl rfl rfl rfl rfl rfl ?_
      refine ao_no rfl rfl rfl rfl rfl rfl ?_
      refine ao_no rfl rfl rfl rfl rfl rfl ?_
      refine sS rfl rfl rfl (op1_pickT rfl rfl rfl) (ao_nil ?_)
      exact ⟨rfl, true, h, ⟨(.cons .same (.cons .same (.cons .same .nil))), (sC rfl (sC rfl (sC rfl (sC rfl (sC rfl (sC rfl (sC rfl sub_nil)))))))⟩⟩
     ·intro hb22; replace h := ocond_f hb22 h
      refine ao_yes rfl rfl rfl rfl rfl rfl (op1_move rfl rfl) ?_
      refine ao_yes rfl rfl rfl rfl rfl rfl (op1_move rfl rfl) ?_
      refine ao_yes rfl rfl rfl rfl rfl rfl ((op1_cmp rfl rfl rfl rfl).cast (y := (BO ((x5.2.2 != x6.2.2)))) rfl rfl) ?_
      refine sS rfl rfl rfl (op1_pickF rfl rfl rfl) ?_
      refine sM rfl rfl rfl rfl rfl ?_
      refine ao_cases (t := 83) rfl ?_ ?_
      ·intro hb23; replace h := ocond_t hb23 h
       refine ao_no rfl rfl rfl rfl rfl rfl ?_
       refine ao_no rfl rfl rfl rfl rfl rfl ?_
       refine ao_no rfl rfl rfl rfl rfl rfl ?_
       refine ao_no rfl rfl rfl rfl rfl rfl ?_
       refine ao_no rfl rfl rfl rfl rfl rfl ?_
       refine sS rfl rfl rfl (op1_pickT rfl rfl rfl) ?_
       refine sM rfl rfl rfl rfl rfl ?_
       refine ao_no rfl rfl rfl rfl rfl rfl ?_
       refine ao_no rfl rfl rfl rfl rfl rfl ?_
       refine ao_no rfl rfl rfl rfl rfl rfl ?_
       refine ao_no rfl rfl rfl rfl rfl rfl ?_
       refine sS rfl rfl rfl (op1_pickT rfl rfl rfl) (ao_nil ?_)
       exact ⟨rfl, true, h, ⟨(.cons .same (.cons .same (.cons .same .nil))), (sC rfl (sC rfl (sC rfl (sC rfl (sC rfl (sC rfl (sC rfl sub_nil)))))))⟩⟩
      ·intro hb23; replace h := ocond_f hb23 h
       refine ao_yes rfl rfl rfl rfl rfl rfl (op1_move rfl rfl) ?_
       refine ao_yes rfl rfl rfl rfl rfl rfl (op1_faR st_33 (i := 1) rfl rfl rfl) ?_
       refine ao_yes rfl rfl rfl rfl rfl rfl ((op1_ldR Try.underlying23 rfl rfl rfl rfl rfl)) ?_
       obtain ⟨x24, hx24, h⟩ := obind h
       refine ao_yes rfl rfl rfl rfl rfl rfl (op1_pcall rfl en_16 rfl (.cons (Wk.refl _) (.cons (Wk.refl _) .nil)) ⟨(ids_slM (fun _ => rfl) x1.2), ⟨(ids_slM (fun _ => rfl) a0.f_Body), trivial⟩⟩ (s_law19_kept x1.2 a0.f_Body x24 hx24) rfl) ?_
       refine ao_yes rfl rfl rfl rfl rfl rfl (op1_not rfl rfl) ?_
       refine sS rfl rfl rfl (op1_pickF rfl rfl rfl) ?_
       refine sM rfl rfl rfl rfl rfl ?_
       refine ao_cases (t := 90) rfl ?_ ?_
       ·intro hb25; replace h := ocond_t hb25 h
        refine ao_no rfl rfl rfl rfl rfl rfl ?_
        refine ao_no rfl rfl rfl rfl rfl rfl ?_
        refine ao_no rfl rfl rfl rfl rfl rfl ?_
        refine ao_no rfl rfl rfl rfl rfl rfl ?_
        refine sS rfl rfl rfl (op1_pickT rfl rfl rfl) (ao_nil ?_)
        exact ⟨rfl, true, h, ⟨(.cons .same (.cons .same (.cons .same .nil))), (sC rfl (sC rfl (sC rfl (sC rfl (sC rfl (sC rfl (sC rfl sub_nil)))))))⟩⟩
       ·intro hb25; replace h := ocond_f hb25 h
        refine ao_yes rfl rfl rfl rfl rfl rfl (op1_move rfl rfl) ?_
        refine ao_yes rfl rfl rfl rfl rfl rfl (op1_move rfl rfl) ?_
        obtain ⟨x26, hx26, h⟩ := obind h
        refine ao_yes rfl rfl rfl rfl rfl rfl (op1_pcall rfl en_16 rfl (.cons (Wk.refl _) (.cons (Wk.refl _) .nil)) ⟨(ids_slM (fun _ => rfl) x4.2), ⟨(ids_slM (fun _ => rfl) a1), trivial⟩⟩ (s_law19_kept x4.2 a1 x26 hx26) rfl) ?_
        refine ao_yes rfl rfl rfl rfl rfl rfl (op1_not rfl rfl) ?_
        refine sS rfl rfl rfl (op1_pickF rfl rfl rfl) (ao_nil ?_)
        exact ⟨rfl, (!x26), h, ⟨(.cons .same (.cons .same (.cons .same .nil))), (sC rfl (sC rfl (sC rfl (sC rfl (sC rfl (sC rfl (sC rfl sub_nil)))))))⟩⟩
end Go.Proofs.Ytpmbflnoohpbnaa
