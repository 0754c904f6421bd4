/- Pure functions, and that calls answer as they say. Written by gen.py. -/
import Derived.Test.YtkmhecgagibgjaaG5
namespace Go.Proofs.Ytkmhecgagibgjaa
open Go Aw
set_option linter.unusedVariables false
set_option linter.unusedSimpArgs false
set_option maxRecDepth 20000
set_option maxHeartbeats 2000000
noncomputable def ref04_Same_l1b (a0 : (List S_api_Step)) (a1 : (List S_api_Step)) (g1 : Nat → Option Bool) (s2 : Nat) : Option Bool :=
 bif (decide (((s2 : Nat) : Int) < (((a0).length : Nat) : Int))) then (
  Option.bind ((a0)[s2]?) fun x5 =>
  Option.bind ((a1)[s2]?) fun x6 =>
  bif (!(x5.f_Name == x6.f_Name && (x5.f_At == x6.f_At && x5.f_Index == x6.f_Index))) then (
   some false
  ) else (
   g1 (s2 + 1)
  )
 ) else (
  some true
 )
theorem ref04_Same_l1b_cm {ι : Type} {ρ : ι → Type} (g1 : (∀ i, Option (ρ i)) → Nat → Option Bool) (h_g1 : ∀ y0, CM (fun G => g1 G y0)) (a0 : (List S_api_Step)) (a1 : (List S_api_Step)) (s2 : Nat) : CM (fun G : (∀ i, Option (ρ i)) => ref04_Same_l1b a0 a1 (g1 G) s2) := by
 simp only [ref04_Same_l1b]
 repeat (first | exact cm_const | exact h_g1 _ | refine cm_cond ?_ ?_ | refine cm_bind ?_ (fun _ => ?_))
noncomputable def ref04_Same_l1 (a0 : (List S_api_Step)) (a1 : (List S_api_Step)) (s2 : Nat) : Option Bool :=
 fixO (ι := Nat) (ρ := fun _ => Bool) (fun g i => ref04_Same_l1b a0 a1 (fun s2 => g s2) i) s2
theorem ref04_Same_l1_eq (a0 : (List S_api_Step)) (a1 : (List S_api_Step)) (s2 : Nat) : ref04_Same_l1 a0 a1 s2 = ref04_Same_l1b a0 a1 (ref04_Same_l1 a0 a1) s2 :=
 fixO_eq (ι := Nat) (ρ := fun _ => Bool) (Φ := fun g i => ref04_Same_l1b a0 a1 (fun s2 => g s2) i) (fun i => ref04_Same_l1b_cm (ι := Nat) (ρ := fun _ => Bool) (fun g => (fun s2 => g s2)) (fun _ => cm_app) a0 a1 i) s2
noncomputable def p_ref04_Same (a0 : (List S_api_Step)) (a1 : (List S_api_Step)) : Option Bool :=
 bif ((((a0).length : Nat) : Int) != (((a1).length : Nat) : Int)) then (
  some false
 ) else (
  ref04_Same_l1 a0 a1 0
 )
theorem s_ref04_Same (a0 : (List S_api_Step)) (a1 : (List S_api_Step)) (r : Bool) (h : p_ref04_Same a0 a1 = some r) : PCalls Try.prog 12 [(PV.sl none 57 3 (List.map of_api_Step a0)), (PV.sl none 57 3 (List.map of_api_Step a1))] (BO r) := by
 unfold p_ref04_Same at h
 refine acalls_of Try.func12 rfl Try.ntmps12 Try.results12 rfl (aw_of_bw ?_)
 change BW _ _ _ ⟨[(0, (PV.sl none 57 3 (List.map of_api_Step a0))), (1, (PV.sl none 57 3 (List.map of_api_Step a1)))], [], _⟩ _
 refine bR ?_
 refine sA rfl rfl rfl rfl rfl (ao_nil ?_)
 change BW _ _ _ _ _
 refine bw_seq ?_
 refine bR ?_
 refine sM rfl rfl rfl rfl rfl ?_
 refine sS rfl rfl rfl (op1_lenM Try.underlying42 rfl rfl) ?_
 refine sM rfl rfl rfl rfl rfl ?_
 refine sS rfl rfl rfl (op1_lenM Try.underlying42 rfl rfl) ?_
 refine sS rfl rfl rfl ((op1_cmp rfl rfl rfl rfl).cast (y := (BO (((((a0).length : Nat) : Int) != (((a1).length : Nat) : Int))))) rfl rfl) (ao_nil ?_)
 change BW _ _ _ _ _
 refine bw_cond rfl ?_ ?_
 ·intro hc1; replace h := ocond_t hc1 h
  refine bR ?_
  refine sA rfl rfl rfl rfl rfl (ao_nil ?_)
  change BW _ _ _ _ _
  refine bw_ret ?_
  change ∃ xs, _ = some xs ∧ EndOk _ _ _ _
  obtain rfl := Option.some.inj h
  exact ⟨_, rfl, endOk0 (y := (BO false)) (Wk.refl _) rfl ⟨rfl, rfl⟩⟩
 ·intro hc1; replace h := ocond_f hc1 h
  refine bw_skip ?_
  change BW _ _ _ _ _
  refine bw_seq ?_
  refine bR ?_
  refine sA rfl rfl rfl rfl rfl (ao_nil ?_)
  change BW _ _ _ _ _
  refine bw_block ?_
  change BW _ _ _ _ _
  unfold ref04_Same_l1 at h
  refine bw_loop (σ := Nat) (fun i => [(0, (PV.sl none 57 3 (List.map of_api_Step a0))), (1, (PV.sl none 57 3 (List.map of_api_Step a1))), (5, (I64 (((i : Nat) : Int))))]) (fun i => []) 0 h ?_ ?_ ?_
  ·intro i; exact ⟨Nat.le_of_ble_eq_true rfl, ⟨(il_nil (ids_slM ids_S_api_Step _)), ⟨(il_nil (ids_slM ids_S_api_Step _)), ⟨(il_nil rfl), trivial⟩⟩⟩, trivial⟩
  ·exact ⟨.nil, (sC rfl (sC rfl (sC rfl sub_nil)))⟩
  ·rintro g1_f s2 h; replace h : ref04_Same_l1b a0 a1 (fun y0 => g1_f y0) s2 = some r := h; unfold ref04_Same_l1b at h
   change BW _ _ _ ⟨[(0, (PV.sl none 57 3 (List.map of_api_Step a0))), (1, (PV.sl none 57 3 (List.map of_api_Step a1))), (5, (I64 (((s2 : Nat) : Int))))], [], _⟩ _
   refine bw_seq ?_
   refine bR ?_
   refine sM rfl rfl rfl rfl rfl ?_
   refine sM rfl rfl rfl rfl rfl ?_
   refine sS rfl rfl rfl (op1_lenM Try.underlying42 rfl rfl) ?_
   refine sS rfl rfl rfl ((op1_cmp rfl rfl rfl rfl).cast (y := (BO ((decide (((s2 : Nat) : Int) < (((a0).length : Nat) : Int)))))) rfl rfl) (ao_nil ?_)
   change BW _ _ _ _ _
   refine bw_len (t := 12) rfl fun hb4 => ?_
   try rw [List.length_map] at hb4
   refine bw_cond rfl ?_ ?_
   ·intro hc3; replace h := ocond_t hc3 h
    have hc3_ := of_decide_eq_true hc3
    refine bw_skip ?_
    change BW _ _ _ _ _
    refine bw_seq ?_
    refine bw_block ?_
    change BW _ _ _ _ _
    refine bw_seq (bw_tail 8 [] [] mo (by kernel_rfl) ?_)
    refine ac_go rfl rfl rfl rfl (fun H hp => op1_move rfl rfl) ?_
    refine ac_go rfl rfl rfl rfl (fun H hp => op1_move rfl rfl) ?_
    obtain ⟨x5, hx5, h⟩ := obind h
    refine ac_go rfl rfl rfl rfl (fun H hp => op1_idxN (i := s2) Try.underlying42 inf_57 rfl rfl rfl hx5 rfl) ?_
    refine ac_go rfl rfl rfl rfl (fun H hp => op1_ldPW inf_57 Try.underlying57 rfl rfl rfl rfl rfl) ?_
    refine ac_go rfl rfl rfl rfl (fun H hp => op1_move rfl rfl) ?_
    refine ac_go rfl rfl rfl rfl (fun H hp => op1_move rfl rfl) ?_
    obtain ⟨x6, hx6, h⟩ := obind h
    refine ac_go rfl rfl rfl rfl (fun H hp => op1_idxN (i := s2) Try.underlying42 inf_57 rfl rfl rfl hx6 rfl) ?_
    refine ac_go rfl rfl rfl rfl (fun H hp => op1_ldPW inf_57 Try.underlying57 rfl rfl rfl rfl rfl) ?_
    refine ac_nil ?_
    change AO _ _ _ _ _
    refine sS rfl rfl rfl ((op1_step3 step_57 rfl rfl rfl true rfl).cast (y := (BO ((!(x5.f_Name == x6.f_Name && (x5.f_At == x6.f_At && x5.f_Index == x6.f_Index)))))) rfl rfl) (ao_nil ?_)
    change BW _ _ _ _ _
    refine bw_cond rfl ?_ ?_
    ·intro hc7; replace h := ocond_t hc7 h
     refine bR ?_
     refine sA rfl rfl rfl rfl rfl (ao_nil ?_)
     change BW _ _ _ _ _
     refine bw_ret ?_
     change ∃ xs, _ = some xs ∧ EndOk _ _ _ _
     obtain rfl := Option.some.inj h
     exact ⟨_, rfl, endOk0 (y := (BO false)) (Wk.refl _) rfl ⟨rfl, rfl⟩⟩
    ·intro hc7; replace h := ocond_f hc7 h
     refine bw_skip ?_
     change BW _ _ _ _ _
     refine bw_region ?_
     refine sM rfl rfl rfl rfl rfl ?_
     refine sS rfl rfl rfl (op1_incN (k := s2) (c := 1) rfl rfl rfl (by omega)) ?_
     refine sA rfl rfl rfl rfl rfl (ao_nil ?_)
     exact ⟨rfl, (s2 + 1), h, ⟨.nil, (sC rfl (sC rfl (sC rfl sub_nil)))⟩⟩
   ·intro hc3; replace h := ocond_f hc3 h
    refine bw_exit ?_
    change BW _ _ _ _ _
    refine bR ?_
    refine sA rfl rfl rfl rfl rfl (ao_nil ?_)
    change BW _ _ _ _ _
    refine bw_ret ?_
    change ∃ xs, _ = some xs ∧ EndOk _ _ _ _
    obtain rfl := Option.some.inj h
    exact ⟨_, rfl, endOk0 (y := (BO true)) (Wk.refl _) rfl ⟨rfl, rfl⟩⟩
noncomputable def law24_MergeTurned_j1 (g1 : Nat → Option Bool) (s10 : Nat) (s13 : Bool) : Option Bool :=
 bif s13 then (
  some false
 ) else (
  g1 (s10 + 1)
 )
theorem law24_MergeTurned_j1_cm {ι : Type} {ρ : ι → Type} (g1 : (∀ i, Option (ρ i)) → Nat → Option Bool) (h_g1 : ∀ y0, CM (fun G => g1 G y0)) (s10 : Nat) (s13 : Bool) : CM (fun G : (∀ i, Option (ρ i)) => law24_MergeTurned_j1 (g1 G) s10 s13) := by
 simp only [law24_MergeTurned_j1]
 repeat (first | exact cm_const | exact h_g1 _ | refine cm_cond ?_ ?_ | refine cm_bind ?_ (fun _ => ?_))
noncomputable def law24_MergeTurned_j2 (x6 : (V × (List S_api_Conflict) × Int)) (x7 : (V × (List S_api_Conflict) × Int)) (x8 : (Bool × Int)) (s39 : Bool) : Option Bool :=
 bif s39 then (
  bif (x6.2.2 == 0) then (
   bif (x7.2.2 == 0) then (
    some true
   ) else (
    some (x7.1).isNil
   )
  ) else (
   bif (x6.1).isNil then (
    bif (x7.2.2 == 0) then (
     some true
    ) else (
     some (x7.1).isNil
    )
   ) else (
    some false
   )
  )
 ) else (
  bif (x8.2 == 0) then (
   bif x8.1 then (
    Option.bind (p_value_Same x6.1 x7.1) fun x47 =>
    some x47
   ) else (
    some false
   )
  ) else (
   some false
  )
 )
noncomputable def law24_MergeTurned_l1b (x6 : (V × (List S_api_Conflict) × Int)) (x7 : (V × (List S_api_Conflict) × Int)) (x8 : (Bool × Int)) (g1 : Nat → Option Bool) (s10 : Nat) : Option Bool :=
 bif (decide (((s10 : Nat) : Int) < (((x6.2.1).length : Nat) : Int))) then (
  Option.bind ((x6.2.1)[s10]?) fun x15 =>
  Option.bind ((x7.2.1)[s10]?) fun x16 =>
  Option.bind (p_ref04_Same x15.f_Way x16.f_Way) fun x17 =>
  bif (!x17) then (
   law24_MergeTurned_j1 g1 s10 true
  ) else (
   Option.bind ((x6.2.1)[s10]?) fun x19 =>
   Option.bind ((x7.2.1)[s10]?) fun x20 =>
   bif (!(x19.f_Had == x20.f_Had)) then (
    law24_MergeTurned_j1 g1 s10 true
   ) else (
    Option.bind ((x6.2.1)[s10]?) fun x22 =>
    Option.bind ((x7.2.1)[s10]?) fun x23 =>
    bif (!(x22.f_WeHave == x23.f_TheyHave)) then (
     law24_MergeTurned_j1 g1 s10 true
    ) else (
     Option.bind ((x6.2.1)[s10]?) fun x25 =>
     Option.bind ((x7.2.1)[s10]?) fun x26 =>
     bif (!(x25.f_TheyHave == x26.f_WeHave)) then (
      law24_MergeTurned_j1 g1 s10 true
     ) else (
      Option.bind ((x6.2.1)[s10]?) fun x28 =>
      Option.bind ((x7.2.1)[s10]?) fun x29 =>
      Option.bind (p_value_Same x28.f_Ours x29.f_Theirs) fun x30 =>
      bif (!x30) then (
       law24_MergeTurned_j1 g1 s10 true
      ) else (
       Option.bind ((x6.2.1)[s10]?) fun x32 =>
       Option.bind ((x7.2.1)[s10]?) fun x33 =>
       Option.bind (p_value_Same x32.f_Theirs x33.f_Ours) fun x34 =>
       bif (!x34) then (
        law24_MergeTurned_j1 g1 s10 true
       ) else (
        Option.bind ((x6.2.1)[s10]?) fun x36 =>
        Option.bind ((x7.2.1)[s10]?) fun x37 =>
        Option.bind (p_value_Same x36.f_Base x37.f_Base) fun x38 =>
        law24_MergeTurned_j1 g1 s10 (!x38)
       )
      )
     )
    )
   )
  )
 ) else (
  bif (x6.2.2 != 0) then (
   law24_MergeTurned_j2 x6 x7 x8 true
  ) else (
   bif (x7.2.2 != 0) then (
    law24_MergeTurned_j2 x6 x7 x8 true
   ) else (
    law24_MergeTurned_j2 x6 x7 x8 (decide ((((x6.2.1).length : Nat) : Int) > 0))
   )
  )
 )
theorem law24_MergeTurned_l1b_cm {ι : Type} {ρ : ι → Type} (g1 : (∀ i, Option (ρ i)) → Nat → Option Bool) (h_g1 : ∀ y0, CM (fun G => g1 G y0)) (x6 : (V × (List S_api_Conflict) × Int)) (x7 : (V × (List S_api_Conflict) × Int)) (x8 : (Bool × Int)) (s10 : Nat) : CM (fun G : (∀ i, Option (ρ i)) => law24_MergeTurned_l1b x6 x7 x8 (g1 G) s10) := by
 simp only [law24_MergeTurned_l1b]
 repeat (first | exact cm_const | exact h_g1 _ | apply law24_MergeTurned_j1_cm | apply law24_MergeTurned_j2_cm | refine cm_cond ?_ ?_ | refine cm_bind ?_ (fun _ => ?_) | intro _ | assumption)
noncomputable def law24_MergeTurned_l1 (x6 : (V × (List S_api_Conflict) × Int)) (x7 : (V × (List S_api_Conflict) × Int)) (x8 : (Bool × Int)) (s10 : Nat) : Option Bool :=
 fixO (ι := Nat) (ρ := fun _ => Bool) (fun g i => law24_MergeTurned_l1b x6 x7 x8 (fun s10 => g s10) i) s10
theorem law24_MergeTurned_l1_eq (x6 : (V × (List S_api_Conflict) × Int)) (x7 : (V × (List S_api_Conflict) × Int)) (x8 : (Bool × Int)) (s10 : Nat) : law24_MergeTurned_l1 x6 x7 x8 s10 = law24_MergeTurned_l1b x6 x7 x8 (law24_MergeTurned_l1 x6 x7 x8) s10 :=
 fixO_eq (ι := Nat) (ρ := fun _ => Bool) (Φ := fun g i => law24_MergeTurned_l1b x6 x7 x8 (fun s10 => g s10) i) (fun i => law24_MergeTurned_l1b_cm (ι := Nat) (ρ := fun _ => Bool) (fun g => (fun s10 => g s10)) (fun _ => cm_app) x6 x7 x8 i) s10
noncomputable def p_law24_MergeTurned (a0 : Term) (a1 : Term) (a2 : Term) : Option Bool :=
 Option.bind (p_law24_lives) fun x1 =>
 bif (!x1) then (
  some false
 ) else (
  Option.bind (p_mk_Built a0) fun x3 =>
  Option.bind (p_mk_Built a1) fun x4 =>
  Option.bind (p_mk_Built a2) fun x5 =>
  Option.bind (p_merge_Threenil x3 x4 x5) fun x6 =>
  Option.bind (p_merge_Threenil x3 x5 x4) fun x7 =>
  Option.bind (p_merge_Clean x3 x4 x5) fun x8 =>
  bif ((((x6.2.1).length : Nat) : Int) != (((x7.2.1).length : Nat) : Int)) then (
   some false
  ) else (
   law24_MergeTurned_l1 x6 x7 x8 0
  )
 )
theorem s_law24_MergeTurned (a0 : Term) (a1 : Term) (a2 : Term) (r : Bool) (h : p_law24_MergeTurned a0 a1 a2 = some r) : PCalls Try.prog 5 [(ofTermX a0), (ofTermX a1), (ofTermX a2)] (BO r) := by
 unfold p_law24_MergeTurned at h
 refine acalls_of Try.func5 rfl Try.ntmps5 Try.results5 rfl (aw_of_bw ?_)
 change BW _ _ _ ⟨[(0, (ofTermX a0)), (1, (ofTermX a1)), (2, (ofTermX a2))], [], _⟩ _
 refine bR ?_
 refine sS rfl rfl rfl (op1_box rfl rfl rfl) ?_
 refine sS rfl rfl rfl (op1_box rfl rfl rfl) ?_
 refine sS rfl rfl rfl (op1_box rfl rfl rfl) ?_
 refine sA rfl rfl rfl rfl rfl (ao_nil ?_)
 change BW _ _ _ _ _
 refine bw_seq ?_
 refine bR ?_
 obtain ⟨x1, hx1, h⟩ := obind h
 refine sS rfl rfl rfl (op1_pcall rfl en_7 rfl .nil trivial (s_law24_lives  x1 hx1) rfl) ?_
 refine sS rfl rfl rfl (op1_not rfl rfl) (ao_nil ?_)
 change BW _ _ _ _ _
 refine bw_cond rfl ?_ ?_
 ·intro hc2; replace h := ocond_t hc2 h
  refine bR ?_
  refine sA rfl rfl rfl rfl rfl (ao_nil ?_)
  change BW _ _ _ _ _
  refine bw_ret ?_
  change ∃ xs, _ = some xs ∧ EndOk _ _ _ _
  obtain rfl := Option.some.inj h
  exact ⟨_, rfl, endOk0 (y := (BO false)) (Wk.refl _) rfl ⟨rfl, rfl⟩⟩
 ·intro hc2; replace h := ocond_f hc2 h
  refine bw_skip ?_
  change BW _ _ _ _ _
  refine bw_seq (bw_tail 5 [] [0, 1, 2] mo (by kernel_rfl) ?_)
  refine ac_go rfl rfl rfl rfl (fun H hp => (op1_ldRA inf_29 Try.underlying29 rfl rfl rfl (hp.at rfl rfl) rfl rfl)) ?_
  obtain ⟨x3, hx3, h⟩ := obind h
  refine ac_go rfl rfl rfl rfl (fun H hp => op1_pcall rfl en_8 rfl (.cons (Wk.refl _) .nil) ⟨(ids_TermX a0), trivial⟩ (s_mk_Built a0 x3 hx3) (ids_V x3)) ?_
  refine ac_go rfl rfl rfl rfl (fun H hp => (op1_ldRA inf_29 Try.underlying29 rfl rfl rfl (hp.at rfl rfl) rfl rfl)) ?_
  obtain ⟨x4, hx4, h⟩ := obind h
  refine ac_go rfl rfl rfl rfl (fun H hp => op1_pcall rfl en_8 rfl (.cons (Wk.refl _) .nil) ⟨(ids_TermX a1), trivial⟩ (s_mk_Built a1 x4 hx4) (ids_V x4)) ?_
  refine ac_go rfl rfl rfl rfl (fun H hp => (op1_ldRA inf_29 Try.underlying29 rfl rfl rfl (hp.at rfl rfl) rfl rfl)) ?_
  refine ac_nil ?_
  change AO _ _ _ _ _
  obtain ⟨x5, hx5, h⟩ := obind h
  refine sS rfl rfl rfl (op1_pcall rfl en_8 rfl (.cons (Wk.refl _) .nil) ⟨(ids_TermX a2), trivial⟩ (s_mk_Built a2 x5 hx5) (ids_V x5)) ?_
  refine sA rfl rfl rfl rfl rfl ?_
  refine sA rfl rfl rfl rfl rfl ?_
  refine sA rfl rfl rfl rfl rfl (ao_nil ?_)
  change BW _ _ _ _ _
  refine bR ?_
  refine sM rfl rfl rfl rfl rfl ?_
  refine sM rfl rfl rfl rfl rfl ?_
  refine sM rfl rfl rfl rfl rfl ?_
  obtain ⟨x6, hx6, h⟩ := obind h
  refine sS rfl rfl rfl (op1_pcall rfl en_9 rfl (.cons (Wk.refl _) (.cons (Wk.refl _) (.cons (Wk.refl _) (.cons (Wk.refl _) .nil)))) ⟨(ids_V x3), ⟨(ids_V x4), ⟨(ids_V x5), ⟨rfl, trivial⟩⟩⟩⟩ (s_merge_Threenil x3 x4 x5 x6 hx6) (ids_tup_cons (ids_V x6.1) (ids_tup_cons (ids_slM ids_S_api_Conflict x6.2.1) (ids_tup_cons rfl ids_tup_nil)))) ?_
  refine sM rfl rfl rfl rfl rfl ?_
  refine sS rfl rfl rfl (op1_ext rfl rfl rfl) ?_
  refine sS rfl rfl rfl (op1_ext rfl rfl rfl) ?_
  refine sS rfl rfl rfl (op1_ext rfl rfl rfl) ?_
  refine sA rfl rfl rfl rfl rfl ?_
  refine sA rfl rfl rfl rfl rfl ?_
  refine sA rfl rfl rfl rfl rfl (ao_nil ?_)
  change BW _ _ _ _ _
  refine bR ?_
  refine sM rfl rfl rfl rfl rfl ?_
  refine sM rfl rfl rfl rfl rfl ?_
  refine sM rfl rfl rfl rfl rfl ?_
  obtain ⟨x7, hx7, h⟩ := obind h
  refine sS rfl rfl rfl (op1_pcall rfl en_9 rfl (.cons (Wk.refl _) (.cons (Wk.refl _) (.cons (Wk.refl _) (.cons (Wk.refl _) .nil)))) ⟨(ids_V x3), ⟨(ids_V x5), ⟨(ids_V x4), ⟨rfl, trivial⟩⟩⟩⟩ (s_merge_Threenil x3 x5 x4 x7 hx7) (ids_tup_cons (ids_V x7.1) (ids_tup_cons (ids_slM ids_S_api_Conflict x7.2.1) (ids_tup_cons rfl ids_tup_nil)))) ?_
  refine sM rfl rfl rfl rfl rfl ?_
  refine sS rfl rfl rfl (op1_ext rfl rfl rfl) ?_
  refine sS rfl rfl rfl (op1_ext rfl rfl rfl) ?_
  refine sS rfl rfl rfl (op1_ext rfl rfl rfl) ?_
  refine sA rfl rfl rfl rfl rfl ?_
  refine sA rfl rfl rfl rfl rfl ?_
  refine sA rfl rfl rfl rfl rfl (ao_nil ?_)
  change BW _ _ _ _ _
  refine bR ?_
  refine sM rfl rfl rfl rfl rfl ?_
  refine sM rfl rfl rfl rfl rfl ?_
  refine sM rfl rfl rfl rfl rfl ?_
  obtain ⟨x8, hx8, h⟩ := obind h
  refine sS rfl rfl rfl (op1_pcall rfl en_11 rfl (.cons (Wk.refl _) (.cons (Wk.refl _) (.cons (Wk.refl _) .nil))) ⟨(ids_V x3), ⟨(ids_V x4), ⟨(ids_V x5), trivial⟩⟩⟩ (s_merge_Clean x3 x4 x5 x8 hx8) (ids_tup_cons rfl (ids_tup_cons rfl ids_tup_nil))) ?_
  refine sM rfl rfl rfl rfl rfl ?_
  refine sS rfl rfl rfl (op1_ext rfl rfl rfl) ?_
  refine sS rfl rfl rfl (op1_ext rfl rfl rfl) ?_
  refine sA rfl rfl rfl rfl rfl ?_
  refine sA rfl rfl rfl rfl rfl (ao_nil ?_)
  change BW _ _ _ _ _
  refine bw_seq ?_
  refine bR ?_
  refine sM rfl rfl rfl rfl rfl ?_
  refine sS rfl rfl rfl (op1_lenM Try.underlying32 rfl rfl) ?_
  refine sM rfl rfl rfl rfl rfl ?_
  refine sS rfl rfl rfl (op1_lenM Try.underlying32 rfl rfl) ?_
  refine sS rfl rfl rfl ((op1_cmp rfl rfl rfl rfl).cast (y := (BO (((((x6.2.1).length : Nat) : Int) != (((x7.2.1).length : Nat) : Int))))) rfl rfl) (ao_nil ?_)
  change BW _ _ _ _ _
  refine bw_cond rfl ?_ ?_
  ·intro hc9; replace h := ocond_t hc9 h
   refine bR ?_
   refine sA rfl rfl rfl rfl rfl (ao_nil ?_)
   change BW _ _ _ _ _
   refine bw_ret ?_
   change ∃ xs, _ = some xs ∧ EndOk _ _ _ _
   obtain rfl := Option.some.inj h
   exact ⟨_, rfl, endOk0 (y := (BO false)) (Wk.refl _) rfl ⟨rfl, rfl⟩⟩
  ·intro hc9; replace h := ocond_f hc9 h
   refine bw_skip ?_
   change BW _ _ _ _ _
   refine bw_seq ?_
   refine bR ?_
   refine sA rfl rfl rfl rfl rfl (ao_nil ?_)
   change BW _ _ _ _ _
   refine bw_block ?_
   change BW _ _ _ _ _
   unfold law24_MergeTurned_l1 at h
   refine bw_loop (σ := Nat) (fun i => [(10, (ofV x6.1)), (11, (PV.sl none 44 7 (List.map of_api_Conflict x6.2.1))), (12, (I64 x6.2.2)), (13, (ofV x7.1)), (14, (PV.sl none 44 7 (List.map of_api_Conflict x7.2.1))), (15, (I64 x7.2.2)), (16, (BO x8.1)), (17, (I64 x8.2)), (18, (I64 (((i : Nat) : Int))))]) (fun i => []) 0 h ?_ ?_ ?_
   ·intro i; exact ⟨Nat.le_of_ble_eq_true rfl, ⟨(il_nil (ids_V _)), ⟨(il_nil (ids_slM ids_S_api_Conflict _)), ⟨(il_nil rfl), ⟨(il_nil (ids_V _)), ⟨(il_nil (ids_slM ids_S_api_Conflict _)), ⟨(il_nil rfl), ⟨(il_nil rfl), ⟨(il_nil rfl), ⟨(il_nil rfl), trivial⟩⟩⟩⟩⟩⟩⟩⟩⟩, trivial⟩
   ·exact ⟨.nil, (sC rfl (sC rfl (sC rfl (sC rfl (sC rfl (sC rfl (sC rfl (sC rfl (sC rfl sub_nil)))))))))⟩
   ·rintro g1_f s10 h; replace h : law24_MergeTurned_l1b x6 x7 x8 (fun y0 => g1_f y0) s10 = some r := h; unfold law24_MergeTurned_l1b at h
    change BW _ _ _ ⟨[(10, (ofV x6.1)), (11, (PV.sl none 44 7 (List.map of_api_Conflict x6.2.1))), (12, (I64 x6.2.2)), (13, (ofV x7.1)), (14, (PV.sl none 44 7 (List.map of_api_Conflict x7.2.1))), (15, (I64 x7.2.2)), (16, (BO x8.1)), (17, (I64 x8.2)), (18, (I64 (((s10 : Nat) : Int))))], [], _⟩ _
    refine bw_seq ?_
    refine bR ?_
    refine sM rfl rfl rfl rfl rfl ?_
    refine sM rfl rfl rfl rfl rfl ?_
    refine sS rfl rfl rfl (op1_lenM Try.underlying32 rfl rfl) ?_
    refine sS rfl rfl rfl ((op1_cmp rfl rfl rfl rfl).cast (y := (BO ((decide (((s10 : Nat) : Int) < (((x6.2.1).length : Nat) : Int)))))) rfl rfl) (ao_nil ?_)
    change BW _ _ _ _ _
    refine bw_len (t := 56) rfl fun hb12 => ?_
    try rw [List.length_map] at hb12
    refine bw_cond rfl ?_ ?_
    ·intro hc11; replace h := ocond_t hc11 h
     have hc11_ := of_decide_eq_true hc11
     refine bw_skip ?_
     change BW _ _ _ _ _
     refine bw_seq ?_
     refine bw_block ?_
     change BW _ _ _ _ _
     refine bw_seqJ (ι := Bool) (fun i => law24_MergeTurned_j1 (fun y0 => g1_f y0) s10 i = some r) (fun i => [(10, (ofV x6.1)), (11, (PV.sl none 44 7 (List.map of_api_Conflict x6.2.1))), (12, (I64 x6.2.2)), (13, (ofV x7.1)), (14, (PV.sl none 44 7 (List.map of_api_Conflict x7.2.1))), (15, (I64 x7.2.2)), (16, (BO x8.1)), (17, (I64 x8.2)), (18, (I64 (((s10 : Nat) : Int)))), (153, (BO i))]) (fun i => []) ?_ ?_ ?_
     ·intro i; exact ⟨Nat.le_of_ble_eq_true rfl, ⟨(il_nil (ids_V _)), ⟨(il_nil (ids_slM ids_S_api_Conflict _)), ⟨(il_nil rfl), ⟨(il_nil (ids_V _)), ⟨(il_nil (ids_slM ids_S_api_Conflict _)), ⟨(il_nil rfl), ⟨(il_nil rfl), ⟨(il_nil rfl), ⟨(il_nil rfl), ⟨(il_nil rfl), trivial⟩⟩⟩⟩⟩⟩⟩⟩⟩⟩, trivial⟩
     ·rintro s13 h; replace h : law24_MergeTurned_j1 (fun y0 => g1_f y0) s10 s13 = some r := h; unfold law24_MergeTurned_j1 at h
      change BW _ _ _ ⟨[(10, (ofV x6.1)), (11, (PV.sl none 44 7 (List.map of_api_Conflict x6.2.1))), (12, (I64 x6.2.2)), (13, (ofV x7.1)), (14, (PV.sl none 44 7 (List.map of_api_Conflict x7.2.1))), (15, (I64 x7.2.2)), (16, (BO x8.1)), (17, (I64 x8.2)), (18, (I64 (((s10 : Nat) : Int)))), (153, (BO s13))], [], _⟩ _
      refine bw_cond rfl ?_ ?_
      ·intro hc14; replace h := ocond_t hc14 h
       refine bR ?_
       refine sA rfl rfl rfl rfl rfl (ao_nil ?_)
       change BW _ _ _ _ _
       refine bw_ret ?_
       change ∃ xs, _ = some xs ∧ EndOk _ _ _ _
       obtain rfl := Option.some.inj h
       exact ⟨_, rfl, endOk0 (y := (BO false)) (Wk.refl _) rfl ⟨rfl, rfl⟩⟩
      ·intro hc14; replace h := ocond_f hc14 h
       refine bw_skip ?_
       change BW _ _ _ _ _
       refine bw_region ?_
       refine sM rfl rfl rfl rfl rfl ?_
       refine sS rfl rfl rfl (op1_incN (k := s10) (c := 1) rfl rfl rfl (by omega)) ?_
       refine sA rfl rfl rfl rfl rfl (ao_nil ?_)
       exact ⟨rfl, (s10 + 1), h, ⟨.nil, (sC rfl (sC rfl (sC rfl (sC rfl (sC rfl (sC rfl (sC rfl (sC rfl (sC rfl sub_nil)))))))))⟩⟩
     ·refine bw_tail 90 [] [] mo (by kernel_rfl) ?_
      refine ac_go rfl rfl rfl rfl (fun H hp => op1_move rfl rfl) ?_
      refine ac_go rfl rfl rfl rfl (fun H hp => op1_move rfl rfl) ?_
      obtain ⟨x15, hx15, h⟩ := obind h
      refine ac_go rfl rfl rfl rfl (fun H hp => op1_idxN (i := s10) Try.underlying32 inf_44 rfl rfl rfl hx15 rfl) ?_
      refine ac_go rfl rfl rfl rfl (fun H hp => op1_faP st_44 (i := 0) rfl rfl rfl) ?_
      refine ac_go rfl rfl rfl rfl (fun H hp => op1_ldP (y := (PV.sl none 57 3 (List.map of_api_Step x15.f_Way))) Try.underlying42 rfl rfl rfl rfl) ?_
      refine ac_go rfl rfl rfl rfl (fun H hp => op1_move rfl rfl) ?_
      refine ac_go rfl rfl rfl rfl (fun H hp => op1_move rfl rfl) ?_
      obtain ⟨x16, hx16, h⟩ := obind h
      refine ac_go rfl rfl rfl rfl (fun H hp => op1_idxN (i := s10) Try.underlying32 inf_44 rfl rfl rfl hx16 rfl) ?_
      refine ac_go rfl rfl rfl rfl (fun H hp => op1_faP st_44 (i := 0) rfl rfl rfl) ?_
      refine ac_go rfl rfl rfl rfl (fun H hp => op1_ldP (y := (PV.sl none 57 3 (List.map of_api_Step x16.f_Way))) Try.underlying42 rfl rfl rfl rfl) ?_
      obtain ⟨x17, hx17, h⟩ := obind h
      refine ac_go rfl rfl rfl rfl (fun H hp => op1_pcall rfl en_12 rfl (.cons (Wk.refl _) (.cons (Wk.refl _) .nil)) ⟨(ids_slM ids_S_api_Step x15.f_Way), ⟨(ids_slM ids_S_api_Step x16.f_Way), trivial⟩⟩ (s_ref04_Same x15.f_Way x16.f_Way x17 hx17) rfl) ?_
      refine ac_go rfl rfl rfl rfl (fun H hp => op1_not rfl rfl) ?_
      refine ac_go rfl rfl rfl rfl (fun H hp => op1_move rfl rfl) ?_
      refine ac_cases 73 rfl ?_ ?_
      ·intro hb18; replace h := ocond_t hb18 h
       refine ac_no rfl rfl rfl rfl rfl rfl rfl ?_
       refine ac_no rfl rfl rfl rfl rfl rfl rfl ?_
       refine ac_no rfl rfl rfl rfl rfl rfl rfl ?_
       refine ac_no rfl rfl rfl rfl rfl rfl rfl ?_
       refine ac_no rfl rfl rfl rfl rfl rfl rfl ?_
       refine ac_no rfl rfl rfl rfl rfl rfl rfl ?_
       refine ac_no rfl rfl rfl rfl rfl rfl rfl ?_
       refine ac_no rfl rfl rfl rfl rfl rfl rfl ?_
       refine ac_no rfl rfl rfl rfl rfl rfl rfl ?_
       refine ac_no rfl rfl rfl rfl rfl rfl rfl ?_
       refine ac_no rfl rfl rfl rfl rfl rfl rfl ?_
       refine ac_go rfl rfl rfl rfl (fun H hp => op1_pickT rfl rfl rfl) ?_
       refine ac_go rfl rfl rfl rfl (fun H hp => op1_move rfl rfl) ?_
       refine ac_no rfl rfl rfl rfl rfl rfl rfl ?_
       refine ac_no rfl rfl rfl rfl rfl rfl rfl ?_
       refine ac_no rfl rfl rfl rfl rfl rfl rfl ?_
       refine ac_no rfl rfl rfl rfl rfl rfl rfl ?_
       refine ac_no rfl rfl rfl rfl rfl rfl rfl ?_
       refine ac_no rfl rfl rfl rfl rfl rfl rfl ?_
       refine ac_no rfl rfl rfl rfl rfl rfl rfl ?_
       refine ac_no rfl rfl rfl rfl rfl rfl rfl ?_
       refine ac_no rfl rfl rfl rfl rfl rfl rfl ?_
       refine ac_no rfl rfl rfl rfl rfl rfl rfl ?_
       refine ac_no rfl rfl rfl rfl rfl rfl rfl ?_
       refine ac_go rfl rfl rfl rfl (fun H hp => op1_pickT rfl rfl rfl) ?_
       refine ac_go rfl rfl rfl rfl (fun H hp => op1_move rfl rfl) ?_
       refine ac_no rfl rfl rfl rfl rfl rfl rfl ?_
       refine ac_no rfl rfl rfl rfl rfl rfl rfl ?_
       refine ac_no rfl rfl rfl rfl rfl rfl rfl ?_
       refine ac_no rfl rfl rfl rfl rfl rfl rfl ?_
       refine ac_no rfl rfl rfl rfl rfl rfl rfl ?_
       refine ac_no rfl rfl rfl rfl rfl rfl rfl ?_
       refine ac_no rfl rfl rfl rfl rfl rfl rfl ?_
       refine ac_no rfl rfl rfl rfl rfl rfl rfl ?_
       refine ac_no rfl rfl rfl rfl rfl rfl rfl ?_
       refine ac_no rfl rfl rfl rfl rfl rfl rfl ?_
       refine ac_no rfl rfl rfl rfl rfl rfl rfl ?_
       refine ac_go rfl rfl rfl rfl (fun H hp => op1_pickT rfl rfl rfl) ?_
       refine ac_go rfl rfl rfl rfl (fun H hp => op1_move rfl rfl) ?_
       refine ac_no rfl rfl rfl rfl rfl rfl rfl ?_
       refine ac_no rfl rfl rfl rfl rfl rfl rfl ?_
       refine ac_no rfl rfl rfl rfl rfl rfl rfl ?_
       refine ac_no rfl rfl rfl rfl rfl rfl rfl ?_
       refine ac_no rfl rfl rfl rfl rfl rfl rfl ?_
       refine ac_no rfl rfl rfl rfl rfl rfl rfl ?_
       refine ac_no rfl rfl rfl rfl rfl rfl rfl ?_
       refine ac_no rfl rfl rfl rfl rfl rfl rfl ?_
       refine ac_no rfl rfl rfl rfl rfl rfl rfl ?_
       refine ac_no rfl rfl rfl rfl rfl rfl rfl ?_
       refine ac_no rfl rfl rfl rfl rfl rfl rfl ?_
       refine ac_no rfl rfl rfl rfl rfl rfl rfl ?_
       refine ac_go rfl rfl rfl rfl (fun H hp => op1_pickT rfl rfl rfl) ?_
       refine ac_go rfl rfl rfl rfl (fun H hp => op1_move rfl rfl) ?_
       refine ac_no rfl rfl rfl rfl rfl rfl rfl ?_
       refine ac_no rfl rfl rfl rfl rfl rfl rfl ?_
       refine ac_no rfl rfl rfl rfl rfl rfl rfl ?_
       refine ac_no rfl rfl rfl rfl rfl rfl rfl ?_
       refine ac_no rfl rfl rfl rfl rfl rfl rfl ?_
       refine ac_no rfl rfl rfl rfl rfl rfl rfl ?_
       refine ac_no rfl rfl rfl rfl rfl rfl rfl ?_
       refine ac_no rfl rfl rfl rfl rfl rfl rfl ?_
       refine ac_no rfl rfl rfl rfl rfl rfl rfl ?_
       refine ac_no rfl rfl rfl rfl rfl rfl rfl ?_
       refine ac_no rfl rfl rfl rfl rfl rfl rfl ?_
       refine ac_no rfl rfl rfl rfl rfl rfl rfl ?_
       refine ac_go rfl rfl rfl rfl (fun H hp => op1_pickT rfl rfl rfl) ?_
       refine ac_go rfl rfl rfl rfl (fun H hp => op1_move rfl rfl) ?_
       refine ac_no rfl rfl rfl rfl rfl rfl rfl ?_
       refine ac_no rfl rfl rfl rfl rfl rfl rfl ?_
       refine ac_no rfl rfl rfl rfl rfl rfl rfl ?_
       refine ac_no rfl rfl rfl rfl rfl rfl rfl ?_
       refine ac_no rfl rfl rfl rfl rfl rfl rfl ?_
       refine ac_no rfl rfl rfl rfl rfl rfl rfl ?_
       refine ac_no rfl rfl rfl rfl rfl rfl rfl ?_
       refine ac_no rfl rfl rfl rfl rfl rfl rfl ?_
       refine ac_no rfl rfl rfl rfl rfl rfl rfl ?_
       refine ac_no rfl rfl rfl rfl rfl rfl rfl ?_
       refine ac_nil ?_
       change AO _ _ _ _ _
       refine ao_no rfl rfl rfl rfl rfl rfl ?_
       refine ao_no rfl rfl rfl rfl rfl rfl ?_
       refine sS rfl rfl rfl (op1_pickT rfl rfl rfl) (ao_nil ?_)
       exact ⟨rfl, true, h, ⟨.nil, (sC rfl (sC rfl (sC rfl (sC rfl (sC rfl (sC rfl (sC rfl (sC rfl (sC rfl (sC rfl sub_nil))))))))))⟩⟩
      ·intro hb18; replace h := ocond_f hb18 h
       refine ac_yes rfl rfl rfl rfl rfl rfl rfl (fun H hp => op1_move rfl rfl) ?_
       refine ac_yes rfl rfl rfl rfl rfl rfl rfl (fun H hp => op1_move rfl rfl) ?_
       obtain ⟨x19, hx19, h⟩ := obind h
       refine ac_yes rfl rfl rfl rfl rfl rfl rfl (fun H hp => op1_idxN (i := s10) Try.underlying32 inf_44 rfl rfl rfl hx19 rfl) ?_
       refine ac_yes rfl rfl rfl rfl rfl rfl rfl (fun H hp => op1_faP st_44 (i := 4) rfl rfl rfl) ?_
       refine ac_yes rfl rfl rfl rfl rfl rfl rfl (fun H hp => op1_ldP (y := (BO x19.f_Had)) Try.underlying4 rfl rfl rfl rfl) ?_
       refine ac_yes rfl rfl rfl rfl rfl rfl rfl (fun H hp => op1_move rfl rfl) ?_
       refine ac_yes rfl rfl rfl rfl rfl rfl rfl (fun H hp => op1_move rfl rfl) ?_
       obtain ⟨x20, hx20, h⟩ := obind h
       refine ac_yes rfl rfl rfl rfl rfl rfl rfl (fun H hp => op1_idxN (i := s10) Try.underlying32 inf_44 rfl rfl rfl hx20 rfl) ?_
       refine ac_yes rfl rfl rfl rfl rfl rfl rfl (fun H hp => op1_faP st_44 (i := 4) rfl rfl rfl) ?_
       refine ac_yes rfl rfl rfl rfl rfl rfl rfl (fun H hp => op1_ldP (y := (BO x20.f_Had)) Try.underlying4 rfl rfl rfl rfl) ?_
       refine ac_yes rfl rfl rfl rfl rfl rfl rfl (fun H hp => op1_neB Try.underlying4 rfl rfl rfl) ?_
       refine ac_go rfl rfl rfl rfl (fun H hp => op1_pickF rfl rfl rfl) ?_
       refine ac_go rfl rfl rfl rfl (fun H hp => op1_move rfl rfl) ?_
       refine ac_cases 86 rfl ?_ ?_
       ·intro hb21; replace h := ocond_t hb21 h
        refine ac_no rfl rfl rfl rfl rfl rfl rfl ?_
        refine ac_no rfl rfl rfl rfl rfl rfl rfl ?_
        refine ac_no rfl rfl rfl rfl rfl rfl rfl ?_
        refine ac_no rfl rfl rfl rfl rfl rfl rfl ?_
        refine ac_no rfl rfl rfl rfl rfl rfl rfl ?_
        refine ac_no rfl rfl rfl rfl rfl rfl rfl ?_
        refine ac_no rfl rfl rfl rfl rfl rfl rfl ?_
        refine ac_no rfl rfl rfl rfl rfl rfl rfl ?_
        refine ac_no rfl rfl rfl rfl rfl rfl rfl ?_
        refine ac_no rfl rfl rfl rfl rfl rfl rfl ?_
        refine ac_no rfl rfl rfl rfl rfl rfl rfl ?_
        refine ac_go rfl rfl rfl rfl (fun H hp => op1_pickT rfl rfl rfl) ?_
        refine ac_go rfl rfl rfl rfl (fun H hp => op1_move rfl rfl) ?_
        refine ac_no rfl rfl rfl rfl rfl rfl rfl ?_
        refine ac_no rfl rfl rfl rfl rfl rfl rfl ?_
        refine ac_no rfl rfl rfl rfl rfl rfl rfl ?_
        refine ac_no rfl rfl rfl rfl rfl rfl rfl ?_
        refine ac_no rfl rfl rfl rfl rfl rfl rfl ?_
        refine ac_no rfl rfl rfl rfl rfl rfl rfl ?_
        refine ac_no rfl rfl rfl rfl rfl rfl rfl ?_
        refine ac_no rfl rfl rfl rfl rfl rfl rfl ?_
        refine ac_no rfl rfl rfl rfl rfl rfl rfl ?_
        refine ac_no rfl rfl rfl rfl rfl rfl rfl ?_
        refine ac_no rfl rfl rfl rfl rfl rfl rfl ?_
        refine ac_go rfl rfl rfl rfl (fun H hp => op1_pickT rfl rfl rfl) ?_
        refine ac_go rfl rfl rfl rfl (fun H hp => op1_move rfl rfl) ?_
        refine ac_no rfl rfl rfl rfl rfl rfl rfl ?_
        refine ac_no rfl rfl rfl rfl rfl rfl rfl ?_
        refine ac_no rfl rfl rfl rfl rfl rfl rfl ?_
        refine ac_no rfl rfl rfl rfl rfl rfl rfl ?_
        refine ac_no rfl rfl rfl rfl rfl rfl rfl ?_
        refine ac_no rfl rfl rfl rfl rfl rfl rfl ?_
        refine ac_no rfl rfl rfl rfl rfl rfl rfl ?_
        refine ac_no rfl rfl rfl rfl rfl rfl rfl ?_
        refine ac_no rfl rfl rfl rfl rfl rfl rfl ?_
        refine ac_no rfl rfl rfl rfl rfl rfl rfl ?_
        refine ac_no rfl rfl rfl rfl rfl rfl rfl ?_
        refine ac_no rfl rfl rfl rfl rfl rfl rfl ?_
        refine ac_go rfl rfl rfl rfl (fun H hp => op1_pickT rfl rfl rfl) ?_
        refine ac_go rfl rfl rfl rfl (fun H hp => op1_move rfl rfl) ?_
        refine ac_no rfl rfl rfl rfl rfl rfl rfl ?_
        refine ac_no rfl rfl rfl rfl rfl rfl rfl ?_
        refine ac_no rfl rfl rfl rfl rfl rfl rfl ?_
        refine ac_no rfl rfl rfl rfl rfl rfl rfl ?_
        refine ac_no rfl rfl rfl rfl rfl rfl rfl ?_
        refine ac_no rfl rfl rfl rfl rfl rfl rfl ?_
        refine ac_no rfl rfl rfl rfl rfl rfl rfl ?_
        refine ac_no rfl rfl rfl rfl rfl rfl rfl ?_
        refine ac_no rfl rfl rfl rfl rfl rfl rfl ?_
        refine ac_no rfl rfl rfl rfl rfl rfl rfl ?_
        refine ac_no rfl rfl rfl rfl rfl rfl rfl ?_
        refine ac_no rfl rfl rfl rfl rfl rfl rfl ?_
        refine ac_go rfl rfl rfl rfl (fun H hp => op1_pickT rfl rfl rfl) ?_
        refine ac_go rfl rfl rfl rfl (fun H hp => op1_move rfl rfl) ?_
        refine ac_no rfl rfl rfl rfl rfl rfl rfl ?_
        refine ac_no rfl rfl rfl rfl rfl rfl rfl ?_
        refine ac_no rfl rfl rfl rfl rfl rfl rfl ?_
        refine ac_no rfl rfl rfl rfl rfl rfl rfl ?_
        refine ac_no rfl rfl rfl rfl rfl rfl rfl ?_
        refine ac_no rfl rfl rfl rfl rfl rfl rfl ?_
        refine ac_no rfl rfl rfl rfl rfl rfl rfl ?_
        refine ac_no rfl rfl rfl rfl rfl rfl rfl ?_
        refine ac_no rfl rfl rfl rfl rfl rfl rfl ?_
        refine ac_no rfl rfl rfl rfl rfl rfl rfl ?_
        refine ac_nil ?_
        change AO _ _ _ _ _
        refine ao_no rfl rfl rfl rfl rfl rfl ?_
        refine ao_no rfl rfl rfl rfl rfl rfl ?_
        refine sS rfl rfl rfl (op1_pickT rfl rfl rfl) (ao_nil ?_)
        exact ⟨rfl, true, h, ⟨.nil, (sC rfl (sC rfl (sC rfl (sC rfl (sC rfl (sC rfl (sC rfl (sC rfl (sC rfl (sC rfl sub_nil))))))))))⟩⟩
       ·intro hb21; replace h := ocond_f hb21 h
        refine ac_yes rfl rfl rfl rfl rfl rfl rfl (fun H hp => op1_move rfl rfl) ?_
        refine ac_yes rfl rfl rfl rfl rfl rfl rfl (fun H hp => op1_move rfl rfl) ?_
        obtain ⟨x22, hx22, h⟩ := obind h
        refine ac_yes rfl rfl rfl rfl rfl rfl rfl (fun H hp => op1_idxN (i := s10) Try.underlying32 inf_44 rfl rfl rfl hx22 rfl) ?_
        refine ac_yes rfl rfl rfl rfl rfl rfl rfl (fun H hp => op1_faP st_44 (i := 5) rfl rfl rfl) ?_
        refine ac_yes rfl rfl rfl rfl rfl rfl rfl (fun H hp => op1_ldP (y := (BO x22.f_WeHave)) Try.underlying4 rfl rfl rfl rfl) ?_
        refine ac_yes rfl rfl rfl rfl rfl rfl rfl (fun H hp => op1_move rfl rfl) ?_
        refine ac_yes rfl rfl rfl rfl rfl rfl rfl (fun H hp => op1_move rfl rfl) ?_
        obtain ⟨x23, hx23, h⟩ := obind h
        refine ac_yes rfl rfl rfl rfl rfl rfl rfl (fun H hp => op1_idxN (i := s10) Try.underlying32 inf_44 rfl rfl rfl hx23 rfl) ?_
        refine ac_yes rfl rfl rfl rfl rfl rfl rfl (fun H hp => op1_faP st_44 (i := 6) rfl rfl rfl) ?_
        refine ac_yes rfl rfl rfl rfl rfl rfl rfl (fun H hp => op1_ldP (y := (BO x23.f_TheyHave)) Try.underlying4 rfl rfl rfl rfl) ?_
        refine ac_yes rfl rfl rfl rfl rfl rfl rfl (fun H hp => op1_neB Try.underlying4 rfl rfl rfl) ?_
        refine ac_go rfl rfl rfl rfl (fun H hp => op1_pickF rfl rfl rfl) ?_
        refine ac_go rfl rfl rfl rfl (fun H hp => op1_move rfl rfl) ?_
        refine ac_cases 99 rfl ?_ ?_
        ·intro hb24; replace h := ocond_t hb24 h
         refine ac_no rfl rfl rfl rfl rfl rfl rfl ?_
         refine ac_no rfl rfl rfl rfl rfl rfl rfl ?_
         refine ac_no rfl rfl rfl rfl rfl rfl rfl ?_
         refine ac_no rfl rfl rfl rfl rfl rfl rfl ?_
         refine ac_no rfl rfl rfl rfl rfl rfl rfl ?_
         refine ac_no rfl rfl rfl rfl rfl rfl rfl ?_
         refine ac_no rfl rfl rfl rfl rfl rfl rfl ?_
         refine ac_no rfl rfl rfl rfl rfl rfl rfl ?_
         refine ac_no rfl rfl rfl rfl rfl rfl rfl ?_
         refine ac_no rfl rfl rfl rfl rfl rfl rfl ?_
         refine ac_no rfl rfl rfl rfl rfl rfl rfl ?_
         refine ac_go rfl rfl rfl rfl (fun H hp => op1_pickT rfl rfl rfl) ?_
         refine ac_go rfl rfl rfl rfl (fun H hp => op1_move rfl rfl) ?_
         refine ac_no rfl rfl rfl rfl rfl rfl rfl ?_
         refine ac_no rfl rfl rfl rfl rfl rfl rfl ?_
         refine ac_no rfl rfl rfl rfl rfl rfl rfl ?_
         refine ac_no rfl rfl rfl rfl rfl rfl rfl ?_
         refine ac_no rfl rfl rfl rfl rfl rfl rfl ?_
         refine ac_no rfl rfl rfl rfl rfl rfl rfl ?_
         refine ac_no rfl rfl rfl rfl rfl rfl rfl ?_
         refine ac_no rfl rfl rfl rfl rfl rfl rfl ?_
         refine ac_no rfl rfl rfl rfl rfl rfl rfl ?_
         refine ac_no rfl rfl rfl rfl rfl rfl rfl ?_
         refine ac_no rfl rfl rfl rfl rfl rfl rfl ?_
         refine ac_no rfl rfl rfl rfl rfl rfl rfl ?_
         refine ac_go rfl rfl rfl rfl (fun H hp => op1_pickT rfl rfl rfl) ?_
         refine ac_go rfl rfl rfl rfl (fun H hp => op1_move rfl rfl) ?_
         refine ac_no rfl rfl rfl rfl rfl rfl rfl ?_
         refine ac_no rfl rfl rfl rfl rfl rfl rfl ?_
         refine ac_no rfl rfl rfl rfl rfl rfl rfl ?_
         refine ac_no rfl rfl rfl rfl rfl rfl rfl ?_
         refine ac_no rfl rfl rfl rfl rfl rfl rfl ?_
         refine ac_no rfl rfl rfl rfl rfl rfl rfl ?_
         refine ac_no rfl rfl rfl rfl rfl rfl rfl ?_
         refine ac_no rfl rfl rfl rfl rfl rfl rfl ?_
         refine ac_no rfl rfl rfl rfl rfl rfl rfl ?_
         refine ac_no rfl rfl rfl rfl rfl rfl rfl ?_
         refine ac_no rfl rfl rfl rfl rfl rfl rfl ?_
         refine ac_no rfl rfl rfl rfl rfl rfl rfl ?_
         refine ac_go rfl rfl rfl rfl (fun H hp => op1_pickT rfl rfl rfl) ?_
         refine ac_go rfl rfl rfl rfl (fun H hp => op1_move rfl rfl) ?_
         refine ac_no rfl rfl rfl rfl rfl rfl rfl ?_
         refine ac_no rfl rfl rfl rfl rfl rfl rfl ?_
         refine ac_no rfl rfl rfl rfl rfl rfl rfl ?_
         refine ac_no rfl rfl rfl rfl rfl rfl rfl ?_
         refine ac_no rfl rfl rfl rfl rfl rfl rfl ?_
         refine ac_no rfl rfl rfl rfl rfl rfl rfl ?_
         refine ac_no rfl rfl rfl rfl rfl rfl rfl ?_
         refine ac_no rfl rfl rfl rfl rfl rfl rfl ?_
         refine ac_no rfl rfl rfl rfl rfl rfl rfl ?_
         refine ac_no rfl rfl rfl rfl rfl rfl rfl ?_
         refine ac_nil ?_
         change AO _ _ _ _ _
         refine ao_no rfl rfl rfl rfl rfl rfl ?_
         refine ao_no rfl rfl rfl rfl rfl rfl ?_
         refine sS rfl rfl rfl (op1_pickT rfl rfl rfl) (ao_nil ?_)
         exact ⟨rfl, true, h, ⟨.nil, (sC rfl (sC rfl (sC rfl (sC rfl (sC rfl (sC rfl (sC rfl (sC rfl (sC rfl (sC rfl sub_nil))))))))))⟩⟩
        ·intro hb24; replace h := ocond_f hb24 h
         refine ac_yes rfl rfl rfl rfl rfl rfl rfl (fun H hp => op1_move rfl rfl) ?_
         refine ac_yes rfl rfl rfl rfl rfl rfl rfl (fun H hp => op1_move rfl rfl) ?_
         obtain ⟨x25, hx25, h⟩ := obind h
         refine ac_yes rfl rfl rfl rfl rfl rfl rfl (fun H hp => op1_idxN (i := s10) Try.underlying32 inf_44 rfl rfl rfl hx25 rfl) ?_
         refine ac_yes rfl rfl rfl rfl rfl rfl rfl (fun H hp => op1_faP st_44 (i := 6) rfl rfl rfl) ?_
         refine ac_yes rfl rfl rfl rfl rfl rfl rfl (fun H hp => op1_ldP (y := (BO x25.f_TheyHave)) Try.underlying4 rfl rfl rfl rfl) ?_
         refine ac_yes rfl rfl rfl rfl rfl rfl rfl (fun H hp => op1_move rfl rfl) ?_
         refine ac_yes rfl rfl rfl rfl rfl rfl rfl (fun H hp => op1_move rfl rfl) ?_
         obtain ⟨x26, hx26, h⟩ := obind h
         refine ac_yes rfl rfl rfl rfl rfl rfl rfl (fun H hp => op1_idxN (i := s10) Try.underlying32 inf_44 rfl rfl rfl hx26 rfl) ?_
         refine ac_yes rfl rfl rfl rfl rfl rfl rfl (fun H hp => op1_faP st_44 (i := 5) rfl rfl rfl) ?_
         refine ac_yes rfl rfl rfl rfl rfl rfl rfl (fun H hp => op1_ldP (y := (BO x26.f_WeHave)) Try.underlying4 rfl rfl rfl rfl) ?_
         refine ac_yes rfl rfl rfl rfl rfl rfl rfl (fun H hp => op1_neB Try.underlying4 rfl rfl rfl) ?_
         refine ac_go rfl rfl rfl rfl (fun H hp => op1_pickF rfl rfl rfl) ?_
         refine ac_go rfl rfl rfl rfl (fun H hp => op1_move rfl rfl) ?_
         refine ac_cases 112 rfl ?_ ?_
         ·intro hb27; replace h := ocond_t hb27 h
          refine ac_no rfl rfl rfl rfl rfl rfl rfl ?_
          refine ac_no rfl rfl rfl rfl rfl rfl rfl ?_
          refine ac_no rfl rfl rfl rfl rfl rfl rfl ?_
          refine ac_no rfl rfl rfl rfl rfl rfl rfl ?_
          refine ac_no rfl rfl rfl rfl rfl rfl rfl ?_
          refine ac_no rfl rfl rfl rfl rfl rfl rfl ?_
          refine ac_no rfl rfl rfl rfl rfl rfl rfl ?_
          refine ac_no rfl rfl rfl rfl rfl rfl rfl ?_
          refine ac_no rfl rfl rfl rfl rfl rfl rfl ?_
          refine ac_no rfl rfl rfl rfl rfl rfl rfl ?_
          refine ac_no rfl rfl rfl rfl rfl rfl rfl ?_
          refine ac_no rfl rfl rfl rfl rfl rfl rfl ?_
          refine ac_go rfl rfl rfl rfl (fun H hp => op1_pickT rfl rfl rfl) ?_
          refine ac_go rfl rfl rfl rfl (fun H hp => op1_move rfl rfl) ?_
          refine ac_no rfl rfl rfl rfl rfl rfl rfl ?_
          refine ac_no rfl rfl rfl rfl rfl rfl rfl ?_
          refine ac_no rfl rfl rfl rfl rfl rfl rfl ?_
          refine ac_no rfl rfl rfl rfl rfl rfl rfl ?_
          refine ac_no rfl rfl rfl rfl rfl rfl rfl ?_
          refine ac_no rfl rfl rfl rfl rfl rfl rfl ?_
          refine ac_no rfl rfl rfl rfl rfl rfl rfl ?_
          refine ac_no rfl rfl rfl rfl rfl rfl rfl ?_
          refine ac_no rfl rfl rfl rfl rfl rfl rfl ?_
          refine ac_no rfl rfl rfl rfl rfl rfl rfl ?_
          refine ac_no rfl rfl rfl rfl rfl rfl rfl ?_
          refine ac_no rfl rfl rfl rfl rfl rfl rfl ?_
          refine ac_go rfl rfl rfl rfl (fun H hp => op1_pickT rfl rfl rfl) ?_
          refine ac_go rfl rfl rfl rfl (fun H hp => op1_move rfl rfl) ?_
          refine ac_no rfl rfl rfl rfl rfl rfl rfl ?_
          refine ac_no rfl rfl rfl rfl rfl rfl rfl ?_
          refine ac_no rfl rfl rfl rfl rfl rfl rfl ?_
          refine ac_no rfl rfl rfl rfl rfl rfl rfl ?_
          refine ac_no rfl rfl rfl rfl rfl rfl rfl ?_
          refine ac_no rfl rfl rfl rfl rfl rfl rfl ?_
          refine ac_no rfl rfl rfl rfl rfl rfl rfl ?_
          refine ac_no rfl rfl rfl rfl rfl rfl rfl ?_
          refine ac_no rfl rfl rfl rfl rfl rfl rfl ?_
          refine ac_no rfl rfl rfl rfl rfl rfl rfl ?_
          refine ac_nil ?_
          change AO _ _ _ _ _
          refine ao_no rfl rfl rfl rfl rfl rfl ?_
          refine ao_no rfl rfl rfl rfl rfl rfl ?_
          refine sS rfl rfl rfl (op1_pickT rfl rfl rfl) (ao_nil ?_)
          exact ⟨rfl, true, h, ⟨.nil, (sC rfl (sC rfl (sC rfl (sC rfl (sC rfl (sC rfl (sC rfl (sC rfl (sC rfl (sC rfl sub_nil))))))))))⟩⟩
         ·intro hb27; replace h := ocond_f hb27 h
          refine ac_yes rfl rfl rfl rfl rfl rfl rfl (fun H hp => op1_move rfl rfl) ?_
          refine ac_yes rfl rfl rfl rfl rfl rfl rfl (fun H hp => op1_move rfl rfl) ?_
          obtain ⟨x28, hx28, h⟩ := obind h
          refine ac_yes rfl rfl rfl rfl rfl rfl rfl (fun H hp => op1_idxN (i := s10) Try.underlying32 inf_44 rfl rfl rfl hx28 rfl) ?_
          refine ac_yes rfl rfl rfl rfl rfl rfl rfl (fun H hp => op1_faP st_44 (i := 2) rfl rfl rfl) ?_
          refine ac_yes rfl rfl rfl rfl rfl rfl rfl (fun H hp => op1_ldP (y := (ofV x28.f_Ours)) Try.underlying20 rfl rfl rfl rfl) ?_
          refine ac_yes rfl rfl rfl rfl rfl rfl rfl (fun H hp => op1_move rfl rfl) ?_
          refine ac_yes rfl rfl rfl rfl rfl rfl rfl (fun H hp => op1_move rfl rfl) ?_
          obtain ⟨x29, hx29, h⟩ := obind h
          refine ac_yes rfl rfl rfl rfl rfl rfl rfl (fun H hp => op1_idxN (i := s10) Try.underlying32 inf_44 rfl rfl rfl hx29 rfl) ?_
          refine ac_yes rfl rfl rfl rfl rfl rfl rfl (fun H hp => op1_faP st_44 (i := 3) rfl rfl rfl) ?_
          refine ac_yes rfl rfl rfl rfl rfl rfl rfl (fun H hp => op1_ldP (y := (ofV x29.f_Theirs)) Try.underlying20 rfl rfl rfl rfl) ?_
          obtain ⟨x30, hx30, h⟩ := obind h
          refine ac_yes rfl rfl rfl rfl rfl rfl rfl (fun H hp => op1_pcall rfl en_10 rfl (.cons (Wk.refl _) (.cons (Wk.refl _) .nil)) ⟨(ids_V x28.f_Ours), ⟨(ids_V x29.f_Theirs), trivial⟩⟩ (s_value_Same x28.f_Ours x29.f_Theirs x30 hx30) rfl) ?_
          refine ac_yes rfl rfl rfl rfl rfl rfl rfl (fun H hp => op1_not rfl rfl) ?_
          refine ac_go rfl rfl rfl rfl (fun H hp => op1_pickF rfl rfl rfl) ?_
          refine ac_go rfl rfl rfl rfl (fun H hp => op1_move rfl rfl) ?_
          refine ac_cases 126 rfl ?_ ?_
          ·intro hb31; replace h := ocond_t hb31 h
           refine ac_no rfl rfl rfl rfl rfl rfl rfl ?_
           refine ac_no rfl rfl rfl rfl rfl rfl rfl ?_
           refine ac_no rfl rfl rfl rfl rfl rfl rfl ?_
           refine ac_no rfl rfl rfl rfl rfl rfl rfl ?_
           refine ac_no rfl rfl rfl rfl rfl rfl rfl ?_
           refine ac_no rfl rfl rfl rfl rfl rfl rfl ?_
           refine ac_no rfl rfl rfl rfl rfl rfl rfl ?_
           refine ac_no rfl rfl rfl rfl rfl rfl rfl ?_
           refine ac_no rfl rfl rfl rfl rfl rfl rfl ?_
           refine ac_no rfl rfl rfl rfl rfl rfl rfl ?_
           refine ac_no rfl rfl rfl rfl rfl rfl rfl ?_
           refine ac_no rfl rfl rfl rfl rfl rfl rfl ?_
           refine ac_go rfl rfl rfl rfl (fun H hp => op1_pickT rfl rfl rfl) ?_
           refine ac_go rfl rfl rfl rfl (fun H hp => op1_move rfl rfl) ?_
           refine ac_no rfl rfl rfl rfl rfl rfl rfl ?_
           refine ac_no rfl rfl rfl rfl rfl rfl rfl ?_
           refine ac_no rfl rfl rfl rfl rfl rfl rfl ?_
           refine ac_no rfl rfl rfl rfl rfl rfl rfl ?_
           refine ac_no rfl rfl rfl rfl rfl rfl rfl ?_
           refine ac_no rfl rfl rfl rfl rfl rfl rfl ?_
           refine ac_no rfl rfl rfl rfl rfl rfl rfl ?_
           refine ac_no rfl rfl rfl rfl rfl rfl rfl ?_
           refine ac_no rfl rfl rfl rfl rfl rfl rfl ?_
           refine ac_no rfl rfl rfl rfl rfl rfl rfl ?_
           refine ac_nil ?_
           change AO _ _ _ _ _
           refine ao_no rfl rfl rfl rfl rfl rfl ?_
           refine ao_no rfl rfl rfl rfl rfl rfl ?_
           refine sS rfl rfl rfl (op1_pickT rfl rfl rfl) (ao_nil ?_)
           exact ⟨rfl, true, h, ⟨.nil, (sC rfl (sC rfl (sC rfl (sC rfl (sC rfl (sC rfl (sC rfl (sC rfl (sC rfl (sC rfl sub_nil))))))))))⟩⟩
          ·intro hb31; replace h := ocond_f hb31 h
           refine ac_yes rfl rfl rfl rfl rfl rfl rfl (fun H hp => op1_move rfl rfl) ?_
           refine ac_yes rfl rfl rfl rfl rfl rfl rfl (fun H hp => op1_move rfl rfl) ?_
           obtain ⟨x32, hx32, h⟩ := obind h
           refine ac_yes rfl rfl rfl rfl rfl rfl rfl (fun H hp => op1_idxN (i := s10) Try.underlying32 inf_44 rfl rfl rfl hx32 rfl) ?_
           refine ac_yes rfl rfl rfl rfl rfl rfl rfl (fun H hp => op1_faP st_44 (i := 3) rfl rfl rfl) ?_
           refine ac_yes rfl rfl rfl rfl rfl rfl rfl (fun H hp => op1_ldP (y := (ofV x32.f_Theirs)) Try.underlying20 rfl rfl rfl rfl) ?_
           refine ac_yes rfl rfl rfl rfl rfl rfl rfl (fun H hp => op1_move rfl rfl) ?_
           refine ac_yes rfl rfl rfl rfl rfl rfl rfl (fun H hp => op1_move rfl rfl) ?_
           obtain ⟨x33, hx33, h⟩ := obind h
           refine ac_yes rfl rfl rfl rfl rfl rfl rfl (fun H hp => op1_idxN (i := s10) Try.underlying32 inf_44 rfl rfl rfl hx33 rfl) ?_
           refine ac_yes rfl rfl rfl rfl rfl rfl rfl (fun H hp => op1_faP st_44 (i := 2) rfl rfl rfl) ?_
           refine ac_yes rfl rfl rfl rfl rfl rfl rfl (fun H hp => op1_ldP (y := (ofV x33.f_Ours)) Try.underlying20 rfl rfl rfl rfl) ?_
           obtain ⟨x34, hx34, h⟩ := obind h
           refine ac_yes rfl rfl rfl rfl rfl rfl rfl (fun H hp => op1_pcall rfl en_10 rfl (.cons (Wk.refl _) (.cons (Wk.refl _) .nil)) ⟨(ids_V x32.f_Theirs), ⟨(ids_V x33.f_Ours), trivial⟩⟩ (s_value_Same x32.f_Theirs x33.f_Ours x34 hx34) rfl) ?_
           refine ac_yes rfl rfl rfl rfl rfl rfl rfl (fun H hp => op1_not rfl rfl) ?_
           refine ac_go rfl rfl rfl rfl (fun H hp => op1_pickF rfl rfl rfl) ?_
           refine ac_go rfl rfl rfl rfl (fun H hp => op1_move rfl rfl) ?_
           refine ac_cases 140 rfl ?_ ?_
           ·intro hb35; replace h := ocond_t hb35 h
            refine ac_no rfl rfl rfl rfl rfl rfl rfl ?_
            refine ac_no rfl rfl rfl rfl rfl rfl rfl ?_
            refine ac_no rfl rfl rfl rfl rfl rfl rfl ?_
            refine ac_no rfl rfl rfl rfl rfl rfl rfl ?_
            refine ac_no rfl rfl rfl rfl rfl rfl rfl ?_
            refine ac_no rfl rfl rfl rfl rfl rfl rfl ?_
            refine ac_no rfl rfl rfl rfl rfl rfl rfl ?_
            refine ac_no rfl rfl rfl rfl rfl rfl rfl ?_
            refine ac_no rfl rfl rfl rfl rfl rfl rfl ?_
            refine ac_no rfl rfl rfl rfl rfl rfl rfl ?_
            refine ac_nil ?_
            change AO _ _ _ _ _
            refine ao_no rfl rfl rfl rfl rfl rfl ?_
            refine ao_no rfl rfl rfl rfl rfl rfl ?_
            refine sS rfl rfl rfl (op1_pickT rfl rfl rfl) (ao_nil ?_)
            exact ⟨rfl, true, h, ⟨.nil, (sC rfl (sC rfl (sC rfl (sC rfl (sC rfl (sC rfl (sC rfl (sC rfl (sC rfl (sC rfl sub_nil))))))))))⟩⟩
           ·intro hb35; replace h := ocond_f hb35 h
            refine ac_yes rfl rfl rfl rfl rfl rfl rfl (fun H hp => op1_move rfl rfl) ?_
            refine ac_yes rfl rfl rfl rfl rfl rfl rfl (fun H hp => op1_move rfl rfl) ?_
            obtain ⟨x36, hx36, h⟩ := obind h
            refine ac_yes rfl rfl rfl rfl rfl rfl rfl (fun H hp => op1_idxN (i := s10) Try.underlying32 inf_44 rfl rfl rfl hx36 rfl) ?_
            refine ac_yes rfl rfl rfl rfl rfl rfl rfl (fun H hp => op1_faP st_44 (i := 1) rfl rfl rfl) ?_
            refine ac_yes rfl rfl rfl rfl rfl rfl rfl (fun H hp => op1_ldP (y := (ofV x36.f_Base)) Try.underlying20 rfl rfl rfl rfl) ?_
            refine ac_yes rfl rfl rfl rfl rfl rfl rfl (fun H hp => op1_move rfl rfl) ?_
            refine ac_yes rfl rfl rfl rfl rfl rfl rfl (fun H hp => op1_move rfl rfl) ?_
            obtain ⟨x37, hx37, h⟩ := obind h
            refine ac_yes rfl rfl rfl rfl rfl rfl rfl (fun H hp => op1_idxN (i := s10) Try.underlying32 inf_44 rfl rfl rfl hx37 rfl) ?_
            refine ac_yes rfl rfl rfl rfl rfl rfl rfl (fun H hp => op1_faP st_44 (i := 1) rfl rfl rfl) ?_
            refine ac_yes rfl rfl rfl rfl rfl rfl rfl (fun H hp => op1_ldP (y := (ofV x37.f_Base)) Try.underlying20 rfl rfl rfl rfl) ?_
            refine ac_nil ?_
            change AO _ _ _ _ _
            obtain ⟨x38, hx38, h⟩ := obind h
            refine ao_yes rfl rfl rfl rfl rfl rfl (op1_pcall rfl en_10 rfl (.cons (Wk.refl _) (.cons (Wk.refl _) .nil)) ⟨(ids_V x36.f_Base), ⟨(ids_V x37.f_Base), trivial⟩⟩ (s_value_Same x36.f_Base x37.f_Base x38 hx38) rfl) ?_
            refine ao_yes rfl rfl rfl rfl rfl rfl (op1_not rfl rfl) ?_
            refine sS rfl rfl rfl (op1_pickF rfl rfl rfl) (ao_nil ?_)
            exact ⟨rfl, (!x38), h, ⟨.nil, (sC rfl (sC rfl (sC rfl (sC rfl (sC rfl (sC rfl (sC rfl (sC rfl (sC rfl (sC rfl sub_nil))))))))))⟩⟩
    ·intro hc11; replace h := ocond_f hc11 h
     refine bw_exit ?_
     change BW _ _ _ _ _
     refine bw_seq ?_
     refine bw_seqJ (ι := Bool) (fun i => law24_MergeTurned_j2 x6 x7 x8 i = some r) (fun i => [(10, (ofV x6.1)), (12, (I64 x6.2.2)), (13, (ofV x7.1)), (15, (I64 x7.2.2)), (16, (BO x8.1)), (17, (I64 x8.2)), (164, (BO i))]) (fun i => []) ?_ ?_ ?_
     ·intro i; exact ⟨Nat.le_of_ble_eq_true rfl, ⟨(il_nil (ids_V _)), ⟨(il_nil rfl), ⟨(il_nil (ids_V _)), ⟨(il_nil rfl), ⟨(il_nil rfl), ⟨(il_nil rfl), ⟨(il_nil rfl), trivial⟩⟩⟩⟩⟩⟩⟩, trivial⟩
     ·rintro s39 h; replace h : law24_MergeTurned_j2 x6 x7 x8 s39 = some r := h; unfold law24_MergeTurned_j2 at h
      change BW _ _ _ ⟨[(10, (ofV x6.1)), (12, (I64 x6.2.2)), (13, (ofV x7.1)), (15, (I64 x7.2.2)), (16, (BO x8.1)), (17, (I64 x8.2)), (164, (BO s39))], [], _⟩ _
      refine bw_cond rfl ?_ ?_
      ·intro hc40; replace h := ocond_t hc40 h
       refine bR ?_
       refine sM rfl rfl rfl rfl rfl ?_
       refine sS rfl rfl rfl ((op1_cmp rfl rfl rfl rfl).cast (y := (BO ((x6.2.2 == 0)))) rfl rfl) ?_
       refine sM rfl rfl rfl rfl rfl ?_
       refine ao_cases (t := 167) rfl ?_ ?_
       ·intro hb41; replace h := ocond_t hb41 h
        refine ao_no rfl rfl rfl rfl rfl rfl ?_
        refine ao_no rfl rfl rfl rfl rfl rfl ?_
        refine sS rfl rfl rfl (op1_pickT rfl rfl rfl) ?_
        refine sM rfl rfl rfl rfl rfl ?_
        refine ao_yes rfl rfl rfl rfl rfl rfl (op1_move rfl rfl) ?_
        refine ao_yes rfl rfl rfl rfl rfl rfl ((op1_cmp rfl rfl rfl rfl).cast (y := (BO ((x7.2.2 == 0)))) rfl rfl) ?_
        refine ao_yes rfl rfl rfl rfl rfl rfl (op1_move rfl rfl) ?_
        refine ao_cases (t := 174) rfl ?_ ?_
        ·intro hb42; replace h := ocond_t hb42 h
         refine ao_no rfl rfl rfl rfl rfl rfl ?_
         refine ao_no rfl rfl rfl rfl rfl rfl ?_
         refine ao_yes rfl rfl rfl rfl rfl rfl (op1_pickT rfl rfl rfl) ?_
         refine sS rfl rfl rfl (op1_pickT rfl rfl rfl) ?_
         refine sA rfl rfl rfl rfl rfl (ao_nil ?_)
         change BW _ _ _ _ _
         refine bw_ret ?_
         change ∃ xs, _ = some xs ∧ EndOk _ _ _ _
         obtain rfl := Option.some.inj h
         exact ⟨_, rfl, endOk0 (y := (BO true)) (Wk.refl _) rfl ⟨rfl, rfl⟩⟩
        ·intro hb42; replace h := ocond_f hb42 h
         refine ao_yes rfl rfl rfl rfl rfl rfl (op1_move rfl rfl) ?_
         refine ao_yes rfl rfl rfl rfl rfl rfl (op1_vEqNil Try.underlying20 rfl rfl) ?_
         refine ao_yes rfl rfl rfl rfl rfl rfl (op1_pickF rfl rfl rfl) ?_
         refine sS rfl rfl rfl (op1_pickT rfl rfl rfl) ?_
         refine sA rfl rfl rfl rfl rfl (ao_nil ?_)
         change BW _ _ _ _ _
         refine bw_ret ?_
         change ∃ xs, _ = some xs ∧ EndOk _ _ _ _
         obtain rfl := Option.some.inj h
         exact ⟨_, rfl, endOk0 (y := (BO ((x7.1).isNil))) (Wk.refl _) rfl ⟨rfl, rfl⟩⟩
       ·intro hb41; replace h := ocond_f hb41 h
        refine ao_yes rfl rfl rfl rfl rfl rfl (op1_move rfl rfl) ?_
        refine ao_yes rfl rfl rfl rfl rfl rfl (op1_vEqNil Try.underlying20 rfl rfl) ?_
        refine sS rfl rfl rfl (op1_pickF rfl rfl rfl) ?_
        refine sM rfl rfl rfl rfl rfl ?_
        refine ao_cases (t := 171) rfl ?_ ?_
        ·intro hb43; replace h := ocond_t hb43 h
         refine ao_yes rfl rfl rfl rfl rfl rfl (op1_move rfl rfl) ?_
         refine ao_yes rfl rfl rfl rfl rfl rfl ((op1_cmp rfl rfl rfl rfl).cast (y := (BO ((x7.2.2 == 0)))) rfl rfl) ?_
         refine ao_yes rfl rfl rfl rfl rfl rfl (op1_move rfl rfl) ?_
         refine ao_cases (t := 174) rfl ?_ ?_
         ·intro hb44; replace h := ocond_t hb44 h
          refine ao_no rfl rfl rfl rfl rfl rfl ?_
          refine ao_no rfl rfl rfl rfl rfl rfl ?_
          refine ao_yes rfl rfl rfl rfl rfl rfl (op1_pickT rfl rfl rfl) ?_
          refine sS rfl rfl rfl (op1_pickT rfl rfl rfl) ?_
          refine sA rfl rfl rfl rfl rfl (ao_nil ?_)
          change BW _ _ _ _ _
          refine bw_ret ?_
          change ∃ xs, _ = some xs ∧ EndOk _ _ _ _
          obtain rfl := Option.some.inj h
          exact ⟨_, rfl, endOk0 (y := (BO true)) (Wk.refl _) rfl ⟨rfl, rfl⟩⟩
         ·intro hb44; replace h := ocond_f hb44 h
          refine ao_yes rfl rfl rfl rfl rfl rfl (op1_move rfl rfl) ?_
          refine ao_yes rfl rfl rfl rfl rfl rfl (op1_vEqNil Try.underlying20 rfl rfl) ?_
          refine ao_yes rfl rfl rfl rfl rfl rfl (op1_pickF rfl rfl rfl) ?_
          refine sS rfl rfl rfl (op1_pickT rfl rfl rfl) ?_
          refine sA rfl rfl rfl rfl rfl (ao_nil ?_)
          change BW _ _ _ _ _
          refine bw_ret ?_
          change ∃ xs, _ = some xs ∧ EndOk _ _ _ _
          obtain rfl := Option.some.inj h
          exact ⟨_, rfl, endOk0 (y := (BO ((x7.1).isNil))) (Wk.refl _) rfl ⟨rfl, rfl⟩⟩
        ·intro hb43; replace h := ocond_f hb43 h
         refine ao_no rfl rfl rfl rfl rfl rfl ?_
         refine ao_no rfl rfl rfl rfl rfl rfl ?_
         refine ao_no rfl rfl rfl rfl rfl rfl ?_
         refine ao_no rfl rfl rfl rfl rfl rfl ?_
         refine ao_no rfl rfl rfl rfl rfl rfl ?_
         refine ao_no rfl rfl rfl rfl rfl rfl ?_
         refine sS rfl rfl rfl (op1_pickF rfl rfl rfl) ?_
         refine sA rfl rfl rfl rfl rfl (ao_nil ?_)
         change BW _ _ _ _ _
         refine bw_ret ?_
         change ∃ xs, _ = some xs ∧ EndOk _ _ _ _
         obtain rfl := Option.some.inj h
         exact ⟨_, rfl, endOk0 (y := (BO false)) (Wk.refl _) rfl ⟨rfl, rfl⟩⟩
      ·intro hc40; replace h := ocond_f hc40 h
       refine bw_skip ?_
       change BW _ _ _ _ _
       refine bR ?_
       refine sM rfl rfl rfl rfl rfl ?_
       refine sS rfl rfl rfl ((op1_cmp rfl rfl rfl rfl).cast (y := (BO ((x8.2 == 0)))) rfl rfl) ?_
       refine sM rfl rfl rfl rfl rfl ?_
       refine ao_cases (t := 181) rfl ?_ ?_
       ·intro hb45; replace h := ocond_t hb45 h
        refine ao_yes rfl rfl rfl rfl rfl rfl (op1_move rfl rfl) ?_
        refine sS rfl rfl rfl (op1_pickT rfl rfl rfl) ?_
        refine sM rfl rfl rfl rfl rfl ?_
        refine ao_cases (t := 184) rfl ?_ ?_
        ·intro hb46; replace h := ocond_t hb46 h
         refine ao_yes rfl rfl rfl rfl rfl rfl (op1_move rfl rfl) ?_
         refine ao_yes rfl rfl rfl rfl rfl rfl (op1_move rfl rfl) ?_
         obtain ⟨x47, hx47, h⟩ := obind h
         refine ao_yes rfl rfl rfl rfl rfl rfl (op1_pcall rfl en_10 rfl (.cons (Wk.refl _) (.cons (Wk.refl _) .nil)) ⟨(ids_V x6.1), ⟨(ids_V x7.1), trivial⟩⟩ (s_value_Same x6.1 x7.1 x47 hx47) rfl) ?_
         refine sS rfl rfl rfl (op1_pickT rfl rfl rfl) ?_
         refine sA rfl rfl rfl rfl rfl (ao_nil ?_)
         change BW _ _ _ _ _
         refine bw_ret ?_
         change ∃ xs, _ = some xs ∧ EndOk _ _ _ _
         obtain rfl := Option.some.inj h
         exact ⟨_, rfl, endOk0 (y := (BO x47)) (Wk.refl _) rfl ⟨rfl, rfl⟩⟩
        ·intro hb46; replace h := ocond_f hb46 h
         refine ao_no rfl rfl rfl rfl rfl rfl ?_
         refine ao_no rfl rfl rfl rfl rfl rfl ?_
         refine ao_no rfl rfl rfl rfl rfl rfl ?_
         refine sS rfl rfl rfl (op1_pickF rfl rfl rfl) ?_
         refine sA rfl rfl rfl rfl rfl (ao_nil ?_)
         change BW _ _ _ _ _
         refine bw_ret ?_
         change ∃ xs, _ = some xs ∧ EndOk _ _ _ _
         obtain rfl := Option.some.inj h
         exact ⟨_, rfl, endOk0 (y := (BO false)) (Wk.refl _) rfl ⟨rfl, rfl⟩⟩
       ·intro hb45; replace h := ocond_f hb45 h
        refine ao_no rfl rfl rfl rfl rfl rfl ?_
        refine sS rfl rfl rfl (op1_pickF rfl rfl rfl) ?_
        refine sM rfl rfl rfl rfl rfl ?_
        refine ao_no rfl rfl rfl rfl rfl rfl ?_
        refine ao_no rfl rfl rfl rfl rfl rfl ?_
        refine ao_no rfl rfl rfl rfl rfl rfl ?_
        refine sS rfl rfl rfl (op1_pickF rfl rfl rfl) ?_
        refine sA rfl rfl rfl rfl rfl (ao_nil ?_)
        change BW _ _ _ _ _
        refine bw_ret ?_
        change ∃ xs, _ = some xs ∧ EndOk _ _ _ _
        obtain rfl := Option.some.inj h
        exact ⟨_, rfl, endOk0 (y := (BO false)) (Wk.refl _) rfl ⟨rfl, rfl⟩⟩
     ·refine bw_region ?_
      refine sM rfl rfl rfl rfl rfl ?_
      refine sS rfl rfl rfl ((op1_cmp rfl rfl rfl rfl).cast (y := (BO ((x6.2.2 != 0)))) rfl rfl) ?_
      refine sM rfl rfl rfl rfl rfl ?_
      refine ao_cases (t := 156) rfl ?_ ?_
      ·intro hb48; replace h := ocond_t hb48 h
       refine ao_no rfl rfl rfl rfl rfl rfl ?_
       refine ao_no rfl rfl rfl rfl rfl rfl ?_
       refine sS rfl rfl rfl (op1_pickT rfl rfl rfl) ?_
       refine sM rfl rfl rfl rfl rfl ?_
       refine ao_no rfl rfl rfl rfl rfl rfl ?_
       refine ao_no rfl rfl rfl rfl rfl rfl ?_
       refine ao_no rfl rfl rfl rfl rfl rfl ?_
       refine sS rfl rfl rfl (op1_pickT rfl rfl rfl) (ao_nil ?_)
       exact ⟨rfl, true, h, ⟨.nil, (sC rfl (sC rfl (sC rfl (sC rfl (sC rfl (sC rfl (sC rfl sub_nil)))))))⟩⟩
      ·intro hb48; replace h := ocond_f hb48 h
       refine ao_yes rfl rfl rfl rfl rfl rfl (op1_move rfl rfl) ?_
       refine ao_yes rfl rfl rfl rfl rfl rfl ((op1_cmp rfl rfl rfl rfl).cast (y := (BO ((x7.2.2 != 0)))) rfl rfl) ?_
       refine sS rfl rfl rfl (op1_pickF rfl rfl rfl) ?_
       refine sM rfl rfl rfl rfl rfl ?_
       refine ao_cases (t := 160) rfl ?_ ?_
       ·intro hb49; replace h := ocond_t hb49 h
        refine ao_no rfl rfl rfl rfl rfl rfl ?_
        refine ao_no rfl rfl rfl rfl rfl rfl ?_
        refine ao_no rfl rfl rfl rfl rfl rfl ?_
        refine sS rfl rfl rfl (op1_pickT rfl rfl rfl) (ao_nil ?_)
        exact ⟨rfl, true, h, ⟨.nil, (sC rfl (sC rfl (sC rfl (sC rfl (sC rfl (sC rfl (sC rfl sub_nil)))))))⟩⟩
       ·intro hb49; replace h := ocond_f hb49 h
        refine ao_yes rfl rfl rfl rfl rfl rfl (op1_move rfl rfl) ?_
        refine ao_yes rfl rfl rfl rfl rfl rfl (op1_lenM Try.underlying32 rfl rfl) ?_
        refine ao_yes rfl rfl rfl rfl rfl rfl ((op1_cmp rfl rfl rfl rfl).cast (y := (BO ((decide ((((x6.2.1).length : Nat) : Int) > 0))))) rfl rfl) ?_
        refine sS rfl rfl rfl (op1_pickF rfl rfl rfl) (ao_nil ?_)
        exact ⟨rfl, (decide ((((x6.2.1).length : Nat) : Int) > 0)), h, ⟨.nil, (sC rfl (sC rfl (sC rfl (sC rfl (sC rfl (sC rfl (sC rfl sub_nil)))))))⟩⟩
end Go.Proofs.Ytkmhecgagibgjaa
