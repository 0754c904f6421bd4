/- Pure functions, and that calls answer as they say. Written by gen.py. -/
import Derived.Test.YtkmhecgagibgjaaG5
namespace Go.Proofs.Ytkmhecgagibgjaa
open Go Aw
set_option linter.unusedVariables false
set_option linter.unusedSimpArgs false
set_option maxRecDepth 20000
set_option maxHeartbeats 2000000
noncomputable def law24_MergeAgain_j1 (x3 : V) (x4 : V) (x5 : V) (x6 : (V × (List S_api_Conflict) × Int)) (s7 : Bool) : Option Bool :=
 bif s7 then (
  bif (x6.2.2 == 0) then (
   some true
  ) else (
   some (x6.1).isNil
  )
 ) else (
  Option.bind (p_merge_Threenil x3 x6.1 x5) fun x10 =>
  Option.bind (p_merge_Threenil x3 x4 x6.1) fun x11 =>
  bif (x10.2.2 == 0) then (
   bif (x11.2.2 == 0) then (
    bif ((((x10.2.1).length : Nat) : Int) == 0) then (
     bif ((((x11.2.1).length : Nat) : Int) == 0) then (
      Option.bind (p_value_Same x10.1 x6.1) fun x16 =>
      bif x16 then (
       Option.bind (p_value_Same x11.1 x6.1) fun x18 =>
       some x18
      ) else (
       some false
      )
     ) else (
      some false
     )
    ) else (
     some false
    )
   ) else (
    some false
   )
  ) else (
   some false
  )
 )
noncomputable def p_law24_MergeAgain (a0 : Term) (a1 : Term) (a2 : Term) : Option Bool :=
 Option.bind (p_law24_lives) fun x1 =>
 bif (!x1) then (
  some false
 ) else (
  Option.bind (p_mk_Built a0) fun x3 =>
  Option.bind (p_mk_Built a1) fun x4 =>
  Option.bind (p_mk_Built a2) fun x5 =>
  Option.bind (p_merge_Threenil x3 x4 x5) fun x6 =>
  bif (x6.2.2 != 0) then (
   law24_MergeAgain_j1 x3 x4 x5 x6 true
  ) else (
   law24_MergeAgain_j1 x3 x4 x5 x6 (decide ((((x6.2.1).length : Nat) : Int) > 0))
  )
 )
theorem s_law24_MergeAgain (a0 : Term) (a1 : Term) (a2 : Term) (r : Bool) (h : p_law24_MergeAgain a0 a1 a2 = some r) : PCalls Try.prog 4 [(ofTermX a0), (ofTermX a1), (ofTermX a2)] (BO r) := by
 unfold p_law24_MergeAgain at h
 refine acalls_of Try.func4 rfl Try.ntmps4 Try.results4 rfl (aw_of_bw ?_)
 change BW _ _ _ ⟨[(0, (ofTermX a0)), (1, (ofTermX a1)), (2, (ofTermX a2))], [], _⟩ _
 refine bR ?_
 refine sS rfl rfl rfl (op1_box rfl rfl rfl) ?_
 refine sS rfl rfl rfl (op1_box rfl rfl rfl) ?_
 refine sS rfl rfl rfl (op1_box rfl rfl rfl) ?_
 refine sA rfl rfl rfl rfl rfl (ao_nil ?_)
 change BW _ _ _ _ _
 refine bw_seq ?_
 refine bR ?_
 obtain ⟨x1, hx1, h⟩ := obind h
 refine sS rfl rfl rfl (op1_pcall rfl en_7 rfl .nil trivial (s_law24_lives  x1 hx1) rfl) ?_
 refine sS rfl rfl rfl (op1_not rfl rfl) (ao_nil ?_)
 change BW _ _ _ _ _
 refine bw_cond rfl ?_ ?_
 ·intro hc2; replace h := ocond_t hc2 h
  refine bR ?_
  refine sA rfl rfl rfl rfl rfl (ao_nil ?_)
  change BW _ _ _ _ _
  refine bw_ret ?_
  change ∃ xs, _ = some xs ∧ EndOk _ _ _ _
  obtain rfl := Option.some.inj h
  exact ⟨_, rfl, endOk0 (y := (BO false)) (Wk.refl _) rfl ⟨rfl, rfl⟩⟩
 ·intro hc2; replace h := ocond_f hc2 h
  refine bw_skip ?_
  change BW _ _ _ _ _
  refine bw_seq (bw_tail 5 [] [0, 1, 2] mo (by kernel_rfl) ?_)
  refine ac_go rfl rfl rfl rfl (fun H hp => (op1_ldRA inf_29 Try.underlying29 rfl rfl rfl (hp.at rfl rfl) rfl rfl)) ?_
  obtain ⟨x3, hx3, h⟩ := obind h
  refine ac_go rfl rfl rfl rfl (fun H hp => op1_pcall rfl en_8 rfl (.cons (Wk.refl _) .nil) ⟨(ids_TermX a0), trivial⟩ (s_mk_Built a0 x3 hx3) (ids_V x3)) ?_
  refine ac_go rfl rfl rfl rfl (fun H hp => (op1_ldRA inf_29 Try.underlying29 rfl rfl rfl (hp.at rfl rfl) rfl rfl)) ?_
  obtain ⟨x4, hx4, h⟩ := obind h
  refine ac_go rfl rfl rfl rfl (fun H hp => op1_pcall rfl en_8 rfl (.cons (Wk.refl _) .nil) ⟨(ids_TermX a1), trivial⟩ (s_mk_Built a1 x4 hx4) (ids_V x4)) ?_
  refine ac_go rfl rfl rfl rfl (fun H hp => (op1_ldRA inf_29 Try.underlying29 rfl rfl rfl (hp.at rfl rfl) rfl rfl)) ?_
  refine ac_nil ?_
  change AO _ _ _ _ _
  obtain ⟨x5, hx5, h⟩ := obind h
  refine sS rfl rfl rfl (op1_pcall rfl en_8 rfl (.cons (Wk.refl _) .nil) ⟨(ids_TermX a2), trivial⟩ (s_mk_Built a2 x5 hx5) (ids_V x5)) ?_
  refine sA rfl rfl rfl rfl rfl ?_
  refine sA rfl rfl rfl rfl rfl ?_
  refine sA rfl rfl rfl rfl rfl (ao_nil ?_)
  change BW _ _ _ _ _
  refine bR ?_
  refine sM rfl rfl rfl rfl rfl ?_
  refine sM rfl rfl rfl rfl rfl ?_
  refine sM rfl rfl rfl rfl rfl ?_
  obtain ⟨x6, hx6, h⟩ := obind h
  refine sS rfl rfl rfl (op1_pcall rfl en_9 rfl (.cons (Wk.refl _) (.cons (Wk.refl _) (.cons (Wk.refl _) (.cons (Wk.refl _) .nil)))) ⟨(ids_V x3), ⟨(ids_V x4), ⟨(ids_V x5), ⟨rfl, trivial⟩⟩⟩⟩ (s_merge_Threenil x3 x4 x5 x6 hx6) (ids_tup_cons (ids_V x6.1) (ids_tup_cons (ids_slM ids_S_api_Conflict x6.2.1) (ids_tup_cons rfl ids_tup_nil)))) ?_
  refine sM rfl rfl rfl rfl rfl ?_
  refine sS rfl rfl rfl (op1_ext rfl rfl rfl) ?_
  refine sS rfl rfl rfl (op1_ext rfl rfl rfl) ?_
  refine sS rfl rfl rfl (op1_ext rfl rfl rfl) ?_
  refine sA rfl rfl rfl rfl rfl ?_
  refine sA rfl rfl rfl rfl rfl ?_
  refine sA rfl rfl rfl rfl rfl (ao_nil ?_)
  change BW _ _ _ _ _
  refine bw_seq ?_
  refine bw_seqJ (ι := Bool) (fun i => law24_MergeAgain_j1 x3 x4 x5 x6 i = some r) (fun i => [(7, (ofV x3)), (8, (ofV x4)), (9, (ofV x5)), (10, (ofV x6.1)), (12, (I64 x6.2.2)), (41, (BO i))]) (fun i => []) ?_ ?_ ?_
  ·intro i; exact ⟨Nat.le_of_ble_eq_true rfl, ⟨(il_nil (ids_V _)), ⟨(il_nil (ids_V _)), ⟨(il_nil (ids_V _)), ⟨(il_nil (ids_V _)), ⟨(il_nil rfl), ⟨(il_nil rfl), trivial⟩⟩⟩⟩⟩⟩, trivial⟩
  ·rintro s7 h; replace h : law24_MergeAgain_j1 x3 x4 x5 x6 s7 = some r := h; unfold law24_MergeAgain_j1 at h
   change BW _ _ _ ⟨[(7, (ofV x3)), (8, (ofV x4)), (9, (ofV x5)), (10, (ofV x6.1)), (12, (I64 x6.2.2)), (41, (BO s7))], [], _⟩ _
   refine bw_cond rfl ?_ ?_
   ·intro hc8; replace h := ocond_t hc8 h
    refine bR ?_
    refine sM rfl rfl rfl rfl rfl ?_
    refine sS rfl rfl rfl ((op1_cmp rfl rfl rfl rfl).cast (y := (BO ((x6.2.2 == 0)))) rfl rfl) ?_
    refine sM rfl rfl rfl rfl rfl ?_
    refine ao_cases (t := 44) rfl ?_ ?_
    ·intro hb9; replace h := ocond_t hb9 h
     refine ao_no rfl rfl rfl rfl rfl rfl ?_
     refine ao_no rfl rfl rfl rfl rfl rfl ?_
     refine sS rfl rfl rfl (op1_pickT rfl rfl rfl) ?_
     refine sA rfl rfl rfl rfl rfl (ao_nil ?_)
     change BW _ _ _ _ _
     refine bw_ret ?_
     change ∃ xs, _ = some xs ∧ EndOk _ _ _ _
     obtain rfl := Option.some.inj h
     exact ⟨_, rfl, endOk0 (y := (BO true)) (Wk.refl _) rfl ⟨rfl, rfl⟩⟩
    ·intro hb9; replace h := ocond_f hb9 h
     refine ao_yes rfl rfl rfl rfl rfl rfl (op1_move rfl rfl) ?_
     refine ao_yes rfl rfl rfl rfl rfl rfl (op1_vEqNil Try.underlying20 rfl rfl) ?_
     refine sS rfl rfl rfl (op1_pickF rfl rfl rfl) ?_
     refine sA rfl rfl rfl rfl rfl (ao_nil ?_)
     change BW _ _ _ _ _
     refine bw_ret ?_
     change ∃ xs, _ = some xs ∧ EndOk _ _ _ _
     obtain rfl := Option.some.inj h
     exact ⟨_, rfl, endOk0 (y := (BO ((x6.1).isNil))) (Wk.refl _) rfl ⟨rfl, rfl⟩⟩
   ·intro hc8; replace h := ocond_f hc8 h
    refine bw_skip ?_
    change BW _ _ _ _ _
    refine bR ?_
    refine sM rfl rfl rfl rfl rfl ?_
    refine sM rfl rfl rfl rfl rfl ?_
    refine sM rfl rfl rfl rfl rfl ?_
    obtain ⟨x10, hx10, h⟩ := obind h
    refine sS rfl rfl rfl (op1_pcall rfl en_9 rfl (.cons (Wk.refl _) (.cons (Wk.refl _) (.cons (Wk.refl _) (.cons (Wk.refl _) .nil)))) ⟨(ids_V x3), ⟨(ids_V x6.1), ⟨(ids_V x5), ⟨rfl, trivial⟩⟩⟩⟩ (s_merge_Threenil x3 x6.1 x5 x10 hx10) (ids_tup_cons (ids_V x10.1) (ids_tup_cons (ids_slM ids_S_api_Conflict x10.2.1) (ids_tup_cons rfl ids_tup_nil)))) ?_
    refine sM rfl rfl rfl rfl rfl ?_
    refine sS rfl rfl rfl (op1_ext rfl rfl rfl) ?_
    refine sS rfl rfl rfl (op1_ext rfl rfl rfl) ?_
    refine sS rfl rfl rfl (op1_ext rfl rfl rfl) ?_
    refine sA rfl rfl rfl rfl rfl ?_
    refine sA rfl rfl rfl rfl rfl ?_
    refine sA rfl rfl rfl rfl rfl (ao_nil ?_)
    change BW _ _ _ _ _
    refine bR ?_
    refine sM rfl rfl rfl rfl rfl ?_
    refine sM rfl rfl rfl rfl rfl ?_
    refine sM rfl rfl rfl rfl rfl ?_
    obtain ⟨x11, hx11, h⟩ := obind h
    refine sS rfl rfl rfl (op1_pcall rfl en_9 rfl (.cons (Wk.refl _) (.cons (Wk.refl _) (.cons (Wk.refl _) (.cons (Wk.refl _) .nil)))) ⟨(ids_V x3), ⟨(ids_V x4), ⟨(ids_V x6.1), ⟨rfl, trivial⟩⟩⟩⟩ (s_merge_Threenil x3 x4 x6.1 x11 hx11) (ids_tup_cons (ids_V x11.1) (ids_tup_cons (ids_slM ids_S_api_Conflict x11.2.1) (ids_tup_cons rfl ids_tup_nil)))) ?_
    refine sM rfl rfl rfl rfl rfl ?_
    refine sS rfl rfl rfl (op1_ext rfl rfl rfl) ?_
    refine sS rfl rfl rfl (op1_ext rfl rfl rfl) ?_
    refine sS rfl rfl rfl (op1_ext rfl rfl rfl) ?_
    refine sA rfl rfl rfl rfl rfl ?_
    refine sA rfl rfl rfl rfl rfl ?_
    refine sA rfl rfl rfl rfl rfl (ao_nil ?_)
    change BW _ _ _ _ _
    refine bR ?_
    refine sM rfl rfl rfl rfl rfl ?_
    refine sS rfl rfl rfl ((op1_cmp rfl rfl rfl rfl).cast (y := (BO ((x10.2.2 == 0)))) rfl rfl) ?_
    refine sM rfl rfl rfl rfl rfl ?_
    refine ao_cases (t := 66) rfl ?_ ?_
    ·intro hb12; replace h := ocond_t hb12 h
     refine ao_yes rfl rfl rfl rfl rfl rfl (op1_move rfl rfl) ?_
     refine ao_yes rfl rfl rfl rfl rfl rfl ((op1_cmp rfl rfl rfl rfl).cast (y := (BO ((x11.2.2 == 0)))) rfl rfl) ?_
     refine sS rfl rfl rfl (op1_pickT rfl rfl rfl) ?_
     refine sM rfl rfl rfl rfl rfl ?_
     refine ao_cases (t := 70) rfl ?_ ?_
     ·intro hb13; replace h := ocond_t hb13 h
      refine ao_yes rfl rfl rfl rfl rfl rfl (op1_move rfl rfl) ?_
      refine ao_yes rfl rfl rfl rfl rfl rfl (op1_lenM Try.underlying32 rfl rfl) ?_
      refine ao_yes rfl rfl rfl rfl rfl rfl ((op1_cmp rfl rfl rfl rfl).cast (y := (BO (((((x10.2.1).length : Nat) : Int) == 0)))) rfl rfl) ?_
      refine sS rfl rfl rfl (op1_pickT rfl rfl rfl) ?_
      refine sM rfl rfl rfl rfl rfl ?_
      refine ao_cases (t := 75) rfl ?_ ?_
      ·intro hb14; replace h := ocond_t hb14 h
       refine ao_yes rfl rfl rfl rfl rfl rfl (op1_move rfl rfl) ?_
       refine ao_yes rfl rfl rfl rfl rfl rfl (op1_lenM Try.underlying32 rfl rfl) ?_
       refine ao_yes rfl rfl rfl rfl rfl rfl ((op1_cmp rfl rfl rfl rfl).cast (y := (BO (((((x11.2.1).length : Nat) : Int) == 0)))) rfl rfl) ?_
       refine sS rfl rfl rfl (op1_pickT rfl rfl rfl) ?_
       refine sM rfl rfl rfl rfl rfl ?_
       refine ao_cases (t := 80) rfl ?_ ?_
       ·intro hb15; replace h := ocond_t hb15 h
        refine ao_yes rfl rfl rfl rfl rfl rfl (op1_move rfl rfl) ?_
        refine ao_yes rfl rfl rfl rfl rfl rfl (op1_move rfl rfl) ?_
        obtain ⟨x16, hx16, h⟩ := obind h
        refine ao_yes rfl rfl rfl rfl rfl rfl (op1_pcall rfl en_10 rfl (.cons (Wk.refl _) (.cons (Wk.refl _) .nil)) ⟨(ids_V x10.1), ⟨(ids_V x6.1), trivial⟩⟩ (s_value_Same x10.1 x6.1 x16 hx16) rfl) ?_
        refine sS rfl rfl rfl (op1_pickT rfl rfl rfl) ?_
        refine sM rfl rfl rfl rfl rfl ?_
        refine ao_cases (t := 85) rfl ?_ ?_
        ·intro hb17; replace h := ocond_t hb17 h
         refine ao_yes rfl rfl rfl rfl rfl rfl (op1_move rfl rfl) ?_
         refine ao_yes rfl rfl rfl rfl rfl rfl (op1_move rfl rfl) ?_
         obtain ⟨x18, hx18, h⟩ := obind h
         refine ao_yes rfl rfl rfl rfl rfl rfl (op1_pcall rfl en_10 rfl (.cons (Wk.refl _) (.cons (Wk.refl _) .nil)) ⟨(ids_V x11.1), ⟨(ids_V x6.1), trivial⟩⟩ (s_value_Same x11.1 x6.1 x18 hx18) rfl) ?_
         refine sS rfl rfl rfl (op1_pickT rfl rfl rfl) ?_
         refine sA rfl rfl rfl rfl rfl (ao_nil ?_)
         change BW _ _ _ _ _
         refine bw_ret ?_
         change ∃ xs, _ = some xs ∧ EndOk _ _ _ _
         obtain rfl := Option.some.inj h
         exact ⟨_, rfl, endOk0 (y := (BO x18)) (Wk.refl _) rfl ⟨rfl, rfl⟩⟩
        ·intro hb17; replace h := ocond_f hb17 h
         refine ao_no rfl rfl rfl rfl rfl rfl ?_
         refine ao_no rfl rfl rfl rfl rfl rfl ?_
         refine ao_no rfl rfl rfl rfl rfl rfl ?_
         refine sS rfl rfl rfl (op1_pickF rfl rfl rfl) ?_
         refine sA rfl rfl rfl rfl rfl (ao_nil ?_)
         change BW _ _ _ _ _
         refine bw_ret ?_
         change ∃ xs, _ = some xs ∧ EndOk _ _ _ _
         obtain rfl := Option.some.inj h
         exact ⟨_, rfl, endOk0 (y := (BO false)) (Wk.refl _) rfl ⟨rfl, rfl⟩⟩
       ·intro hb15; replace h := ocond_f hb15 h
        refine ao_no rfl rfl rfl rfl rfl rfl ?_
        refine ao_no rfl rfl rfl rfl rfl rfl ?_
        refine ao_no rfl rfl rfl rfl rfl rfl ?_
        refine sS rfl rfl rfl (op1_pickF rfl rfl rfl) ?_
        refine sM rfl rfl rfl rfl rfl ?_
        refine ao_no rfl rfl rfl rfl rfl rfl ?_
        refine ao_no rfl rfl rfl rfl rfl rfl ?_
        refine ao_no rfl rfl rfl rfl rfl rfl ?_
        refine sS rfl rfl rfl (op1_pickF rfl rfl rfl) ?_
        refine sA rfl rfl rfl rfl rfl (ao_nil ?_)
        change BW _ _ _ _ _
        refine bw_ret ?_
        change ∃ xs, _ = some xs ∧ EndOk _ _ _ _
        obtain rfl := Option.some.inj h
        exact ⟨_, rfl, endOk0 (y := (BO false)) (Wk.refl _) rfl ⟨rfl, rfl⟩⟩
      ·intro hb14; replace h := ocond_f hb14 h
       refine ao_no rfl rfl rfl rfl rfl rfl ?_
       refine ao_no rfl rfl rfl rfl rfl rfl ?_
       refine ao_no rfl rfl rfl rfl rfl rfl ?_
       refine sS rfl rfl rfl (op1_pickF rfl rfl rfl) ?_
       refine sM rfl rfl rfl rfl rfl ?_
       refine ao_no rfl rfl rfl rfl rfl rfl ?_
       refine ao_no rfl rfl rfl rfl rfl rfl ?_
       refine ao_no rfl rfl rfl rfl rfl rfl ?_
       refine sS rfl rfl rfl (op1_pickF rfl rfl rfl) ?_
       refine sM rfl rfl rfl rfl rfl ?_
       refine ao_no rfl rfl rfl rfl rfl rfl ?_
       refine ao_no rfl rfl rfl rfl rfl rfl ?_
       refine ao_no rfl rfl rfl rfl rfl rfl ?_
       refine sS rfl rfl rfl (op1_pickF rfl rfl rfl) ?_
       refine sA rfl rfl rfl rfl rfl (ao_nil ?_)
       change BW _ _ _ _ _
       refine bw_ret ?_
       change ∃ xs, _ = some xs ∧ EndOk _ _ _ _
       obtain rfl := Option.some.inj h
       exact ⟨_, rfl, endOk0 (y := (BO false)) (Wk.refl _) rfl ⟨rfl, rfl⟩⟩
     ·intro hb13; replace h := ocond_f hb13 h
      refine ao_no rfl rfl rfl rfl rfl rfl ?_
      refine ao_no rfl rfl rfl rfl rfl rfl ?_
      refine ao_no rfl rfl rfl rfl rfl rfl ?_
      refine sS rfl rfl rfl (op1_pickF rfl rfl rfl) ?_
      refine sM rfl rfl rfl rfl rfl ?_
      refine ao_no rfl rfl rfl rfl rfl rfl ?_
      refine ao_no rfl rfl rfl rfl rfl rfl ?_
      refine ao_no rfl rfl rfl rfl rfl rfl ?_
      refine sS rfl rfl rfl (op1_pickF rfl rfl rfl) ?_
      refine sM rfl rfl rfl rfl rfl ?_
      refine ao_no rfl rfl rfl rfl rfl rfl ?_
      refine ao_no rfl rfl rfl rfl rfl rfl ?_
      refine ao_no rfl rfl rfl rfl rfl rfl ?_
      refine sS rfl rfl rfl (op1_pickF rfl rfl rfl) ?_
      refine sM rfl rfl rfl rfl rfl ?_
      refine ao_no rfl rfl rfl rfl rfl rfl ?_
      refine ao_no rfl rfl rfl rfl rfl rfl ?_
      refine ao_no rfl rfl rfl rfl rfl rfl ?_
      refine sS rfl rfl rfl (op1_pickF rfl rfl rfl) ?_
      refine sA rfl rfl rfl rfl rfl (ao_nil ?_)
      change BW _ _ _ _ _
      refine bw_ret ?_
      change ∃ xs, _ = some xs ∧ EndOk _ _ _ _
      obtain rfl := Option.some.inj h
      exact ⟨_, rfl, endOk0 (y := (BO false)) (Wk.refl _) rfl ⟨rfl, rfl⟩⟩
    ·intro hb12; replace h := ocond_f hb12 h
     refine ao_no rfl rfl rfl rfl rfl rfl ?_
     refine ao_no rfl rfl rfl rfl rfl rfl ?_
     refine sS rfl rfl rfl (op1_pickF rfl rfl rfl) ?_
     refine sM rfl rfl rfl rfl rfl ?_
     refine ao_no rfl rfl rfl rfl rfl rfl ?_
     refine ao_no rfl rfl rfl rfl rfl rfl ?_
     refine ao_no rfl rfl rfl rfl rfl rfl ?_
     refine sS rfl rfl rfl (op1_pickF rfl rfl rfl) ?_
     refine sM rfl rfl rfl rfl rfl ?_
     refine ao_no rfl rfl rfl rfl rfl rfl ?_
     refine ao_no rfl rfl rfl rfl rfl rfl ?_
     refine ao_no rfl rfl rfl rfl rfl rfl ?_
     refine sS rfl rfl rfl (op1_pickF rfl rfl rfl) ?_
     refine sM rfl rfl rfl rfl rfl ?_
     refine ao_no rfl rfl rfl rfl rfl rfl ?_
     refine ao_no rfl rfl rfl rfl rfl rfl ?_
     refine ao_no rfl rfl rfl rfl rfl rfl ?_
     refine sS rfl rfl rfl (op1_pickF rfl rfl rfl) ?_
     refine sM rfl rfl rfl rfl rfl ?_
     refine ao_no rfl rfl rfl rfl rfl rfl ?_
     refine ao_no rfl rfl rfl rfl rfl rfl ?_
     refine ao_no rfl rfl rfl rfl rfl rfl ?_
     refine sS rfl rfl rfl (op1_pickF rfl rfl rfl) ?_
     refine sA rfl rfl rfl rfl rfl (ao_nil ?_)
     change BW _ _ _ _ _
     refine bw_ret ?_
     change ∃ xs, _ = some xs ∧ EndOk _ _ _ _
     obtain rfl := Option.some.inj h
     exact ⟨_, rfl, endOk0 (y := (BO false)) (Wk.refl _) rfl ⟨rfl, rfl⟩⟩
  ·refine bw_region ?_
   refine sM rfl rfl rfl rfl rfl ?_
   refine sS rfl rfl rfl ((op1_cmp rfl rfl rfl rfl).cast (y := (BO ((x6.2.2 != 0)))) rfl rfl) ?_
   refine sM rfl rfl rfl rfl rfl ?_
   refine ao_cases (t := 37) rfl ?_ ?_
   ·intro hb19; replace h := ocond_t hb19 h
    refine ao_no rfl rfl rfl rfl rfl rfl ?_
    refine ao_no rfl rfl rfl rfl rfl rfl ?_
    refine ao_no rfl rfl rfl rfl rfl rfl ?_
    refine sS rfl rfl rfl (op1_pickT rfl rfl rfl) (ao_nil ?_)
    exact ⟨rfl, true, h, ⟨.nil, (sC rfl (sC rfl (sC rfl (sC rfl (sC rfl (sC rfl sub_nil))))))⟩⟩
   ·intro hb19; replace h := ocond_f hb19 h
    refine ao_yes rfl rfl rfl rfl rfl rfl (op1_move rfl rfl) ?_
    refine ao_yes rfl rfl rfl rfl rfl rfl (op1_lenM Try.underlying32 rfl rfl) ?_
    refine ao_yes rfl rfl rfl rfl rfl rfl ((op1_cmp rfl rfl rfl rfl).cast (y := (BO ((decide ((((x6.2.1).length : Nat) : Int) > 0))))) rfl rfl) ?_
    refine sS rfl rfl rfl (op1_pickF rfl rfl rfl) (ao_nil ?_)
    exact ⟨rfl, (decide ((((x6.2.1).length : Nat) : Int) > 0)), h, ⟨.nil, (sC rfl (sC rfl (sC rfl (sC rfl (sC rfl (sC rfl sub_nil))))))⟩⟩
end Go.Proofs.Ytkmhecgagibgjaa
