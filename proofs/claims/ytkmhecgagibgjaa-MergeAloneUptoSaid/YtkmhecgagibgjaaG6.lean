/- Pure functions, and that calls answer as they say. Written by gen.py. -/
import Derived.Test.YtkmhecgagibgjaaG5
namespace Go.Proofs.Ytkmhecgagibgjaa
open Go Aw
set_option linter.unusedVariables false
set_option linter.unusedSimpArgs false
set_option maxRecDepth 20000
set_option maxHeartbeats 2000000
noncomputable def p_law24_MergeAlone (a0 : Term) (a1 : Term) : Option Bool :=
 Option.bind (p_law24_lives) fun x1 =>
 bif (!x1) then (
  some false
 ) else (
  Option.bind (p_mk_Built a0) fun x3 =>
  Option.bind (p_mk_Built a1) fun x4 =>
  Option.bind (p_merge_Threenil x3 x3 x4) fun x5 =>
  Option.bind (p_merge_Threenil x3 x4 x3) fun x6 =>
  Option.bind (p_merge_Threenil x3 x4 x4) fun x7 =>
  bif (x5.2.2 != 0) then (
   bif (x5.1).isNil then (
    bif (x6.1).isNil then (
     bif (x7.1).isNil then (
      bif (x6.2.2 != 0) then (
       some (x7.2.2 != 0)
      ) else (
       some false
      )
     ) else (
      some false
     )
    ) else (
     some false
    )
   ) else (
    some false
   )
  ) else (
   bif (x6.2.2 == 0) then (
    bif (x7.2.2 == 0) then (
     bif ((((x5.2.1).length : Nat) : Int) == 0) then (
      bif ((((x6.2.1).length : Nat) : Int) == 0) then (
       bif ((((x7.2.1).length : Nat) : Int) == 0) then (
        Option.bind (p_value_Same x5.1 x4) fun x18 =>
        bif x18 then (
         Option.bind (p_value_Same x6.1 x4) fun x20 =>
         bif x20 then (
          Option.bind (p_value_Same x7.1 x4) fun x22 =>
          some x22
         ) else (
          some false
         )
        ) else (
         some false
        )
       ) else (
        some false
       )
      ) else (
       some false
      )
     ) else (
      some false
     )
    ) else (
     some false
    )
   ) else (
    some false
   )
  )
 )
theorem s_law24_MergeAlone (a0 : Term) (a1 : Term) (r : Bool) (h : p_law24_MergeAlone a0 a1 = some r) : PCalls Try.prog 3 [(ofTermX a0), (ofTermX a1)] (BO r) := by
 unfold p_law24_MergeAlone at h
 refine acalls_of Try.func3 rfl Try.ntmps3 Try.results3 rfl (aw_of_bw ?_)
 change BW _ _ _ ⟨[(0, (ofTermX a0)), (1, (ofTermX a1))], [], _⟩ _
 refine bR ?_
 refine sS rfl rfl rfl (op1_box rfl rfl rfl) ?_
 refine sS rfl rfl rfl (op1_box rfl rfl rfl) ?_
 refine sA rfl rfl rfl rfl rfl (ao_nil ?_)
 change BW _ _ _ _ _
 refine bw_seq ?_
 refine bR ?_
 obtain ⟨x1, hx1, h⟩ := obind h
 refine sS rfl rfl rfl (op1_pcall rfl en_7 rfl .nil trivial (s_law24_lives  x1 hx1) rfl) ?_
 refine sS rfl rfl rfl (op1_not rfl rfl) (ao_nil ?_)
 change BW _ _ _ _ _
 refine bw_cond rfl ?_ ?_
 ·intro hc2; replace h := ocond_t hc2 h
  refine bR ?_
  refine sA rfl rfl rfl rfl rfl (ao_nil ?_)
  change BW _ _ _ _ _
  refine bw_ret ?_
  change ∃ xs, _ = some xs ∧ EndOk _ _ _ _
  obtain rfl := Option.some.inj h
  exact ⟨_, rfl, endOk0 (y := (BO false)) (Wk.refl _) rfl ⟨rfl, rfl⟩⟩
 ·intro hc2; replace h := ocond_f hc2 h
  refine bw_skip ?_
  change BW _ _ _ _ _
  refine bw_seq (bw_tail 3 [] [0, 1] mo (by kernel_rfl) ?_)
  refine ac_go rfl rfl rfl rfl (fun H hp => (op1_ldRA inf_29 Try.underlying29 rfl rfl rfl (hp.at rfl rfl) rfl rfl)) ?_
  obtain ⟨x3, hx3, h⟩ := obind h
  refine ac_go rfl rfl rfl rfl (fun H hp => op1_pcall rfl en_8 rfl (.cons (Wk.refl _) .nil) ⟨(ids_TermX a0), trivial⟩ (s_mk_Built a0 x3 hx3) (ids_V x3)) ?_
  refine ac_go rfl rfl rfl rfl (fun H hp => (op1_ldRA inf_29 Try.underlying29 rfl rfl rfl (hp.at rfl rfl) rfl rfl)) ?_
  refine ac_nil ?_
  change AO _ _ _ _ _
  obtain ⟨x4, hx4, h⟩ := obind h
  refine sS rfl rfl rfl (op1_pcall rfl en_8 rfl (.cons (Wk.refl _) .nil) ⟨(ids_TermX a1), trivial⟩ (s_mk_Built a1 x4 hx4) (ids_V x4)) ?_
  refine sA rfl rfl rfl rfl rfl ?_
  refine sA rfl rfl rfl rfl rfl (ao_nil ?_)
  change BW _ _ _ _ _
  refine bR ?_
  refine sM rfl rfl rfl rfl rfl ?_
  refine sM rfl rfl rfl rfl rfl ?_
  refine sM rfl rfl rfl rfl rfl ?_
  obtain ⟨x5, hx5, h⟩ := obind h
  refine sS rfl rfl rfl (op1_pcall rfl en_9 rfl (.cons (Wk.refl _) (.cons (Wk.refl _) (.cons (Wk.refl _) (.cons (Wk.refl _) .nil)))) ⟨(ids_V x3), ⟨(ids_V x3), ⟨(ids_V x4), ⟨rfl, trivial⟩⟩⟩⟩ (s_merge_Threenil x3 x3 x4 x5 hx5) (ids_tup_cons (ids_V x5.1) (ids_tup_cons (ids_slM ids_S_api_Conflict x5.2.1) (ids_tup_cons rfl ids_tup_nil)))) ?_
  refine sM rfl rfl rfl rfl rfl ?_
  refine sS rfl rfl rfl (op1_ext rfl rfl rfl) ?_
  refine sS rfl rfl rfl (op1_ext rfl rfl rfl) ?_
  refine sS rfl rfl rfl (op1_ext rfl rfl rfl) ?_
  refine sA rfl rfl rfl rfl rfl ?_
  refine sA rfl rfl rfl rfl rfl ?_
  refine sA rfl rfl rfl rfl rfl (ao_nil ?_)
  change BW _ _ _ _ _
  refine bR ?_
  refine sM rfl rfl rfl rfl rfl ?_
  refine sM rfl rfl rfl rfl rfl ?_
  refine sM rfl rfl rfl rfl rfl ?_
  obtain ⟨x6, hx6, h⟩ := obind h
  refine sS rfl rfl rfl (op1_pcall rfl en_9 rfl (.cons (Wk.refl _) (.cons (Wk.refl _) (.cons (Wk.refl _) (.cons (Wk.refl _) .nil)))) ⟨(ids_V x3), ⟨(ids_V x4), ⟨(ids_V x3), ⟨rfl, trivial⟩⟩⟩⟩ (s_merge_Threenil x3 x4 x3 x6 hx6) (ids_tup_cons (ids_V x6.1) (ids_tup_cons (ids_slM ids_S_api_Conflict x6.2.1) (ids_tup_cons rfl ids_tup_nil)))) ?_
  refine sM rfl rfl rfl rfl rfl ?_
  refine sS rfl rfl rfl (op1_ext rfl rfl rfl) ?_
  refine sS rfl rfl rfl (op1_ext rfl rfl rfl) ?_
  refine sS rfl rfl rfl (op1_ext rfl rfl rfl) ?_
  refine sA rfl rfl rfl rfl rfl ?_
  refine sA rfl rfl rfl rfl rfl ?_
  refine sA rfl rfl rfl rfl rfl (ao_nil ?_)
  change BW _ _ _ _ _
  refine bR ?_
  refine sM rfl rfl rfl rfl rfl ?_
  refine sM rfl rfl rfl rfl rfl ?_
  refine sM rfl rfl rfl rfl rfl ?_
  obtain ⟨x7, hx7, h⟩ := obind h
  refine sS rfl rfl rfl (op1_pcall rfl en_9 rfl (.cons (Wk.refl _) (.cons (Wk.refl _) (.cons (Wk.refl _) (.cons (Wk.refl _) .nil)))) ⟨(ids_V x3), ⟨(ids_V x4), ⟨(ids_V x4), ⟨rfl, trivial⟩⟩⟩⟩ (s_merge_Threenil x3 x4 x4 x7 hx7) (ids_tup_cons (ids_V x7.1) (ids_tup_cons (ids_slM ids_S_api_Conflict x7.2.1) (ids_tup_cons rfl ids_tup_nil)))) ?_
  refine sM rfl rfl rfl rfl rfl ?_
  refine sS rfl rfl rfl (op1_ext rfl rfl rfl) ?_
  refine sS rfl rfl rfl (op1_ext rfl rfl rfl) ?_
  refine sS rfl rfl rfl (op1_ext rfl rfl rfl) ?_
  refine sA rfl rfl rfl rfl rfl ?_
  refine sA rfl rfl rfl rfl rfl ?_
  refine sA rfl rfl rfl rfl rfl (ao_nil ?_)
  change BW _ _ _ _ _
  refine bw_seq ?_
  refine bR ?_
  refine sM rfl rfl rfl rfl rfl ?_
  refine sS rfl rfl rfl ((op1_cmp rfl rfl rfl rfl).cast (y := (BO ((x5.2.2 != 0)))) rfl rfl) (ao_nil ?_)
  change BW _ _ _ _ _
  refine bw_cond rfl ?_ ?_
  ·intro hc8; replace h := ocond_t hc8 h
   refine bR ?_
   refine sM rfl rfl rfl rfl rfl ?_
   refine sS rfl rfl rfl (op1_vEqNil Try.underlying20 rfl rfl) ?_
   refine sM rfl rfl rfl rfl rfl ?_
   refine ao_cases (t := 50) rfl ?_ ?_
   ·intro hb9; replace h := ocond_t hb9 h
    refine ao_yes rfl rfl rfl rfl rfl rfl (op1_move rfl rfl) ?_
    refine ao_yes rfl rfl rfl rfl rfl rfl (op1_vEqNil Try.underlying20 rfl rfl) ?_
    refine sS rfl rfl rfl (op1_pickT rfl rfl rfl) ?_
    refine sM rfl rfl rfl rfl rfl ?_
    refine ao_cases (t := 54) rfl ?_ ?_
    ·intro hb10; replace h := ocond_t hb10 h
     refine ao_yes rfl rfl rfl rfl rfl rfl (op1_move rfl rfl) ?_
     refine ao_yes rfl rfl rfl rfl rfl rfl (op1_vEqNil Try.underlying20 rfl rfl) ?_
     refine sS rfl rfl rfl (op1_pickT rfl rfl rfl) ?_
     refine sM rfl rfl rfl rfl rfl ?_
     refine ao_cases (t := 58) rfl ?_ ?_
     ·intro hb11; replace h := ocond_t hb11 h
      refine ao_yes rfl rfl rfl rfl rfl rfl (op1_move rfl rfl) ?_
      refine ao_yes rfl rfl rfl rfl rfl rfl ((op1_cmp rfl rfl rfl rfl).cast (y := (BO ((x6.2.2 != 0)))) rfl rfl) ?_
      refine sS rfl rfl rfl (op1_pickT rfl rfl rfl) ?_
      refine sM rfl rfl rfl rfl rfl ?_
      refine ao_cases (t := 62) rfl ?_ ?_
      ·intro hb12; replace h := ocond_t hb12 h
       refine ao_yes rfl rfl rfl rfl rfl rfl (op1_move rfl rfl) ?_
       refine ao_yes rfl rfl rfl rfl rfl rfl ((op1_cmp rfl rfl rfl rfl).cast (y := (BO ((x7.2.2 != 0)))) rfl rfl) ?_
       refine sS rfl rfl rfl (op1_pickT rfl rfl rfl) ?_
       refine sA rfl rfl rfl rfl rfl (ao_nil ?_)
       change BW _ _ _ _ _
       refine bw_ret ?_
       change ∃ xs, _ = some xs ∧ EndOk _ _ _ _
       obtain rfl := Option.some.inj h
       exact ⟨_, rfl, endOk0 (y := (BO ((x7.2.2 != 0)))) (Wk.refl _) rfl ⟨rfl, rfl⟩⟩
      ·intro hb12; replace h := ocond_f hb12 h
       refine ao_no rfl rfl rfl rfl rfl rfl ?_
       refine ao_no rfl rfl rfl rfl rfl rfl ?_
       refine sS rfl rfl rfl (op1_pickF rfl rfl rfl) ?_
       refine sA rfl rfl rfl rfl rfl (ao_nil ?_)
       change BW _ _ _ _ _
       refine bw_ret ?_
       change ∃ xs, _ = some xs ∧ EndOk _ _ _ _
       obtain rfl := Option.some.inj h
       exact ⟨_, rfl, endOk0 (y := (BO false)) (Wk.refl _) rfl ⟨rfl, rfl⟩⟩
     ·intro hb11; replace h := ocond_f hb11 h
      refine ao_no rfl rfl rfl rfl rfl rfl ?_
      refine ao_no rfl rfl rfl rfl rfl rfl ?_
      refine sS rfl rfl rfl (op1_pickF rfl rfl rfl) ?_
      refine sM rfl rfl rfl rfl rfl ?_
      refine ao_no rfl rfl rfl rfl rfl rfl ?_
      refine ao_no rfl rfl rfl rfl rfl rfl ?_
      refine sS rfl rfl rfl (op1_pickF rfl rfl rfl) ?_
      refine sA rfl rfl rfl rfl rfl (ao_nil ?_)
      change BW _ _ _ _ _
      refine bw_ret ?_
      change ∃ xs, _ = some xs ∧ EndOk _ _ _ _
      obtain rfl := Option.some.inj h
      exact ⟨_, rfl, endOk0 (y := (BO false)) (Wk.refl _) rfl ⟨rfl, rfl⟩⟩
    ·intro hb10; replace h := ocond_f hb10 h
     refine ao_no rfl rfl rfl rfl rfl rfl ?_
     refine ao_no rfl rfl rfl rfl rfl rfl ?_
     refine sS rfl rfl rfl (op1_pickF rfl rfl rfl) ?_
     refine sM rfl rfl rfl rfl rfl ?_
     refine ao_no rfl rfl rfl rfl rfl rfl ?_
     refine ao_no rfl rfl rfl rfl rfl rfl ?_
     refine sS rfl rfl rfl (op1_pickF rfl rfl rfl) ?_
     refine sM rfl rfl rfl rfl rfl ?_
     refine ao_no rfl rfl rfl rfl rfl rfl ?_
     refine ao_no rfl rfl rfl rfl rfl rfl ?_
     refine sS rfl rfl rfl (op1_pickF rfl rfl rfl) ?_
     refine sA rfl rfl rfl rfl rfl (ao_nil ?_)
     change BW _ _ _ _ _
     refine bw_ret ?_
     change ∃ xs, _ = some xs ∧ EndOk _ _ _ _
     obtain rfl := Option.some.inj h
     exact ⟨_, rfl, endOk0 (y := (BO false)) (Wk.refl _) rfl ⟨rfl, rfl⟩⟩
   ·intro hb9; replace h := ocond_f hb9 h
    refine ao_no rfl rfl rfl rfl rfl rfl ?_
    refine ao_no rfl rfl rfl rfl rfl rfl ?_
    refine sS rfl rfl rfl (op1_pickF rfl rfl rfl) ?_
    refine sM rfl rfl rfl rfl rfl ?_
    refine ao_no rfl rfl rfl rfl rfl rfl ?_
    refine ao_no rfl rfl rfl rfl rfl rfl ?_
    refine sS rfl rfl rfl (op1_pickF rfl rfl rfl) ?_
    refine sM rfl rfl rfl rfl rfl ?_
    refine ao_no rfl rfl rfl rfl rfl rfl ?_
    refine ao_no rfl rfl rfl rfl rfl rfl ?_
    refine sS rfl rfl rfl (op1_pickF rfl rfl rfl) ?_
    refine sM rfl rfl rfl rfl rfl ?_
    refine ao_no rfl rfl rfl rfl rfl rfl ?_
    refine ao_no rfl rfl rfl rfl rfl rfl ?_
    refine sS rfl rfl rfl (op1_pickF rfl rfl rfl) ?_
    refine sA rfl rfl rfl rfl rfl (ao_nil ?_)
    change BW _ _ _ _ _
    refine bw_ret ?_
    change ∃ xs, _ = some xs ∧ EndOk _ _ _ _
    obtain rfl := Option.some.inj h
    exact ⟨_, rfl, endOk0 (y := (BO false)) (Wk.refl _) rfl ⟨rfl, rfl⟩⟩
  ·intro hc8; replace h := ocond_f hc8 h
   refine bw_skip ?_
   change BW _ _ _ _ _
   refine bR ?_
   refine sM rfl rfl rfl rfl rfl ?_
   refine sS rfl rfl rfl ((op1_cmp rfl rfl rfl rfl).cast (y := (BO ((x6.2.2 == 0)))) rfl rfl) ?_
   refine sM rfl rfl rfl rfl rfl ?_
   refine ao_cases (t := 68) rfl ?_ ?_
   ·intro hb13; replace h := ocond_t hb13 h
    refine ao_yes rfl rfl rfl rfl rfl rfl (op1_move rfl rfl) ?_
    refine ao_yes rfl rfl rfl rfl rfl rfl ((op1_cmp rfl rfl rfl rfl).cast (y := (BO ((x7.2.2 == 0)))) rfl rfl) ?_
    refine sS rfl rfl rfl (op1_pickT rfl rfl rfl) ?_
    refine sM rfl rfl rfl rfl rfl ?_
    refine ao_cases (t := 72) rfl ?_ ?_
    ·intro hb14; replace h := ocond_t hb14 h
     refine ao_yes rfl rfl rfl rfl rfl rfl (op1_move rfl rfl) ?_
     refine ao_yes rfl rfl rfl rfl rfl rfl (op1_lenM Try.underlying32 rfl rfl) ?_
     refine ao_yes rfl rfl rfl rfl rfl rfl ((op1_cmp rfl rfl rfl rfl).cast (y := (BO (((((x5.2.1).length : Nat) : Int) == 0)))) rfl rfl) ?_
     refine sS rfl rfl rfl (op1_pickT rfl rfl rfl) ?_
     refine sM rfl rfl rfl rfl rfl ?_
     refine ao_cases (t := 77) rfl ?_ ?_
     ·intro hb15; replace h := ocond_t hb15 h
      refine ao_yes rfl rfl rfl rfl rfl rfl (op1_move rfl rfl) ?_
      refine ao_yes rfl rfl rfl rfl rfl rfl (op1_lenM Try.underlying32 rfl rfl) ?_
      refine ao_yes rfl rfl rfl rfl rfl rfl ((op1_cmp rfl rfl rfl rfl).cast (y := (BO (((((x6.2.1).length : Nat) : Int) == 0)))) rfl rfl) ?_
      refine sS rfl rfl rfl (op1_pickT rfl rfl rfl) ?_
      refine sM rfl rfl rfl rfl rfl ?_
      refine ao_cases (t := 82) rfl ?_ ?_
      ·intro hb16; replace h := ocond_t hb16 h
       refine ao_yes rfl rfl rfl rfl rfl rfl (op1_move rfl rfl) ?_
       refine ao_yes rfl rfl rfl rfl rfl rfl (op1_lenM Try.underlying32 rfl rfl) ?_
       refine ao_yes rfl rfl rfl rfl rfl rfl ((op1_cmp rfl rfl rfl rfl).cast (y := (BO (((((x7.2.1).length : Nat) : Int) == 0)))) rfl rfl) ?_
       refine sS rfl rfl rfl (op1_pickT rfl rfl rfl) ?_
       refine sM rfl rfl rfl rfl rfl ?_
       refine ao_cases (t := 87) rfl ?_ ?_
       ·intro hb17; replace h := ocond_t hb17 h
        refine ao_yes rfl rfl rfl rfl rfl rfl (op1_move rfl rfl) ?_
        refine ao_yes rfl rfl rfl rfl rfl rfl (op1_move rfl rfl) ?_
        obtain ⟨x18, hx18, h⟩ := obind h
        refine ao_yes rfl rfl rfl rfl rfl rfl (op1_pcall rfl en_10 rfl (.cons (Wk.refl _) (.cons (Wk.refl _) .nil)) ⟨(ids_V x5.1), ⟨(ids_V x4), trivial⟩⟩ (s_value_Same x5.1 x4 x18 hx18) rfl) ?_
        refine sS rfl rfl rfl (op1_pickT rfl rfl rfl) ?_
        refine sM rfl rfl rfl rfl rfl ?_
        refine ao_cases (t := 92) rfl ?_ ?_
        ·intro hb19; replace h := ocond_t hb19 h
         refine ao_yes rfl rfl rfl rfl rfl rfl (op1_move rfl rfl) ?_
         refine ao_yes rfl rfl rfl rfl rfl rfl (op1_move rfl rfl) ?_
         obtain ⟨x20, hx20, h⟩ := obind h
         refine ao_yes rfl rfl rfl rfl rfl rfl (op1_pcall rfl en_10 rfl (.cons (Wk.refl _) (.cons (Wk.refl _) .nil)) ⟨(ids_V x6.1), ⟨(ids_V x4), trivial⟩⟩ (s_value_Same x6.1 x4 x20 hx20) rfl) ?_
         refine sS rfl rfl rfl (op1_pickT rfl rfl rfl) ?_
         refine sM rfl rfl rfl rfl rfl ?_
         refine ao_cases (t := 97) rfl ?_ ?_
         ·intro hb21; replace h := ocond_t hb21 h
          refine ao_yes rfl rfl rfl rfl rfl rfl (op1_move rfl rfl) ?_
          refine ao_yes rfl rfl rfl rfl rfl rfl (op1_move rfl rfl) ?_
          obtain ⟨x22, hx22, h⟩ := obind h
          refine ao_yes rfl rfl rfl rfl rfl rfl (op1_pcall rfl en_10 rfl (.cons (Wk.refl _) (.cons (Wk.refl _) .nil)) ⟨(ids_V x7.1), ⟨(ids_V x4), trivial⟩⟩ (s_value_Same x7.1 x4 x22 hx22) rfl) ?_
          refine sS rfl rfl rfl (op1_pickT rfl rfl rfl) ?_
          refine sA rfl rfl rfl rfl rfl (ao_nil ?_)
          change BW _ _ _ _ _
          refine bw_ret ?_
          change ∃ xs, _ = some xs ∧ EndOk _ _ _ _
          obtain rfl := Option.some.inj h
          exact ⟨_, rfl, endOk0 (y := (BO x22)) (Wk.refl _) rfl ⟨rfl, rfl⟩⟩
         ·intro hb21; replace h := ocond_f hb21 h
          refine ao_no rfl rfl rfl rfl rfl rfl ?_
          refine ao_no rfl rfl rfl rfl rfl rfl ?_
          refine ao_no rfl rfl rfl rfl rfl rfl ?_
          refine sS rfl rfl rfl (op1_pickF rfl rfl rfl) ?_
          refine sA rfl rfl rfl rfl rfl (ao_nil ?_)
          change BW _ _ _ _ _
          refine bw_ret ?_
          change ∃ xs, _ = some xs ∧ EndOk _ _ _ _
          obtain rfl := Option.some.inj h
          exact ⟨_, rfl, endOk0 (y := (BO false)) (Wk.refl _) rfl ⟨rfl, rfl⟩⟩
        ·intro hb19; replace h := ocond_f hb19 h
         refine ao_no rfl rfl rfl rfl rfl rfl ?_
         refine ao_no rfl rfl rfl rfl rfl rfl ?_
         refine ao_no rfl rfl rfl rfl rfl rfl ?_
         refine sS rfl rfl rfl (op1_pickF rfl rfl rfl) ?_
         refine sM rfl rfl rfl rfl rfl ?_
         refine ao_no rfl rfl rfl rfl rfl rfl ?_
         refine ao_no rfl rfl rfl rfl rfl rfl ?_
         refine ao_no rfl rfl rfl rfl rfl rfl ?_
         refine sS rfl rfl rfl (op1_pickF rfl rfl rfl) ?_
         refine sA rfl rfl rfl rfl rfl (ao_nil ?_)
         change BW _ _ _ _ _
         refine bw_ret ?_
         change ∃ xs, _ = some xs ∧ EndOk _ _ _ _
         obtain rfl := Option.some.inj h
         exact ⟨_, rfl, endOk0 (y := (BO false)) (Wk.refl _) rfl ⟨rfl, rfl⟩⟩
       ·intro hb17; replace h := ocond_f hb17 h
        refine ao_no rfl rfl rfl rfl rfl rfl ?_
        refine ao_no rfl rfl rfl rfl rfl rfl ?_
        refine ao_no rfl rfl rfl rfl rfl rfl ?_
        refine sS rfl rfl rfl (op1_pickF rfl rfl rfl) ?_
        refine sM rfl rfl rfl rfl rfl ?_
        refine ao_no rfl rfl rfl rfl rfl rfl ?_
        refine ao_no rfl rfl rfl rfl rfl rfl ?_
        refine ao_no rfl rfl rfl rfl rfl rfl ?_
        refine sS rfl rfl rfl (op1_pickF rfl rfl rfl) ?_
        refine sM rfl rfl rfl rfl rfl ?_
        refine ao_no rfl rfl rfl rfl rfl rfl ?_
        refine ao_no rfl rfl rfl rfl rfl rfl ?_
        refine ao_no rfl rfl rfl rfl rfl rfl ?_
        refine sS rfl rfl rfl (op1_pickF rfl rfl rfl) ?_
        refine sA rfl rfl rfl rfl rfl (ao_nil ?_)
        change BW _ _ _ _ _
        refine bw_ret ?_
        change ∃ xs, _ = some xs ∧ EndOk _ _ _ _
        obtain rfl := Option.some.inj h
        exact ⟨_, rfl, endOk0 (y := (BO false)) (Wk.refl _) rfl ⟨rfl, rfl⟩⟩
      ·intro hb16; replace h := ocond_f hb16 h
       refine ao_no rfl rfl rfl rfl rfl rfl ?_
       refine ao_no rfl rfl rfl rfl rfl rfl ?_
       refine ao_no rfl rfl rfl rfl rfl rfl ?_
       refine sS rfl rfl rfl (op1_pickF rfl rfl rfl) ?_
       refine sM rfl rfl rfl rfl rfl ?_
       refine ao_no rfl rfl rfl rfl rfl rfl ?_
       refine ao_no rfl rfl rfl rfl rfl rfl ?_
       refine ao_no rfl rfl rfl rfl rfl rfl ?_
       refine sS rfl rfl rfl (op1_pickF rfl rfl rfl) ?_
       refine sM rfl rfl rfl rfl rfl ?_
       refine ao_no rfl rfl rfl rfl rfl rfl ?_
       refine ao_no rfl rfl rfl rfl rfl rfl ?_
       refine ao_no rfl rfl rfl rfl rfl rfl ?_
       refine sS rfl rfl rfl (op1_pickF rfl rfl rfl) ?_
       refine sM rfl rfl rfl rfl rfl ?_
       refine ao_no rfl rfl rfl rfl rfl rfl ?_
       refine ao_no rfl rfl rfl rfl rfl rfl ?_
       refine ao_no rfl rfl rfl rfl rfl rfl ?_
       refine sS rfl rfl rfl (op1_pickF rfl rfl rfl) ?_
       refine sA rfl rfl rfl rfl rfl (ao_nil ?_)
       change BW _ _ _ _ _
       refine bw_ret ?_
       change ∃ xs, _ = some xs ∧ EndOk _ _ _ _
       obtain rfl := Option.some.inj h
       exact ⟨_, rfl, endOk0 (y := (BO false)) (Wk.refl _) rfl ⟨rfl, rfl⟩⟩
     ·intro hb15; replace h := ocond_f hb15 h
      refine ao_no rfl rfl rfl rfl rfl rfl ?_
      refine ao_no rfl rfl rfl rfl rfl rfl ?_
      refine ao_no rfl rfl rfl rfl rfl rfl ?_
      refine sS rfl rfl rfl (op1_pickF rfl rfl rfl) ?_
      refine sM rfl rfl rfl rfl rfl ?_
      refine ao_no rfl rfl rfl rfl rfl rfl ?_
      refine ao_no rfl rfl rfl rfl rfl rfl ?_
      refine ao_no rfl rfl rfl rfl rfl rfl ?_
      refine sS rfl rfl rfl (op1_pickF rfl rfl rfl) ?_
      refine sM rfl rfl rfl rfl rfl ?_
      refine ao_no rfl rfl rfl rfl rfl rfl ?_
      refine ao_no rfl rfl rfl rfl rfl rfl ?_
      refine ao_no rfl rfl rfl rfl rfl rfl ?_
      refine sS rfl rfl rfl (op1_pickF rfl rfl rfl) ?_
      refine sM rfl rfl rfl rfl rfl ?_
      refine ao_no rfl rfl rfl rfl rfl rfl ?_
      refine ao_no rfl rfl rfl rfl rfl rfl ?_
      refine ao_no rfl rfl rfl rfl rfl rfl ?_
      refine sS rfl rfl rfl (op1_pickF rfl rfl rfl) ?_
      refine sM rfl rfl rfl rfl rfl ?_
      refine ao_no rfl rfl rfl rfl rfl rfl ?_
      refine ao_no rfl rfl rfl rfl rfl rfl ?_
      refine ao_no rfl rfl rfl rfl rfl rfl ?_
      refine sS rfl rfl rfl (op1_pickF rfl rfl rfl) ?_
      refine sA rfl rfl rfl rfl rfl (ao_nil ?_)
      change BW _ _ _ _ _
      refine bw_ret ?_
      change ∃ xs, _ = some xs ∧ EndOk _ _ _ _
      obtain rfl := Option.some.inj h
      exact ⟨_, rfl, endOk0 (y := (BO false)) (Wk.refl _) rfl ⟨rfl, rfl⟩⟩
    ·intro hb14; replace h := ocond_f hb14 h
     refine ao_no rfl rfl rfl rfl rfl rfl ?_
     refine ao_no rfl rfl rfl rfl rfl rfl ?_
     refine ao_no rfl rfl rfl rfl rfl rfl ?_
     refine sS rfl rfl rfl (op1_pickF rfl rfl rfl) ?_
     refine sM rfl rfl rfl rfl rfl ?_
     refine ao_no rfl rfl rfl rfl rfl rfl ?_
     refine ao_no rfl rfl rfl rfl rfl rfl ?_
     refine ao_no rfl rfl rfl rfl rfl rfl ?_
     refine sS rfl rfl rfl (op1_pickF rfl rfl rfl) ?_
     refine sM rfl rfl rfl rfl rfl ?_
     refine ao_no rfl rfl rfl rfl rfl rfl ?_
     refine ao_no rfl rfl rfl rfl rfl rfl ?_
     refine ao_no rfl rfl rfl rfl rfl rfl ?_
     refine sS rfl rfl rfl (op1_pickF rfl rfl rfl) ?_
     refine sM rfl rfl rfl rfl rfl ?_
     refine ao_no rfl rfl rfl rfl rfl rfl ?_
     refine ao_no rfl rfl rfl rfl rfl rfl ?_
     refine ao_no rfl rfl rfl rfl rfl rfl ?_
     refine sS rfl rfl rfl (op1_pickF rfl rfl rfl) ?_
     refine sM rfl rfl rfl rfl rfl ?_
     refine ao_no rfl rfl rfl rfl rfl rfl ?_
     refine ao_no rfl rfl rfl rfl rfl rfl ?_
     refine ao_no rfl rfl rfl rfl rfl rfl ?_
     refine sS rfl rfl rfl (op1_pickF rfl rfl rfl) ?_
     refine sM rfl rfl rfl rfl rfl ?_
     refine ao_no rfl rfl rfl rfl rfl rfl ?_
     refine ao_no rfl rfl rfl rfl rfl rfl ?_
     refine ao_no rfl rfl rfl rfl rfl rfl ?_
     refine sS rfl rfl rfl (op1_pickF rfl rfl rfl) ?_
     refine sA rfl rfl rfl rfl rfl (ao_nil ?_)
     change BW _ _ _ _ _
     refine bw_ret ?_
     change ∃ xs, _ = some xs ∧ EndOk _ _ _ _
     obtain rfl := Option.some.inj h
     exact ⟨_, rfl, endOk0 (y := (BO false)) (Wk.refl _) rfl ⟨rfl, rfl⟩⟩
   ·intro hb13; replace h := ocond_f hb13 h
    refine ao_no rfl rfl rfl rfl rfl rfl ?_
    refine ao_no rfl rfl rfl rfl rfl rfl ?_
    refine sS rfl rfl rfl (op1_pickF rfl rfl rfl) ?_
    refine sM rfl rfl rfl rfl rfl ?_
    refine ao_no rfl rfl rfl rfl rfl rfl ?_
    refine ao_no rfl rfl rfl rfl rfl rfl ?_
    refine ao_no rfl rfl rfl rfl rfl rfl ?_
    refine sS rfl rfl rfl (op1_pickF rfl rfl rfl) ?_
    refine sM rfl rfl rfl rfl rfl ?_
    refine ao_no rfl rfl rfl rfl rfl rfl ?_
    refine ao_no rfl rfl rfl rfl rfl rfl ?_
    refine ao_no rfl rfl rfl rfl rfl rfl ?_
    refine sS rfl rfl rfl (op1_pickF rfl rfl rfl) ?_
    refine sM rfl rfl rfl rfl rfl ?_
    refine ao_no rfl rfl rfl rfl rfl rfl ?_
    refine ao_no rfl rfl rfl rfl rfl rfl ?_
    refine ao_no rfl rfl rfl rfl rfl rfl ?_
    refine sS rfl rfl rfl (op1_pickF rfl rfl rfl) ?_
    refine sM rfl rfl rfl rfl rfl ?_
    refine ao_no rfl rfl rfl rfl rfl rfl ?_
    refine ao_no rfl rfl rfl rfl rfl rfl ?_
    refine ao_no rfl rfl rfl rfl rfl rfl ?_
    refine sS rfl rfl rfl (op1_pickF rfl rfl rfl) ?_
    refine sM rfl rfl rfl rfl rfl ?_
    refine ao_no rfl rfl rfl rfl rfl rfl ?_
    refine ao_no rfl rfl rfl rfl rfl rfl ?_
    refine ao_no rfl rfl rfl rfl rfl rfl ?_
    refine sS rfl rfl rfl (op1_pickF rfl rfl rfl) ?_
    refine sM rfl rfl rfl rfl rfl ?_
    refine ao_no rfl rfl rfl rfl rfl rfl ?_
    refine ao_no rfl rfl rfl rfl rfl rfl ?_
    refine ao_no rfl rfl rfl rfl rfl rfl ?_
    refine sS rfl rfl rfl (op1_pickF rfl rfl rfl) ?_
    refine sA rfl rfl rfl rfl rfl (ao_nil ?_)
    change BW _ _ _ _ _
    refine bw_ret ?_
    change ∃ xs, _ = some xs ∧ EndOk _ _ _ _
    obtain rfl := Option.some.inj h
    exact ⟨_, rfl, endOk0 (y := (BO false)) (Wk.refl _) rfl ⟨rfl, rfl⟩⟩
end Go.Proofs.Ytkmhecgagibgjaa
