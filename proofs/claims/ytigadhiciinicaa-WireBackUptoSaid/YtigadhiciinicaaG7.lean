/- Pure functions, and that calls answer as they say. Written by gen.py. -/
import Derived.Test.YtigadhiciinicaaG6
namespace Go.Proofs.Ytigadhiciinicaa
open Go Aw
set_option linter.unusedVariables false
set_option linter.unusedSimpArgs false
set_option maxRecDepth 20000
set_option maxHeartbeats 2000000
noncomputable def p_law03_WireBack (a0 : Term) (a1 : Str) : Option Bool :=
 Option.bind (p_mk_Built a0) fun x1 =>
 Option.bind (p_wire_Encode x1) fun x2 =>
 bif (x2.2 != 0) then (
  Option.bind (p_ref01_Check a0) fun x4 =>
  bif (x2.2 == x4.2) then (
   some ((((x2.1).length : Nat) : Int) == 0)
  ) else (
   some false
  )
 ) else (
  Option.bind (appO 1 ([] : Str) x2.1) fun x6 =>
  Option.bind (appO 1 x6 a1) fun x7 =>
  Option.bind (p_wire_Decode x7) fun x8 =>
  Option.bind (appO 1 ([] : Str) x2.1) fun x9 =>
  Option.bind (appO 1 x9 a1) fun x10 =>
  Option.bind (p_wire_Skip x10) fun x11 =>
  bif (x8.2.2 == 0) then (
   bif (x11.2 == 0) then (
    bif (x8.2.1 == (((x2.1).length : Nat) : Int)) then (
     bif (x11.1 == x8.2.1) then (
      Option.bind (p_mk_Is x8.1 a0) fun x16 =>
      some x16
     ) else (
      some false
     )
    ) else (
     some false
    )
   ) else (
    some false
   )
  ) else (
   some false
  )
 )
theorem s_law03_WireBack (a0 : Term) (a1 : Str) (r : Bool) (h : p_law03_WireBack a0 a1 = some r) : PCalls Try.prog 7 [(ofTermX a0), (PV.sl none 1 (List.map ofB a1))] (BO r) := by
 unfold p_law03_WireBack at h
 refine acalls_of Try.func7 rfl Try.ntmps7 Try.results7 rfl (aw_of_bw ?_)
 change BW _ _ _ ⟨[(0, (ofTermX a0)), (1, (PV.sl none 1 (List.map ofB a1)))], [], _⟩ _
 refine bR ?_
 refine sS rfl rfl rfl (op1_box rfl rfl rfl) ?_
 refine sA rfl rfl rfl rfl rfl (ao_nil ?_)
 change BW _ _ _ _ _
 refine bR ?_
 refine sS rfl rfl rfl ((op1_ldRA inf_29 Try.underlying29 rfl rfl rfl rfl rfl rfl)) ?_
 obtain ⟨x1, hx1, h⟩ := obind h
 refine sS rfl rfl rfl (op1_pcall rfl en_10 rfl (.cons (Wk.refl _) .nil) ⟨(ids_TermX a0), trivial⟩ (s_mk_Built a0 x1 hx1) (ids_V x1)) ?_
 obtain ⟨x2, hx2, h⟩ := obind h
 refine sS rfl rfl rfl (op1_pcall rfl en_11 rfl (.cons (Wk.refl _) .nil) ⟨(ids_V x1), trivial⟩ (s_wire_Encode x1 x2 hx2) (ids_tup_cons (ids_slM (fun _ => rfl) x2.1) (ids_tup_cons rfl ids_tup_nil))) ?_
 refine sM rfl rfl rfl rfl rfl ?_
 refine sS rfl rfl rfl (op1_ext rfl rfl rfl) ?_
 refine sS rfl rfl rfl (op1_ext rfl rfl rfl) ?_
 refine sA rfl rfl rfl rfl rfl ?_
 refine sA rfl rfl rfl rfl rfl (ao_nil ?_)
 change BW _ _ _ _ _
 refine bw_seq ?_
 refine bR ?_
 refine sM rfl rfl rfl rfl rfl ?_
 refine sS rfl rfl rfl ((op1_cmp rfl rfl rfl rfl).cast (y := (BO ((x2.2 != 0)))) rfl rfl) (ao_nil ?_)
 change BW _ _ _ _ _
 refine bw_cond rfl ?_ ?_
 ·intro hc3; replace h := ocond_t hc3 h
  refine bR ?_
  refine sS rfl rfl rfl ((op1_ldRA inf_29 Try.underlying29 rfl rfl rfl rfl rfl rfl)) ?_
  obtain ⟨x4, hx4, h⟩ := obind h
  refine sS rfl rfl rfl (op1_pcall rfl en_26 rfl (.cons (Wk.refl _) .nil) ⟨(ids_TermX a0), trivial⟩ (s_ref01_Check a0 x4 hx4) (ids_tup_cons rfl (ids_tup_cons rfl ids_tup_nil))) ?_
  refine sM rfl rfl rfl rfl rfl ?_
  refine sS rfl rfl rfl (op1_ext rfl rfl rfl) ?_
  refine sS rfl rfl rfl (op1_ext rfl rfl rfl) ?_
  refine sA rfl rfl rfl rfl rfl ?_
  refine sA rfl rfl rfl rfl rfl (ao_nil ?_)
  change BW _ _ _ _ _
  refine bR ?_
  refine sM rfl rfl rfl rfl rfl ?_
  refine sM rfl rfl rfl rfl rfl ?_
  refine sS rfl rfl rfl ((op1_cmp rfl rfl rfl rfl).cast (y := (BO ((x2.2 == x4.2)))) rfl rfl) ?_
  refine sM rfl rfl rfl rfl rfl ?_
  refine ao_cases (t := 30) rfl ?_ ?_
  ·intro hb5; replace h := ocond_t hb5 h
   refine ao_yes rfl rfl rfl rfl rfl rfl (op1_move rfl rfl) ?_
   refine ao_yes rfl rfl rfl rfl rfl rfl (op1_lenM Try.underlying23 rfl rfl) ?_
   refine ao_yes rfl rfl rfl rfl rfl rfl ((op1_cmp rfl rfl rfl rfl).cast (y := (BO (((((x2.1).length : Nat) : Int) == 0)))) rfl rfl) ?_
   refine sS rfl rfl rfl (op1_pickT rfl rfl rfl) ?_
   refine sA rfl rfl rfl rfl rfl (ao_nil ?_)
   change BW _ _ _ _ _
   refine bw_ret ?_
   change ∃ xs, _ = some xs ∧ EndOk _ _ _ _
   obtain rfl := Option.some.inj h
   exact ⟨_, rfl, endOk0 (y := (BO (((((x2.1).length : Nat) : Int) == 0)))) (Wk.refl _) rfl ⟨rfl, rfl⟩⟩
  ·intro hb5; replace h := ocond_f hb5 h
   refine ao_no rfl rfl rfl rfl rfl rfl ?_
   refine ao_no rfl rfl rfl rfl rfl rfl ?_
   refine ao_no rfl rfl rfl rfl rfl rfl ?_
   refine sS rfl rfl rfl (op1_pickF rfl rfl rfl) ?_
   refine sA rfl rfl rfl rfl rfl (ao_nil ?_)
   change BW _ _ _ _ _
   refine bw_ret ?_
   change ∃ xs, _ = some xs ∧ EndOk _ _ _ _
   obtain rfl := Option.some.inj h
   exact ⟨_, rfl, endOk0 (y := (BO false)) (Wk.refl _) rfl ⟨rfl, rfl⟩⟩
 ·intro hc3; replace h := ocond_f hc3 h
  refine bw_skip ?_
  change BW _ _ _ _ _
  refine bR ?_
  refine sS rfl rfl rfl ((op1_bslice (xs := []) Try.underlying23 inf_5 rfl rfl rfl rfl rfl rfl ⟨Nat.le_of_ble_eq_true rfl, Nat.le_of_ble_eq_true rfl⟩ rfl).cast (y := (PV.sl (some 1) 1 (List.map ofB ([] : Str)))) rfl rfl) ?_
  refine sM rfl rfl rfl rfl rfl ?_
  obtain ⟨x6, hx6, h⟩ := obind h
  refine sS rfl rfl rfl (op1_appM Try.underlying23 inf_5 rfl Try.underlying23 rfl rfl rfl rfl (fun _ => rfl) (fun _ => rfl) hx6 rfl) ?_
  refine sM rfl rfl rfl rfl rfl ?_
  obtain ⟨x7, hx7, h⟩ := obind h
  refine sS rfl rfl rfl (op1_appM Try.underlying23 inf_5 rfl Try.underlying23 rfl rfl rfl rfl (fun _ => rfl) (fun _ => rfl) hx7 rfl) ?_
  obtain ⟨x8, hx8, h⟩ := obind h
  refine sS rfl rfl rfl (op1_pcall rfl en_18 rfl (.cons Wk.tok .nil) ⟨(ids_slM (fun _ => rfl) x7), trivial⟩ (s_wire_Decode x7 x8 hx8) (ids_tup_cons (ids_V x8.1) (ids_tup_cons rfl (ids_tup_cons rfl ids_tup_nil)))) ?_
  refine sM rfl rfl rfl rfl rfl ?_
  refine sS rfl rfl rfl (op1_ext rfl rfl rfl) ?_
  refine sS rfl rfl rfl (op1_ext rfl rfl rfl) ?_
  refine sS rfl rfl rfl (op1_ext rfl rfl rfl) ?_
  refine sA rfl rfl rfl rfl rfl ?_
  refine sA rfl rfl rfl rfl rfl ?_
  refine sA rfl rfl rfl rfl rfl (ao_nil ?_)
  change BW _ _ _ _ _
  refine bR ?_
  refine sS rfl rfl rfl ((op1_bslice (xs := []) Try.underlying23 inf_5 rfl rfl rfl rfl rfl rfl ⟨Nat.le_of_ble_eq_true rfl, Nat.le_of_ble_eq_true rfl⟩ rfl).cast (y := (PV.sl (some 2) 1 (List.map ofB ([] : Str)))) rfl rfl) ?_
  refine sM rfl rfl rfl rfl rfl ?_
  obtain ⟨x9, hx9, h⟩ := obind h
  refine sS rfl rfl rfl (op1_appM Try.underlying23 inf_5 rfl Try.underlying23 rfl rfl rfl rfl (fun _ => rfl) (fun _ => rfl) hx9 rfl) ?_
  refine sM rfl rfl rfl rfl rfl ?_
  obtain ⟨x10, hx10, h⟩ := obind h
  refine sS rfl rfl rfl (op1_appM Try.underlying23 inf_5 rfl Try.underlying23 rfl rfl rfl rfl (fun _ => rfl) (fun _ => rfl) hx10 rfl) ?_
  obtain ⟨x11, hx11, h⟩ := obind h
  refine sS rfl rfl rfl (op1_pcall rfl en_19 rfl (.cons Wk.tok .nil) ⟨(ids_slM (fun _ => rfl) x10), trivial⟩ (s_wire_Skip x10 x11 hx11) (ids_tup_cons rfl (ids_tup_cons rfl ids_tup_nil))) ?_
  refine sM rfl rfl rfl rfl rfl ?_
  refine sS rfl rfl rfl (op1_ext rfl rfl rfl) ?_
  refine sS rfl rfl rfl (op1_ext rfl rfl rfl) ?_
  refine sA rfl rfl rfl rfl rfl ?_
  refine sA rfl rfl rfl rfl rfl (ao_nil ?_)
  change BW _ _ _ _ _
  refine bR ?_
  refine sM rfl rfl rfl rfl rfl ?_
  refine sS rfl rfl rfl ((op1_cmp rfl rfl rfl rfl).cast (y := (BO ((x8.2.2 == 0)))) rfl rfl) ?_
  refine sM rfl rfl rfl rfl rfl ?_
  refine ao_cases (t := 56) rfl ?_ ?_
  ·intro hb12; replace h := ocond_t hb12 h
   refine ao_yes rfl rfl rfl rfl rfl rfl (op1_move rfl rfl) ?_
   refine ao_yes rfl rfl rfl rfl rfl rfl ((op1_cmp rfl rfl rfl rfl).cast (y := (BO ((x11.2 == 0)))) rfl rfl) ?_
   refine sS rfl rfl rfl (op1_pickT rfl rfl rfl) ?_
   refine sM rfl rfl rfl rfl rfl ?_
   refine ao_cases (t := 60) rfl ?_ ?_
   ·intro hb13; replace h := ocond_t hb13 h
    refine ao_yes rfl rfl rfl rfl rfl rfl (op1_move rfl rfl) ?_
    refine ao_yes rfl rfl rfl rfl rfl rfl (op1_move rfl rfl) ?_
    refine ao_yes rfl rfl rfl rfl rfl rfl (op1_lenM Try.underlying23 rfl rfl) ?_
    refine ao_yes rfl rfl rfl rfl rfl rfl ((op1_cmp rfl rfl rfl rfl).cast (y := (BO ((x8.2.1 == (((x2.1).length : Nat) : Int))))) rfl rfl) ?_
    refine sS rfl rfl rfl (op1_pickT rfl rfl rfl) ?_
    refine sM rfl rfl rfl rfl rfl ?_
    refine ao_cases (t := 66) rfl ?_ ?_
    ·intro hb14; replace h := ocond_t hb14 h
     refine ao_yes rfl rfl rfl rfl rfl rfl (op1_move rfl rfl) ?_
     refine ao_yes rfl rfl rfl rfl rfl rfl (op1_move rfl rfl) ?_
     refine ao_yes rfl rfl rfl rfl rfl rfl ((op1_cmp rfl rfl rfl rfl).cast (y := (BO ((x11.1 == x8.2.1)))) rfl rfl) ?_
     refine sS rfl rfl rfl (op1_pickT rfl rfl rfl) ?_
     refine sM rfl rfl rfl rfl rfl ?_
     refine ao_cases (t := 71) rfl ?_ ?_
     ·intro hb15; replace h := ocond_t hb15 h
      refine ao_yes rfl rfl rfl rfl rfl rfl (op1_move rfl rfl) ?_
      refine ao_yes rfl rfl rfl rfl rfl rfl ((op1_ldRA inf_29 Try.underlying29 rfl rfl rfl rfl rfl rfl)) ?_
      obtain ⟨x16, hx16, h⟩ := obind h
      refine ao_yes rfl rfl rfl rfl rfl rfl (op1_pcall rfl en_22 rfl (.cons (Wk.refl _) (.cons (Wk.refl _) .nil)) ⟨(ids_V x8.1), ⟨(ids_TermX a0), trivial⟩⟩ (s_mk_Is x8.1 a0 x16 hx16) rfl) ?_
      refine sS rfl rfl rfl (op1_pickT rfl rfl rfl) ?_
      refine sA rfl rfl rfl rfl rfl (ao_nil ?_)
      change BW _ _ _ _ _
      refine bw_ret ?_
      change ∃ xs, _ = some xs ∧ EndOk _ _ _ _
      obtain rfl := Option.some.inj h
      exact ⟨_, rfl, endOk0 (y := (BO x16)) (Wk.refl _) rfl ⟨rfl, rfl⟩⟩
     ·intro hb15; replace h := ocond_f hb15 h
      refine ao_no rfl rfl rfl rfl rfl rfl ?_
      refine ao_no rfl rfl rfl rfl rfl rfl ?_
      refine ao_no rfl rfl rfl rfl rfl rfl ?_
      refine sS rfl rfl rfl (op1_pickF rfl rfl rfl) ?_
      refine sA rfl rfl rfl rfl rfl (ao_nil ?_)
      change BW _ _ _ _ _
      refine bw_ret ?_
      change ∃ xs, _ = some xs ∧ EndOk _ _ _ _
      obtain rfl := Option.some.inj h
      exact ⟨_, rfl, endOk0 (y := (BO false)) (Wk.refl _) rfl ⟨rfl, rfl⟩⟩
    ·intro hb14; replace h := ocond_f hb14 h
     refine ao_no rfl rfl rfl rfl rfl rfl ?_
     refine ao_no rfl rfl rfl rfl rfl rfl ?_
     refine ao_no rfl rfl rfl rfl rfl rfl ?_
     refine sS rfl rfl rfl (op1_pickF rfl rfl rfl) ?_
     refine sM rfl rfl rfl rfl rfl ?_
     refine ao_no rfl rfl rfl rfl rfl rfl ?_
     refine ao_no rfl rfl rfl rfl rfl rfl ?_
     refine ao_no rfl rfl rfl rfl rfl rfl ?_
     refine sS rfl rfl rfl (op1_pickF rfl rfl rfl) ?_
     refine sA rfl rfl rfl rfl rfl (ao_nil ?_)
     change BW _ _ _ _ _
     refine bw_ret ?_
     change ∃ xs, _ = some xs ∧ EndOk _ _ _ _
     obtain rfl := Option.some.inj h
     exact ⟨_, rfl, endOk0 (y := (BO false)) (Wk.refl _) rfl ⟨rfl, rfl⟩⟩
   ·intro hb13; replace h := ocond_f hb13 h
    refine ao_no rfl rfl rfl rfl rfl rfl ?_
    refine ao_no rfl rfl rfl rfl rfl rfl ?_
    refine ao_no rfl rfl rfl rfl rfl rfl ?_
    refine ao_no rfl rfl rfl rfl rfl rfl ?_
    refine sS rfl rfl rfl (op1_pickF rfl rfl rfl) ?_
    refine sM rfl rfl rfl rfl rfl ?_
    refine ao_no rfl rfl rfl rfl rfl rfl ?_
    refine ao_no rfl rfl rfl rfl rfl rfl ?_
    refine ao_no rfl rfl rfl rfl rfl rfl ?_
    refine sS rfl rfl rfl (op1_pickF rfl rfl rfl) ?_
    refine sM rfl rfl rfl rfl rfl ?_
    refine ao_no rfl rfl rfl rfl rfl rfl ?_
    refine ao_no rfl rfl rfl rfl rfl rfl ?_
    refine ao_no rfl rfl rfl rfl rfl rfl ?_
    refine sS rfl rfl rfl (op1_pickF rfl rfl rfl) ?_
    refine sA rfl rfl rfl rfl rfl (ao_nil ?_)
    change BW _ _ _ _ _
    refine bw_ret ?_
    change ∃ xs, _ = some xs ∧ EndOk _ _ _ _
    obtain rfl := Option.some.inj h
    exact ⟨_, rfl, endOk0 (y := (BO false)) (Wk.refl _) rfl ⟨rfl, rfl⟩⟩
  ·intro hb12; replace h := ocond_f hb12 h
   refine ao_no rfl rfl rfl rfl rfl rfl ?_
   refine ao_no rfl rfl rfl rfl rfl rfl ?_
   refine sS rfl rfl rfl (op1_pickF rfl rfl rfl) ?_
   refine sM rfl rfl rfl rfl rfl ?_
   refine ao_no rfl rfl rfl rfl rfl rfl ?_
   refine ao_no rfl rfl rfl rfl rfl rfl ?_
   refine ao_no rfl rfl rfl rfl rfl rfl ?_
   refine ao_no rfl rfl rfl rfl rfl rfl ?_
   refine sS rfl rfl rfl (op1_pickF rfl rfl rfl) ?_
   refine sM rfl rfl rfl rfl rfl ?_
   refine ao_no rfl rfl rfl rfl rfl rfl ?_
   refine ao_no rfl rfl rfl rfl rfl rfl ?_
   refine ao_no rfl rfl rfl rfl rfl rfl ?_
   refine sS rfl rfl rfl (op1_pickF rfl rfl rfl) ?_
   refine sM rfl rfl rfl rfl rfl ?_
   refine ao_no rfl rfl rfl rfl rfl rfl ?_
   refine ao_no rfl rfl rfl rfl rfl rfl ?_
   refine ao_no rfl rfl rfl rfl rfl rfl ?_
   refine sS rfl rfl rfl (op1_pickF rfl rfl rfl) ?_
   refine sA rfl rfl rfl rfl rfl (ao_nil ?_)
   change BW _ _ _ _ _
   refine bw_ret ?_
   change ∃ xs, _ = some xs ∧ EndOk _ _ _ _
   obtain rfl := Option.some.inj h
   exact ⟨_, rfl, endOk0 (y := (BO false)) (Wk.refl _) rfl ⟨rfl, rfl⟩⟩
end Go.Proofs.Ytigadhiciinicaa
