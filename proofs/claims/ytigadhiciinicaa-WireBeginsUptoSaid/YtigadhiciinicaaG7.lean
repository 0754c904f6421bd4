/- Pure functions, and that calls answer as they say. Written by gen.py. -/
import Derived.Test.YtigadhiciinicaaG6
namespace Go.Proofs.Ytigadhiciinicaa
open Go Aw
set_option linter.unusedVariables false
set_option linter.unusedSimpArgs false
set_option maxRecDepth 20000
set_option maxHeartbeats 2000000
noncomputable def law03_WireBegins_j1 (x2 : (Str × Int)) (s6 : Int) : Option Bool :=
 Option.bind (cutO x2.1 0 s6) fun x7 =>
 Option.bind (appO 1 ([] : Str) x7) fun x8 =>
 Option.bind (p_wire_Decode x8) fun x9 =>
 Option.bind (cutO x2.1 0 s6) fun x10 =>
 Option.bind (appO 1 ([] : Str) x10) fun x11 =>
 Option.bind (p_wire_Skip x11) fun x12 =>
 bif (x9.1).isNil then (
  bif (x9.2.1 == s6) then (
   bif (x9.2.2 == 4) then (
    some (x12.2 == 4)
   ) else (
    some false
   )
  ) else (
   some false
  )
 ) else (
  some false
 )
noncomputable def law03_WireBegins_j2 (a1 : Int) (x2 : (Str × Int)) (s16 : Bool) : Option Bool :=
 bif s16 then (
  law03_WireBegins_j1 x2 (IntKind.i64.wrap ((((x2.1).length : Nat) : Int) - 1))
 ) else (
  law03_WireBegins_j1 x2 a1
 )
noncomputable def p_law03_WireBegins (a0 : Term) (a1 : Int) : Option Bool :=
 Option.bind (p_mk_Built a0) fun x1 =>
 Option.bind (p_wire_Encode x1) fun x2 =>
 bif (x2.2 != 0) then (
  Option.bind (p_ref01_Check a0) fun x4 =>
  some (x2.2 == x4.2)
 ) else (
  bif ((((x2.1).length : Nat) : Int) == 0) then (
   some false
  ) else (
   bif (decide (a1 < 0)) then (
    law03_WireBegins_j2 a1 x2 true
   ) else (
    law03_WireBegins_j2 a1 x2 (decide (a1 ≥ (((x2.1).length : Nat) : Int)))
   )
  )
 )
theorem s_law03_WireBegins (a0 : Term) (a1 : Int) (r : Bool) (h : p_law03_WireBegins a0 a1 = some r) : PCalls Try.prog 8 [(ofTermX a0), (I64 a1)] (BO r) := by
 unfold p_law03_WireBegins at h
 refine acalls_of Try.func8 rfl Try.ntmps8 Try.results8 rfl (aw_of_bw ?_)
 change BW _ _ _ ⟨[(0, (ofTermX a0)), (1, (I64 a1))], [], _⟩ _
 refine bR ?_
 refine sS rfl rfl rfl (op1_box rfl rfl rfl) ?_
 refine sA rfl rfl rfl rfl rfl (ao_nil ?_)
 change BW _ _ _ _ _
 refine bR ?_
 refine sS rfl rfl rfl ((op1_ldRA inf_29 Try.underlying29 rfl rfl rfl rfl rfl rfl)) ?_
 obtain ⟨x1, hx1, h⟩ := obind h
 refine sS rfl rfl rfl (op1_pcall rfl en_10 rfl (.cons (Wk.refl _) .nil) ⟨(ids_TermX a0), trivial⟩ (s_mk_Built a0 x1 hx1) (ids_V x1)) ?_
 obtain ⟨x2, hx2, h⟩ := obind h
 refine sS rfl rfl rfl (op1_pcall rfl en_11 rfl (.cons (Wk.refl _) .nil) ⟨(ids_V x1), trivial⟩ (s_wire_Encode x1 x2 hx2) (ids_tup_cons (ids_slM (fun _ => rfl) x2.1) (ids_tup_cons rfl ids_tup_nil))) ?_
 refine sM rfl rfl rfl rfl rfl ?_
 refine sS rfl rfl rfl (op1_ext rfl rfl rfl) ?_
 refine sS rfl rfl rfl (op1_ext rfl rfl rfl) ?_
 refine sA rfl rfl rfl rfl rfl ?_
 refine sA rfl rfl rfl rfl rfl (ao_nil ?_)
 change BW _ _ _ _ _
 refine bw_seq ?_
 refine bR ?_
 refine sM rfl rfl rfl rfl rfl ?_
 refine sS rfl rfl rfl ((op1_cmp rfl rfl rfl rfl).cast (y := (BO ((x2.2 != 0)))) rfl rfl) (ao_nil ?_)
 change BW _ _ _ _ _
 refine bw_cond rfl ?_ ?_
 ·intro hc3; replace h := ocond_t hc3 h
  refine bR ?_
  refine sS rfl rfl rfl ((op1_ldRA inf_29 Try.underlying29 rfl rfl rfl rfl rfl rfl)) ?_
  obtain ⟨x4, hx4, h⟩ := obind h
  refine sS rfl rfl rfl (op1_pcall rfl en_26 rfl (.cons (Wk.refl _) .nil) ⟨(ids_TermX a0), trivial⟩ (s_ref01_Check a0 x4 hx4) (ids_tup_cons rfl (ids_tup_cons rfl ids_tup_nil))) ?_
  refine sM rfl rfl rfl rfl rfl ?_
  refine sS rfl rfl rfl (op1_ext rfl rfl rfl) ?_
  refine sS rfl rfl rfl (op1_ext rfl rfl rfl) ?_
  refine sA rfl rfl rfl rfl rfl ?_
  refine sA rfl rfl rfl rfl rfl (ao_nil ?_)
  change BW _ _ _ _ _
  refine bR ?_
  refine sM rfl rfl rfl rfl rfl ?_
  refine sM rfl rfl rfl rfl rfl ?_
  refine sS rfl rfl rfl ((op1_cmp rfl rfl rfl rfl).cast (y := (BO ((x2.2 == x4.2)))) rfl rfl) ?_
  refine sA rfl rfl rfl rfl rfl (ao_nil ?_)
  change BW _ _ _ _ _
  refine bw_ret ?_
  change ∃ xs, _ = some xs ∧ EndOk _ _ _ _
  obtain rfl := Option.some.inj h
  exact ⟨_, rfl, endOk0 (y := (BO ((x2.2 == x4.2)))) (Wk.refl _) rfl ⟨rfl, rfl⟩⟩
 ·intro hc3; replace h := ocond_f hc3 h
  refine bw_skip ?_
  change BW _ _ _ _ _
  refine bw_seq ?_
  refine bR ?_
  refine sM rfl rfl rfl rfl rfl ?_
  refine sS rfl rfl rfl (op1_lenM Try.underlying23 rfl rfl) ?_
  refine sS rfl rfl rfl ((op1_cmp rfl rfl rfl rfl).cast (y := (BO (((((x2.1).length : Nat) : Int) == 0)))) rfl rfl) (ao_nil ?_)
  change BW _ _ _ _ _
  refine bw_cond rfl ?_ ?_
  ·intro hc5; replace h := ocond_t hc5 h
   refine bR ?_
   refine sA rfl rfl rfl rfl rfl (ao_nil ?_)
   change BW _ _ _ _ _
   refine bw_ret ?_
   change ∃ xs, _ = some xs ∧ EndOk _ _ _ _
   obtain rfl := Option.some.inj h
   exact ⟨_, rfl, endOk0 (y := (BO false)) (Wk.refl _) rfl ⟨rfl, rfl⟩⟩
  ·intro hc5; replace h := ocond_f hc5 h
   refine bw_skip ?_
   change BW _ _ _ _ _
   refine bw_seqJ (ι := Int) (fun i => law03_WireBegins_j1 x2 i = some r) (fun i => [(1, (I64 i)), (5, (PV.sl none 1 (List.map ofB x2.1)))]) (fun i => []) ?_ ?_ ?_
   ·intro i; exact ⟨Nat.le_of_ble_eq_true rfl, ⟨(il_nil rfl), ⟨(il_nil (ids_slM (fun _ => rfl) _)), trivial⟩⟩, trivial⟩
   ·rintro s6 h; replace h : law03_WireBegins_j1 x2 s6 = some r := h; unfold law03_WireBegins_j1 at h
    change BW _ _ _ ⟨[(1, (I64 s6)), (5, (PV.sl none 1 (List.map ofB x2.1)))], [], _⟩ _
    refine bR ?_
    refine sS rfl rfl rfl ((op1_bslice (xs := []) Try.underlying23 inf_5 rfl rfl rfl rfl rfl rfl ⟨Nat.le_of_ble_eq_true rfl, Nat.le_of_ble_eq_true rfl⟩ rfl).cast (y := (PV.sl (some 0) 1 (List.map ofB ([] : Str)))) rfl rfl) ?_
    refine sM rfl rfl rfl rfl rfl ?_
    refine sM rfl rfl rfl rfl rfl ?_
    obtain ⟨x7, hx7, h⟩ := obind h
    refine sS rfl rfl rfl (op1_cutM (a := 0) (b := s6) Try.underlying23 inf_5 rfl rfl rfl rfl rfl rfl hx7) ?_
    obtain ⟨x8, hx8, h⟩ := obind h
    refine sS rfl rfl rfl (op1_appM Try.underlying23 inf_5 rfl Try.underlying23 rfl rfl rfl rfl (fun _ => rfl) (fun _ => rfl) hx8 rfl) ?_
    obtain ⟨x9, hx9, h⟩ := obind h
    refine sS rfl rfl rfl (op1_pcall rfl en_18 rfl (.cons Wk.tok .nil) ⟨(ids_slM (fun _ => rfl) x8), trivial⟩ (s_wire_Decode x8 x9 hx9) (ids_tup_cons (ids_V x9.1) (ids_tup_cons rfl (ids_tup_cons rfl ids_tup_nil)))) ?_
    refine sM rfl rfl rfl rfl rfl ?_
    refine sS rfl rfl rfl (op1_ext rfl rfl rfl) ?_
    refine sS rfl rfl rfl (op1_ext rfl rfl rfl) ?_
    refine sS rfl rfl rfl (op1_ext rfl rfl rfl) ?_
    refine sA rfl rfl rfl rfl rfl ?_
    refine sA rfl rfl rfl rfl rfl ?_
    refine sA rfl rfl rfl rfl rfl (ao_nil ?_)
    change BW _ _ _ _ _
    refine bR ?_
    refine sS rfl rfl rfl ((op1_bslice (xs := []) Try.underlying23 inf_5 rfl rfl rfl rfl rfl rfl ⟨Nat.le_of_ble_eq_true rfl, Nat.le_of_ble_eq_true rfl⟩ rfl).cast (y := (PV.sl (some 1) 1 (List.map ofB ([] : Str)))) rfl rfl) ?_
    refine sM rfl rfl rfl rfl rfl ?_
    refine sM rfl rfl rfl rfl rfl ?_
    obtain ⟨x10, hx10, h⟩ := obind h
    refine sS rfl rfl rfl (op1_cutM (a := 0) (b := s6) Try.underlying23 inf_5 rfl rfl rfl rfl rfl rfl hx10) ?_
    obtain ⟨x11, hx11, h⟩ := obind h
    refine sS rfl rfl rfl (op1_appM Try.underlying23 inf_5 rfl Try.underlying23 rfl rfl rfl rfl (fun _ => rfl) (fun _ => rfl) hx11 rfl) ?_
    obtain ⟨x12, hx12, h⟩ := obind h
    refine sS rfl rfl rfl (op1_pcall rfl en_19 rfl (.cons Wk.tok .nil) ⟨(ids_slM (fun _ => rfl) x11), trivial⟩ (s_wire_Skip x11 x12 hx12) (ids_tup_cons rfl (ids_tup_cons rfl ids_tup_nil))) ?_
    refine sM rfl rfl rfl rfl rfl ?_
    refine sS rfl rfl rfl (op1_ext rfl rfl rfl) ?_
    refine sS rfl rfl rfl (op1_ext rfl rfl rfl) ?_
    refine sA rfl rfl rfl rfl rfl ?_
    refine sA rfl rfl rfl rfl rfl (ao_nil ?_)
    change BW _ _ _ _ _
    refine bR ?_
    refine sM rfl rfl rfl rfl rfl ?_
    refine sS rfl rfl rfl (op1_vEqNil Try.underlying20 rfl rfl) ?_
    refine sM rfl rfl rfl rfl rfl ?_
    refine ao_cases (t := 65) rfl ?_ ?_
    ·intro hb13; replace h := ocond_t hb13 h
     refine ao_yes rfl rfl rfl rfl rfl rfl (op1_move rfl rfl) ?_
     refine ao_yes rfl rfl rfl rfl rfl rfl (op1_move rfl rfl) ?_
     refine ao_yes rfl rfl rfl rfl rfl rfl ((op1_cmp rfl rfl rfl rfl).cast (y := (BO ((x9.2.1 == s6)))) rfl rfl) ?_
     refine sS rfl rfl rfl (op1_pickT rfl rfl rfl) ?_
     refine sM rfl rfl rfl rfl rfl ?_
     refine ao_cases (t := 70) rfl ?_ ?_
     ·intro hb14; replace h := ocond_t hb14 h
      refine ao_yes rfl rfl rfl rfl rfl rfl (op1_move rfl rfl) ?_
      refine ao_yes rfl rfl rfl rfl rfl rfl ((op1_cmp rfl rfl rfl rfl).cast (y := (BO ((x9.2.2 == 4)))) rfl rfl) ?_
      refine sS rfl rfl rfl (op1_pickT rfl rfl rfl) ?_
      refine sM rfl rfl rfl rfl rfl ?_
      refine ao_cases (t := 74) rfl ?_ ?_
      ·intro hb15; replace h := ocond_t hb15 h
       refine ao_yes rfl rfl rfl rfl rfl rfl (op1_move rfl rfl) ?_
       refine ao_yes rfl rfl rfl rfl rfl rfl ((op1_cmp rfl rfl rfl rfl).cast (y := (BO ((x12.2 == 4)))) rfl rfl) ?_
       refine sS rfl rfl rfl (op1_pickT rfl rfl rfl) ?_
       refine sA rfl rfl rfl rfl rfl (ao_nil ?_)
       change BW _ _ _ _ _
       refine bw_ret ?_
       change ∃ xs, _ = some xs ∧ EndOk _ _ _ _
       obtain rfl := Option.some.inj h
       exact ⟨_, rfl, endOk0 (y := (BO ((x12.2 == 4)))) (Wk.refl _) rfl ⟨rfl, rfl⟩⟩
      ·intro hb15; replace h := ocond_f hb15 h
       refine ao_no rfl rfl rfl rfl rfl rfl ?_
       refine ao_no rfl rfl rfl rfl rfl rfl ?_
       refine sS rfl rfl rfl (op1_pickF rfl rfl rfl) ?_
       refine sA rfl rfl rfl rfl rfl (ao_nil ?_)
       change BW _ _ _ _ _
       refine bw_ret ?_
       change ∃ xs, _ = some xs ∧ EndOk _ _ _ _
       obtain rfl := Option.some.inj h
       exact ⟨_, rfl, endOk0 (y := (BO false)) (Wk.refl _) rfl ⟨rfl, rfl⟩⟩
     ·intro hb14; replace h := ocond_f hb14 h
      refine ao_no rfl rfl rfl rfl rfl rfl ?_
      refine ao_no rfl rfl rfl rfl rfl rfl ?_
      refine sS rfl rfl rfl (op1_pickF rfl rfl rfl) ?_
      refine sM rfl rfl rfl rfl rfl ?_
      refine ao_no rfl rfl rfl rfl rfl rfl ?_
      refine ao_no rfl rfl rfl rfl rfl rfl ?_
      refine sS rfl rfl rfl (op1_pickF rfl rfl rfl) ?_
      refine sA rfl rfl rfl rfl rfl (ao_nil ?_)
      change BW _ _ _ _ _
      refine bw_ret ?_
      change ∃ xs, _ = some xs ∧ EndOk _ _ _ _
      obtain rfl := Option.some.inj h
      exact ⟨_, rfl, endOk0 (y := (BO false)) (Wk.refl _) rfl ⟨rfl, rfl⟩⟩
    ·intro hb13; replace h := ocond_f hb13 h
     refine ao_no rfl rfl rfl rfl rfl rfl ?_
     refine ao_no rfl rfl rfl rfl rfl rfl ?_
     refine ao_no rfl rfl rfl rfl rfl rfl ?_
     refine sS rfl rfl rfl (op1_pickF rfl rfl rfl) ?_
     refine sM rfl rfl rfl rfl rfl ?_
     refine ao_no rfl rfl rfl rfl rfl rfl ?_
     refine ao_no rfl rfl rfl rfl rfl rfl ?_
     refine sS rfl rfl rfl (op1_pickF rfl rfl rfl) ?_
     refine sM rfl rfl rfl rfl rfl ?_
     refine ao_no rfl rfl rfl rfl rfl rfl ?_
     refine ao_no rfl rfl rfl rfl rfl rfl ?_
     refine sS rfl rfl rfl (op1_pickF rfl rfl rfl) ?_
     refine sA rfl rfl rfl rfl rfl (ao_nil ?_)
     change BW _ _ _ _ _
     refine bw_ret ?_
     change ∃ xs, _ = some xs ∧ EndOk _ _ _ _
     obtain rfl := Option.some.inj h
     exact ⟨_, rfl, endOk0 (y := (BO false)) (Wk.refl _) rfl ⟨rfl, rfl⟩⟩
   ·refine bw_seqJ (ι := Bool) (fun i => law03_WireBegins_j2 a1 x2 i = some r) (fun i => [(1, (I64 a1)), (5, (PV.sl none 1 (List.map ofB x2.1))), (40, (BO i))]) (fun i => []) ?_ ?_ ?_
    ·intro i; exact ⟨Nat.le_of_ble_eq_true rfl, ⟨(il_nil rfl), ⟨(il_nil (ids_slM (fun _ => rfl) _)), ⟨(il_nil rfl), trivial⟩⟩⟩, trivial⟩
    ·rintro s16 h; replace h : law03_WireBegins_j2 a1 x2 s16 = some r := h; unfold law03_WireBegins_j2 at h
     change BW _ _ _ ⟨[(1, (I64 a1)), (5, (PV.sl none 1 (List.map ofB x2.1))), (40, (BO s16))], [], _⟩ _
     refine bw_cond rfl ?_ ?_
     ·intro hc17; replace h := ocond_t hc17 h
      refine bw_region ?_
      refine sM rfl rfl rfl rfl rfl ?_
      refine sS rfl rfl rfl (op1_lenM Try.underlying23 rfl rfl) ?_
      refine sS rfl rfl rfl (op1_subW rfl rfl rfl) ?_
      refine sA rfl rfl rfl rfl rfl (ao_nil ?_)
      exact ⟨rfl, (IntKind.i64.wrap ((((x2.1).length : Nat) : Int) - 1)), h, ⟨.nil, (sC rfl (sC rfl sub_nil))⟩⟩
     ·intro hc17; replace h := ocond_f hc17 h
      refine bw_skip ?_
      exact ⟨rfl, a1, h, ⟨.nil, (sC rfl (sC rfl sub_nil))⟩⟩
    ·refine bw_region ?_
     refine sM rfl rfl rfl rfl rfl ?_
     refine sS rfl rfl rfl ((op1_cmp rfl rfl rfl rfl).cast (y := (BO ((decide (a1 < 0))))) rfl rfl) ?_
     refine sM rfl rfl rfl rfl rfl ?_
     refine ao_cases (t := 35) rfl ?_ ?_
     ·intro hb18; replace h := ocond_t hb18 h
      refine ao_no rfl rfl rfl rfl rfl rfl ?_
      refine ao_no rfl rfl rfl rfl rfl rfl ?_
      refine ao_no rfl rfl rfl rfl rfl rfl ?_
      refine ao_no rfl rfl rfl rfl rfl rfl ?_
      refine sS rfl rfl rfl (op1_pickT rfl rfl rfl) (ao_nil ?_)
      exact ⟨rfl, true, h, ⟨.nil, (sC rfl (sC rfl (sC rfl sub_nil)))⟩⟩
     ·intro hb18; replace h := ocond_f hb18 h
      refine ao_yes rfl rfl rfl rfl rfl rfl (op1_move rfl rfl) ?_
      refine ao_yes rfl rfl rfl rfl rfl rfl (op1_move rfl rfl) ?_
      refine ao_yes rfl rfl rfl rfl rfl rfl (op1_lenM Try.underlying23 rfl rfl) ?_
      refine ao_yes rfl rfl rfl rfl rfl rfl ((op1_cmp rfl rfl rfl rfl).cast (y := (BO ((decide (a1 ≥ (((x2.1).length : Nat) : Int)))))) rfl rfl) ?_
      refine sS rfl rfl rfl (op1_pickF rfl rfl rfl) (ao_nil ?_)
      exact ⟨rfl, (decide (a1 ≥ (((x2.1).length : Nat) : Int))), h, ⟨.nil, (sC rfl (sC rfl (sC rfl sub_nil)))⟩⟩
end Go.Proofs.Ytigadhiciinicaa
