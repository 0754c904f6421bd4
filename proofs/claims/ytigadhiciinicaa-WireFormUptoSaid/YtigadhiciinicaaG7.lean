/- Pure functions, and that calls answer as they say. Written by gen.py. -/
import Derived.Test.YtigadhiciinicaaG6
namespace Go.Proofs.Ytigadhiciinicaa
open Go Aw
set_option linter.unusedVariables false
set_option linter.unusedSimpArgs false
set_option maxRecDepth 20000
set_option maxHeartbeats 2000000
noncomputable def law03_WireForm_j2 : Option Bool :=
 Option.bind (p_wire_Encode V.nil) fun x9 =>
 bif (x9.2 == 0) then (
  bif ((((x9.1).length : Nat) : Int) == 1) then (
   Option.bind ((x9.1)[0]?) fun x12 =>
   some (((x12).toNat : Int) == (((1 : UInt8)).toNat : Int))
  ) else (
   some false
  )
 ) else (
  some false
 )
noncomputable def law03_WireForm_j3 (s15 : Bool) : Option Bool :=
 bif s15 then (
  some false
 ) else (
  law03_WireForm_j2
 )
noncomputable def law03_WireForm_j1 (a2 : Str) (s5 : Bool) : Option Bool :=
 bif s5 then (
  some false
 ) else (
  Option.bind (appO 1 ([] : Str) a2) fun x7 =>
  Option.bind (p_wire_Decode x7) fun x8 =>
  bif (x8.2.2 == 0) then (
   Option.bind (p_wire_Encode x8.1) fun x14 =>
   bif (x14.2 != 0) then (
    law03_WireForm_j3 true
   ) else (
    bif (decide (x8.2.1 > (((a2).length : Nat) : Int))) then (
     law03_WireForm_j3 true
    ) else (
     bif (decide (x8.2.1 < 1)) then (
      law03_WireForm_j3 true
     ) else (
      Option.bind (cutO a2 0 x8.2.1) fun x20 =>
      Option.bind (p_law03_same x14.1 x20) fun x21 =>
      law03_WireForm_j3 (!x21)
     )
    )
   )
  ) else (
   law03_WireForm_j2
  )
 )
noncomputable def p_law03_WireForm (a0 : Term) (a1 : Term) (a2 : Str) : Option Bool :=
 Option.bind (p_mk_Built a0) fun x1 =>
 Option.bind (p_wire_Encode x1) fun x2 =>
 Option.bind (p_mk_Built a1) fun x3 =>
 Option.bind (p_wire_Encode x3) fun x4 =>
 bif (x2.2 == 0) then (
  bif (x4.2 == 0) then (
   Option.bind (p_law03_same x2.1 x4.1) fun x24 =>
   Option.bind (p_mk_Same a0 a1) fun x25 =>
   law03_WireForm_j1 a2 (!(x24 == x25))
  ) else (
   law03_WireForm_j1 a2 false
  )
 ) else (
  law03_WireForm_j1 a2 false
 )
theorem s_law03_WireForm (a0 : Term) (a1 : Term) (a2 : Str) (r : Bool) (h : p_law03_WireForm a0 a1 a2 = some r) : PCalls Try.prog 6 [(ofTermX a0), (ofTermX a1), (PV.sl none 1 (List.map ofB a2))] (BO r) := by
 unfold p_law03_WireForm at h
 refine acalls_of Try.func6 rfl Try.ntmps6 Try.results6 rfl (aw_of_bw ?_)
 change BW _ _ _ ⟨[(0, (ofTermX a0)), (1, (ofTermX a1)), (2, (PV.sl none 1 (List.map ofB a2)))], [], _⟩ _
 refine bR ?_
 refine sS rfl rfl rfl (op1_box rfl rfl rfl) ?_
 refine sS rfl rfl rfl (op1_box rfl rfl rfl) ?_
 refine sA rfl rfl rfl rfl rfl (ao_nil ?_)
 change BW _ _ _ _ _
 refine bR ?_
 refine sS rfl rfl rfl ((op1_ldRA inf_29 Try.underlying29 rfl rfl rfl rfl rfl rfl)) ?_
 obtain ⟨x1, hx1, h⟩ := obind h
 refine sS rfl rfl rfl (op1_pcall rfl en_10 rfl (.cons (Wk.refl _) .nil) ⟨(ids_TermX a0), trivial⟩ (s_mk_Built a0 x1 hx1) (ids_V x1)) ?_
 obtain ⟨x2, hx2, h⟩ := obind h
 refine sS rfl rfl rfl (op1_pcall rfl en_11 rfl (.cons (Wk.refl _) .nil) ⟨(ids_V x1), trivial⟩ (s_wire_Encode x1 x2 hx2) (ids_tup_cons (ids_slM (fun _ => rfl) x2.1) (ids_tup_cons rfl ids_tup_nil))) ?_
 refine sM rfl rfl rfl rfl rfl ?_
 refine sS rfl rfl rfl (op1_ext rfl rfl rfl) ?_
 refine sS rfl rfl rfl (op1_ext rfl rfl rfl) ?_
 refine sA rfl rfl rfl rfl rfl ?_
 refine sA rfl rfl rfl rfl rfl (ao_nil ?_)
 change BW _ _ _ _ _
 refine bR ?_
 refine sS rfl rfl rfl ((op1_ldRA inf_29 Try.underlying29 rfl rfl rfl rfl rfl rfl)) ?_
 obtain ⟨x3, hx3, h⟩ := obind h
 refine sS rfl rfl rfl (op1_pcall rfl en_10 rfl (.cons (Wk.refl _) .nil) ⟨(ids_TermX a1), trivial⟩ (s_mk_Built a1 x3 hx3) (ids_V x3)) ?_
 obtain ⟨x4, hx4, h⟩ := obind h
 refine sS rfl rfl rfl (op1_pcall rfl en_11 rfl (.cons (Wk.refl _) .nil) ⟨(ids_V x3), trivial⟩ (s_wire_Encode x3 x4 hx4) (ids_tup_cons (ids_slM (fun _ => rfl) x4.1) (ids_tup_cons rfl ids_tup_nil))) ?_
 refine sM rfl rfl rfl rfl rfl ?_
 refine sS rfl rfl rfl (op1_ext rfl rfl rfl) ?_
 refine sS rfl rfl rfl (op1_ext rfl rfl rfl) ?_
 refine sA rfl rfl rfl rfl rfl ?_
 refine sA rfl rfl rfl rfl rfl (ao_nil ?_)
 change BW _ _ _ _ _
 refine bw_seq ?_
 refine bw_seqJ (ι := Bool) (fun i => law03_WireForm_j1 a2 i = some r) (fun i => [(2, (PV.sl none 1 (List.map ofB a2))), (44, (BO i))]) (fun i => []) ?_ ?_ ?_
 ·intro i; exact ⟨Nat.le_of_ble_eq_true rfl, ⟨(il_nil (ids_slM (fun _ => rfl) _)), ⟨(il_nil rfl), trivial⟩⟩, trivial⟩
 ·rintro s5 h; replace h : law03_WireForm_j1 a2 s5 = some r := h; unfold law03_WireForm_j1 at h
  change BW _ _ _ ⟨[(2, (PV.sl none 1 (List.map ofB a2))), (44, (BO s5))], [], _⟩ _
  refine bw_cond rfl ?_ ?_
  ·intro hc6; replace h := ocond_t hc6 h
   refine bR ?_
   refine sA rfl rfl rfl rfl rfl (ao_nil ?_)
   change BW _ _ _ _ _
   refine bw_ret ?_
   change ∃ xs, _ = some xs ∧ EndOk _ _ _ _
   obtain rfl := Option.some.inj h
   exact ⟨_, rfl, endOk0 (y := (BO false)) (Wk.refl _) rfl ⟨rfl, rfl⟩⟩
  ·intro hc6; replace h := ocond_f hc6 h
   refine bw_skip ?_
   change BW _ _ _ _ _
   refine bR ?_
   refine sS rfl rfl rfl ((op1_bslice (xs := []) Try.underlying23 inf_5 rfl rfl rfl rfl rfl rfl ⟨Nat.le_of_ble_eq_true rfl, Nat.le_of_ble_eq_true rfl⟩ rfl).cast (y := (PV.sl (some 0) 1 (List.map ofB ([] : Str)))) rfl rfl) ?_
   refine sM rfl rfl rfl rfl rfl ?_
   obtain ⟨x7, hx7, h⟩ := obind h
   refine sS rfl rfl rfl (op1_appM Try.underlying23 inf_5 rfl Try.underlying23 rfl rfl rfl rfl (fun _ => rfl) (fun _ => rfl) hx7 rfl) ?_
   obtain ⟨x8, hx8, h⟩ := obind h
   refine sS rfl rfl rfl (op1_pcall rfl en_18 rfl (.cons Wk.tok .nil) ⟨(ids_slM (fun _ => rfl) x7), trivial⟩ (s_wire_Decode x7 x8 hx8) (ids_tup_cons (ids_V x8.1) (ids_tup_cons rfl (ids_tup_cons rfl ids_tup_nil)))) ?_
   refine sM rfl rfl rfl rfl rfl ?_
   refine sS rfl rfl rfl (op1_ext rfl rfl rfl) ?_
   refine sS rfl rfl rfl (op1_ext rfl rfl rfl) ?_
   refine sS rfl rfl rfl (op1_ext rfl rfl rfl) ?_
   refine sA rfl rfl rfl rfl rfl ?_
   refine sA rfl rfl rfl rfl rfl ?_
   refine sA rfl rfl rfl rfl rfl (ao_nil ?_)
   change BW _ _ _ _ _
   refine bw_seqJ (ι := Unit) (fun i => law03_WireForm_j2 = some r) (fun i => []) (fun i => []) ?_ ?_ ?_
   ·intro i; exact ⟨Nat.le_of_ble_eq_true rfl, trivial, trivial⟩
   ·rintro ⟨⟩ h; replace h : law03_WireForm_j2 = some r := h; unfold law03_WireForm_j2 at h
    change BW _ _ _ ⟨[], [], _⟩ _
    refine bR ?_
    obtain ⟨x9, hx9, h⟩ := obind h
    refine sS rfl rfl rfl (op1_pcall rfl en_11 rfl (.cons (Wk.eq mk_nil.symm) .nil) ⟨(ids_V V.nil), trivial⟩ (s_wire_Encode V.nil x9 hx9) (ids_tup_cons (ids_slM (fun _ => rfl) x9.1) (ids_tup_cons rfl ids_tup_nil))) ?_
    refine sM rfl rfl rfl rfl rfl ?_
    refine sS rfl rfl rfl (op1_ext rfl rfl rfl) ?_
    refine sS rfl rfl rfl (op1_ext rfl rfl rfl) ?_
    refine sA rfl rfl rfl rfl rfl ?_
    refine sA rfl rfl rfl rfl rfl (ao_nil ?_)
    change BW _ _ _ _ _
    refine bR ?_
    refine sM rfl rfl rfl rfl rfl ?_
    refine sS rfl rfl rfl ((op1_cmp rfl rfl rfl rfl).cast (y := (BO ((x9.2 == 0)))) rfl rfl) ?_
    refine sM rfl rfl rfl rfl rfl ?_
    refine ao_cases (t := 86) rfl ?_ ?_
    ·intro hb10; replace h := ocond_t hb10 h
     refine ao_yes rfl rfl rfl rfl rfl rfl (op1_move rfl rfl) ?_
     refine ao_yes rfl rfl rfl rfl rfl rfl (op1_lenM Try.underlying23 rfl rfl) ?_
     refine ao_yes rfl rfl rfl rfl rfl rfl ((op1_cmp rfl rfl rfl rfl).cast (y := (BO (((((x9.1).length : Nat) : Int) == 1)))) rfl rfl) ?_
     refine sS rfl rfl rfl (op1_pickT rfl rfl rfl) ?_
     refine sM rfl rfl rfl rfl rfl ?_
     refine ao_cases (t := 91) rfl ?_ ?_
     ·intro hb11; replace h := ocond_t hb11 h
      refine ao_yes rfl rfl rfl rfl rfl rfl (op1_move rfl rfl) ?_
      obtain ⟨x12, hx12, h⟩ := obind h
      refine ao_yes rfl rfl rfl rfl rfl rfl (op1_idxN (i := 0) Try.underlying23 inf_5 rfl rfl rfl hx12 rfl) ?_
      refine ao_yes rfl rfl rfl rfl rfl rfl (op1_ldP (y := (ofB x12)) Try.underlying5 rfl rfl rfl rfl) ?_
      refine ao_yes rfl rfl rfl rfl rfl rfl ((op1_cmp rfl rfl rfl rfl).cast (y := (BO ((((x12).toNat : Int) == (((1 : UInt8)).toNat : Int))))) rfl rfl) ?_
      refine sS rfl rfl rfl (op1_pickT rfl rfl rfl) ?_
      refine sA rfl rfl rfl rfl rfl (ao_nil ?_)
      change BW _ _ _ _ _
      refine bw_ret ?_
      change ∃ xs, _ = some xs ∧ EndOk _ _ _ _
      obtain rfl := Option.some.inj h
      exact ⟨_, rfl, endOk0 (y := (BO ((((x12).toNat : Int) == (((1 : UInt8)).toNat : Int))))) (Wk.refl _) rfl ⟨rfl, rfl⟩⟩
     ·intro hb11; replace h := ocond_f hb11 h
      refine ao_no rfl rfl rfl rfl rfl rfl ?_
      refine ao_no rfl rfl rfl rfl rfl rfl ?_
      refine ao_no rfl rfl rfl rfl rfl rfl ?_
      refine ao_no rfl rfl rfl rfl rfl rfl ?_
      refine sS rfl rfl rfl (op1_pickF rfl rfl rfl) ?_
      refine sA rfl rfl rfl rfl rfl (ao_nil ?_)
      change BW _ _ _ _ _
      refine bw_ret ?_
      change ∃ xs, _ = some xs ∧ EndOk _ _ _ _
      obtain rfl := Option.some.inj h
      exact ⟨_, rfl, endOk0 (y := (BO false)) (Wk.refl _) rfl ⟨rfl, rfl⟩⟩
    ·intro hb10; replace h := ocond_f hb10 h
     refine ao_no rfl rfl rfl rfl rfl rfl ?_
     refine ao_no rfl rfl rfl rfl rfl rfl ?_
     refine ao_no rfl rfl rfl rfl rfl rfl ?_
     refine sS rfl rfl rfl (op1_pickF rfl rfl rfl) ?_
     refine sM rfl rfl rfl rfl rfl ?_
     refine ao_no rfl rfl rfl rfl rfl rfl ?_
     refine ao_no rfl rfl rfl rfl rfl rfl ?_
     refine ao_no rfl rfl rfl rfl rfl rfl ?_
     refine ao_no rfl rfl rfl rfl rfl rfl ?_
     refine sS rfl rfl rfl (op1_pickF rfl rfl rfl) ?_
     refine sA rfl rfl rfl rfl rfl (ao_nil ?_)
     change BW _ _ _ _ _
     refine bw_ret ?_
     change ∃ xs, _ = some xs ∧ EndOk _ _ _ _
     obtain rfl := Option.some.inj h
     exact ⟨_, rfl, endOk0 (y := (BO false)) (Wk.refl _) rfl ⟨rfl, rfl⟩⟩
   ·refine bR ?_
    refine sM rfl rfl rfl rfl rfl ?_
    refine sS rfl rfl rfl ((op1_cmp rfl rfl rfl rfl).cast (y := (BO ((x8.2.2 == 0)))) rfl rfl) (ao_nil ?_)
    change BW _ _ _ _ _
    refine bw_cond rfl ?_ ?_
    ·intro hc13; replace h := ocond_t hc13 h
     refine bR ?_
     refine sM rfl rfl rfl rfl rfl ?_
     obtain ⟨x14, hx14, h⟩ := obind h
     refine sS rfl rfl rfl (op1_pcall rfl en_11 rfl (.cons (Wk.refl _) .nil) ⟨(ids_V x8.1), trivial⟩ (s_wire_Encode x8.1 x14 hx14) (ids_tup_cons (ids_slM (fun _ => rfl) x14.1) (ids_tup_cons rfl ids_tup_nil))) ?_
     refine sM rfl rfl rfl rfl rfl ?_
     refine sS rfl rfl rfl (op1_ext rfl rfl rfl) ?_
     refine sS rfl rfl rfl (op1_ext rfl rfl rfl) ?_
     refine sA rfl rfl rfl rfl rfl ?_
     refine sA rfl rfl rfl rfl rfl (ao_nil ?_)
     change BW _ _ _ _ _
     refine bw_seqJ (ι := Bool) (fun i => law03_WireForm_j3 i = some r) (fun i => [(79, (BO i))]) (fun i => []) ?_ ?_ ?_
     ·intro i; exact ⟨Nat.le_of_ble_eq_true rfl, ⟨(il_nil rfl), trivial⟩, trivial⟩
     ·rintro s15 h; replace h : law03_WireForm_j3 s15 = some r := h; unfold law03_WireForm_j3 at h
      change BW _ _ _ ⟨[(79, (BO s15))], [], _⟩ _
      refine bw_cond rfl ?_ ?_
      ·intro hc16; replace h := ocond_t hc16 h
       refine bR ?_
       refine sA rfl rfl rfl rfl rfl (ao_nil ?_)
       change BW _ _ _ _ _
       refine bw_ret ?_
       change ∃ xs, _ = some xs ∧ EndOk _ _ _ _
       obtain rfl := Option.some.inj h
       exact ⟨_, rfl, endOk0 (y := (BO false)) (Wk.refl _) rfl ⟨rfl, rfl⟩⟩
      ·intro hc16; replace h := ocond_f hc16 h
       refine bw_skip ?_
       exact ⟨rfl, (), h, ⟨.nil, sub_nil⟩⟩
     ·refine bw_region ?_
      refine sM rfl rfl rfl rfl rfl ?_
      refine sS rfl rfl rfl ((op1_cmp rfl rfl rfl rfl).cast (y := (BO ((x14.2 != 0)))) rfl rfl) ?_
      refine sM rfl rfl rfl rfl rfl ?_
      refine ao_cases (t := 62) rfl ?_ ?_
      ·intro hb17; replace h := ocond_t hb17 h
       refine ao_no rfl rfl rfl rfl rfl rfl ?_
       refine ao_no rfl rfl rfl rfl rfl rfl ?_
       refine ao_no rfl rfl rfl rfl rfl rfl ?_
       refine ao_no rfl rfl rfl rfl rfl rfl ?_
       refine sS rfl rfl rfl (op1_pickT rfl rfl rfl) ?_
       refine sM rfl rfl rfl rfl rfl ?_
       refine ao_no rfl rfl rfl rfl rfl rfl ?_
       refine ao_no rfl rfl rfl rfl rfl rfl ?_
       refine sS rfl rfl rfl (op1_pickT rfl rfl rfl) ?_
       refine sM rfl rfl rfl rfl rfl ?_
       refine ao_no rfl rfl rfl rfl rfl rfl ?_
       refine ao_no rfl rfl rfl rfl rfl rfl ?_
       refine ao_no rfl rfl rfl rfl rfl rfl ?_
       refine ao_no rfl rfl rfl rfl rfl rfl ?_
       refine ao_no rfl rfl rfl rfl rfl rfl ?_
       refine ao_no rfl rfl rfl rfl rfl rfl ?_
       refine sS rfl rfl rfl (op1_pickT rfl rfl rfl) (ao_nil ?_)
       exact ⟨rfl, true, h, ⟨.nil, (sC rfl sub_nil)⟩⟩
      ·intro hb17; replace h := ocond_f hb17 h
       refine ao_yes rfl rfl rfl rfl rfl rfl (op1_move rfl rfl) ?_
       refine ao_yes rfl rfl rfl rfl rfl rfl (op1_move rfl rfl) ?_
       refine ao_yes rfl rfl rfl rfl rfl rfl (op1_lenM Try.underlying23 rfl rfl) ?_
       refine ao_yes rfl rfl rfl rfl rfl rfl ((op1_cmp rfl rfl rfl rfl).cast (y := (BO ((decide (x8.2.1 > (((a2).length : Nat) : Int)))))) rfl rfl) ?_
       refine sS rfl rfl rfl (op1_pickF rfl rfl rfl) ?_
       refine sM rfl rfl rfl rfl rfl ?_
       refine ao_cases (t := 68) rfl ?_ ?_
       ·intro hb18; replace h := ocond_t hb18 h
        refine ao_no rfl rfl rfl rfl rfl rfl ?_
        refine ao_no rfl rfl rfl rfl rfl rfl ?_
        refine sS rfl rfl rfl (op1_pickT rfl rfl rfl) ?_
        refine sM rfl rfl rfl rfl rfl ?_
        refine ao_no rfl rfl rfl rfl rfl rfl ?_
        refine ao_no rfl rfl rfl rfl rfl rfl ?_
        refine ao_no rfl rfl rfl rfl rfl rfl ?_
        refine ao_no rfl rfl rfl rfl rfl rfl ?_
        refine ao_no rfl rfl rfl rfl rfl rfl ?_
        refine ao_no rfl rfl rfl rfl rfl rfl ?_
        refine sS rfl rfl rfl (op1_pickT rfl rfl rfl) (ao_nil ?_)
        exact ⟨rfl, true, h, ⟨.nil, (sC rfl sub_nil)⟩⟩
       ·intro hb18; replace h := ocond_f hb18 h
        refine ao_yes rfl rfl rfl rfl rfl rfl (op1_move rfl rfl) ?_
        refine ao_yes rfl rfl rfl rfl rfl rfl ((op1_cmp rfl rfl rfl rfl).cast (y := (BO ((decide (x8.2.1 < 1))))) rfl rfl) ?_
        refine sS rfl rfl rfl (op1_pickF rfl rfl rfl) ?_
        refine sM rfl rfl rfl rfl rfl ?_
        refine ao_cases (t := 72) rfl ?_ ?_
        ·intro hb19; replace h := ocond_t hb19 h
         refine ao_no rfl rfl rfl rfl rfl rfl ?_
         refine ao_no rfl rfl rfl rfl rfl rfl ?_
         refine ao_no rfl rfl rfl rfl rfl rfl ?_
         refine ao_no rfl rfl rfl rfl rfl rfl ?_
         refine ao_no rfl rfl rfl rfl rfl rfl ?_
         refine ao_no rfl rfl rfl rfl rfl rfl ?_
         refine sS rfl rfl rfl (op1_pickT rfl rfl rfl) (ao_nil ?_)
         exact ⟨rfl, true, h, ⟨.nil, (sC rfl sub_nil)⟩⟩
        ·intro hb19; replace h := ocond_f hb19 h
         refine ao_yes rfl rfl rfl rfl rfl rfl (op1_move rfl rfl) ?_
         refine ao_yes rfl rfl rfl rfl rfl rfl (op1_move rfl rfl) ?_
         refine ao_yes rfl rfl rfl rfl rfl rfl (op1_move rfl rfl) ?_
         obtain ⟨x20, hx20, h⟩ := obind h
         refine ao_yes rfl rfl rfl rfl rfl rfl (op1_cutM (a := 0) (b := x8.2.1) Try.underlying23 inf_5 rfl rfl rfl rfl rfl rfl hx20) ?_
         obtain ⟨x21, hx21, h⟩ := obind h
         refine ao_yes rfl rfl rfl rfl rfl rfl (op1_pcall rfl en_13 rfl (.cons (Wk.refl _) (.cons (Wk.refl _) .nil)) ⟨(ids_slM (fun _ => rfl) x14.1), ⟨(ids_slM (fun _ => rfl) x20), trivial⟩⟩ (s_law03_same x14.1 x20 x21 hx21) rfl) ?_
         refine ao_yes rfl rfl rfl rfl rfl rfl (op1_not rfl rfl) ?_
         refine sS rfl rfl rfl (op1_pickF rfl rfl rfl) (ao_nil ?_)
         exact ⟨rfl, (!x21), h, ⟨.nil, (sC rfl sub_nil)⟩⟩
    ·intro hc13; replace h := ocond_f hc13 h
     refine bw_skip ?_
     exact ⟨rfl, (), h, ⟨.nil, sub_nil⟩⟩
 ·refine bw_tail 12 [] [0, 1] mo (by kernel_rfl) ?_
  refine ac_go rfl rfl rfl rfl (fun H hp => op1_move rfl rfl) ?_
  refine ac_go rfl rfl rfl rfl (fun H hp => (op1_cmp rfl rfl rfl rfl).cast (y := (BO ((x2.2 == 0)))) rfl rfl) ?_
  refine ac_go rfl rfl rfl rfl (fun H hp => op1_move rfl rfl) ?_
  refine ac_cases 32 rfl ?_ ?_
  ·intro hb22; replace h := ocond_t hb22 h
   refine ac_yes rfl rfl rfl rfl rfl rfl rfl (fun H hp => op1_move rfl rfl) ?_
   refine ac_yes rfl rfl rfl rfl rfl rfl rfl (fun H hp => (op1_cmp rfl rfl rfl rfl).cast (y := (BO ((x4.2 == 0)))) rfl rfl) ?_
   refine ac_go rfl rfl rfl rfl (fun H hp => op1_pickT rfl rfl rfl) ?_
   refine ac_go rfl rfl rfl rfl (fun H hp => op1_move rfl rfl) ?_
   refine ac_cases 36 rfl ?_ ?_
   ·intro hb23; replace h := ocond_t hb23 h
    refine ac_yes rfl rfl rfl rfl rfl rfl rfl (fun H hp => op1_move rfl rfl) ?_
    refine ac_yes rfl rfl rfl rfl rfl rfl rfl (fun H hp => op1_move rfl rfl) ?_
    obtain ⟨x24, hx24, h⟩ := obind h
    refine ac_yes rfl rfl rfl rfl rfl rfl rfl (fun H hp => op1_pcall rfl en_13 rfl (.cons (Wk.refl _) (.cons (Wk.refl _) .nil)) ⟨(ids_slM (fun _ => rfl) x2.1), ⟨(ids_slM (fun _ => rfl) x4.1), trivial⟩⟩ (s_law03_same x2.1 x4.1 x24 hx24) rfl) ?_
    refine ac_yes rfl rfl rfl rfl rfl rfl rfl (fun H hp => (op1_ldRA inf_29 Try.underlying29 rfl rfl rfl (hp.at rfl rfl) rfl rfl)) ?_
    refine ac_yes rfl rfl rfl rfl rfl rfl rfl (fun H hp => (op1_ldRA inf_29 Try.underlying29 rfl rfl rfl (hp.at rfl rfl) rfl rfl)) ?_
    refine ac_nil ?_
    change AO _ _ _ _ _
    obtain ⟨x25, hx25, h⟩ := obind h
    refine ao_yes rfl rfl rfl rfl rfl rfl (op1_pcall rfl en_14 rfl (.cons (Wk.refl _) (.cons (Wk.refl _) .nil)) ⟨(ids_TermX a0), ⟨(ids_TermX a1), trivial⟩⟩ (s_mk_Same a0 a1 x25 hx25) rfl) ?_
    refine ao_yes rfl rfl rfl rfl rfl rfl (op1_neB Try.underlying4 rfl rfl rfl) ?_
    refine sS rfl rfl rfl (op1_pickT rfl rfl rfl) (ao_nil ?_)
    exact ⟨rfl, (!(x24 == x25)), h, ⟨.nil, (sC rfl (sC rfl sub_nil))⟩⟩
   ·intro hb23; replace h := ocond_f hb23 h
    refine ac_no rfl rfl rfl rfl rfl rfl rfl ?_
    refine ac_no rfl rfl rfl rfl rfl rfl rfl ?_
    refine ac_no rfl rfl rfl rfl rfl rfl rfl ?_
    refine ac_no rfl rfl rfl rfl rfl rfl rfl ?_
    refine ac_no rfl rfl rfl rfl rfl rfl rfl ?_
    refine ac_nil ?_
    change AO _ _ _ _ _
    refine ao_no rfl rfl rfl rfl rfl rfl ?_
    refine ao_no rfl rfl rfl rfl rfl rfl ?_
    refine sS rfl rfl rfl (op1_pickF rfl rfl rfl) (ao_nil ?_)
    exact ⟨rfl, false, h, ⟨.nil, (sC rfl (sC rfl sub_nil))⟩⟩
  ·intro hb22; replace h := ocond_f hb22 h
   refine ac_no rfl rfl rfl rfl rfl rfl rfl ?_
   refine ac_no rfl rfl rfl rfl rfl rfl rfl ?_
   refine ac_go rfl rfl rfl rfl (fun H hp => op1_pickF rfl rfl rfl) ?_
   refine ac_go rfl rfl rfl rfl (fun H hp => op1_move rfl rfl) ?_
   refine ac_no rfl rfl rfl rfl rfl rfl rfl ?_
   refine ac_no rfl rfl rfl rfl rfl rfl rfl ?_
   refine ac_no rfl rfl rfl rfl rfl rfl rfl ?_
   refine ac_no rfl rfl rfl rfl rfl rfl rfl ?_
   refine ac_no rfl rfl rfl rfl rfl rfl rfl ?_
   refine ac_nil ?_
   change AO _ _ _ _ _
   refine ao_no rfl rfl rfl rfl rfl rfl ?_
   refine ao_no rfl rfl rfl rfl rfl rfl ?_
   refine sS rfl rfl rfl (op1_pickF rfl rfl rfl) (ao_nil ?_)
   exact ⟨rfl, false, h, ⟨.nil, (sC rfl (sC rfl sub_nil))⟩⟩
end Go.Proofs.Ytigadhiciinicaa
