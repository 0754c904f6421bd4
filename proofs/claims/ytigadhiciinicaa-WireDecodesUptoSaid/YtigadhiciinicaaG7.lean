/- Pure functions, and that calls answer as they say. Written by gen.py. -/
import Derived.Test.YtigadhiciinicaaG6
namespace Go.Proofs.Ytigadhiciinicaa
open Go Aw
set_option linter.unusedVariables false
set_option linter.unusedSimpArgs false
set_option maxRecDepth 20000
set_option maxHeartbeats 2000000
noncomputable def law03_WireDecodes_j2 (x1 : (Str × Str)) (x2 : (V × Int × Int)) (x3 : (V × Int × Int)) (x5 : (Term × Int × Int)) (s9 : Bool) : Option Bool :=
 bif s9 then (
  some false
 ) else (
  Option.bind (spoilO x2.1) fun x11 =>
  Option.bind (fullO x1.1 (9 : UInt8)) fun x12 =>
  Option.bind (p_wire_Decode ([(2 : UInt8), (1 : UInt8)] : Str)) fun x13 =>
  Option.bind (p_mk_Is x3.1 (x5.1)) fun x14 =>
  bif x14 then (
   bif (x13.1).eqBool true then (
    some (x13.2.2 == 0)
   ) else (
    some false
   )
  ) else (
   some false
  )
 )
noncomputable def law03_WireDecodes_j1 (x1 : (Str × Str)) (x2 : (V × Int × Int)) (x3 : (V × Int × Int)) (x5 : (Term × Int × Int)) (s6 : Bool) : Option Bool :=
 bif s6 then (
  some false
 ) else (
  bif (x5.2.2 != 0) then (
   some (x2.1).isNil
  ) else (
   Option.bind (p_mk_Is x2.1 (x5.1)) fun x17 =>
   bif (!x17) then (
    law03_WireDecodes_j2 x1 x2 x3 x5 true
   ) else (
    Option.bind (p_mk_Is x3.1 (x5.1)) fun x19 =>
    law03_WireDecodes_j2 x1 x2 x3 x5 (!x19)
   )
  )
 )
noncomputable def p_law03_WireDecodes (a0 : Str) : Option Bool :=
 Option.bind (p_law03_lent a0) fun x1 =>
 Option.bind (p_wire_Decode x1.1) fun x2 =>
 Option.bind (p_wire_Decode x1.1) fun x3 =>
 Option.bind (p_wire_Skip x1.1) fun x4 =>
 Option.bind (p_ref03_Decode a0) fun x5 =>
 bif (x2.2.2 != x5.2.2) then (
  law03_WireDecodes_j1 x1 x2 x3 x5 true
 ) else (
  bif (x2.2.1 != x5.2.1) then (
   law03_WireDecodes_j1 x1 x2 x3 x5 true
  ) else (
   bif (x4.2 != x5.2.2) then (
    law03_WireDecodes_j1 x1 x2 x3 x5 true
   ) else (
    bif (x4.2 == 0) then (
     bif (x4.1 != x5.2.1) then (
      law03_WireDecodes_j1 x1 x2 x3 x5 true
     ) else (
      bif (x4.2 != 0) then (
       bif (x4.1 != 0) then (
        law03_WireDecodes_j1 x1 x2 x3 x5 true
       ) else (
        Option.bind (p_law03_kept x1.2 a0) fun x27 =>
        law03_WireDecodes_j1 x1 x2 x3 x5 (!x27)
       )
      ) else (
       Option.bind (p_law03_kept x1.2 a0) fun x28 =>
       law03_WireDecodes_j1 x1 x2 x3 x5 (!x28)
      )
     )
    ) else (
     bif (x4.2 != 0) then (
      bif (x4.1 != 0) then (
       law03_WireDecodes_j1 x1 x2 x3 x5 true
      ) else (
       Option.bind (p_law03_kept x1.2 a0) fun x31 =>
       law03_WireDecodes_j1 x1 x2 x3 x5 (!x31)
      )
     ) else (
      Option.bind (p_law03_kept x1.2 a0) fun x32 =>
      law03_WireDecodes_j1 x1 x2 x3 x5 (!x32)
     )
    )
   )
  )
 )
theorem s_law03_WireDecodes (a0 : Str) (r : Bool) (h : p_law03_WireDecodes a0 = some r) : PCalls Try.prog 4 [(PV.sl none 5 1 (List.map ofB a0))] (BO r) := by
 unfold p_law03_WireDecodes at h
 refine acalls_of Try.func4 rfl Try.ntmps4 Try.results4 rfl (aw_of_bw ?_)
 change BW _ _ _ ⟨[(0, (PV.sl none 5 1 (List.map ofB a0)))], [], _⟩ _
 refine bR ?_
 refine sA rfl rfl rfl rfl rfl (ao_nil ?_)
 change BW _ _ _ _ _
 refine bR ?_
 refine sM rfl rfl rfl rfl rfl ?_
 obtain ⟨x1, hx1, h⟩ := obind h
 refine sS rfl rfl rfl (op1_fcall rfl en_17 rfl (.cons (.old (.wk (Wk.refl _) (ids_slM (fun _ => rfl) a0))) .nil) (s_law03_lent a0 x1 hx1) (Pl.tup (.cons (pl_sl (fun _ => Pl.v) x1.1) (.cons (pl_sl (fun _ => Pl.v) x1.2) .nil)))) ?_
 refine sM rfl rfl rfl rfl rfl ?_
 refine sS rfl rfl rfl (op1_extH rfl rfl rfl) ?_
 refine sS rfl rfl rfl (op1_extH rfl rfl rfl) ?_
 refine sA rfl rfl rfl rfl rfl ?_
 refine sA rfl rfl rfl rfl rfl (ao_nil ?_)
 change BW _ _ _ _ _
 refine bR ?_
 refine sM rfl rfl rfl rfl rfl ?_
 obtain ⟨x2, hx2, h⟩ := obind h
 refine sS rfl rfl rfl (op1_fcall rfl en_18 rfl (.cons (.old (.hid rfl)) .nil) (s_wire_Decode x1.1 x2 hx2) (Pl.tup (.cons (pl_V x2.1) (.cons Pl.v (.cons Pl.v .nil))))) ?_
 refine sM rfl rfl rfl rfl rfl ?_
 refine sS rfl rfl rfl (op1_extH rfl rfl rfl) ?_
 refine sS rfl rfl rfl ((op1_extH rfl rfl rfl).wk (Wk.hidSc Sc.v)) ?_
 refine sS rfl rfl rfl ((op1_extH rfl rfl rfl).wk (Wk.hidSc Sc.v)) ?_
 refine sA rfl rfl rfl rfl rfl ?_
 refine sA rfl rfl rfl rfl rfl ?_
 refine sA rfl rfl rfl rfl rfl (ao_nil ?_)
 change BW _ _ _ _ _
 refine bR ?_
 refine sM rfl rfl rfl rfl rfl ?_
 obtain ⟨x3, hx3, h⟩ := obind h
 refine sS rfl rfl rfl (op1_fcall rfl en_18 rfl (.cons (.old (.hid rfl)) .nil) (s_wire_Decode x1.1 x3 hx3) (Pl.tup (.cons (pl_V x3.1) (.cons Pl.v (.cons Pl.v .nil))))) ?_
 refine sM rfl rfl rfl rfl rfl ?_
 refine sS rfl rfl rfl (op1_extH rfl rfl rfl) ?_
 refine sS rfl rfl rfl ((op1_extH rfl rfl rfl).wk (Wk.hidSc Sc.v)) ?_
 refine sS rfl rfl rfl ((op1_extH rfl rfl rfl).wk (Wk.hidSc Sc.v)) ?_
 refine sA rfl rfl rfl rfl rfl ?_
 refine sA rfl rfl rfl rfl rfl ?_
 refine sA rfl rfl rfl rfl rfl (ao_nil ?_)
 change BW _ _ _ _ _
 refine bR ?_
 refine sM rfl rfl rfl rfl rfl ?_
 obtain ⟨x4, hx4, h⟩ := obind h
 refine sS rfl rfl rfl (op1_hcall rfl en_19 rfl (.cons (.hid rfl) .nil) (s_wire_Skip x1.1 x4 hx4) (Sc.tup (sc_cons Sc.v (sc_cons Sc.v sc_nil)))) ?_
 refine sM rfl rfl rfl rfl rfl ?_
 refine sS rfl rfl rfl (op1_ext rfl rfl rfl) ?_
 refine sS rfl rfl rfl (op1_ext rfl rfl rfl) ?_
 refine sA rfl rfl rfl rfl rfl ?_
 refine sA rfl rfl rfl rfl rfl (ao_nil ?_)
 change BW _ _ _ _ _
 refine bR ?_
 refine sM rfl rfl rfl rfl rfl ?_
 obtain ⟨x5, hx5, h⟩ := obind h
 refine sS rfl rfl rfl (op1_pcall rfl en_20 rfl (.cons (Wk.refl _) .nil) ⟨(ids_slM (fun _ => rfl) a0), trivial⟩ (s_ref03_Decode a0 x5 hx5) (ids_tup_cons (ids_TermX x5.1) (ids_tup_cons rfl (ids_tup_cons rfl ids_tup_nil)))) ?_
 refine sM rfl rfl rfl rfl rfl ?_
 refine sS rfl rfl rfl (op1_ext rfl rfl rfl) ?_
 refine sS rfl rfl rfl (op1_ext rfl rfl rfl) ?_
 refine sS rfl rfl rfl (op1_ext rfl rfl rfl) ?_
 refine sS rfl rfl rfl (op1_alloc inf_29 rfl) ?_
 refine ao_step0 rfl rfl (op1_store inf_29 rfl rfl rfl rfl rfl rfl (Nat.le_of_ble_eq_true rfl) rfl) ?_
 refine sA rfl rfl rfl rfl rfl ?_
 refine sA rfl rfl rfl rfl rfl (ao_nil ?_)
 change BW _ _ _ _ _
 refine bw_seq ?_
 refine bw_seqJ (ι := Bool) (fun i => law03_WireDecodes_j1 x1 x2 x3 x5 i = some r) (fun i => [(3, (PV.hid 0 (PV.sl none 5 1 (List.map ofB x1.1)))), (5, (PV.hid 1 (ofV x2.1))), (8, (PV.hid 2 (ofV x3.1))), (13, (PV.rf 3 0)), (15, (I64 x5.2.2)), (82, (BO i))]) (fun i => [.reg, .reg, .reg, .box 29 [(I64 ((x5.1).kind)), (BO ((x5.1).bool)), (I64 ((x5.1).int)), (PV.v (.float .f64 (x5.1).float)), (ofStr (x5.1).text), (PV.sl none 5 1 (List.map ofB (x5.1).bytes)), (PV.v (.int .u64 (x5.1).ref)), (PV.sl none 29 11 (List.map ofTerm (x5.1).list)), (PV.sl none 86 12 (List.map ofEntry (x5.1).fields)), (ofStr (x5.1).cls), (I64 ((x5.1).ver))]]) ?_ ?_ ?_
 ·intro i; exact ⟨Nat.le_of_ble_eq_true rfl, ⟨(il_hid rfl (ids_slM (fun _ => rfl) _)), ⟨(il_hid rfl (ids_V _)), ⟨(il_hid rfl (ids_V _)), ⟨(il_rf rfl), ⟨(il_nil rfl), ⟨(il_nil rfl), trivial⟩⟩⟩⟩⟩⟩, ⟨⟨(il_nil rfl), ⟨(il_nil rfl), ⟨(il_nil rfl), ⟨(il_nil rfl), ⟨(il_nil rfl), ⟨(il_nil (ids_slM (fun _ => rfl) _)), ⟨(il_nil rfl), ⟨(il_nil (ids_slM ids_Term _)), ⟨(il_nil (ids_slM ids_Entry _)), ⟨(il_nil rfl), ⟨(il_nil rfl), trivial⟩⟩⟩⟩⟩⟩⟩⟩⟩⟩⟩, trivial⟩⟩
 ·rintro s6 h; replace h : law03_WireDecodes_j1 x1 x2 x3 x5 s6 = some r := h; unfold law03_WireDecodes_j1 at h
  change BW _ _ _ ⟨[(3, (PV.hid 0 (PV.sl none 5 1 (List.map ofB x1.1)))), (5, (PV.hid 1 (ofV x2.1))), (8, (PV.hid 2 (ofV x3.1))), (13, (PV.rf 3 0)), (15, (I64 x5.2.2)), (82, (BO s6))], [.reg, .reg, .reg, .box 29 [(I64 ((x5.1).kind)), (BO ((x5.1).bool)), (I64 ((x5.1).int)), (PV.v (.float .f64 (x5.1).float)), (ofStr (x5.1).text), (PV.sl none 5 1 (List.map ofB (x5.1).bytes)), (PV.v (.int .u64 (x5.1).ref)), (PV.sl none 29 11 (List.map ofTerm (x5.1).list)), (PV.sl none 86 12 (List.map ofEntry (x5.1).fields)), (ofStr (x5.1).cls), (I64 ((x5.1).ver))]], _⟩ _
  refine bw_cond rfl ?_ ?_
  ·intro hc7; replace h := ocond_t hc7 h
   refine bR ?_
   refine sA rfl rfl rfl rfl rfl (ao_nil ?_)
   change BW _ _ _ _ _
   refine bw_ret ?_
   change ∃ xs, _ = some xs ∧ EndOk _ _ _ _
   obtain rfl := Option.some.inj h
   exact ⟨_, rfl, endOk0 (y := (BO false)) (Wk.refl _) rfl ⟨rfl, rfl⟩⟩
  ·intro hc7; replace h := ocond_f hc7 h
   refine bw_skip ?_
   change BW _ _ _ _ _
   refine bw_seq ?_
   refine bR ?_
   refine sM rfl rfl rfl rfl rfl ?_
   refine sS rfl rfl rfl ((op1_cmp rfl rfl rfl rfl).cast (y := (BO ((x5.2.2 != 0)))) rfl rfl) (ao_nil ?_)
   change BW _ _ _ _ _
   refine bw_cond rfl ?_ ?_
   ·intro hc8; replace h := ocond_t hc8 h
    refine bR ?_
    refine sM rfl rfl rfl rfl rfl ?_
    refine sS rfl rfl rfl (op1_regS [1] ⟨rfl, trivial⟩ (op1_vEqNil Try.underlying20 rfl rfl) Sc.v) ?_
    refine sA rfl rfl rfl rfl rfl (ao_nil ?_)
    change BW _ _ _ _ _
    refine bw_ret ?_
    change ∃ xs, _ = some xs ∧ EndOk _ _ _ _
    obtain rfl := Option.some.inj h
    exact ⟨_, rfl, endOk0 (y := (BO ((x2.1).isNil))) (Wk.refl _) rfl ⟨rfl, rfl⟩⟩
   ·intro hc8; replace h := ocond_f hc8 h
    refine bw_skip ?_
    change BW _ _ _ _ _
    refine bw_seq ?_
    refine bw_seqJ (ι := Bool) (fun i => law03_WireDecodes_j2 x1 x2 x3 x5 i = some r) (fun i => [(3, (PV.hid 0 (PV.sl none 5 1 (List.map ofB x1.1)))), (5, (PV.hid 1 (ofV x2.1))), (8, (PV.hid 2 (ofV x3.1))), (13, (PV.rf 3 0)), (96, (BO i))]) (fun i => [.reg, .reg, .reg, .box 29 [(I64 ((x5.1).kind)), (BO ((x5.1).bool)), (I64 ((x5.1).int)), (PV.v (.float .f64 (x5.1).float)), (ofStr (x5.1).text), (PV.sl none 5 1 (List.map ofB (x5.1).bytes)), (PV.v (.int .u64 (x5.1).ref)), (PV.sl none 29 11 (List.map ofTerm (x5.1).list)), (PV.sl none 86 12 (List.map ofEntry (x5.1).fields)), (ofStr (x5.1).cls), (I64 ((x5.1).ver))]]) ?_ ?_ ?_
    ·intro i; exact ⟨Nat.le_of_ble_eq_true rfl, ⟨(il_hid rfl (ids_slM (fun _ => rfl) _)), ⟨(il_hid rfl (ids_V _)), ⟨(il_hid rfl (ids_V _)), ⟨(il_rf rfl), ⟨(il_nil rfl), trivial⟩⟩⟩⟩⟩, ⟨⟨(il_nil rfl), ⟨(il_nil rfl), ⟨(il_nil rfl), ⟨(il_nil rfl), ⟨(il_nil rfl), ⟨(il_nil (ids_slM (fun _ => rfl) _)), ⟨(il_nil rfl), ⟨(il_nil (ids_slM ids_Term _)), ⟨(il_nil (ids_slM ids_Entry _)), ⟨(il_nil rfl), ⟨(il_nil rfl), trivial⟩⟩⟩⟩⟩⟩⟩⟩⟩⟩⟩, trivial⟩⟩
    ·rintro s9 h; replace h : law03_WireDecodes_j2 x1 x2 x3 x5 s9 = some r := h; unfold law03_WireDecodes_j2 at h
     change BW _ _ _ ⟨[(3, (PV.hid 0 (PV.sl none 5 1 (List.map ofB x1.1)))), (5, (PV.hid 1 (ofV x2.1))), (8, (PV.hid 2 (ofV x3.1))), (13, (PV.rf 3 0)), (96, (BO s9))], [.reg, .reg, .reg, .box 29 [(I64 ((x5.1).kind)), (BO ((x5.1).bool)), (I64 ((x5.1).int)), (PV.v (.float .f64 (x5.1).float)), (ofStr (x5.1).text), (PV.sl none 5 1 (List.map ofB (x5.1).bytes)), (PV.v (.int .u64 (x5.1).ref)), (PV.sl none 29 11 (List.map ofTerm (x5.1).list)), (PV.sl none 86 12 (List.map ofEntry (x5.1).fields)), (ofStr (x5.1).cls), (I64 ((x5.1).ver))]], _⟩ _
     refine bw_cond rfl ?_ ?_
     ·intro hc10; replace h := ocond_t hc10 h
      refine bR ?_
      refine sA rfl rfl rfl rfl rfl (ao_nil ?_)
      change BW _ _ _ _ _
      refine bw_ret ?_
      change ∃ xs, _ = some xs ∧ EndOk _ _ _ _
      obtain rfl := Option.some.inj h
      exact ⟨_, rfl, endOk0 (y := (BO false)) (Wk.refl _) rfl ⟨rfl, rfl⟩⟩
     ·intro hc10; replace h := ocond_f hc10 h
      refine bw_skip ?_
      change BW _ _ _ _ _
      refine bR ?_
      refine sM rfl rfl rfl rfl rfl ?_
      obtain ⟨x11, hx11, h⟩ := obind h
      refine sS rfl rfl rfl (op1_spoil 1 rfl en_23 rfl rfl (.cons .hid .nil) (sp_Spoil x2.1 hx11) (Sc.tup sc_nil)) (ao_nil ?_)
      change BW _ _ _ _ _
      refine bR ?_
      refine sM rfl rfl rfl rfl rfl ?_
      obtain ⟨x12, hx12, h⟩ := obind h
      refine sS rfl rfl rfl (op1_spoil 0 rfl en_16 rfl rfl (.cons .hid (.cons (.sc (Wk.refl _) Sc.v) .nil)) (sp_full x1.1 (9 : UInt8) hx12) (Sc.tup sc_nil)) (ao_nil ?_)
      change BW _ _ _ _ _
      refine bR ?_
      refine sS rfl rfl rfl ((op1_bslice (xs := [(ofB (2 : UInt8)), (ofB (1 : UInt8))]) Try.underlying23 inf_5 rfl rfl rfl rfl rfl rfl ⟨Nat.le_of_ble_eq_true rfl, Nat.le_of_ble_eq_true rfl⟩ rfl).cast (y := (PV.sl (some 4) 5 1 (List.map ofB ([(2 : UInt8), (1 : UInt8)] : Str)))) rfl rfl) ?_
      obtain ⟨x13, hx13, h⟩ := obind h
      refine sS rfl rfl rfl (op1_fcall rfl en_18 rfl (.cons (.old (.wk Wk.tok (ids_slM (fun _ => rfl) ([(2 : UInt8), (1 : UInt8)] : Str)))) .nil) (s_wire_Decode ([(2 : UInt8), (1 : UInt8)] : Str) x13 hx13) (Pl.tup (.cons (pl_V x13.1) (.cons Pl.v (.cons Pl.v .nil))))) ?_
      refine sM rfl rfl rfl rfl rfl ?_
      refine sS rfl rfl rfl (op1_extH rfl rfl rfl) ?_
      refine sS rfl rfl rfl ((op1_extH rfl rfl rfl).wk (Wk.hidSc Sc.v)) ?_
      refine sS rfl rfl rfl ((op1_extH rfl rfl rfl).wk (Wk.hidSc Sc.v)) ?_
      refine sA rfl rfl rfl rfl rfl ?_
      refine sA rfl rfl rfl rfl rfl ?_
      refine sA rfl rfl rfl rfl rfl (ao_nil ?_)
      change BW _ _ _ _ _
      refine bR ?_
      refine sM rfl rfl rfl rfl rfl ?_
      refine sS rfl rfl rfl ((op1_ldRA inf_29 Try.underlying29 rfl rfl rfl rfl rfl rfl)) ?_
      obtain ⟨x14, hx14, h⟩ := obind h
      refine sS rfl rfl rfl (op1_hcall rfl en_22 rfl (.cons (.hid rfl) (.cons (.wk (Wk.refl _) (ids_TermX (x5.1))) .nil)) (s_mk_Is x3.1 (x5.1) x14 hx14) Sc.v) ?_
      refine sM rfl rfl rfl rfl rfl ?_
      refine ao_cases (t := 110) rfl ?_ ?_
      ·intro hb15; replace h := ocond_t hb15 h
       refine ao_yes rfl rfl rfl rfl rfl rfl (op1_move rfl rfl) ?_
       refine ao_yes rfl rfl rfl rfl rfl rfl ((op1_mkI Try.underlying4 rfl rfl rfl).wk ((Wk.iface (Wk.refl _)).trans (Wk.eq (mk_bool _).symm))) ?_
       refine ao_yes rfl rfl rfl rfl rfl rfl (op1_regS [5] ⟨rfl, trivial⟩ (op1_vEqBool Try.underlying20 rfl rfl rfl) Sc.v) ?_
       refine sS rfl rfl rfl (op1_pickT rfl rfl rfl) ?_
       refine sM rfl rfl rfl rfl rfl ?_
       refine ao_cases (t := 115) rfl ?_ ?_
       ·intro hb16; replace h := ocond_t hb16 h
        refine ao_yes rfl rfl rfl rfl rfl rfl (op1_move rfl rfl) ?_
        refine ao_yes rfl rfl rfl rfl rfl rfl ((op1_cmp rfl rfl rfl rfl).cast (y := (BO ((x13.2.2 == 0)))) rfl rfl) ?_
        refine sS rfl rfl rfl (op1_pickT rfl rfl rfl) ?_
        refine sA rfl rfl rfl rfl rfl (ao_nil ?_)
        change BW _ _ _ _ _
        refine bw_ret ?_
        change ∃ xs, _ = some xs ∧ EndOk _ _ _ _
        obtain rfl := Option.some.inj h
        exact ⟨_, rfl, endOk0 (y := (BO ((x13.2.2 == 0)))) (Wk.refl _) rfl ⟨rfl, rfl⟩⟩
       ·intro hb16; replace h := ocond_f hb16 h
        refine ao_no rfl rfl rfl rfl rfl rfl ?_
        refine ao_no rfl rfl rfl rfl rfl rfl ?_
        refine sS rfl rfl rfl (op1_pickF rfl rfl rfl) ?_
        refine sA rfl rfl rfl rfl rfl (ao_nil ?_)
        change BW _ _ _ _ _
        refine bw_ret ?_
        change ∃ xs, _ = some xs ∧ EndOk _ _ _ _
        obtain rfl := Option.some.inj h
        exact ⟨_, rfl, endOk0 (y := (BO false)) (Wk.refl _) rfl ⟨rfl, rfl⟩⟩
      ·intro hb15; replace h := ocond_f hb15 h
       refine ao_no rfl rfl rfl rfl rfl rfl ?_
       refine ao_no rfl rfl rfl rfl rfl rfl ?_
       refine ao_no rfl rfl rfl rfl rfl rfl ?_
       refine sS rfl rfl rfl (op1_pickF rfl rfl rfl) ?_
       refine sM rfl rfl rfl rfl rfl ?_
       refine ao_no rfl rfl rfl rfl rfl rfl ?_
       refine ao_no rfl rfl rfl rfl rfl rfl ?_
       refine sS rfl rfl rfl (op1_pickF rfl rfl rfl) ?_
       refine sA rfl rfl rfl rfl rfl (ao_nil ?_)
       change BW _ _ _ _ _
       refine bw_ret ?_
       change ∃ xs, _ = some xs ∧ EndOk _ _ _ _
       obtain rfl := Option.some.inj h
       exact ⟨_, rfl, endOk0 (y := (BO false)) (Wk.refl _) rfl ⟨rfl, rfl⟩⟩
    ·refine bw_region ?_
     refine sM rfl rfl rfl rfl rfl ?_
     refine sS rfl rfl rfl ((op1_ldRA inf_29 Try.underlying29 rfl rfl rfl rfl rfl rfl)) ?_
     obtain ⟨x17, hx17, h⟩ := obind h
     refine sS rfl rfl rfl (op1_hcall rfl en_22 rfl (.cons (.hid rfl) (.cons (.wk (Wk.refl _) (ids_TermX (x5.1))) .nil)) (s_mk_Is x2.1 (x5.1) x17 hx17) Sc.v) ?_
     refine sS rfl rfl rfl (op1_not rfl rfl) ?_
     refine sM rfl rfl rfl rfl rfl ?_
     refine ao_cases (t := 91) rfl ?_ ?_
     ·intro hb18; replace h := ocond_t hb18 h
      refine ao_no rfl rfl rfl rfl rfl rfl ?_
      refine ao_no rfl rfl rfl rfl rfl rfl ?_
      refine ao_no rfl rfl rfl rfl rfl rfl ?_
      refine ao_no rfl rfl rfl rfl rfl rfl ?_
      refine sS rfl rfl rfl (op1_pickT rfl rfl rfl) (ao_nil ?_)
      exact ⟨rfl, true, h, ⟨(.cons .same (.cons .same (.cons .same (.cons .same .nil)))), (sC rfl (sC rfl (sC rfl (sC rfl (sC rfl sub_nil)))))⟩⟩
     ·intro hb18; replace h := ocond_f hb18 h
      refine ao_yes rfl rfl rfl rfl rfl rfl (op1_move rfl rfl) ?_
      refine ao_yes rfl rfl rfl rfl rfl rfl ((op1_ldRA inf_29 Try.underlying29 rfl rfl rfl rfl rfl rfl)) ?_
      obtain ⟨x19, hx19, h⟩ := obind h
      refine ao_yes rfl rfl rfl rfl rfl rfl (op1_hcall rfl en_22 rfl (.cons (.hid rfl) (.cons (.wk (Wk.refl _) (ids_TermX (x5.1))) .nil)) (s_mk_Is x3.1 (x5.1) x19 hx19) Sc.v) ?_
      refine ao_yes rfl rfl rfl rfl rfl rfl (op1_not rfl rfl) ?_
      refine sS rfl rfl rfl (op1_pickF rfl rfl rfl) (ao_nil ?_)
      exact ⟨rfl, (!x19), h, ⟨(.cons .same (.cons .same (.cons .same (.cons .same .nil)))), (sC rfl (sC rfl (sC rfl (sC rfl (sC rfl sub_nil)))))⟩⟩
 ·refine bw_region ?_
  refine sM rfl rfl rfl rfl rfl ?_
  refine sM rfl rfl rfl rfl rfl ?_
  refine sS rfl rfl rfl ((op1_cmp rfl rfl rfl rfl).cast (y := (BO ((x2.2.2 != x5.2.2)))) rfl rfl) ?_
  refine sM rfl rfl rfl rfl rfl ?_
  refine ao_cases (t := 50) rfl ?_ ?_
  ·intro hb20; replace h := ocond_t hb20 h
   refine ao_no rfl rfl rfl rfl rfl rfl ?_
   refine ao_no rfl rfl rfl rfl rfl rfl ?_
   refine ao_no rfl rfl rfl rfl rfl rfl ?_
   refine sS rfl rfl rfl (op1_pickT rfl rfl rfl) ?_
   refine sM rfl rfl rfl rfl rfl ?_
   refine ao_no rfl rfl rfl rfl rfl rfl ?_
   refine ao_no rfl rfl rfl rfl rfl rfl ?_
   refine ao_no rfl rfl rfl rfl rfl rfl ?_
   refine sS rfl rfl rfl (op1_pickT rfl rfl rfl) ?_
   refine sM rfl rfl rfl rfl rfl ?_
   refine ao_no rfl rfl rfl rfl rfl rfl ?_
   refine ao_no rfl rfl rfl rfl rfl rfl ?_
   refine ao_no rfl rfl rfl rfl rfl rfl ?_
   refine ao_no rfl rfl rfl rfl rfl rfl ?_
   refine ao_no rfl rfl rfl rfl rfl rfl ?_
   refine ao_no rfl rfl rfl rfl rfl rfl ?_
   refine ao_no rfl rfl rfl rfl rfl rfl ?_
   refine sS rfl rfl rfl (op1_pickT rfl rfl rfl) ?_
   refine sM rfl rfl rfl rfl rfl ?_
   refine ao_no rfl rfl rfl rfl rfl rfl ?_
   refine ao_no rfl rfl rfl rfl rfl rfl ?_
   refine ao_no rfl rfl rfl rfl rfl rfl ?_
   refine ao_no rfl rfl rfl rfl rfl rfl ?_
   refine ao_no rfl rfl rfl rfl rfl rfl ?_
   refine ao_no rfl rfl rfl rfl rfl rfl ?_
   refine sS rfl rfl rfl (op1_pickT rfl rfl rfl) ?_
   refine sM rfl rfl rfl rfl rfl ?_
   refine ao_no rfl rfl rfl rfl rfl rfl ?_
   refine ao_no rfl rfl rfl rfl rfl rfl ?_
   refine ao_no rfl rfl rfl rfl rfl rfl ?_
   refine ao_no rfl rfl rfl rfl rfl rfl ?_
   refine sS rfl rfl rfl (op1_pickT rfl rfl rfl) (ao_nil ?_)
   exact ⟨rfl, true, h, ⟨(.cons .same (.cons .same (.cons .same (.cons .same .nil)))), (sC rfl (sC rfl (sC rfl (sC rfl (sC rfl (sC rfl sub_nil))))))⟩⟩
  ·intro hb20; replace h := ocond_f hb20 h
   refine ao_yes rfl rfl rfl rfl rfl rfl (op1_move rfl rfl) ?_
   refine ao_yes rfl rfl rfl rfl rfl rfl (op1_move rfl rfl) ?_
   refine ao_yes rfl rfl rfl rfl rfl rfl ((op1_cmp rfl rfl rfl rfl).cast (y := (BO ((x2.2.1 != x5.2.1)))) rfl rfl) ?_
   refine sS rfl rfl rfl (op1_pickF rfl rfl rfl) ?_
   refine sM rfl rfl rfl rfl rfl ?_
   refine ao_cases (t := 55) rfl ?_ ?_
   ·intro hb21; replace h := ocond_t hb21 h
    refine ao_no rfl rfl rfl rfl rfl rfl ?_
    refine ao_no rfl rfl rfl rfl rfl rfl ?_
    refine ao_no rfl rfl rfl rfl rfl rfl ?_
    refine sS rfl rfl rfl (op1_pickT rfl rfl rfl) ?_
    refine sM rfl rfl rfl rfl rfl ?_
    refine ao_no rfl rfl rfl rfl rfl rfl ?_
    refine ao_no rfl rfl rfl rfl rfl rfl ?_
    refine ao_no rfl rfl rfl rfl rfl rfl ?_
    refine ao_no rfl rfl rfl rfl rfl rfl ?_
    refine ao_no rfl rfl rfl rfl rfl rfl ?_
    refine ao_no rfl rfl rfl rfl rfl rfl ?_
    refine ao_no rfl rfl rfl rfl rfl rfl ?_
    refine sS rfl rfl rfl (op1_pickT rfl rfl rfl) ?_
    refine sM rfl rfl rfl rfl rfl ?_
    refine ao_no rfl rfl rfl rfl rfl rfl ?_
    refine ao_no rfl rfl rfl rfl rfl rfl ?_
    refine ao_no rfl rfl rfl rfl rfl rfl ?_
    refine ao_no rfl rfl rfl rfl rfl rfl ?_
    refine ao_no rfl rfl rfl rfl rfl rfl ?_
    refine ao_no rfl rfl rfl rfl rfl rfl ?_
    refine sS rfl rfl rfl (op1_pickT rfl rfl rfl) ?_
    refine sM rfl rfl rfl rfl rfl ?_
    refine ao_no rfl rfl rfl rfl rfl rfl ?_
    refine ao_no rfl rfl rfl rfl rfl rfl ?_
    refine ao_no rfl rfl rfl rfl rfl rfl ?_
    refine ao_no rfl rfl rfl rfl rfl rfl ?_
    refine sS rfl rfl rfl (op1_pickT rfl rfl rfl) (ao_nil ?_)
    exact ⟨rfl, true, h, ⟨(.cons .same (.cons .same (.cons .same (.cons .same .nil)))), (sC rfl (sC rfl (sC rfl (sC rfl (sC rfl (sC rfl sub_nil))))))⟩⟩
   ·intro hb21; replace h := ocond_f hb21 h
    refine ao_yes rfl rfl rfl rfl rfl rfl (op1_move rfl rfl) ?_
    refine ao_yes rfl rfl rfl rfl rfl rfl (op1_move rfl rfl) ?_
    refine ao_yes rfl rfl rfl rfl rfl rfl ((op1_cmp rfl rfl rfl rfl).cast (y := (BO ((x4.2 != x5.2.2)))) rfl rfl) ?_
    refine sS rfl rfl rfl (op1_pickF rfl rfl rfl) ?_
    refine sM rfl rfl rfl rfl rfl ?_
    refine ao_cases (t := 60) rfl ?_ ?_
    ·intro hb22; replace h := ocond_t hb22 h
     refine ao_no rfl rfl rfl rfl rfl rfl ?_
     refine ao_no rfl rfl rfl rfl rfl rfl ?_
     refine ao_no rfl rfl rfl rfl rfl rfl ?_
     refine ao_no rfl rfl rfl rfl rfl rfl ?_
     refine ao_no rfl rfl rfl rfl rfl rfl ?_
     refine ao_no rfl rfl rfl rfl rfl rfl ?_
     refine ao_no rfl rfl rfl rfl rfl rfl ?_
     refine sS rfl rfl rfl (op1_pickT rfl rfl rfl) ?_
     refine sM rfl rfl rfl rfl rfl ?_
     refine ao_no rfl rfl rfl rfl rfl rfl ?_
     refine ao_no rfl rfl rfl rfl rfl rfl ?_
     refine ao_no rfl rfl rfl rfl rfl rfl ?_
     refine ao_no rfl rfl rfl rfl rfl rfl ?_
     refine ao_no rfl rfl rfl rfl rfl rfl ?_
     refine ao_no rfl rfl rfl rfl rfl rfl ?_
     refine sS rfl rfl rfl (op1_pickT rfl rfl rfl) ?_
     refine sM rfl rfl rfl rfl rfl ?_
     refine ao_no rfl rfl rfl rfl rfl rfl ?_
     refine ao_no rfl rfl rfl rfl rfl rfl ?_
     refine ao_no rfl rfl rfl rfl rfl rfl ?_
     refine ao_no rfl rfl rfl rfl rfl rfl ?_
     refine sS rfl rfl rfl (op1_pickT rfl rfl rfl) (ao_nil ?_)
     exact ⟨rfl, true, h, ⟨(.cons .same (.cons .same (.cons .same (.cons .same .nil)))), (sC rfl (sC rfl (sC rfl (sC rfl (sC rfl (sC rfl sub_nil))))))⟩⟩
    ·intro hb22; replace h := ocond_f hb22 h
     refine ao_yes rfl rfl rfl rfl rfl rfl (op1_move rfl rfl) ?_
     refine ao_yes rfl rfl rfl rfl rfl rfl ((op1_cmp rfl rfl rfl rfl).cast (y := (BO ((x4.2 == 0)))) rfl rfl) ?_
     refine ao_yes rfl rfl rfl rfl rfl rfl (op1_move rfl rfl) ?_
     refine ao_cases (t := 63) rfl ?_ ?_
     ·intro hb23; replace h := ocond_t hb23 h
      refine ao_yes rfl rfl rfl rfl rfl rfl (op1_move rfl rfl) ?_
      refine ao_yes rfl rfl rfl rfl rfl rfl (op1_move rfl rfl) ?_
      refine ao_yes rfl rfl rfl rfl rfl rfl ((op1_cmp rfl rfl rfl rfl).cast (y := (BO ((x4.1 != x5.2.1)))) rfl rfl) ?_
      refine ao_yes rfl rfl rfl rfl rfl rfl (op1_pickT rfl rfl rfl) ?_
      refine sS rfl rfl rfl (op1_pickF rfl rfl rfl) ?_
      refine sM rfl rfl rfl rfl rfl ?_
      refine ao_cases (t := 69) rfl ?_ ?_
      ·intro hb24; replace h := ocond_t hb24 h
       refine ao_no rfl rfl rfl rfl rfl rfl ?_
       refine ao_no rfl rfl rfl rfl rfl rfl ?_
       refine ao_no rfl rfl rfl rfl rfl rfl ?_
       refine ao_no rfl rfl rfl rfl rfl rfl ?_
       refine ao_no rfl rfl rfl rfl rfl rfl ?_
       refine ao_no rfl rfl rfl rfl rfl rfl ?_
       refine sS rfl rfl rfl (op1_pickT rfl rfl rfl) ?_
       refine sM rfl rfl rfl rfl rfl ?_
       refine ao_no rfl rfl rfl rfl rfl rfl ?_
       refine ao_no rfl rfl rfl rfl rfl rfl ?_
       refine ao_no rfl rfl rfl rfl rfl rfl ?_
       refine ao_no rfl rfl rfl rfl rfl rfl ?_
       refine sS rfl rfl rfl (op1_pickT rfl rfl rfl) (ao_nil ?_)
       exact ⟨rfl, true, h, ⟨(.cons .same (.cons .same (.cons .same (.cons .same .nil)))), (sC rfl (sC rfl (sC rfl (sC rfl (sC rfl (sC rfl sub_nil))))))⟩⟩
      ·intro hb24; replace h := ocond_f hb24 h
       refine ao_yes rfl rfl rfl rfl rfl rfl (op1_move rfl rfl) ?_
       refine ao_yes rfl rfl rfl rfl rfl rfl ((op1_cmp rfl rfl rfl rfl).cast (y := (BO ((x4.2 != 0)))) rfl rfl) ?_
       refine ao_yes rfl rfl rfl rfl rfl rfl (op1_move rfl rfl) ?_
       refine ao_cases (t := 72) rfl ?_ ?_
       ·intro hb25; replace h := ocond_t hb25 h
        refine ao_yes rfl rfl rfl rfl rfl rfl (op1_move rfl rfl) ?_
        refine ao_yes rfl rfl rfl rfl rfl rfl ((op1_cmp rfl rfl rfl rfl).cast (y := (BO ((x4.1 != 0)))) rfl rfl) ?_
        refine ao_yes rfl rfl rfl rfl rfl rfl (op1_pickT rfl rfl rfl) ?_
        refine sS rfl rfl rfl (op1_pickF rfl rfl rfl) ?_
        refine sM rfl rfl rfl rfl rfl ?_
        refine ao_cases (t := 77) rfl ?_ ?_
        ·intro hb26; replace h := ocond_t hb26 h
         refine ao_no rfl rfl rfl rfl rfl rfl ?_
         refine ao_no rfl rfl rfl rfl rfl rfl ?_
         refine ao_no rfl rfl rfl rfl rfl rfl ?_
         refine ao_no rfl rfl rfl rfl rfl rfl ?_
         refine sS rfl rfl rfl (op1_pickT rfl rfl rfl) (ao_nil ?_)
         exact ⟨rfl, true, h, ⟨(.cons .same (.cons .same (.cons .same (.cons .same .nil)))), (sC rfl (sC rfl (sC rfl (sC rfl (sC rfl (sC rfl sub_nil))))))⟩⟩
        ·intro hb26; replace h := ocond_f hb26 h
         refine ao_yes rfl rfl rfl rfl rfl rfl (op1_move rfl rfl) ?_
         refine ao_yes rfl rfl rfl rfl rfl rfl (op1_move rfl rfl) ?_
         obtain ⟨x27, hx27, h⟩ := obind h
         refine ao_yes rfl rfl rfl rfl rfl rfl (op1_hcall rfl en_21 rfl (.cons (.hid rfl) (.cons (.wk (Wk.refl _) (ids_slM (fun _ => rfl) a0)) .nil)) (s_law03_kept x1.2 a0 x27 hx27) Sc.v) ?_
         refine ao_yes rfl rfl rfl rfl rfl rfl (op1_not rfl rfl) ?_
         refine sS rfl rfl rfl (op1_pickF rfl rfl rfl) (ao_nil ?_)
         exact ⟨rfl, (!x27), h, ⟨(.cons .same (.cons .same (.cons .same (.cons .same .nil)))), (sC rfl (sC rfl (sC rfl (sC rfl (sC rfl (sC rfl sub_nil))))))⟩⟩
       ·intro hb25; replace h := ocond_f hb25 h
        refine ao_no rfl rfl rfl rfl rfl rfl ?_
        refine ao_no rfl rfl rfl rfl rfl rfl ?_
        refine ao_yes rfl rfl rfl rfl rfl rfl (op1_pickF rfl rfl rfl) ?_
        refine sS rfl rfl rfl (op1_pickF rfl rfl rfl) ?_
        refine sM rfl rfl rfl rfl rfl ?_
        refine ao_yes rfl rfl rfl rfl rfl rfl (op1_move rfl rfl) ?_
        refine ao_yes rfl rfl rfl rfl rfl rfl (op1_move rfl rfl) ?_
        obtain ⟨x28, hx28, h⟩ := obind h
        refine ao_yes rfl rfl rfl rfl rfl rfl (op1_hcall rfl en_21 rfl (.cons (.hid rfl) (.cons (.wk (Wk.refl _) (ids_slM (fun _ => rfl) a0)) .nil)) (s_law03_kept x1.2 a0 x28 hx28) Sc.v) ?_
        refine ao_yes rfl rfl rfl rfl rfl rfl (op1_not rfl rfl) ?_
        refine sS rfl rfl rfl (op1_pickF rfl rfl rfl) (ao_nil ?_)
        exact ⟨rfl, (!x28), h, ⟨(.cons .same (.cons .same (.cons .same (.cons .same .nil)))), (sC rfl (sC rfl (sC rfl (sC rfl (sC rfl (sC rfl sub_nil))))))⟩⟩
     ·intro hb23; replace h := ocond_f hb23 h
      refine ao_no rfl rfl rfl rfl rfl rfl ?_
      refine ao_no rfl rfl rfl rfl rfl rfl ?_
      refine ao_no rfl rfl rfl rfl rfl rfl ?_
      refine ao_yes rfl rfl rfl rfl rfl rfl (op1_pickF rfl rfl rfl) ?_
      refine sS rfl rfl rfl (op1_pickF rfl rfl rfl) ?_
      refine sM rfl rfl rfl rfl rfl ?_
      refine ao_yes rfl rfl rfl rfl rfl rfl (op1_move rfl rfl) ?_
      refine ao_yes rfl rfl rfl rfl rfl rfl ((op1_cmp rfl rfl rfl rfl).cast (y := (BO ((x4.2 != 0)))) rfl rfl) ?_
      refine ao_yes rfl rfl rfl rfl rfl rfl (op1_move rfl rfl) ?_
      refine ao_cases (t := 72) rfl ?_ ?_
      ·intro hb29; replace h := ocond_t hb29 h
       refine ao_yes rfl rfl rfl rfl rfl rfl (op1_move rfl rfl) ?_
       refine ao_yes rfl rfl rfl rfl rfl rfl ((op1_cmp rfl rfl rfl rfl).cast (y := (BO ((x4.1 != 0)))) rfl rfl) ?_
       refine ao_yes rfl rfl rfl rfl rfl rfl (op1_pickT rfl rfl rfl) ?_
       refine sS rfl rfl rfl (op1_pickF rfl rfl rfl) ?_
       refine sM rfl rfl rfl rfl rfl ?_
       refine ao_cases (t := 77) rfl ?_ ?_
       ·intro hb30; replace h := ocond_t hb30 h
        refine ao_no rfl rfl rfl rfl rfl rfl ?_
        refine ao_no rfl rfl rfl rfl rfl rfl ?_
        refine ao_no rfl rfl rfl rfl rfl rfl ?_
        refine ao_no rfl rfl rfl rfl rfl rfl ?_
        refine sS rfl rfl rfl (op1_pickT rfl rfl rfl) (ao_nil ?_)
        exact ⟨rfl, true, h, ⟨(.cons .same (.cons .same (.cons .same (.cons .same .nil)))), (sC rfl (sC rfl (sC rfl (sC rfl (sC rfl (sC rfl sub_nil))))))⟩⟩
       ·intro hb30; replace h := ocond_f hb30 h
        refine ao_yes rfl rfl rfl rfl rfl rfl (op1_move rfl rfl) ?_
        refine ao_yes rfl rfl rfl rfl rfl rfl (op1_move rfl rfl) ?_
        obtain ⟨x31, hx31, h⟩ := obind h
        refine ao_yes rfl rfl rfl rfl rfl rfl (op1_hcall rfl en_21 rfl (.cons (.hid rfl) (.cons (.wk (Wk.refl _) (ids_slM (fun _ => rfl) a0)) .nil)) (s_law03_kept x1.2 a0 x31 hx31) Sc.v) ?_
        refine ao_yes rfl rfl rfl rfl rfl rfl (op1_not rfl rfl) ?_
        refine sS rfl rfl rfl (op1_pickF rfl rfl rfl) (ao_nil ?_)
        exact ⟨rfl, (!x31), h, ⟨(.cons .same (.cons .same (.cons .same (.cons .same .nil)))), (sC rfl (sC rfl (sC rfl (sC rfl (sC rfl (sC rfl sub_nil))))))⟩⟩
      ·intro hb29; replace h := ocond_f hb29 h
       refine ao_no rfl rfl rfl rfl rfl rfl ?_
       refine ao_no rfl rfl rfl rfl rfl rfl ?_
       refine ao_yes rfl rfl rfl rfl rfl rfl (op1_pickF rfl rfl rfl) ?_
       refine sS rfl rfl rfl (op1_pickF rfl rfl rfl) ?_
       refine sM rfl rfl rfl rfl rfl ?_
       refine ao_yes rfl rfl rfl rfl rfl rfl (op1_move rfl rfl) ?_
       refine ao_yes rfl rfl rfl rfl rfl rfl (op1_move rfl rfl) ?_
       obtain ⟨x32, hx32, h⟩ := obind h
       refine ao_yes rfl rfl rfl rfl rfl rfl (op1_hcall rfl en_21 rfl (.cons (.hid rfl) (.cons (.wk (Wk.refl _) (ids_slM (fun _ => rfl) a0)) .nil)) (s_law03_kept x1.2 a0 x32 hx32) Sc.v) ?_
       refine ao_yes rfl rfl rfl rfl rfl rfl (op1_not rfl rfl) ?_
       refine sS rfl rfl rfl (op1_pickF rfl rfl rfl) (ao_nil ?_)
       exact ⟨rfl, (!x32), h, ⟨(.cons .same (.cons .same (.cons .same (.cons .same .nil)))), (sC rfl (sC rfl (sC rfl (sC rfl (sC rfl (sC rfl sub_nil))))))⟩⟩
end Go.Proofs.Ytigadhiciinicaa
