/- Pure functions, and that calls answer as they say. Written by gen.py. -/
import Derived.Test.YthfdpaboekoncaaG3
namespace Go.Proofs.Ythfdpaboekoncaa
open Go Aw
set_option linter.unusedVariables false
set_option linter.unusedSimpArgs false
set_option maxRecDepth 20000
set_option maxHeartbeats 2000000
noncomputable def p_law01_ValueKinds (a0 : Term) : Option Bool :=
  Option.bind (p_mk_Built a0) fun x1 =>
  Option.bind (p_value_Check x1) fun x2 =>
  Option.bind (p_ref01_Check a0) fun x3 =>
  Option.bind (p_value_Size x1) fun x4 =>
  Option.bind (p_ref01_Size a0) fun x5 =>
  Option.bind (p_value_Kind x1) fun x6 =>
  Option.bind (p_law01_kind a0) fun x7 =>
  bif (x6 == x7) then (
    bif (x2.1 == x3.1) then (
      bif (x2.2 == x3.2) then (
        bif (x4.1 == x5.1) then (
          bif (x4.2.1 == x5.2.1) then (
            bif (x4.2.2 == x5.2.2) then (
              Option.bind (p_value_Kind (V.bool true)) fun x14 =>
              some (x14 == 2)
            ) else (
              some false
            )
          ) else (
            some false
          )
        ) else (
          some false
        )
      ) else (
        some false
      )
    ) else (
      some false
    )
  ) else (
    some false
  )
theorem s_law01_ValueKinds (a0 : Term) (r : Bool) (h : p_law01_ValueKinds a0 = some r) : PCalls Try.prog 3 [(ofTermX a0)] (PV.v (.bool r)) := by
  unfold p_law01_ValueKinds at h
  refine acalls_of Try.func3 rfl Try.ntmps3 Try.results3 rfl (aw_of_bw ?_)
  change BW _ _ _ ⟨[(0, (ofTermX a0))], [], _⟩ _
  refine bw_seq ?_
  refine bw_region ?_
  refine ao_step rfl rfl rfl (op1_box rfl rfl rfl) ?_
  refine ao_step rfl rfl rfl (op1_assign rfl rfl) ?_
  refine ao_nil ?_
  change BW _ _ _ _ _
  refine bw_seq ?_
  refine bw_region ?_
  refine ao_step rfl rfl rfl ((op1_ldRA inf_29 Try.underlying29 rfl rfl rfl rfl rfl rfl).cast (y := (PV.agg [(PV.v (.int .i64 a0.kind)), (PV.v (.bool a0.bool)), (PV.v (.int .i64 a0.int)), (PV.v (.float .f64 a0.float)), (ofStr a0.text), (PV.sl none 1 (List.map ofB a0.bytes)), (PV.v (.int .u64 a0.ref)), (PV.sl none 11 (List.map ofTerm a0.list)), (PV.sl none 12 (List.map ofEntry a0.fields)), (ofStr a0.cls), (PV.v (.int .i64 a0.ver))])) rfl rfl) ?_
  obtain ⟨x1, hx1, h⟩ := obind h
  refine ao_step rfl rfl rfl (op1_pcall rfl en_11 rfl (.cons (Wk.refl _) .nil) ⟨(ids_TermX a0), trivial⟩ (s_mk_Built a0 x1 hx1) (ids_V x1)) ?_
  refine ao_step rfl rfl rfl (op1_assign rfl rfl) ?_
  refine ao_nil ?_
  change BW _ _ _ _ _
  refine bw_seq ?_
  refine bw_region ?_
  refine ao_step rfl rfl rfl (op1_move rfl rfl) ?_
  obtain ⟨x2, hx2, h⟩ := obind h
  refine ao_step rfl rfl rfl (op1_pcall rfl en_12 rfl (.cons (Wk.refl _) .nil) ⟨(ids_V x1), trivial⟩ (s_value_Check x1 x2 hx2) (ids_tup_cons rfl (ids_tup_cons rfl ids_tup_nil))) ?_
  refine ao_step rfl rfl rfl (op1_move rfl rfl) ?_
  refine ao_step rfl rfl rfl (op1_ext rfl rfl rfl) ?_
  refine ao_step rfl rfl rfl (op1_ext rfl rfl rfl) ?_
  refine ao_step rfl rfl rfl (op1_assign rfl rfl) ?_
  refine ao_step rfl rfl rfl (op1_assign rfl rfl) ?_
  refine ao_nil ?_
  change BW _ _ _ _ _
  refine bw_seq ?_
  refine bw_region ?_
  refine ao_step rfl rfl rfl ((op1_ldRA inf_29 Try.underlying29 rfl rfl rfl rfl rfl rfl).cast (y := (PV.agg [(PV.v (.int .i64 a0.kind)), (PV.v (.bool a0.bool)), (PV.v (.int .i64 a0.int)), (PV.v (.float .f64 a0.float)), (ofStr a0.text), (PV.sl none 1 (List.map ofB a0.bytes)), (PV.v (.int .u64 a0.ref)), (PV.sl none 11 (List.map ofTerm a0.list)), (PV.sl none 12 (List.map ofEntry a0.fields)), (ofStr a0.cls), (PV.v (.int .i64 a0.ver))])) rfl rfl) ?_
  obtain ⟨x3, hx3, h⟩ := obind h
  refine ao_step rfl rfl rfl (op1_pcall rfl en_13 rfl (.cons (Wk.refl _) .nil) ⟨(ids_TermX a0), trivial⟩ (s_ref01_Check a0 x3 hx3) (ids_tup_cons rfl (ids_tup_cons rfl ids_tup_nil))) ?_
  refine ao_step rfl rfl rfl (op1_move rfl rfl) ?_
  refine ao_step rfl rfl rfl (op1_ext rfl rfl rfl) ?_
  refine ao_step rfl rfl rfl (op1_ext rfl rfl rfl) ?_
  refine ao_step rfl rfl rfl (op1_assign rfl rfl) ?_
  refine ao_step rfl rfl rfl (op1_assign rfl rfl) ?_
  refine ao_nil ?_
  change BW _ _ _ _ _
  refine bw_seq ?_
  refine bw_region ?_
  refine ao_step rfl rfl rfl (op1_move rfl rfl) ?_
  obtain ⟨x4, hx4, h⟩ := obind h
  refine ao_step rfl rfl rfl (op1_pcall rfl en_14 rfl (.cons (Wk.refl _) .nil) ⟨(ids_V x1), trivial⟩ (s_value_Size x1 x4 hx4) (ids_tup_cons rfl (ids_tup_cons rfl (ids_tup_cons rfl ids_tup_nil)))) ?_
  refine ao_step rfl rfl rfl (op1_move rfl rfl) ?_
  refine ao_step rfl rfl rfl (op1_ext rfl rfl rfl) ?_
  refine ao_step rfl rfl rfl (op1_ext rfl rfl rfl) ?_
  refine ao_step rfl rfl rfl (op1_ext rfl rfl rfl) ?_
  refine ao_step rfl rfl rfl (op1_assign rfl rfl) ?_
  refine ao_step rfl rfl rfl (op1_assign rfl rfl) ?_
  refine ao_step rfl rfl rfl (op1_assign rfl rfl) ?_
  refine ao_nil ?_
  change BW _ _ _ _ _
  refine bw_seq ?_
  refine bw_region ?_
  refine ao_step rfl rfl rfl ((op1_ldRA inf_29 Try.underlying29 rfl rfl rfl rfl rfl rfl).cast (y := (PV.agg [(PV.v (.int .i64 a0.kind)), (PV.v (.bool a0.bool)), (PV.v (.int .i64 a0.int)), (PV.v (.float .f64 a0.float)), (ofStr a0.text), (PV.sl none 1 (List.map ofB a0.bytes)), (PV.v (.int .u64 a0.ref)), (PV.sl none 11 (List.map ofTerm a0.list)), (PV.sl none 12 (List.map ofEntry a0.fields)), (ofStr a0.cls), (PV.v (.int .i64 a0.ver))])) rfl rfl) ?_
  obtain ⟨x5, hx5, h⟩ := obind h
  refine ao_step rfl rfl rfl (op1_pcall rfl en_15 rfl (.cons (Wk.refl _) .nil) ⟨(ids_TermX a0), trivial⟩ (s_ref01_Size a0 x5 hx5) (ids_tup_cons rfl (ids_tup_cons rfl (ids_tup_cons rfl ids_tup_nil)))) ?_
  refine ao_step rfl rfl rfl (op1_move rfl rfl) ?_
  refine ao_step rfl rfl rfl (op1_ext rfl rfl rfl) ?_
  refine ao_step rfl rfl rfl (op1_ext rfl rfl rfl) ?_
  refine ao_step rfl rfl rfl (op1_ext rfl rfl rfl) ?_
  refine ao_step rfl rfl rfl (op1_assign rfl rfl) ?_
  refine ao_step rfl rfl rfl (op1_assign rfl rfl) ?_
  refine ao_step rfl rfl rfl (op1_assign rfl rfl) ?_
  refine ao_nil ?_
  change BW _ _ _ _ _
  refine bw_seq ?_
  refine bw_tail 28 [] [0] mo (by kernel_rfl) ?_
  refine ac_go rfl rfl rfl rfl (fun H hp => op1_move rfl rfl) ?_
  obtain ⟨x6, hx6, h⟩ := obind h
  refine ac_go rfl rfl rfl rfl (fun H hp => op1_pcall rfl en_16 rfl (.cons (Wk.refl _) .nil) ⟨(ids_V x1), trivial⟩ (s_value_Kind x1 x6 hx6) rfl) ?_
  refine ac_go rfl rfl rfl rfl (fun H hp => (op1_ldRA inf_29 Try.underlying29 rfl rfl rfl (hp.at rfl rfl) rfl rfl).cast (y := (PV.agg [(PV.v (.int .i64 a0.kind)), (PV.v (.bool a0.bool)), (PV.v (.int .i64 a0.int)), (PV.v (.float .f64 a0.float)), (ofStr a0.text), (PV.sl none 1 (List.map ofB a0.bytes)), (PV.v (.int .u64 a0.ref)), (PV.sl none 11 (List.map ofTerm a0.list)), (PV.sl none 12 (List.map ofEntry a0.fields)), (ofStr a0.cls), (PV.v (.int .i64 a0.ver))])) rfl rfl) ?_
  obtain ⟨x7, hx7, h⟩ := obind h
  refine ac_go rfl rfl rfl rfl (fun H hp => op1_pcall rfl en_17 rfl (.cons (Wk.refl _) .nil) ⟨(ids_TermX a0), trivial⟩ (s_law01_kind a0 x7 hx7) rfl) ?_
  refine ac_go rfl rfl rfl rfl (fun H hp => (op1_cmp rfl rfl rfl rfl).cast (y := (PV.v (.bool (x6 == x7)))) rfl rfl) ?_
  refine ac_go rfl rfl rfl rfl (fun H hp => op1_move rfl rfl) ?_
  refine ac_cases 43 rfl ?_ ?_
  · intro hb8; replace h := ocond_t hb8 h
    refine ac_yes rfl rfl rfl rfl rfl rfl rfl (fun H hp => op1_move rfl rfl) ?_
    refine ac_yes rfl rfl rfl rfl rfl rfl rfl (fun H hp => op1_move rfl rfl) ?_
    refine ac_yes rfl rfl rfl rfl rfl rfl rfl (fun H hp => (op1_cmp rfl rfl rfl rfl).cast (y := (PV.v (.bool (x2.1 == x3.1)))) rfl rfl) ?_
    refine ac_go rfl rfl rfl rfl (fun H hp => op1_pickT rfl rfl rfl) ?_
    refine ac_go rfl rfl rfl rfl (fun H hp => op1_move rfl rfl) ?_
    refine ac_cases 48 rfl ?_ ?_
    · intro hb9; replace h := ocond_t hb9 h
      refine ac_yes rfl rfl rfl rfl rfl rfl rfl (fun H hp => op1_move rfl rfl) ?_
      refine ac_yes rfl rfl rfl rfl rfl rfl rfl (fun H hp => op1_move rfl rfl) ?_
      refine ac_yes rfl rfl rfl rfl rfl rfl rfl (fun H hp => (op1_cmp rfl rfl rfl rfl).cast (y := (PV.v (.bool (x2.2 == x3.2)))) rfl rfl) ?_
      refine ac_go rfl rfl rfl rfl (fun H hp => op1_pickT rfl rfl rfl) ?_
      refine ac_go rfl rfl rfl rfl (fun H hp => op1_move rfl rfl) ?_
      refine ac_cases 53 rfl ?_ ?_
      · intro hb10; replace h := ocond_t hb10 h
        refine ac_yes rfl rfl rfl rfl rfl rfl rfl (fun H hp => op1_move rfl rfl) ?_
        refine ac_yes rfl rfl rfl rfl rfl rfl rfl (fun H hp => op1_move rfl rfl) ?_
        refine ac_yes rfl rfl rfl rfl rfl rfl rfl (fun H hp => (op1_cmp rfl rfl rfl rfl).cast (y := (PV.v (.bool (x4.1 == x5.1)))) rfl rfl) ?_
        refine ac_go rfl rfl rfl rfl (fun H hp => op1_pickT rfl rfl rfl) ?_
        refine ac_go rfl rfl rfl rfl (fun H hp => op1_move rfl rfl) ?_
        refine ac_cases 58 rfl ?_ ?_
        · intro hb11; replace h := ocond_t hb11 h
          refine ac_yes rfl rfl rfl rfl rfl rfl rfl (fun H hp => op1_move rfl rfl) ?_
          refine ac_yes rfl rfl rfl rfl rfl rfl rfl (fun H hp => op1_move rfl rfl) ?_
          refine ac_yes rfl rfl rfl rfl rfl rfl rfl (fun H hp => (op1_cmp rfl rfl rfl rfl).cast (y := (PV.v (.bool (x4.2.1 == x5.2.1)))) rfl rfl) ?_
          refine ac_go rfl rfl rfl rfl (fun H hp => op1_pickT rfl rfl rfl) ?_
          refine ac_go rfl rfl rfl rfl (fun H hp => op1_move rfl rfl) ?_
          refine ac_cases 63 rfl ?_ ?_
          · intro hb12; replace h := ocond_t hb12 h
            refine ac_yes rfl rfl rfl rfl rfl rfl rfl (fun H hp => op1_move rfl rfl) ?_
            refine ac_yes rfl rfl rfl rfl rfl rfl rfl (fun H hp => op1_move rfl rfl) ?_
            refine ac_nil ?_
            change AO _ _ _ _ _
            refine ao_yes rfl rfl rfl rfl rfl rfl ((op1_cmp rfl rfl rfl rfl).cast (y := (PV.v (.bool (x4.2.2 == x5.2.2)))) rfl rfl) ?_
            refine ao_step rfl rfl rfl (op1_pickT rfl rfl rfl) ?_
            refine ao_step rfl rfl rfl (op1_move rfl rfl) ?_
            refine ao_cases (t := 68) rfl ?_ ?_
            · intro hb13; replace h := ocond_t hb13 h
              refine ao_yes rfl rfl rfl rfl rfl rfl ((op1_mkI Try.underlying4 rfl rfl rfl).wk ((Wk.iface (Wk.refl _)).trans (Wk.eq (mk_bool _).symm))) ?_
              obtain ⟨x14, hx14, h⟩ := obind h
              refine ao_yes rfl rfl rfl rfl rfl rfl (op1_pcall rfl en_16 rfl (.cons (Wk.refl _) .nil) ⟨(ids_V (V.bool true)), trivial⟩ (s_value_Kind (V.bool true) x14 hx14) rfl) ?_
              refine ao_yes rfl rfl rfl rfl rfl rfl ((op1_cmp rfl rfl rfl rfl).cast (y := (PV.v (.bool (x14 == 2)))) rfl rfl) ?_
              refine ao_step rfl rfl rfl (op1_pickT rfl rfl rfl) ?_
              refine ao_step rfl rfl rfl (op1_assign rfl rfl) ?_
              refine ao_nil ?_
              change BW _ _ _ _ _
              refine bw_ret ?_
              change ∃ xs, _ = some xs ∧ EndOk _ _ _ _
              obtain rfl := Option.some.inj h
              exact ⟨_, rfl, endOk0 (y := (PV.v (.bool (x14 == 2)))) (Wk.refl _) rfl ⟨rfl, rfl⟩⟩
            · intro hb13; replace h := ocond_f hb13 h
              refine ao_no rfl rfl rfl rfl rfl rfl ?_
              refine ao_no rfl rfl rfl rfl rfl rfl ?_
              refine ao_no rfl rfl rfl rfl rfl rfl ?_
              refine ao_step rfl rfl rfl (op1_pickF rfl rfl rfl) ?_
              refine ao_step rfl rfl rfl (op1_assign rfl rfl) ?_
              refine ao_nil ?_
              change BW _ _ _ _ _
              refine bw_ret ?_
              change ∃ xs, _ = some xs ∧ EndOk _ _ _ _
              obtain rfl := Option.some.inj h
              exact ⟨_, rfl, endOk0 (y := (PV.v (.bool false))) (Wk.refl _) rfl ⟨rfl, rfl⟩⟩
          · intro hb12; replace h := ocond_f hb12 h
            refine ac_no rfl rfl rfl rfl rfl rfl rfl ?_
            refine ac_no rfl rfl rfl rfl rfl rfl rfl ?_
            refine ac_nil ?_
            change AO _ _ _ _ _
            refine ao_no rfl rfl rfl rfl rfl rfl ?_
            refine ao_step rfl rfl rfl (op1_pickF rfl rfl rfl) ?_
            refine ao_step rfl rfl rfl (op1_move rfl rfl) ?_
            refine ao_no rfl rfl rfl rfl rfl rfl ?_
            refine ao_no rfl rfl rfl rfl rfl rfl ?_
            refine ao_no rfl rfl rfl rfl rfl rfl ?_
            refine ao_step rfl rfl rfl (op1_pickF rfl rfl rfl) ?_
            refine ao_step rfl rfl rfl (op1_assign rfl rfl) ?_
            refine ao_nil ?_
            change BW _ _ _ _ _
            refine bw_ret ?_
            change ∃ xs, _ = some xs ∧ EndOk _ _ _ _
            obtain rfl := Option.some.inj h
            exact ⟨_, rfl, endOk0 (y := (PV.v (.bool false))) (Wk.refl _) rfl ⟨rfl, rfl⟩⟩
        · intro hb11; replace h := ocond_f hb11 h
          refine ac_no rfl rfl rfl rfl rfl rfl rfl ?_
          refine ac_no rfl rfl rfl rfl rfl rfl rfl ?_
          refine ac_no rfl rfl rfl rfl rfl rfl rfl ?_
          refine ac_go rfl rfl rfl rfl (fun H hp => op1_pickF rfl rfl rfl) ?_
          refine ac_go rfl rfl rfl rfl (fun H hp => op1_move rfl rfl) ?_
          refine ac_no rfl rfl rfl rfl rfl rfl rfl ?_
          refine ac_no rfl rfl rfl rfl rfl rfl rfl ?_
          refine ac_nil ?_
          change AO _ _ _ _ _
          refine ao_no rfl rfl rfl rfl rfl rfl ?_
          refine ao_step rfl rfl rfl (op1_pickF rfl rfl rfl) ?_
          refine ao_step rfl rfl rfl (op1_move rfl rfl) ?_
          refine ao_no rfl rfl rfl rfl rfl rfl ?_
          refine ao_no rfl rfl rfl rfl rfl rfl ?_
          refine ao_no rfl rfl rfl rfl rfl rfl ?_
          refine ao_step rfl rfl rfl (op1_pickF rfl rfl rfl) ?_
          refine ao_step rfl rfl rfl (op1_assign rfl rfl) ?_
          refine ao_nil ?_
          change BW _ _ _ _ _
          refine bw_ret ?_
          change ∃ xs, _ = some xs ∧ EndOk _ _ _ _
          obtain rfl := Option.some.inj h
          exact ⟨_, rfl, endOk0 (y := (PV.v (.bool false))) (Wk.refl _) rfl ⟨rfl, rfl⟩⟩
      · intro hb10; replace h := ocond_f hb10 h
        refine ac_no rfl rfl rfl rfl rfl rfl rfl ?_
        refine ac_no rfl rfl rfl rfl rfl rfl rfl ?_
        refine ac_no rfl rfl rfl rfl rfl rfl rfl ?_
        refine ac_go rfl rfl rfl rfl (fun H hp => op1_pickF rfl rfl rfl) ?_
        refine ac_go rfl rfl rfl rfl (fun H hp => op1_move rfl rfl) ?_
        refine ac_no rfl rfl rfl rfl rfl rfl rfl ?_
        refine ac_no rfl rfl rfl rfl rfl rfl rfl ?_
        refine ac_no rfl rfl rfl rfl rfl rfl rfl ?_
        refine ac_go rfl rfl rfl rfl (fun H hp => op1_pickF rfl rfl rfl) ?_
        refine ac_go rfl rfl rfl rfl (fun H hp => op1_move rfl rfl) ?_
        refine ac_no rfl rfl rfl rfl rfl rfl rfl ?_
        refine ac_no rfl rfl rfl rfl rfl rfl rfl ?_
        refine ac_nil ?_
        change AO _ _ _ _ _
        refine ao_no rfl rfl rfl rfl rfl rfl ?_
        refine ao_step rfl rfl rfl (op1_pickF rfl rfl rfl) ?_
        refine ao_step rfl rfl rfl (op1_move rfl rfl) ?_
        refine ao_no rfl rfl rfl rfl rfl rfl ?_
        refine ao_no rfl rfl rfl rfl rfl rfl ?_
        refine ao_no rfl rfl rfl rfl rfl rfl ?_
        refine ao_step rfl rfl rfl (op1_pickF rfl rfl rfl) ?_
        refine ao_step rfl rfl rfl (op1_assign rfl rfl) ?_
        refine ao_nil ?_
        change BW _ _ _ _ _
        refine bw_ret ?_
        change ∃ xs, _ = some xs ∧ EndOk _ _ _ _
        obtain rfl := Option.some.inj h
        exact ⟨_, rfl, endOk0 (y := (PV.v (.bool false))) (Wk.refl _) rfl ⟨rfl, rfl⟩⟩
    · intro hb9; replace h := ocond_f hb9 h
      refine ac_no rfl rfl rfl rfl rfl rfl rfl ?_
      refine ac_no rfl rfl rfl rfl rfl rfl rfl ?_
      refine ac_no rfl rfl rfl rfl rfl rfl rfl ?_
      refine ac_go rfl rfl rfl rfl (fun H hp => op1_pickF rfl rfl rfl) ?_
      refine ac_go rfl rfl rfl rfl (fun H hp => op1_move rfl rfl) ?_
      refine ac_no rfl rfl rfl rfl rfl rfl rfl ?_
      refine ac_no rfl rfl rfl rfl rfl rfl rfl ?_
      refine ac_no rfl rfl rfl rfl rfl rfl rfl ?_
      refine ac_go rfl rfl rfl rfl (fun H hp => op1_pickF rfl rfl rfl) ?_
      refine ac_go rfl rfl rfl rfl (fun H hp => op1_move rfl rfl) ?_
      refine ac_no rfl rfl rfl rfl rfl rfl rfl ?_
      refine ac_no rfl rfl rfl rfl rfl rfl rfl ?_
      refine ac_no rfl rfl rfl rfl rfl rfl rfl ?_
      refine ac_go rfl rfl rfl rfl (fun H hp => op1_pickF rfl rfl rfl) ?_
      refine ac_go rfl rfl rfl rfl (fun H hp => op1_move rfl rfl) ?_
      refine ac_no rfl rfl rfl rfl rfl rfl rfl ?_
      refine ac_no rfl rfl rfl rfl rfl rfl rfl ?_
      refine ac_nil ?_
      change AO _ _ _ _ _
      refine ao_no rfl rfl rfl rfl rfl rfl ?_
      refine ao_step rfl rfl rfl (op1_pickF rfl rfl rfl) ?_
      refine ao_step rfl rfl rfl (op1_move rfl rfl) ?_
      refine ao_no rfl rfl rfl rfl rfl rfl ?_
      refine ao_no rfl rfl rfl rfl rfl rfl ?_
      refine ao_no rfl rfl rfl rfl rfl rfl ?_
      refine ao_step rfl rfl rfl (op1_pickF rfl rfl rfl) ?_
      refine ao_step rfl rfl rfl (op1_assign rfl rfl) ?_
      refine ao_nil ?_
      change BW _ _ _ _ _
      refine bw_ret ?_
      change ∃ xs, _ = some xs ∧ EndOk _ _ _ _
      obtain rfl := Option.some.inj h
      exact ⟨_, rfl, endOk0 (y := (PV.v (.bool false))) (Wk.refl _) rfl ⟨rfl, rfl⟩⟩
  · intro hb8; replace h := ocond_f hb8 h
    refine ac_no rfl rfl rfl rfl rfl rfl rfl ?_
    refine ac_no rfl rfl rfl rfl rfl rfl rfl ?_
    refine ac_no rfl rfl rfl rfl rfl rfl rfl ?_
    refine ac_go rfl rfl rfl rfl (fun H hp => op1_pickF rfl rfl rfl) ?_
    refine ac_go rfl rfl rfl rfl (fun H hp => op1_move rfl rfl) ?_
    refine ac_no rfl rfl rfl rfl rfl rfl rfl ?_
    refine ac_no rfl rfl rfl rfl rfl rfl rfl ?_
    refine ac_no rfl rfl rfl rfl rfl rfl rfl ?_
    refine ac_go rfl rfl rfl rfl (fun H hp => op1_pickF rfl rfl rfl) ?_
    refine ac_go rfl rfl rfl rfl (fun H hp => op1_move rfl rfl) ?_
    refine ac_no rfl rfl rfl rfl rfl rfl rfl ?_
    refine ac_no rfl rfl rfl rfl rfl rfl rfl ?_
    refine ac_no rfl rfl rfl rfl rfl rfl rfl ?_
    refine ac_go rfl rfl rfl rfl (fun H hp => op1_pickF rfl rfl rfl) ?_
    refine ac_go rfl rfl rfl rfl (fun H hp => op1_move rfl rfl) ?_
    refine ac_no rfl rfl rfl rfl rfl rfl rfl ?_
    refine ac_no rfl rfl rfl rfl rfl rfl rfl ?_
    refine ac_no rfl rfl rfl rfl rfl rfl rfl ?_
    refine ac_go rfl rfl rfl rfl (fun H hp => op1_pickF rfl rfl rfl) ?_
    refine ac_go rfl rfl rfl rfl (fun H hp => op1_move rfl rfl) ?_
    refine ac_no rfl rfl rfl rfl rfl rfl rfl ?_
    refine ac_no rfl rfl rfl rfl rfl rfl rfl ?_
    refine ac_nil ?_
    change AO _ _ _ _ _
    refine ao_no rfl rfl rfl rfl rfl rfl ?_
    refine ao_step rfl rfl rfl (op1_pickF rfl rfl rfl) ?_
    refine ao_step rfl rfl rfl (op1_move rfl rfl) ?_
    refine ao_no rfl rfl rfl rfl rfl rfl ?_
    refine ao_no rfl rfl rfl rfl rfl rfl ?_
    refine ao_no rfl rfl rfl rfl rfl rfl ?_
    refine ao_step rfl rfl rfl (op1_pickF rfl rfl rfl) ?_
    refine ao_step rfl rfl rfl (op1_assign rfl rfl) ?_
    refine ao_nil ?_
    change BW _ _ _ _ _
    refine bw_ret ?_
    change ∃ xs, _ = some xs ∧ EndOk _ _ _ _
    obtain rfl := Option.some.inj h
    exact ⟨_, rfl, endOk0 (y := (PV.v (.bool false))) (Wk.refl _) rfl ⟨rfl, rfl⟩⟩
noncomputable def value_dict_l1b (r_value_loose : Term → Option V) (a0 : (List (Str × Term))) (g1 : (List (Str × V)) → Nat → Option (List (Str × V))) (s2 : (List (Str × V))) (s3 : Nat) : Option (List (Str × V)) :=
  bif (decide (((s3 : Nat) : Int) < (((a0).length : Nat) : Int))) then (
    Option.bind ((a0)[s3]?) fun x6 =>
    Option.bind (r_value_loose (x6.2)) fun x7 =>
    Option.bind (appO 32 s2 ([(x6.1, x7)] : (List (Str × V)))) fun x8 =>
    g1 x8 (s3 + 1)
  ) else (
    some s2
  )
theorem value_dict_l1b_cm {ι : Type} {ρ : ι → Type} (r_value_loose : (∀ i, Option (ρ i)) → Term → Option V) (h_r_value_loose : ∀ y0, CM (fun G => r_value_loose G y0)) (g1 : (∀ i, Option (ρ i)) → (List (Str × V)) → Nat → Option (List (Str × V))) (h_g1 : ∀ y0 y1, CM (fun G => g1 G y0 y1)) (a0 : (List (Str × Term))) (s2 : (List (Str × V))) (s3 : Nat) : CM (fun G : (∀ i, Option (ρ i)) => value_dict_l1b (r_value_loose G) a0 (g1 G) s2 s3) := by
  simp only [value_dict_l1b]
  repeat (first | exact cm_const | exact h_r_value_loose _ | exact h_g1 _ _ | refine cm_cond ?_ ?_ | refine cm_bind ?_ (fun _ => ?_))
noncomputable def value_dict_l1 (r_value_loose : Term → Option V) (a0 : (List (Str × Term))) (s2 : (List (Str × V))) (s3 : Nat) : Option (List (Str × V)) :=
  fixO (ι := ((List (Str × V)) × Nat)) (ρ := fun _ => (List (Str × V))) (fun g i => value_dict_l1b r_value_loose a0 (fun s2 s3 => g (s2, s3)) i.1 i.2) (s2, s3)
theorem value_dict_l1_eq (r_value_loose : Term → Option V) (a0 : (List (Str × Term))) (s2 : (List (Str × V))) (s3 : Nat) : value_dict_l1 r_value_loose a0 s2 s3 = value_dict_l1b r_value_loose a0 (value_dict_l1 r_value_loose a0) s2 s3 :=
  fixO_eq (ι := ((List (Str × V)) × Nat)) (ρ := fun _ => (List (Str × V))) (Φ := fun g i => value_dict_l1b r_value_loose a0 (fun s2 s3 => g (s2, s3)) i.1 i.2) (fun i => value_dict_l1b_cm (ι := ((List (Str × V)) × Nat)) (ρ := fun _ => (List (Str × V))) (fun _ => r_value_loose) (fun _ => cm_const) (fun g => (fun s2 s3 => g (s2, s3))) (fun _ _ => cm_app) a0 i.1 i.2) (s2, s3)
theorem value_dict_l1_cm {ι : Type} {ρ : ι → Type} (r_value_loose : (∀ i, Option (ρ i)) → Term → Option V) (h_r_value_loose : ∀ y0, CM (fun G => r_value_loose G y0)) (a0 : (List (Str × Term))) (s2 : (List (Str × V))) (s3 : Nat) : CM (fun G : (∀ i, Option (ρ i)) => value_dict_l1 (r_value_loose G) a0 s2 s3) :=
  cm_fix (κ := ((List (Str × V)) × Nat)) (τ := fun _ => (List (Str × V))) (Φ := fun G g i => value_dict_l1b (r_value_loose G) a0 (fun s2 s3 => g (s2, s3)) i.1 i.2) (fun g i => value_dict_l1b_cm r_value_loose h_r_value_loose (fun _ => (fun s2 s3 => g (s2, s3))) (fun _ _ => cm_const) a0 i.1 i.2) (fun G i => value_dict_l1b_cm (ι := ((List (Str × V)) × Nat)) (ρ := fun _ => (List (Str × V))) (fun _ => r_value_loose G) (fun _ => cm_const) (fun g => (fun s2 s3 => g (s2, s3))) (fun _ _ => cm_app) a0 i.1 i.2) (s2, s3)
noncomputable def b_value_dict (r_value_dict : (List (Str × Term)) → Option (List (Str × V))) (r_value_loose : Term → Option V) (a0 : (List (Str × Term))) : Option (List (Str × V)) :=
  Option.bind (roomO ((a0).length) 32) fun x1 =>
  value_dict_l1 r_value_loose a0 ([] : (List (Str × V))) 0
theorem b_value_dict_cm {ι : Type} {ρ : ι → Type} (r_value_dict : (∀ i, Option (ρ i)) → (List (Str × Term)) → Option (List (Str × V))) (h_r_value_dict : ∀ y0, CM (fun G => r_value_dict G y0)) (r_value_loose : (∀ i, Option (ρ i)) → Term → Option V) (h_r_value_loose : ∀ y0, CM (fun G => r_value_loose G y0)) (a0 : (List (Str × Term))) : CM (fun G : (∀ i, Option (ρ i)) => b_value_dict (r_value_dict G) (r_value_loose G) a0) := by
  simp only [b_value_dict]
  repeat (first | exact cm_const | exact h_r_value_dict _ | exact h_r_value_loose _ | apply value_dict_l1_cm | refine cm_cond ?_ ?_ | refine cm_bind ?_ (fun _ => ?_) | intro _ | assumption)
noncomputable def value_loose_l1b (r_value_loose : Term → Option V) (a0 : Term) (g1 : (List V) → Nat → Option V) (s11 : (List V)) (s12 : Nat) : Option V :=
  bif (decide (((s12 : Nat) : Int) < (((a0.list).length : Nat) : Int))) then (
    Option.bind ((a0.list)[s12]?) fun x15 =>
    Option.bind (r_value_loose x15) fun x16 =>
    Option.bind (appO 16 s11 ([x16] : (List V))) fun x17 =>
    g1 x17 (s12 + 1)
  ) else (
    some (V.list s11)
  )
theorem value_loose_l1b_cm {ι : Type} {ρ : ι → Type} (r_value_loose : (∀ i, Option (ρ i)) → Term → Option V) (h_r_value_loose : ∀ y0, CM (fun G => r_value_loose G y0)) (g1 : (∀ i, Option (ρ i)) → (List V) → Nat → Option V) (h_g1 : ∀ y0 y1, CM (fun G => g1 G y0 y1)) (a0 : Term) (s11 : (List V)) (s12 : Nat) : CM (fun G : (∀ i, Option (ρ i)) => value_loose_l1b (r_value_loose G) a0 (g1 G) s11 s12) := by
  simp only [value_loose_l1b]
  repeat (first | exact cm_const | exact h_r_value_loose _ | exact h_g1 _ _ | refine cm_cond ?_ ?_ | refine cm_bind ?_ (fun _ => ?_))
noncomputable def value_loose_l1 (r_value_loose : Term → Option V) (a0 : Term) (s11 : (List V)) (s12 : Nat) : Option V :=
  fixO (ι := ((List V) × Nat)) (ρ := fun _ => V) (fun g i => value_loose_l1b r_value_loose a0 (fun s11 s12 => g (s11, s12)) i.1 i.2) (s11, s12)
theorem value_loose_l1_eq (r_value_loose : Term → Option V) (a0 : Term) (s11 : (List V)) (s12 : Nat) : value_loose_l1 r_value_loose a0 s11 s12 = value_loose_l1b r_value_loose a0 (value_loose_l1 r_value_loose a0) s11 s12 :=
  fixO_eq (ι := ((List V) × Nat)) (ρ := fun _ => V) (Φ := fun g i => value_loose_l1b r_value_loose a0 (fun s11 s12 => g (s11, s12)) i.1 i.2) (fun i => value_loose_l1b_cm (ι := ((List V) × Nat)) (ρ := fun _ => V) (fun _ => r_value_loose) (fun _ => cm_const) (fun g => (fun s11 s12 => g (s11, s12))) (fun _ _ => cm_app) a0 i.1 i.2) (s11, s12)
theorem value_loose_l1_cm {ι : Type} {ρ : ι → Type} (r_value_loose : (∀ i, Option (ρ i)) → Term → Option V) (h_r_value_loose : ∀ y0, CM (fun G => r_value_loose G y0)) (a0 : Term) (s11 : (List V)) (s12 : Nat) : CM (fun G : (∀ i, Option (ρ i)) => value_loose_l1 (r_value_loose G) a0 s11 s12) :=
  cm_fix (κ := ((List V) × Nat)) (τ := fun _ => V) (Φ := fun G g i => value_loose_l1b (r_value_loose G) a0 (fun s11 s12 => g (s11, s12)) i.1 i.2) (fun g i => value_loose_l1b_cm r_value_loose h_r_value_loose (fun _ => (fun s11 s12 => g (s11, s12))) (fun _ _ => cm_const) a0 i.1 i.2) (fun G i => value_loose_l1b_cm (ι := ((List V) × Nat)) (ρ := fun _ => V) (fun _ => r_value_loose G) (fun _ => cm_const) (fun g => (fun s11 s12 => g (s11, s12))) (fun _ _ => cm_app) a0 i.1 i.2) (s11, s12)
noncomputable def b_value_loose (r_value_dict : (List (Str × Term)) → Option (List (Str × V))) (r_value_loose : Term → Option V) (a0 : Term) : Option V :=
  bif (a0.kind == 1) then (
    some V.nil
  ) else (
    bif (a0.kind == 2) then (
      some (V.bool a0.bool)
    ) else (
      bif (a0.kind == 3) then (
        some (V.int a0.int)
      ) else (
        bif (a0.kind == 4) then (
          some (V.float a0.float)
        ) else (
          bif (a0.kind == 5) then (
            some (V.text a0.text)
          ) else (
            bif (a0.kind == 6) then (
              Option.bind (appO 1 ([] : Str) a0.bytes) fun x7 =>
              some (V.bytes x7)
            ) else (
              bif (a0.kind == 7) then (
                some (V.ref a0.ref)
              ) else (
                bif (a0.kind == 8) then (
                  Option.bind (roomO ((a0.list).length) 16) fun x10 =>
                  value_loose_l1 r_value_loose a0 ([] : (List V)) 0
                ) else (
                  bif (a0.kind == 9) then (
                    Option.bind (r_value_dict a0.fields) fun x19 =>
                    some (V.dict x19)
                  ) else (
                    bif (a0.kind == 10) then (
                      Option.bind (r_value_dict a0.fields) fun x21 =>
                      some (V.record a0.cls a0.ver x21)
                    ) else (
                      bif (a0.kind == 11) then (
                        some V.nothing
                      ) else (
                        some (V.alien ⟨102, rfl⟩)
                      )
                    )
                  )
                )
              )
            )
          )
        )
      )
    )
  )
theorem b_value_loose_cm {ι : Type} {ρ : ι → Type} (r_value_dict : (∀ i, Option (ρ i)) → (List (Str × Term)) → Option (List (Str × V))) (h_r_value_dict : ∀ y0, CM (fun G => r_value_dict G y0)) (r_value_loose : (∀ i, Option (ρ i)) → Term → Option V) (h_r_value_loose : ∀ y0, CM (fun G => r_value_loose G y0)) (a0 : Term) : CM (fun G : (∀ i, Option (ρ i)) => b_value_loose (r_value_dict G) (r_value_loose G) a0) := by
  simp only [b_value_loose]
  repeat (first | exact cm_const | exact h_r_value_dict _ | exact h_r_value_loose _ | apply value_loose_l1_cm | refine cm_cond ?_ ?_ | refine cm_bind ?_ (fun _ => ?_) | intro _ | assumption)
inductive C_value_dict where
  | k_value_dict (a0 : (List (Str × Term)))
  | k_value_loose (a0 : Term)
def C_value_dict.R : C_value_dict → Type
  | .k_value_dict _ => (List (Str × V))
  | .k_value_loose _ => V
noncomputable def C_value_dict.F (g : ∀ i : C_value_dict, Option i.R) : ∀ i : C_value_dict, Option i.R
  | .k_value_dict a0 => b_value_dict (fun a0 => g (.k_value_dict a0)) (fun a0 => g (.k_value_loose a0)) a0
  | .k_value_loose a0 => b_value_loose (fun a0 => g (.k_value_dict a0)) (fun a0 => g (.k_value_loose a0)) a0
noncomputable def p_value_dict (a0 : (List (Str × Term))) : Option (List (Str × V)) := fixO C_value_dict.F (.k_value_dict a0)
noncomputable def p_value_loose (a0 : Term) : Option V := fixO C_value_dict.F (.k_value_loose a0)
theorem C_value_dict.cm (i : C_value_dict) : CM (fun g : (∀ i : C_value_dict, Option i.R) => C_value_dict.F g i) := by
  cases i with
  | k_value_dict a0 => exact b_value_dict_cm (fun (g : ∀ i : C_value_dict, Option i.R) a0 => g (.k_value_dict a0)) (fun a0 => cm_app (i := C_value_dict.k_value_dict a0)) (fun (g : ∀ i : C_value_dict, Option i.R) a0 => g (.k_value_loose a0)) (fun a0 => cm_app (i := C_value_dict.k_value_loose a0)) a0
  | k_value_loose a0 => exact b_value_loose_cm (fun (g : ∀ i : C_value_dict, Option i.R) a0 => g (.k_value_dict a0)) (fun a0 => cm_app (i := C_value_dict.k_value_dict a0)) (fun (g : ∀ i : C_value_dict, Option i.R) a0 => g (.k_value_loose a0)) (fun a0 => cm_app (i := C_value_dict.k_value_loose a0)) a0
theorem e_value_dict (a0 : (List (Str × Term))) : p_value_dict a0 = b_value_dict p_value_dict p_value_loose a0 := fixO_eq C_value_dict.cm (.k_value_dict a0)
theorem e_value_loose (a0 : Term) : p_value_loose a0 = b_value_loose p_value_dict p_value_loose a0 := fixO_eq C_value_dict.cm (.k_value_loose a0)
def C_value_dict.Q : ∀ i : C_value_dict, i.R → Prop
  | .k_value_dict a0 => fun (r : (List (Str × V))) => PCalls Try.prog 56 [(PV.sl none 12 (List.map ofEntry a0))] (PV.sl none 2 (List.map ofFld r))
  | .k_value_loose a0 => fun (r : V) => PCalls Try.prog 41 [(ofTermX a0)] (ofV r)
theorem t_value_dict (r_value_dict : (List (Str × Term)) → Option (List (Str × V))) (c_value_dict : ∀ (a0 : (List (Str × Term))) r, r_value_dict a0 = some r → PCalls Try.prog 56 [(PV.sl none 12 (List.map ofEntry a0))] (PV.sl none 2 (List.map ofFld r))) (r_value_loose : Term → Option V) (c_value_loose : ∀ (a0 : Term) r, r_value_loose a0 = some r → PCalls Try.prog 41 [(ofTermX a0)] (ofV r)) (a0 : (List (Str × Term))) (r : (List (Str × V))) (h : b_value_dict r_value_dict r_value_loose a0 = some r) : PCalls Try.prog 56 [(PV.sl none 12 (List.map ofEntry a0))] (PV.sl none 2 (List.map ofFld r)) := by
  unfold b_value_dict at h
  refine acalls_of Try.func56 rfl Try.ntmps56 Try.results56 rfl (aw_of_bw ?_)
  change BW _ _ _ ⟨[(0, (PV.sl none 12 (List.map ofEntry a0)))], [], _⟩ _
  refine bw_seq ?_
  refine bw_region ?_
  refine ao_step rfl rfl rfl (op1_assign rfl rfl) ?_
  refine ao_nil ?_
  change BW _ _ _ _ _
  refine bw_seq ?_
  refine bw_region ?_
  refine ao_step rfl rfl rfl (op1_move rfl rfl) ?_
  refine ao_step rfl rfl rfl (op1_lenM Try.underlying27 rfl rfl) ?_
  obtain ⟨x1, hx1, h⟩ := obind h
  refine ao_step rfl rfl rfl ((op1_mkM (f := ofFld) (c := ((a0).length)) Try.underlying58 inf_56 rfl rfl rfl rfl hx1 (p := (PV.agg [(ofStr []), (PV.v .nilIface)])) rfl).cast (y := (PV.sl (some 0) 2 (List.map ofFld ([] : (List (Str × V)))))) rfl rfl) ?_
  refine ao_step rfl rfl rfl (op1_assign rfl rfl) ?_
  refine ao_nil ?_
  change BW _ _ _ _ _
  refine bw_seq ?_
  refine bw_seq ?_
  refine bw_region ?_
  refine ao_step rfl rfl rfl (op1_move rfl rfl) ?_
  refine ao_step rfl rfl rfl (op1_lenM Try.underlying27 rfl rfl) ?_
  refine ao_step rfl rfl rfl (op1_move rfl rfl) ?_
  refine ao_nil ?_
  change BW _ _ _ _ _
  refine bw_block ?_
  change BW _ _ _ _ _
  unfold value_dict_l1 at h
  refine bw_loop (σ := ((List (Str × V)) × Nat)) (fun i => [(3, (PV.sl (some 0) 2 (List.map ofFld i.1))), (9, (PV.sl none 12 (List.map ofEntry a0))), (10, (PV.v (.int .i64 (((a0).length : Nat) : Int)))), (11, (PV.v (.int .i64 ((i.2 : Nat) : Int))))]) (fun i => [.arr 56 (i.1).length]) (([] : (List (Str × V))), 0) h ?_ ?_ ?_
  · intro i; exact ⟨Nat.le_of_ble_eq_true rfl, ⟨(il_tok rfl (ids_map ids_Fld _)), ⟨(il_nil (ids_slM ids_Entry _)), ⟨(il_nil rfl), ⟨(il_nil rfl), trivial⟩⟩⟩⟩, trivial⟩
  · exact ⟨(.cons .same .nil), (sub_consW rfl (fun _ _ h => h) (sub_consW rfl (fun _ _ h => h) (sub_consW rfl (fun _ _ h => h) (sub_consW rfl (fun _ _ h => h) sub_nil))))⟩
  · rintro g1_f ⟨s2, s3⟩ h; replace h : value_dict_l1b r_value_loose a0 (fun y0 y1 => g1_f (y0, y1)) s2 s3 = some r := h; unfold value_dict_l1b at h
    change BW _ _ _ ⟨[(3, (PV.sl (some 0) 2 (List.map ofFld s2))), (9, (PV.sl none 12 (List.map ofEntry a0))), (10, (PV.v (.int .i64 (((a0).length : Nat) : Int)))), (11, (PV.v (.int .i64 ((s3 : Nat) : Int))))], [.arr 56 (s2).length], _⟩ _
    refine bw_seq ?_
    refine bw_region ?_
    refine ao_step rfl rfl rfl ((op1_cmp rfl rfl rfl rfl).cast (y := (PV.v (.bool (decide (((s3 : Nat) : Int) < (((a0).length : Nat) : Int)))))) rfl rfl) ?_
    refine ao_nil ?_
    change BW _ _ _ _ _
    refine bw_seq ?_
    refine bw_len (t := 9) rfl fun hb5 => ?_
    try rw [List.length_map] at hb5
    refine bw_cond rfl ?_ ?_
    · intro hc4; replace h := ocond_t hc4 h
      have hc4_ := of_decide_eq_true hc4
      refine bw_skip ?_
      change BW _ _ _ _ _
      refine bw_seq ?_
      refine bw_block ?_
      change BW _ _ _ _ _
      refine bw_seq ?_
      refine bw_region ?_
      obtain ⟨x6, hx6, h⟩ := obind h
      refine ao_step rfl rfl rfl (op1_idxN (i := s3) Try.underlying27 inf_66 rfl rfl rfl hx6 (ofEntry_eq _)) ?_
      refine ao_step rfl rfl rfl (op1_ldPW inf_66 Try.underlying66 rfl rfl rfl rfl rfl) ?_
      refine ao_step rfl rfl rfl (op1_alloc inf_66 rfl) ?_
      refine ao_step0 rfl rfl (op1_store inf_66 rfl rfl rfl rfl rfl rfl (Nat.le_of_ble_eq_true rfl) rfl) ?_
      refine ao_nil ?_
      change BW _ _ _ _ _
      refine bw_tail 8 [7] [1] mo (by kernel_rfl) ?_
      refine ac_go rfl rfl rfl rfl (fun H hp => op1_move rfl rfl) ?_
      refine ac_go rfl rfl rfl rfl (fun H hp => op1_faR st_66 (i := 0) rfl rfl rfl) ?_
      refine ac_go rfl rfl rfl rfl (fun H hp => (op1_ldR Try.underlying9 rfl rfl rfl (hp.at rfl rfl) rfl).cast (y := (ofStr x6.1)) rfl rfl) ?_
      refine ac_go rfl rfl rfl rfl (fun H hp => op1_faR st_66 (i := 1) rfl rfl rfl) ?_
      refine ac_go rfl rfl rfl rfl (fun H hp => (op1_ldRA inf_29 Try.underlying29 rfl rfl rfl (hp.at rfl rfl) rfl rfl).cast (y := (PV.agg [(PV.v (.int .i64 (x6.2).kind)), (PV.v (.bool (x6.2).bool)), (PV.v (.int .i64 (x6.2).int)), (PV.v (.float .f64 (x6.2).float)), (ofStr (x6.2).text), (PV.sl none 1 (List.map ofB (x6.2).bytes)), (PV.v (.int .u64 (x6.2).ref)), (PV.sl none 11 (List.map ofTerm (x6.2).list)), (PV.sl none 12 (List.map ofEntry (x6.2).fields)), (ofStr (x6.2).cls), (PV.v (.int .i64 (x6.2).ver))])) rfl rfl) ?_
      obtain ⟨x7, hx7, h⟩ := obind h
      refine ac_go rfl rfl rfl rfl (fun H hp => op1_pcall rfl en_41 rfl (.cons (Wk.refl _) .nil) ⟨(ids_TermX (x6.2)), trivial⟩ (c_value_loose (x6.2) x7 hx7) (ids_V x7)) ?_
      refine ac_go rfl rfl rfl rfl (fun H hp => op1_build (cs := [(ofStr x6.1), (ofV x7)]) st_56 inf_56 rfl rfl (by simp only [List.all_cons, List.all_nil, cok_V, cok_RecP, Bool.and_true, Bool.true_and]; try rfl) (by simp only [afill, List.getElem?_cons_zero, List.getElem?_cons_succ, cells_V, cells_RecP]; rfl)) ?_
      refine ac_lgo rfl rfl rfl rfl ((op1_bslice (xs := [(PV.agg [(ofStr x6.1), (ofV x7)])]) Try.underlying58 inf_56 rfl rfl rfl (by simp only [List.all_cons, List.all_nil, cok_V, cok_RecP, Bool.and_true, Bool.true_and]; try rfl) (by simp only [List.all_cons, List.all_nil, csz_V, csz_RecP, cells_V, cells_RecP]; try rfl) rfl ⟨Nat.le_of_ble_eq_true rfl, Nat.le_of_ble_eq_true rfl⟩ (by simp only [zipN, afill, List.flatMap_cons, List.flatMap_nil, cells_V, cells_RecP]; try rfl)).cast (y := (PV.sl (some 2) 2 (List.map ofFld ([(x6.1, x7)] : (List (Str × V)))))) rfl rfl) ⟨rfl, trivial⟩ ?_
      refine ac_nil ?_
      change AO _ _ _ _ _
      obtain ⟨x8, hx8, h⟩ := obind h
      refine ao_step rfl rfl rfl (op1_appM Try.underlying58 inf_56 rfl Try.underlying58 rfl rfl rfl rfl csz_Fld call1_Fld hx8 rfl) ?_
      refine ao_step rfl rfl rfl (op1_assign rfl rfl) ?_
      refine ao_nil ?_
      change BW _ _ _ _ _
      refine bw_region ?_
      refine ao_step rfl rfl rfl (op1_incN (k := s3) (c := 1) rfl rfl rfl (by omega)) ?_
      refine ao_step rfl rfl rfl (op1_move rfl rfl) ?_
      refine ao_nil ?_
      exact ⟨rfl, (x8, (s3 + 1)), h, ⟨(.cons .same .nil), (sub_consW rfl (fun _ _ h => h) (sub_consW rfl (fun _ _ h => h) (sub_consW rfl (fun _ _ h => h) (sub_consW rfl (fun _ _ h => h) sub_nil))))⟩⟩
    · intro hc4; replace h := ocond_f hc4 h
      refine bw_exit ?_
      change BW _ _ _ _ _
      refine bw_seq ?_
      refine bw_region ?_
      refine ao_step rfl rfl rfl (op1_move rfl rfl) ?_
      refine ao_step rfl rfl rfl (op1_assign rfl rfl) ?_
      refine ao_nil ?_
      change BW _ _ _ _ _
      refine bw_ret ?_
      change ∃ xs, _ = some xs ∧ EndOk _ _ _ _
      obtain rfl := Option.some.inj h
      exact ⟨_, rfl, endOk0 (y := (PV.sl none 2 (List.map ofFld s2))) Wk.tok (ids_slM ids_Fld s2) ⟨rfl, rfl⟩⟩
theorem t_value_loose (r_value_dict : (List (Str × Term)) → Option (List (Str × V))) (c_value_dict : ∀ (a0 : (List (Str × Term))) r, r_value_dict a0 = some r → PCalls Try.prog 56 [(PV.sl none 12 (List.map ofEntry a0))] (PV.sl none 2 (List.map ofFld r))) (r_value_loose : Term → Option V) (c_value_loose : ∀ (a0 : Term) r, r_value_loose a0 = some r → PCalls Try.prog 41 [(ofTermX a0)] (ofV r)) (a0 : Term) (r : V) (h : b_value_loose r_value_dict r_value_loose a0 = some r) : PCalls Try.prog 41 [(ofTermX a0)] (ofV r) := by
  unfold b_value_loose at h
  refine acalls_of Try.func41 rfl Try.ntmps41 Try.results41 rfl (aw_of_bw ?_)
  change BW _ _ _ ⟨[(0, (ofTermX a0))], [], _⟩ _
  refine bw_seq ?_
  refine bw_region ?_
  refine ao_step rfl rfl rfl (op1_box rfl rfl rfl) ?_
  refine ao_step rfl rfl rfl (op1_assign rfl rfl) ?_
  refine ao_nil ?_
  change BW _ _ _ _ _
  refine bw_seq ?_
  refine bw_seq ?_
  refine bw_region ?_
  refine ao_step rfl rfl rfl (op1_faR st_29 (i := 0) rfl rfl rfl) ?_
  refine ao_step rfl rfl rfl ((op1_ldR Try.underlying3 rfl rfl rfl rfl rfl).cast (y := (PV.v (.int .i64 a0.kind))) rfl rfl) ?_
  refine ao_nil ?_
  change BW _ _ _ _ _
  refine bw_block ?_
  change BW _ _ _ _ _
  refine bw_seq ?_
  refine bw_region ?_
  refine ao_step rfl rfl rfl ((op1_cmp rfl rfl rfl rfl).cast (y := (PV.v (.bool (a0.kind == 1)))) rfl rfl) ?_
  refine ao_step rfl rfl rfl (op1_assign rfl rfl) ?_
  refine ao_nil ?_
  change BW _ _ _ _ _
  refine bw_cond rfl ?_ ?_
  · intro hc1; replace h := ocond_t hc1 h
    refine bw_seq ?_
    refine bw_region ?_
    refine ao_step rfl rfl rfl (op1_assign rfl rfl) ?_
    refine ao_nil ?_
    change BW _ _ _ _ _
    refine bw_ret ?_
    change ∃ xs, _ = some xs ∧ EndOk _ _ _ _
    obtain rfl := Option.some.inj h
    exact ⟨_, rfl, endOk0 (y := (ofV V.nil)) (Wk.eq mk_nil.symm) (ids_V V.nil) ⟨rfl, rfl⟩⟩
  · intro hc1; replace h := ocond_f hc1 h
    refine bw_seq ?_
    refine bw_region ?_
    refine ao_step rfl rfl rfl ((op1_cmp rfl rfl rfl rfl).cast (y := (PV.v (.bool (a0.kind == 2)))) rfl rfl) ?_
    refine ao_step rfl rfl rfl (op1_assign rfl rfl) ?_
    refine ao_nil ?_
    change BW _ _ _ _ _
    refine bw_cond rfl ?_ ?_
    · intro hc2; replace h := ocond_t hc2 h
      refine bw_seq ?_
      refine bw_region ?_
      refine ao_step rfl rfl rfl (op1_faR st_29 (i := 1) rfl rfl rfl) ?_
      refine ao_step rfl rfl rfl ((op1_ldR Try.underlying4 rfl rfl rfl rfl rfl).cast (y := (PV.v (.bool a0.bool))) rfl rfl) ?_
      refine ao_step rfl rfl rfl ((op1_mkI Try.underlying4 rfl rfl rfl).wk ((Wk.iface (Wk.refl _)).trans (Wk.eq (mk_bool _).symm))) ?_
      refine ao_step rfl rfl rfl (op1_assign rfl rfl) ?_
      refine ao_nil ?_
      change BW _ _ _ _ _
      refine bw_ret ?_
      change ∃ xs, _ = some xs ∧ EndOk _ _ _ _
      obtain rfl := Option.some.inj h
      exact ⟨_, rfl, endOk0 (y := (ofV (V.bool a0.bool))) (Wk.refl _) (ids_V (V.bool a0.bool)) ⟨rfl, rfl⟩⟩
    · intro hc2; replace h := ocond_f hc2 h
      refine bw_seq ?_
      refine bw_region ?_
      refine ao_step rfl rfl rfl ((op1_cmp rfl rfl rfl rfl).cast (y := (PV.v (.bool (a0.kind == 3)))) rfl rfl) ?_
      refine ao_step rfl rfl rfl (op1_assign rfl rfl) ?_
      refine ao_nil ?_
      change BW _ _ _ _ _
      refine bw_cond rfl ?_ ?_
      · intro hc3; replace h := ocond_t hc3 h
        refine bw_seq ?_
        refine bw_region ?_
        refine ao_step rfl rfl rfl (op1_faR st_29 (i := 2) rfl rfl rfl) ?_
        refine ao_step rfl rfl rfl ((op1_ldR Try.underlying2 rfl rfl rfl rfl rfl).cast (y := (PV.v (.int .i64 a0.int))) rfl rfl) ?_
        refine ao_step rfl rfl rfl ((op1_mkI Try.underlying2 rfl rfl rfl).wk ((Wk.iface (Wk.refl _)).trans (Wk.eq (mk_int _).symm))) ?_
        refine ao_step rfl rfl rfl (op1_assign rfl rfl) ?_
        refine ao_nil ?_
        change BW _ _ _ _ _
        refine bw_ret ?_
        change ∃ xs, _ = some xs ∧ EndOk _ _ _ _
        obtain rfl := Option.some.inj h
        exact ⟨_, rfl, endOk0 (y := (ofV (V.int a0.int))) (Wk.refl _) (ids_V (V.int a0.int)) ⟨rfl, rfl⟩⟩
      · intro hc3; replace h := ocond_f hc3 h
        refine bw_seq ?_
        refine bw_region ?_
        refine ao_step rfl rfl rfl ((op1_cmp rfl rfl rfl rfl).cast (y := (PV.v (.bool (a0.kind == 4)))) rfl rfl) ?_
        refine ao_step rfl rfl rfl (op1_assign rfl rfl) ?_
        refine ao_nil ?_
        change BW _ _ _ _ _
        refine bw_cond rfl ?_ ?_
        · intro hc4; replace h := ocond_t hc4 h
          refine bw_seq ?_
          refine bw_region ?_
          refine ao_step rfl rfl rfl (op1_faR st_29 (i := 3) rfl rfl rfl) ?_
          refine ao_step rfl rfl rfl ((op1_ldR Try.underlying22 rfl rfl rfl rfl rfl).cast (y := (PV.v (.float .f64 a0.float))) rfl rfl) ?_
          refine ao_step rfl rfl rfl ((op1_mkI Try.underlying22 rfl rfl rfl).wk ((Wk.iface (Wk.refl _)).trans (Wk.eq (mk_float _).symm))) ?_
          refine ao_step rfl rfl rfl (op1_assign rfl rfl) ?_
          refine ao_nil ?_
          change BW _ _ _ _ _
          refine bw_ret ?_
          change ∃ xs, _ = some xs ∧ EndOk _ _ _ _
          obtain rfl := Option.some.inj h
          exact ⟨_, rfl, endOk0 (y := (ofV (V.float a0.float))) (Wk.refl _) (ids_V (V.float a0.float)) ⟨rfl, rfl⟩⟩
        · intro hc4; replace h := ocond_f hc4 h
          refine bw_seq ?_
          refine bw_region ?_
          refine ao_step rfl rfl rfl ((op1_cmp rfl rfl rfl rfl).cast (y := (PV.v (.bool (a0.kind == 5)))) rfl rfl) ?_
          refine ao_step rfl rfl rfl (op1_assign rfl rfl) ?_
          refine ao_nil ?_
          change BW _ _ _ _ _
          refine bw_cond rfl ?_ ?_
          · intro hc5; replace h := ocond_t hc5 h
            refine bw_seq ?_
            refine bw_region ?_
            refine ao_step rfl rfl rfl (op1_faR st_29 (i := 4) rfl rfl rfl) ?_
            refine ao_step rfl rfl rfl ((op1_ldR Try.underlying9 rfl rfl rfl rfl rfl).cast (y := (ofStr a0.text)) rfl rfl) ?_
            refine ao_step rfl rfl rfl ((op1_mkI Try.underlying9 rfl rfl rfl).wk ((Wk.iface (Wk.refl _)).trans (Wk.eq (mk_text _).symm))) ?_
            refine ao_step rfl rfl rfl (op1_assign rfl rfl) ?_
            refine ao_nil ?_
            change BW _ _ _ _ _
            refine bw_ret ?_
            change ∃ xs, _ = some xs ∧ EndOk _ _ _ _
            obtain rfl := Option.some.inj h
            exact ⟨_, rfl, endOk0 (y := (ofV (V.text a0.text))) (Wk.refl _) (ids_V (V.text a0.text)) ⟨rfl, rfl⟩⟩
          · intro hc5; replace h := ocond_f hc5 h
            refine bw_seq ?_
            refine bw_region ?_
            refine ao_step rfl rfl rfl ((op1_cmp rfl rfl rfl rfl).cast (y := (PV.v (.bool (a0.kind == 6)))) rfl rfl) ?_
            refine ao_step rfl rfl rfl (op1_assign rfl rfl) ?_
            refine ao_nil ?_
            change BW _ _ _ _ _
            refine bw_cond rfl ?_ ?_
            · intro hc6; replace h := ocond_t hc6 h
              refine bw_seq ?_
              refine bw_region ?_
              refine ao_step rfl rfl rfl ((op1_bslice (xs := []) Try.underlying23 inf_5 rfl rfl rfl rfl rfl rfl ⟨Nat.le_of_ble_eq_true rfl, Nat.le_of_ble_eq_true rfl⟩ rfl).cast (y := (PV.sl (some 1) 1 (List.map ofB ([] : Str)))) rfl rfl) ?_
              refine ao_step rfl rfl rfl (op1_faR st_29 (i := 5) rfl rfl rfl) ?_
              refine ao_step rfl rfl rfl ((op1_ldR Try.underlying23 rfl rfl rfl rfl rfl).cast (y := (PV.sl none 1 (List.map ofB a0.bytes))) rfl rfl) ?_
              obtain ⟨x7, hx7, h⟩ := obind h
              refine ao_step rfl rfl rfl (op1_appM Try.underlying23 inf_5 rfl Try.underlying23 rfl rfl rfl rfl (fun _ => rfl) (fun _ => rfl) hx7 rfl) ?_
              refine ao_step rfl rfl rfl ((op1_mkI Try.underlying23 rfl rfl rfl).wk ((Wk.iface Wk.tok).trans (Wk.eq (mk_bytes _).symm))) ?_
              refine ao_step rfl rfl rfl (op1_assign rfl rfl) ?_
              refine ao_nil ?_
              change BW _ _ _ _ _
              refine bw_ret ?_
              change ∃ xs, _ = some xs ∧ EndOk _ _ _ _
              obtain rfl := Option.some.inj h
              exact ⟨_, rfl, endOk0 (y := (ofV (V.bytes x7))) (Wk.refl _) (ids_V (V.bytes x7)) ⟨rfl, rfl⟩⟩
            · intro hc6; replace h := ocond_f hc6 h
              refine bw_seq ?_
              refine bw_region ?_
              refine ao_step rfl rfl rfl ((op1_cmp rfl rfl rfl rfl).cast (y := (PV.v (.bool (a0.kind == 7)))) rfl rfl) ?_
              refine ao_step rfl rfl rfl (op1_assign rfl rfl) ?_
              refine ao_nil ?_
              change BW _ _ _ _ _
              refine bw_cond rfl ?_ ?_
              · intro hc8; replace h := ocond_t hc8 h
                refine bw_seq ?_
                refine bw_region ?_
                refine ao_step rfl rfl rfl (op1_faR st_29 (i := 6) rfl rfl rfl) ?_
                refine ao_step rfl rfl rfl ((op1_ldR Try.underlying25 rfl rfl rfl rfl rfl).cast (y := (PV.v (.int .u64 a0.ref))) rfl rfl) ?_
                refine ao_step rfl rfl rfl ((op1_mkI Try.underlying25 rfl rfl rfl).wk ((Wk.iface (Wk.refl _)).trans (Wk.eq (mk_ref _).symm))) ?_
                refine ao_step rfl rfl rfl (op1_assign rfl rfl) ?_
                refine ao_nil ?_
                change BW _ _ _ _ _
                refine bw_ret ?_
                change ∃ xs, _ = some xs ∧ EndOk _ _ _ _
                obtain rfl := Option.some.inj h
                exact ⟨_, rfl, endOk0 (y := (ofV (V.ref a0.ref))) (Wk.refl _) (ids_V (V.ref a0.ref)) ⟨rfl, rfl⟩⟩
              · intro hc8; replace h := ocond_f hc8 h
                refine bw_seq ?_
                refine bw_region ?_
                refine ao_step rfl rfl rfl ((op1_cmp rfl rfl rfl rfl).cast (y := (PV.v (.bool (a0.kind == 8)))) rfl rfl) ?_
                refine ao_step rfl rfl rfl (op1_assign rfl rfl) ?_
                refine ao_nil ?_
                change BW _ _ _ _ _
                refine bw_cond rfl ?_ ?_
                · intro hc9; replace h := ocond_t hc9 h
                  refine bw_seq ?_
                  refine bw_region ?_
                  refine ao_step rfl rfl rfl (op1_faR st_29 (i := 7) rfl rfl rfl) ?_
                  refine ao_step rfl rfl rfl ((op1_ldR Try.underlying26 rfl rfl rfl rfl rfl).cast (y := (PV.sl none 11 (List.map ofTerm a0.list))) rfl rfl) ?_
                  refine ao_step rfl rfl rfl (op1_lenM Try.underlying26 rfl rfl) ?_
                  obtain ⟨x10, hx10, h⟩ := obind h
                  refine ao_step rfl rfl rfl ((op1_mkM (f := ofV) (c := ((a0.list).length)) Try.underlying60 inf_20 rfl rfl rfl rfl hx10 (p := (PV.v .nilIface)) rfl).cast (y := (PV.sl (some 1) 1 (List.map ofV ([] : (List V))))) rfl rfl) ?_
                  refine ao_step rfl rfl rfl (op1_assign rfl rfl) ?_
                  refine ao_nil ?_
                  change BW _ _ _ _ _
                  refine bw_seq ?_
                  refine bw_seq ?_
                  refine bw_region ?_
                  refine ao_step rfl rfl rfl (op1_faR st_29 (i := 7) rfl rfl rfl) ?_
                  refine ao_step rfl rfl rfl ((op1_ldR Try.underlying26 rfl rfl rfl rfl rfl).cast (y := (PV.sl none 11 (List.map ofTerm a0.list))) rfl rfl) ?_
                  refine ao_step rfl rfl rfl (op1_lenM Try.underlying26 rfl rfl) ?_
                  refine ao_step rfl rfl rfl (op1_move rfl rfl) ?_
                  refine ao_nil ?_
                  change BW _ _ _ _ _
                  refine bw_block ?_
                  change BW _ _ _ _ _
                  unfold value_loose_l1 at h
                  refine bw_loop (σ := ((List V) × Nat)) (fun i => [(3, (PV.sl (some 1) 1 (List.map ofV i.1))), (49, (PV.sl none 11 (List.map ofTerm a0.list))), (50, (PV.v (.int .i64 (((a0.list).length : Nat) : Int)))), (51, (PV.v (.int .i64 ((i.2 : Nat) : Int))))]) (fun i => [.dead, .arr 20 (i.1).length]) (([] : (List V)), 0) h ?_ ?_ ?_
                  · intro i; exact ⟨Nat.le_of_ble_eq_true rfl, ⟨(il_tok rfl (ids_map ids_V _)), ⟨(il_nil (ids_slM ids_Term _)), ⟨(il_nil rfl), ⟨(il_nil rfl), trivial⟩⟩⟩⟩, trivial⟩
                  · exact ⟨(.cons .dead (.cons .same .nil)), (sub_consW rfl (fun _ _ h => h) (sub_consW rfl (fun _ _ h => h) (sub_consW rfl (fun _ _ h => h) (sub_consW rfl (fun _ _ h => h) sub_nil))))⟩
                  · rintro g1_f ⟨s11, s12⟩ h; replace h : value_loose_l1b r_value_loose a0 (fun y0 y1 => g1_f (y0, y1)) s11 s12 = some r := h; unfold value_loose_l1b at h
                    change BW _ _ _ ⟨[(3, (PV.sl (some 1) 1 (List.map ofV s11))), (49, (PV.sl none 11 (List.map ofTerm a0.list))), (50, (PV.v (.int .i64 (((a0.list).length : Nat) : Int)))), (51, (PV.v (.int .i64 ((s12 : Nat) : Int))))], [.dead, .arr 20 (s11).length], _⟩ _
                    refine bw_seq ?_
                    refine bw_region ?_
                    refine ao_step rfl rfl rfl ((op1_cmp rfl rfl rfl rfl).cast (y := (PV.v (.bool (decide (((s12 : Nat) : Int) < (((a0.list).length : Nat) : Int)))))) rfl rfl) ?_
                    refine ao_nil ?_
                    change BW _ _ _ _ _
                    refine bw_seq ?_
                    refine bw_len (t := 49) rfl fun hb14 => ?_
                    try rw [List.length_map] at hb14
                    refine bw_cond rfl ?_ ?_
                    · intro hc13; replace h := ocond_t hc13 h
                      have hc13_ := of_decide_eq_true hc13
                      refine bw_skip ?_
                      change BW _ _ _ _ _
                      refine bw_seq ?_
                      refine bw_block ?_
                      change BW _ _ _ _ _
                      refine bw_seq ?_
                      refine bw_region ?_
                      obtain ⟨x15, hx15, h⟩ := obind h
                      refine ao_step rfl rfl rfl (op1_idxN (i := s12) Try.underlying26 inf_29 rfl rfl rfl hx15 (ofTerm_eq _)) ?_
                      refine ao_step rfl rfl rfl (op1_ldPW inf_29 Try.underlying29 rfl rfl rfl rfl rfl) ?_
                      refine ao_step rfl rfl rfl (op1_alloc inf_29 rfl) ?_
                      refine ao_step0 rfl rfl (op1_store inf_29 rfl rfl rfl rfl rfl rfl (Nat.le_of_ble_eq_true rfl) rfl) ?_
                      refine ao_nil ?_
                      change BW _ _ _ _ _
                      refine bw_region ?_
                      refine ao_step rfl rfl rfl (op1_move rfl rfl) ?_
                      refine ao_step rfl rfl rfl ((op1_ldRA inf_29 Try.underlying29 rfl rfl rfl rfl rfl rfl).cast (y := (PV.agg [(PV.v (.int .i64 x15.kind)), (PV.v (.bool x15.bool)), (PV.v (.int .i64 x15.int)), (PV.v (.float .f64 x15.float)), (ofStr x15.text), (PV.sl none 1 (List.map ofB x15.bytes)), (PV.v (.int .u64 x15.ref)), (PV.sl none 11 (List.map ofTerm x15.list)), (PV.sl none 12 (List.map ofEntry x15.fields)), (ofStr x15.cls), (PV.v (.int .i64 x15.ver))])) rfl rfl) ?_
                      obtain ⟨x16, hx16, h⟩ := obind h
                      refine ao_step rfl rfl rfl (op1_pcall rfl en_41 rfl (.cons (Wk.refl _) .nil) ⟨(ids_TermX x15), trivial⟩ (c_value_loose x15 x16 hx16) (ids_V x16)) ?_
                      refine ao_step rfl rfl rfl ((op1_bslice (xs := [(ofV x16)]) Try.underlying60 inf_20 rfl rfl rfl (by simp only [List.all_cons, List.all_nil, cok_V, cok_RecP, Bool.and_true, Bool.true_and]; try rfl) (by simp only [List.all_cons, List.all_nil, csz_V, csz_RecP, cells_V, cells_RecP]; try rfl) rfl ⟨Nat.le_of_ble_eq_true rfl, Nat.le_of_ble_eq_true rfl⟩ (by simp only [zipN, afill, List.flatMap_cons, List.flatMap_nil, cells_V, cells_RecP]; try rfl)).cast (y := (PV.sl (some 3) 1 (List.map ofV ([x16] : (List V))))) rfl rfl) ?_
                      obtain ⟨x17, hx17, h⟩ := obind h
                      refine ao_step rfl rfl rfl (op1_appM Try.underlying60 inf_20 rfl Try.underlying60 rfl rfl rfl rfl csz_V call1_V hx17 rfl) ?_
                      refine ao_step rfl rfl rfl (op1_assign rfl rfl) ?_
                      refine ao_nil ?_
                      change BW _ _ _ _ _
                      refine bw_region ?_
                      refine ao_step rfl rfl rfl (op1_incN (k := s12) (c := 1) rfl rfl rfl (by omega)) ?_
                      refine ao_step rfl rfl rfl (op1_move rfl rfl) ?_
                      refine ao_nil ?_
                      exact ⟨rfl, (x17, (s12 + 1)), h, ⟨(.cons .dead (.cons .same .nil)), (sub_consW rfl (fun _ _ h => h) (sub_consW rfl (fun _ _ h => h) (sub_consW rfl (fun _ _ h => h) (sub_consW rfl (fun _ _ h => h) sub_nil))))⟩⟩
                    · intro hc13; replace h := ocond_f hc13 h
                      refine bw_exit ?_
                      change BW _ _ _ _ _
                      refine bw_seq ?_
                      refine bw_region ?_
                      refine ao_step rfl rfl rfl (op1_move rfl rfl) ?_
                      refine ao_step rfl rfl rfl ((op1_mkI Try.underlying60 rfl rfl rfl).wk ((Wk.iface Wk.tok).trans (Wk.eq (mk_list _).symm))) ?_
                      refine ao_step rfl rfl rfl (op1_assign rfl rfl) ?_
                      refine ao_nil ?_
                      change BW _ _ _ _ _
                      refine bw_ret ?_
                      change ∃ xs, _ = some xs ∧ EndOk _ _ _ _
                      obtain rfl := Option.some.inj h
                      exact ⟨_, rfl, endOk0 (y := (ofV (V.list s11))) (Wk.refl _) (ids_V (V.list s11)) ⟨rfl, rfl⟩⟩
                · intro hc9; replace h := ocond_f hc9 h
                  refine bw_seq ?_
                  refine bw_region ?_
                  refine ao_step rfl rfl rfl ((op1_cmp rfl rfl rfl rfl).cast (y := (PV.v (.bool (a0.kind == 9)))) rfl rfl) ?_
                  refine ao_step rfl rfl rfl (op1_assign rfl rfl) ?_
                  refine ao_nil ?_
                  change BW _ _ _ _ _
                  refine bw_cond rfl ?_ ?_
                  · intro hc18; replace h := ocond_t hc18 h
                    refine bw_seq ?_
                    refine bw_region ?_
                    refine ao_step rfl rfl rfl (op1_faR st_29 (i := 8) rfl rfl rfl) ?_
                    refine ao_step rfl rfl rfl ((op1_ldR Try.underlying27 rfl rfl rfl rfl rfl).cast (y := (PV.sl none 12 (List.map ofEntry a0.fields))) rfl rfl) ?_
                    obtain ⟨x19, hx19, h⟩ := obind h
                    refine ao_step rfl rfl rfl (op1_pcall rfl en_56 rfl (.cons (Wk.refl _) .nil) ⟨(ids_slM ids_Entry a0.fields), trivial⟩ (c_value_dict a0.fields x19 hx19) (ids_slM ids_Fld x19)) ?_
                    refine ao_step rfl rfl rfl ((op1_mkI Try.underlying58 rfl rfl rfl).wk ((Wk.iface (Wk.refl _)).trans (Wk.eq (mk_dict _).symm))) ?_
                    refine ao_step rfl rfl rfl (op1_assign rfl rfl) ?_
                    refine ao_nil ?_
                    change BW _ _ _ _ _
                    refine bw_ret ?_
                    change ∃ xs, _ = some xs ∧ EndOk _ _ _ _
                    obtain rfl := Option.some.inj h
                    exact ⟨_, rfl, endOk0 (y := (ofV (V.dict x19))) (Wk.refl _) (ids_V (V.dict x19)) ⟨rfl, rfl⟩⟩
                  · intro hc18; replace h := ocond_f hc18 h
                    refine bw_seq ?_
                    refine bw_region ?_
                    refine ao_step rfl rfl rfl ((op1_cmp rfl rfl rfl rfl).cast (y := (PV.v (.bool (a0.kind == 10)))) rfl rfl) ?_
                    refine ao_step rfl rfl rfl (op1_assign rfl rfl) ?_
                    refine ao_nil ?_
                    change BW _ _ _ _ _
                    refine bw_cond rfl ?_ ?_
                    · intro hc20; replace h := ocond_t hc20 h
                      refine bw_seq ?_
                      refine bw_tail 7 [] [0] mo (by kernel_rfl) ?_
                      refine ac_go rfl rfl rfl rfl (fun H hp => op1_faR st_29 (i := 9) rfl rfl rfl) ?_
                      refine ac_go rfl rfl rfl rfl (fun H hp => (op1_ldR Try.underlying9 rfl rfl rfl (hp.at rfl rfl) rfl).cast (y := (ofStr a0.cls)) rfl rfl) ?_
                      refine ac_go rfl rfl rfl rfl (fun H hp => op1_faR st_29 (i := 10) rfl rfl rfl) ?_
                      refine ac_go rfl rfl rfl rfl (fun H hp => (op1_ldR Try.underlying3 rfl rfl rfl (hp.at rfl rfl) rfl).cast (y := (PV.v (.int .i64 a0.ver))) rfl rfl) ?_
                      refine ac_go rfl rfl rfl rfl (fun H hp => op1_faR st_29 (i := 8) rfl rfl rfl) ?_
                      refine ac_go rfl rfl rfl rfl (fun H hp => (op1_ldR Try.underlying27 rfl rfl rfl (hp.at rfl rfl) rfl).cast (y := (PV.sl none 12 (List.map ofEntry a0.fields))) rfl rfl) ?_
                      obtain ⟨x21, hx21, h⟩ := obind h
                      refine ac_go rfl rfl rfl rfl (fun H hp => op1_pcall rfl en_56 rfl (.cons (Wk.refl _) .nil) ⟨(ids_slM ids_Entry a0.fields), trivial⟩ (c_value_dict a0.fields x21 hx21) (ids_slM ids_Fld x21)) ?_
                      refine ac_nil ?_
                      change AO _ _ _ _ _
                      refine ao_step rfl rfl rfl (op1_build (cs := [(ofStr a0.cls), (PV.v (.int .i64 a0.ver)), (PV.sl none 2 (List.map ofFld x21))]) st_70 inf_70 rfl rfl rfl rfl) ?_
                      refine ao_step rfl rfl rfl (op1_box rfl rfl rfl) ?_
                      refine ao_step rfl rfl rfl (op1_mkI Try.underlying62 rfl rfl rfl) ?_
                      refine ao_step rfl rfl rfl (op1_assign rfl rfl) ?_
                      refine ao_nil ?_
                      change BW _ _ _ _ _
                      refine bw_thaw 1 2 (y := (ofV (V.record a0.cls a0.ver x21))) rfl rfl ((Wk.iface (Wk.pt (x := .agg [(ofStr a0.cls), (PV.v (.int .i64 a0.ver)), (PV.sl none 2 (List.map ofFld x21))]) (y := ofRec (Rec.mk a0.cls a0.ver x21)) (.cons (Wk.refl _) (.cons (Wk.refl _) (.cons (Wk.refl _) .nil))))).trans (Wk.eq (mk_rec (some (Rec.mk a0.cls a0.ver x21))).symm)) ?_
                      refine bw_ret ?_
                      change ∃ xs, _ = some xs ∧ EndOk _ _ _ _
                      obtain rfl := Option.some.inj h
                      exact ⟨_, rfl, endOk0 (y := (ofV (V.record a0.cls a0.ver x21))) (Wk.refl _) (ids_V (V.record a0.cls a0.ver x21)) ⟨rfl, rfl⟩⟩
                    · intro hc20; replace h := ocond_f hc20 h
                      refine bw_seq ?_
                      refine bw_region ?_
                      refine ao_step rfl rfl rfl ((op1_cmp rfl rfl rfl rfl).cast (y := (PV.v (.bool (a0.kind == 11)))) rfl rfl) ?_
                      refine ao_step rfl rfl rfl (op1_assign rfl rfl) ?_
                      refine ao_nil ?_
                      change BW _ _ _ _ _
                      refine bw_cond rfl ?_ ?_
                      · intro hc22; replace h := ocond_t hc22 h
                        refine bw_seq ?_
                        refine bw_region ?_
                        refine ao_step rfl rfl rfl ((op1_mkI Try.underlying62 rfl rfl rfl).wk (Wk.eq (mk_rec none).symm)) ?_
                        refine ao_step rfl rfl rfl (op1_assign rfl rfl) ?_
                        refine ao_nil ?_
                        change BW _ _ _ _ _
                        refine bw_ret ?_
                        change ∃ xs, _ = some xs ∧ EndOk _ _ _ _
                        obtain rfl := Option.some.inj h
                        exact ⟨_, rfl, endOk0 (y := (ofV V.nothing)) (Wk.refl _) (ids_V V.nothing) ⟨rfl, rfl⟩⟩
                      · intro hc22; replace h := ocond_f hc22 h
                        refine bw_skip ?_
                        change BW _ _ _ _ _
                        refine bw_seq ?_
                        refine bw_region ?_
                        refine ao_step rfl rfl rfl (op1_build (cs := []) st_102 inf_102 rfl rfl rfl rfl) ?_
                        refine ao_step rfl rfl rfl ((op1_mkI Try.underlying102 rfl rfl rfl).wk ((Wk.iface Wk.junk).trans (Wk.eq (mk_alien ⟨102, rfl⟩).symm))) ?_
                        refine ao_step rfl rfl rfl (op1_assign rfl rfl) ?_
                        refine ao_nil ?_
                        change BW _ _ _ _ _
                        refine bw_ret ?_
                        change ∃ xs, _ = some xs ∧ EndOk _ _ _ _
                        obtain rfl := Option.some.inj h
                        exact ⟨_, rfl, endOk0 (y := (ofV (V.alien ⟨102, rfl⟩))) (Wk.refl _) (ids_V (V.alien ⟨102, rfl⟩)) ⟨rfl, rfl⟩⟩
theorem C_value_dict.sound : ∀ (i : C_value_dict) (r : i.R), fixO C_value_dict.F i = some r → C_value_dict.Q i r := by
  refine fixO_ind (Φ := C_value_dict.F) (Q := C_value_dict.Q) ?_
  intro g hg i r h
  cases i with
  | k_value_dict a0 => exact t_value_dict (fun a0 => g (.k_value_dict a0)) (fun a0 r hr => hg (.k_value_dict a0) r hr) (fun a0 => g (.k_value_loose a0)) (fun a0 r hr => hg (.k_value_loose a0) r hr) a0 r h
  | k_value_loose a0 => exact t_value_loose (fun a0 => g (.k_value_dict a0)) (fun a0 r hr => hg (.k_value_dict a0) r hr) (fun a0 => g (.k_value_loose a0)) (fun a0 r hr => hg (.k_value_loose a0) r hr) a0 r h
theorem s_value_dict (a0 : (List (Str × Term))) (r : (List (Str × V))) (h : p_value_dict a0 = some r) : PCalls Try.prog 56 [(PV.sl none 12 (List.map ofEntry a0))] (PV.sl none 2 (List.map ofFld r)) := C_value_dict.sound (.k_value_dict a0) r h
theorem s_value_loose (a0 : Term) (r : V) (h : p_value_loose a0 = some r) : PCalls Try.prog 41 [(ofTermX a0)] (ofV r) := C_value_dict.sound (.k_value_loose a0) r h
noncomputable def p_value_Of (a0 : Term) : Option (V × Int) :=
  Option.bind (p_value_loose a0) fun x1 =>
  Option.bind (p_value_check x1) fun x2 =>
  bif (x2.2 != 0) then (
    some (V.nil, x2.2)
  ) else (
    some (x1, 0)
  )
theorem s_value_Of (a0 : Term) (r : (V × Int)) (h : p_value_Of a0 = some r) : PCalls Try.prog 21 [(ofTermX a0)] (PV.tup [(ofV r.1), (PV.v (.int .i64 r.2))]) := by
  unfold p_value_Of at h
  refine acalls_of Try.func21 rfl Try.ntmps21 Try.results21 rfl (aw_of_bw ?_)
  change BW _ _ _ ⟨[(0, (ofTermX a0))], [], _⟩ _
  refine bw_seq ?_
  refine bw_region ?_
  refine ao_step rfl rfl rfl (op1_box rfl rfl rfl) ?_
  refine ao_step rfl rfl rfl (op1_assign rfl rfl) ?_
  refine ao_step rfl rfl rfl (op1_assign rfl rfl) ?_
  refine ao_nil ?_
  change BW _ _ _ _ _
  refine bw_seq ?_
  refine bw_region ?_
  refine ao_step rfl rfl rfl ((op1_ldRA inf_29 Try.underlying29 rfl rfl rfl rfl rfl rfl).cast (y := (PV.agg [(PV.v (.int .i64 a0.kind)), (PV.v (.bool a0.bool)), (PV.v (.int .i64 a0.int)), (PV.v (.float .f64 a0.float)), (ofStr a0.text), (PV.sl none 1 (List.map ofB a0.bytes)), (PV.v (.int .u64 a0.ref)), (PV.sl none 11 (List.map ofTerm a0.list)), (PV.sl none 12 (List.map ofEntry a0.fields)), (ofStr a0.cls), (PV.v (.int .i64 a0.ver))])) rfl rfl) ?_
  obtain ⟨x1, hx1, h⟩ := obind h
  refine ao_step rfl rfl rfl (op1_pcall rfl en_41 rfl (.cons (Wk.refl _) .nil) ⟨(ids_TermX a0), trivial⟩ (s_value_loose a0 x1 hx1) (ids_V x1)) ?_
  refine ao_step rfl rfl rfl (op1_assign rfl rfl) ?_
  refine ao_nil ?_
  change BW _ _ _ _ _
  refine bw_seq ?_
  refine bw_seq ?_
  refine bw_region ?_
  refine ao_step rfl rfl rfl (op1_move rfl rfl) ?_
  obtain ⟨x2, hx2, h⟩ := obind h
  refine ao_step rfl rfl rfl (op1_pcall rfl en_34 rfl (.cons (Wk.refl _) .nil) ⟨(ids_V x1), trivial⟩ (s_value_check x1 x2 hx2) (ids_tup_cons rfl (ids_tup_cons rfl ids_tup_nil))) ?_
  refine ao_step rfl rfl rfl (op1_move rfl rfl) ?_
  refine ao_step rfl rfl rfl (op1_ext rfl rfl rfl) ?_
  refine ao_step rfl rfl rfl (op1_ext rfl rfl rfl) ?_
  refine ao_step rfl rfl rfl (op1_assign rfl rfl) ?_
  refine ao_step rfl rfl rfl (op1_assign rfl rfl) ?_
  refine ao_nil ?_
  change BW _ _ _ _ _
  refine bw_seq ?_
  refine bw_region ?_
  refine ao_step rfl rfl rfl (op1_move rfl rfl) ?_
  refine ao_step rfl rfl rfl ((op1_cmp rfl rfl rfl rfl).cast (y := (PV.v (.bool (x2.2 != 0)))) rfl rfl) ?_
  refine ao_nil ?_
  change BW _ _ _ _ _
  refine bw_cond rfl ?_ ?_
  · intro hc3; replace h := ocond_t hc3 h
    refine bw_seq ?_
    refine bw_region ?_
    refine ao_step rfl rfl rfl (op1_move rfl rfl) ?_
    refine ao_step rfl rfl rfl (op1_assign rfl rfl) ?_
    refine ao_step rfl rfl rfl (op1_assign rfl rfl) ?_
    refine ao_nil ?_
    change BW _ _ _ _ _
    refine bw_ret ?_
    change ∃ xs, _ = some xs ∧ EndOk _ _ _ _
    obtain rfl := Option.some.inj h
    exact ⟨_, rfl, endOk0 (y := (PV.tup [(ofV V.nil), (PV.v (.int .i64 x2.2))])) (Wk.tup (.cons (Wk.eq mk_nil.symm) (.cons (Wk.refl _) .nil))) (ids_tup_cons (ids_V V.nil) (ids_tup_cons rfl ids_tup_nil)) ⟨rfl, rfl⟩⟩
  · intro hc3; replace h := ocond_f hc3 h
    refine bw_skip ?_
    change BW _ _ _ _ _
    refine bw_seq ?_
    refine bw_region ?_
    refine ao_step rfl rfl rfl (op1_move rfl rfl) ?_
    refine ao_step rfl rfl rfl (op1_assign rfl rfl) ?_
    refine ao_step rfl rfl rfl (op1_assign rfl rfl) ?_
    refine ao_nil ?_
    change BW _ _ _ _ _
    refine bw_ret ?_
    change ∃ xs, _ = some xs ∧ EndOk _ _ _ _
    obtain rfl := Option.some.inj h
    exact ⟨_, rfl, endOk0 (y := (PV.tup [(ofV x1), (PV.v (.int .i64 0))])) (Wk.refl _) (ids_tup_cons (ids_V x1) (ids_tup_cons rfl ids_tup_nil)) ⟨rfl, rfl⟩⟩
noncomputable def value_entries_l1b (r_value_plain : V → Option Term) (a0 : (List (Str × V))) (g1 : (List (Str × Term)) → Nat → Option (List (Str × Term))) (s1 : (List (Str × Term))) (s2 : Nat) : Option (List (Str × Term)) :=
  bif (decide (((s2 : Nat) : Int) < (((a0).length : Nat) : Int))) then (
    Option.bind ((a0)[s2]?) fun x5 =>
    Option.bind (r_value_plain x5.2) fun x6 =>
    Option.bind (appO 168 s1 ([(x5.1, x6)] : (List (Str × Term)))) fun x7 =>
    g1 x7 (s2 + 1)
  ) else (
    some s1
  )
theorem value_entries_l1b_cm {ι : Type} {ρ : ι → Type} (r_value_plain : (∀ i, Option (ρ i)) → V → Option Term) (h_r_value_plain : ∀ y0, CM (fun G => r_value_plain G y0)) (g1 : (∀ i, Option (ρ i)) → (List (Str × Term)) → Nat → Option (List (Str × Term))) (h_g1 : ∀ y0 y1, CM (fun G => g1 G y0 y1)) (a0 : (List (Str × V))) (s1 : (List (Str × Term))) (s2 : Nat) : CM (fun G : (∀ i, Option (ρ i)) => value_entries_l1b (r_value_plain G) a0 (g1 G) s1 s2) := by
  simp only [value_entries_l1b]
  repeat (first | exact cm_const | exact h_r_value_plain _ | exact h_g1 _ _ | refine cm_cond ?_ ?_ | refine cm_bind ?_ (fun _ => ?_))
noncomputable def value_entries_l1 (r_value_plain : V → Option Term) (a0 : (List (Str × V))) (s1 : (List (Str × Term))) (s2 : Nat) : Option (List (Str × Term)) :=
  fixO (ι := ((List (Str × Term)) × Nat)) (ρ := fun _ => (List (Str × Term))) (fun g i => value_entries_l1b r_value_plain a0 (fun s1 s2 => g (s1, s2)) i.1 i.2) (s1, s2)
theorem value_entries_l1_eq (r_value_plain : V → Option Term) (a0 : (List (Str × V))) (s1 : (List (Str × Term))) (s2 : Nat) : value_entries_l1 r_value_plain a0 s1 s2 = value_entries_l1b r_value_plain a0 (value_entries_l1 r_value_plain a0) s1 s2 :=
  fixO_eq (ι := ((List (Str × Term)) × Nat)) (ρ := fun _ => (List (Str × Term))) (Φ := fun g i => value_entries_l1b r_value_plain a0 (fun s1 s2 => g (s1, s2)) i.1 i.2) (fun i => value_entries_l1b_cm (ι := ((List (Str × Term)) × Nat)) (ρ := fun _ => (List (Str × Term))) (fun _ => r_value_plain) (fun _ => cm_const) (fun g => (fun s1 s2 => g (s1, s2))) (fun _ _ => cm_app) a0 i.1 i.2) (s1, s2)
theorem value_entries_l1_cm {ι : Type} {ρ : ι → Type} (r_value_plain : (∀ i, Option (ρ i)) → V → Option Term) (h_r_value_plain : ∀ y0, CM (fun G => r_value_plain G y0)) (a0 : (List (Str × V))) (s1 : (List (Str × Term))) (s2 : Nat) : CM (fun G : (∀ i, Option (ρ i)) => value_entries_l1 (r_value_plain G) a0 s1 s2) :=
  cm_fix (κ := ((List (Str × Term)) × Nat)) (τ := fun _ => (List (Str × Term))) (Φ := fun G g i => value_entries_l1b (r_value_plain G) a0 (fun s1 s2 => g (s1, s2)) i.1 i.2) (fun g i => value_entries_l1b_cm r_value_plain h_r_value_plain (fun _ => (fun s1 s2 => g (s1, s2))) (fun _ _ => cm_const) a0 i.1 i.2) (fun G i => value_entries_l1b_cm (ι := ((List (Str × Term)) × Nat)) (ρ := fun _ => (List (Str × Term))) (fun _ => r_value_plain G) (fun _ => cm_const) (fun g => (fun s1 s2 => g (s1, s2))) (fun _ _ => cm_app) a0 i.1 i.2) (s1, s2)
noncomputable def b_value_entries (r_value_entries : (List (Str × V)) → Option (List (Str × Term))) (r_value_plain : V → Option Term) (a0 : (List (Str × V))) : Option (List (Str × Term)) :=
  value_entries_l1 r_value_plain a0 ([]) 0
theorem b_value_entries_cm {ι : Type} {ρ : ι → Type} (r_value_entries : (∀ i, Option (ρ i)) → (List (Str × V)) → Option (List (Str × Term))) (h_r_value_entries : ∀ y0, CM (fun G => r_value_entries G y0)) (r_value_plain : (∀ i, Option (ρ i)) → V → Option Term) (h_r_value_plain : ∀ y0, CM (fun G => r_value_plain G y0)) (a0 : (List (Str × V))) : CM (fun G : (∀ i, Option (ρ i)) => b_value_entries (r_value_entries G) (r_value_plain G) a0) := by
  simp only [b_value_entries]
  repeat (first | exact cm_const | exact h_r_value_entries _ | exact h_r_value_plain _ | apply value_entries_l1_cm | refine cm_cond ?_ ?_ | refine cm_bind ?_ (fun _ => ?_) | intro _ | assumption)
noncomputable def value_plain_j1 (x1 : Int) (s2 : Bool) (s3 : Int) (s4 : Nat) (s5 : Str) (s6 : Str) (s7 : Int) (s8 : (List Term)) (s9 : (List (Str × Term))) (s10 : Str) (s11 : Int) : Option Term :=
  some (Term.mk x1 s2 s3 s4 s5 s6 s7 s8 s9 s10 s11)
noncomputable def value_plain_l1b (r_value_plain : V → Option Term) (a0 : V) (x1 : Int) (g1 : Nat → (List Term) → Option Term) (s20 : Nat) (s21 : (List Term)) : Option Term :=
  bif (decide (((s20 : Nat) : Int) < ((((a0).asList).length : Nat) : Int))) then (
    Option.bind (((a0).asList)[s20]?) fun x24 =>
    Option.bind (r_value_plain x24) fun x25 =>
    Option.bind (appO 152 s21 ([x25] : (List Term))) fun x26 =>
    g1 (s20 + 1) x26
  ) else (
    value_plain_j1 x1 false 0 0 ([]) ([]) 0 s21 ([]) ([]) 0
  )
theorem value_plain_l1b_cm {ι : Type} {ρ : ι → Type} (r_value_plain : (∀ i, Option (ρ i)) → V → Option Term) (h_r_value_plain : ∀ y0, CM (fun G => r_value_plain G y0)) (g1 : (∀ i, Option (ρ i)) → Nat → (List Term) → Option Term) (h_g1 : ∀ y0 y1, CM (fun G => g1 G y0 y1)) (a0 : V) (x1 : Int) (s20 : Nat) (s21 : (List Term)) : CM (fun G : (∀ i, Option (ρ i)) => value_plain_l1b (r_value_plain G) a0 x1 (g1 G) s20 s21) := by
  simp only [value_plain_l1b]
  repeat (first | exact cm_const | exact h_r_value_plain _ | exact h_g1 _ _ | apply value_plain_j1_cm | refine cm_cond ?_ ?_ | refine cm_bind ?_ (fun _ => ?_) | intro _ | assumption)
noncomputable def value_plain_l1 (r_value_plain : V → Option Term) (a0 : V) (x1 : Int) (s20 : Nat) (s21 : (List Term)) : Option Term :=
  fixO (ι := (Nat × (List Term))) (ρ := fun _ => Term) (fun g i => value_plain_l1b r_value_plain a0 x1 (fun s20 s21 => g (s20, s21)) i.1 i.2) (s20, s21)
theorem value_plain_l1_eq (r_value_plain : V → Option Term) (a0 : V) (x1 : Int) (s20 : Nat) (s21 : (List Term)) : value_plain_l1 r_value_plain a0 x1 s20 s21 = value_plain_l1b r_value_plain a0 x1 (value_plain_l1 r_value_plain a0 x1) s20 s21 :=
  fixO_eq (ι := (Nat × (List Term))) (ρ := fun _ => Term) (Φ := fun g i => value_plain_l1b r_value_plain a0 x1 (fun s20 s21 => g (s20, s21)) i.1 i.2) (fun i => value_plain_l1b_cm (ι := (Nat × (List Term))) (ρ := fun _ => Term) (fun _ => r_value_plain) (fun _ => cm_const) (fun g => (fun s20 s21 => g (s20, s21))) (fun _ _ => cm_app) a0 x1 i.1 i.2) (s20, s21)
theorem value_plain_l1_cm {ι : Type} {ρ : ι → Type} (r_value_plain : (∀ i, Option (ρ i)) → V → Option Term) (h_r_value_plain : ∀ y0, CM (fun G => r_value_plain G y0)) (a0 : V) (x1 : Int) (s20 : Nat) (s21 : (List Term)) : CM (fun G : (∀ i, Option (ρ i)) => value_plain_l1 (r_value_plain G) a0 x1 s20 s21) :=
  cm_fix (κ := (Nat × (List Term))) (τ := fun _ => Term) (Φ := fun G g i => value_plain_l1b (r_value_plain G) a0 x1 (fun s20 s21 => g (s20, s21)) i.1 i.2) (fun g i => value_plain_l1b_cm r_value_plain h_r_value_plain (fun _ => (fun s20 s21 => g (s20, s21))) (fun _ _ => cm_const) a0 x1 i.1 i.2) (fun G i => value_plain_l1b_cm (ι := (Nat × (List Term))) (ρ := fun _ => Term) (fun _ => r_value_plain G) (fun _ => cm_const) (fun g => (fun s20 s21 => g (s20, s21))) (fun _ _ => cm_app) a0 x1 i.1 i.2) (s20, s21)
noncomputable def b_value_plain (r_value_entries : (List (Str × V)) → Option (List (Str × Term))) (r_value_plain : V → Option Term) (a0 : V) : Option Term :=
  Option.bind (p_value_kind a0) fun x1 =>
  bif (a0).isBool then (
    value_plain_j1 x1 ((a0).asBool) 0 0 ([]) ([]) 0 ([]) ([]) ([]) 0
  ) else (
    bif (a0).isInt then (
      value_plain_j1 x1 false ((a0).asInt) 0 ([]) ([]) 0 ([]) ([]) ([]) 0
    ) else (
      bif (a0).isFloat then (
        value_plain_j1 x1 false 0 ((a0).asFloat) ([]) ([]) 0 ([]) ([]) ([]) 0
      ) else (
        bif (a0).isText then (
          value_plain_j1 x1 false 0 0 ((a0).asText) ([]) 0 ([]) ([]) ([]) 0
        ) else (
          bif (a0).isBytes then (
            Option.bind (appO 1 ([] : Str) ((a0).asBytes)) fun x17 =>
            value_plain_j1 x1 false 0 0 ([]) x17 0 ([]) ([]) ([]) 0
          ) else (
            bif (a0).isRef then (
              value_plain_j1 x1 false 0 0 ([]) ([]) ((a0).asRef) ([]) ([]) ([]) 0
            ) else (
              bif (a0).isList then (
                value_plain_l1 r_value_plain a0 x1 0 ([])
              ) else (
                bif (a0).isDict then (
                  Option.bind (r_value_entries ((a0).asDict)) fun x28 =>
                  value_plain_j1 x1 false 0 0 ([]) ([]) 0 ([]) x28 ([]) 0
                ) else (
                  bif (a0).isRec then (
                    Option.bind ((a0).asRec) fun x30 =>
                    Option.bind (r_value_entries x30.fields) fun x31 =>
                    value_plain_j1 x1 false 0 0 ([]) ([]) 0 ([]) x31 x30.cls x30.ver
                  ) else (
                    value_plain_j1 x1 false 0 0 ([]) ([]) 0 ([]) ([]) ([]) 0
                  )
                )
              )
            )
          )
        )
      )
    )
  )
theorem b_value_plain_cm {ι : Type} {ρ : ι → Type} (r_value_entries : (∀ i, Option (ρ i)) → (List (Str × V)) → Option (List (Str × Term))) (h_r_value_entries : ∀ y0, CM (fun G => r_value_entries G y0)) (r_value_plain : (∀ i, Option (ρ i)) → V → Option Term) (h_r_value_plain : ∀ y0, CM (fun G => r_value_plain G y0)) (a0 : V) : CM (fun G : (∀ i, Option (ρ i)) => b_value_plain (r_value_entries G) (r_value_plain G) a0) := by
  simp only [b_value_plain]
  repeat (first | exact cm_const | exact h_r_value_entries _ | exact h_r_value_plain _ | apply value_plain_j1_cm | apply value_plain_l1_cm | refine cm_cond ?_ ?_ | refine cm_bind ?_ (fun _ => ?_) | intro _ | assumption)
inductive C_value_entries where
  | k_value_entries (a0 : (List (Str × V)))
  | k_value_plain (a0 : V)
def C_value_entries.R : C_value_entries → Type
  | .k_value_entries _ => (List (Str × Term))
  | .k_value_plain _ => Term
noncomputable def C_value_entries.F (g : ∀ i : C_value_entries, Option i.R) : ∀ i : C_value_entries, Option i.R
  | .k_value_entries a0 => b_value_entries (fun a0 => g (.k_value_entries a0)) (fun a0 => g (.k_value_plain a0)) a0
  | .k_value_plain a0 => b_value_plain (fun a0 => g (.k_value_entries a0)) (fun a0 => g (.k_value_plain a0)) a0
noncomputable def p_value_entries (a0 : (List (Str × V))) : Option (List (Str × Term)) := fixO C_value_entries.F (.k_value_entries a0)
noncomputable def p_value_plain (a0 : V) : Option Term := fixO C_value_entries.F (.k_value_plain a0)
theorem C_value_entries.cm (i : C_value_entries) : CM (fun g : (∀ i : C_value_entries, Option i.R) => C_value_entries.F g i) := by
  cases i with
  | k_value_entries a0 => exact b_value_entries_cm (fun (g : ∀ i : C_value_entries, Option i.R) a0 => g (.k_value_entries a0)) (fun a0 => cm_app (i := C_value_entries.k_value_entries a0)) (fun (g : ∀ i : C_value_entries, Option i.R) a0 => g (.k_value_plain a0)) (fun a0 => cm_app (i := C_value_entries.k_value_plain a0)) a0
  | k_value_plain a0 => exact b_value_plain_cm (fun (g : ∀ i : C_value_entries, Option i.R) a0 => g (.k_value_entries a0)) (fun a0 => cm_app (i := C_value_entries.k_value_entries a0)) (fun (g : ∀ i : C_value_entries, Option i.R) a0 => g (.k_value_plain a0)) (fun a0 => cm_app (i := C_value_entries.k_value_plain a0)) a0
theorem e_value_entries (a0 : (List (Str × V))) : p_value_entries a0 = b_value_entries p_value_entries p_value_plain a0 := fixO_eq C_value_entries.cm (.k_value_entries a0)
theorem e_value_plain (a0 : V) : p_value_plain a0 = b_value_plain p_value_entries p_value_plain a0 := fixO_eq C_value_entries.cm (.k_value_plain a0)
def C_value_entries.Q : ∀ i : C_value_entries, i.R → Prop
  | .k_value_entries a0 => fun (r : (List (Str × Term))) => PCalls Try.prog 57 [(PV.sl none 2 (List.map ofFld a0))] (PV.sl none 12 (List.map ofEntry r))
  | .k_value_plain a0 => fun (r : Term) => PCalls Try.prog 42 [(ofV a0)] (ofTermX r)
theorem t_value_entries (r_value_entries : (List (Str × V)) → Option (List (Str × Term))) (c_value_entries : ∀ (a0 : (List (Str × V))) r, r_value_entries a0 = some r → PCalls Try.prog 57 [(PV.sl none 2 (List.map ofFld a0))] (PV.sl none 12 (List.map ofEntry r))) (r_value_plain : V → Option Term) (c_value_plain : ∀ (a0 : V) r, r_value_plain a0 = some r → PCalls Try.prog 42 [(ofV a0)] (ofTermX r)) (a0 : (List (Str × V))) (r : (List (Str × Term))) (h : b_value_entries r_value_entries r_value_plain a0 = some r) : PCalls Try.prog 57 [(PV.sl none 2 (List.map ofFld a0))] (PV.sl none 12 (List.map ofEntry r)) := by
  unfold b_value_entries at h
  refine acalls_of Try.func57 rfl Try.ntmps57 Try.results57 rfl (aw_of_bw ?_)
  change BW _ _ _ ⟨[(0, (PV.sl none 2 (List.map ofFld a0)))], [], _⟩ _
  refine bw_seq ?_
  refine bw_region ?_
  refine ao_step rfl rfl rfl (op1_assign rfl rfl) ?_
  refine ao_nil ?_
  change BW _ _ _ _ _
  refine bw_seq ?_
  refine bw_region ?_
  refine ao_step rfl rfl rfl (op1_assign rfl rfl) ?_
  refine ao_nil ?_
  change BW _ _ _ _ _
  refine bw_seq ?_
  refine bw_seq ?_
  refine bw_region ?_
  refine ao_step rfl rfl rfl (op1_move rfl rfl) ?_
  refine ao_step rfl rfl rfl (op1_lenM Try.underlying58 rfl rfl) ?_
  refine ao_step rfl rfl rfl (op1_move rfl rfl) ?_
  refine ao_nil ?_
  change BW _ _ _ _ _
  refine bw_block ?_
  change BW _ _ _ _ _
  refine bw_ghost (s := ⟨_, _, _⟩) 3 66 (sz := 12) rfl rfl ?_
  unfold value_entries_l1 at h
  refine bw_loop (σ := ((List (Str × Term)) × Nat)) (fun i => [(3, (PV.sl (some 0) 12 (List.map ofEntry i.1))), (6, (PV.sl none 2 (List.map ofFld a0))), (7, (PV.v (.int .i64 (((a0).length : Nat) : Int)))), (8, (PV.v (.int .i64 ((i.2 : Nat) : Int))))]) (fun i => [.arr 66 (i.1).length]) ([], 0) h ?_ ?_ ?_
  · intro i; exact ⟨Nat.le_of_ble_eq_true rfl, ⟨(il_tok rfl (ids_map ids_Entry _)), ⟨(il_nil (ids_slM ids_Fld _)), ⟨(il_nil rfl), ⟨(il_nil rfl), trivial⟩⟩⟩⟩, trivial⟩
  · exact ⟨(.cons .same .nil), (sub_consW rfl (fun _ _ h => h) (sub_consW rfl (fun _ _ h => h) (sub_consW rfl (fun _ _ h => h) (sub_consW rfl (fun _ _ h => h) sub_nil))))⟩
  · rintro g1_f ⟨s1, s2⟩ h; replace h : value_entries_l1b r_value_plain a0 (fun y0 y1 => g1_f (y0, y1)) s1 s2 = some r := h; unfold value_entries_l1b at h
    change BW _ _ _ ⟨[(3, (PV.sl (some 0) 12 (List.map ofEntry s1))), (6, (PV.sl none 2 (List.map ofFld a0))), (7, (PV.v (.int .i64 (((a0).length : Nat) : Int)))), (8, (PV.v (.int .i64 ((s2 : Nat) : Int))))], [.arr 66 (s1).length], _⟩ _
    refine bw_seq ?_
    refine bw_region ?_
    refine ao_step rfl rfl rfl ((op1_cmp rfl rfl rfl rfl).cast (y := (PV.v (.bool (decide (((s2 : Nat) : Int) < (((a0).length : Nat) : Int)))))) rfl rfl) ?_
    refine ao_nil ?_
    change BW _ _ _ _ _
    refine bw_seq ?_
    refine bw_len (t := 6) rfl fun hb4 => ?_
    try rw [List.length_map] at hb4
    refine bw_cond rfl ?_ ?_
    · intro hc3; replace h := ocond_t hc3 h
      have hc3_ := of_decide_eq_true hc3
      refine bw_skip ?_
      change BW _ _ _ _ _
      refine bw_seq ?_
      refine bw_block ?_
      change BW _ _ _ _ _
      refine bw_seq ?_
      refine bw_region ?_
      obtain ⟨x5, hx5, h⟩ := obind h
      refine ao_step rfl rfl rfl (op1_idxN (i := s2) Try.underlying58 inf_56 rfl rfl rfl hx5 rfl) ?_
      refine ao_step rfl rfl rfl (op1_ldPW inf_56 Try.underlying56 rfl rfl rfl rfl rfl) ?_
      refine ao_step rfl rfl rfl (op1_alloc inf_56 rfl) ?_
      refine ao_step0 rfl rfl (op1_store inf_56 rfl rfl rfl rfl rfl rfl (Nat.le_of_ble_eq_true rfl) (by show List.all [(ofStr x5.1), (ofV x5.2)] one1 = true; simp only [List.all_cons, List.all_nil, one_V, one_RecP, Bool.and_true, Bool.true_and]; try rfl)) ?_
      refine ao_nil ?_
      change BW _ _ _ _ _
      refine bw_tail 8 [7] [1] mo (by kernel_rfl) ?_
      refine ac_go rfl rfl rfl rfl (fun H hp => op1_move rfl rfl) ?_
      refine ac_go rfl rfl rfl rfl (fun H hp => op1_faR st_56 (i := 0) rfl rfl rfl) ?_
      refine ac_go rfl rfl rfl rfl (fun H hp => (op1_ldR Try.underlying9 rfl rfl rfl (hp.at rfl rfl) rfl).cast (y := (ofStr x5.1)) rfl rfl) ?_
      refine ac_go rfl rfl rfl rfl (fun H hp => op1_faR st_56 (i := 1) rfl rfl rfl) ?_
      refine ac_go rfl rfl rfl rfl (fun H hp => (op1_ldR Try.underlying20 rfl rfl rfl (hp.at rfl rfl) rfl).cast (y := (ofV x5.2)) rfl rfl) ?_
      obtain ⟨x6, hx6, h⟩ := obind h
      refine ac_go rfl rfl rfl rfl (fun H hp => op1_pcall rfl en_42 rfl (.cons (Wk.refl _) .nil) ⟨(ids_V x5.2), trivial⟩ (c_value_plain x5.2 x6 hx6) (ids_TermX x6)) ?_
      refine ac_go rfl rfl rfl rfl (fun H hp => op1_build (cs := [(ofStr x5.1), (PV.v (.int .i64 x6.kind)), (PV.v (.bool x6.bool)), (PV.v (.int .i64 x6.int)), (PV.v (.float .f64 x6.float)), (ofStr x6.text), (PV.sl none 1 (List.map ofB x6.bytes)), (PV.v (.int .u64 x6.ref)), (PV.sl none 11 (List.map ofTerm x6.list)), (PV.sl none 12 (List.map ofEntry x6.fields)), (ofStr x6.cls), (PV.v (.int .i64 x6.ver))]) st_66 inf_66 rfl rfl rfl rfl) ?_
      refine ac_lgo rfl rfl rfl rfl ((op1_bslice (xs := [(PV.agg [(ofStr x5.1), (PV.v (.int .i64 x6.kind)), (PV.v (.bool x6.bool)), (PV.v (.int .i64 x6.int)), (PV.v (.float .f64 x6.float)), (ofStr x6.text), (PV.sl none 1 (List.map ofB x6.bytes)), (PV.v (.int .u64 x6.ref)), (PV.sl none 11 (List.map ofTerm x6.list)), (PV.sl none 12 (List.map ofEntry x6.fields)), (ofStr x6.cls), (PV.v (.int .i64 x6.ver))])]) Try.underlying27 inf_66 rfl rfl rfl rfl rfl rfl ⟨Nat.le_of_ble_eq_true rfl, Nat.le_of_ble_eq_true rfl⟩ rfl).cast (y := (PV.sl (some 2) 12 (List.map ofEntry ([(x5.1, x6)] : (List (Str × Term)))))) (by simp only [List.map_cons, List.map_nil, ofEntry_eq]; try rfl) rfl) ⟨rfl, trivial⟩ ?_
      refine ac_nil ?_
      change AO _ _ _ _ _
      obtain ⟨x7, hx7, h⟩ := obind h
      refine ao_step rfl rfl rfl (op1_appM Try.underlying27 inf_66 rfl Try.underlying27 rfl rfl rfl rfl csz_Entry call1_Entry hx7 rfl) ?_
      refine ao_step rfl rfl rfl (op1_assign rfl rfl) ?_
      refine ao_nil ?_
      change BW _ _ _ _ _
      refine bw_region ?_
      refine ao_step rfl rfl rfl (op1_incN (k := s2) (c := 1) rfl rfl rfl (by omega)) ?_
      refine ao_step rfl rfl rfl (op1_move rfl rfl) ?_
      refine ao_nil ?_
      exact ⟨rfl, (x7, (s2 + 1)), h, ⟨(.cons .same .nil), (sub_consW rfl (fun _ _ h => h) (sub_consW rfl (fun _ _ h => h) (sub_consW rfl (fun _ _ h => h) (sub_consW rfl (fun _ _ h => h) sub_nil))))⟩⟩
    · intro hc3; replace h := ocond_f hc3 h
      refine bw_exit ?_
      change BW _ _ _ _ _
      refine bw_seq ?_
      refine bw_region ?_
      refine ao_step rfl rfl rfl (op1_move rfl rfl) ?_
      refine ao_step rfl rfl rfl (op1_assign rfl rfl) ?_
      refine ao_nil ?_
      change BW _ _ _ _ _
      refine bw_ret ?_
      change ∃ xs, _ = some xs ∧ EndOk _ _ _ _
      obtain rfl := Option.some.inj h
      exact ⟨_, rfl, endOk0 (y := (PV.sl none 12 (List.map ofEntry s1))) Wk.tok (ids_slM ids_Entry s1) ⟨rfl, rfl⟩⟩
theorem t_value_plain (r_value_entries : (List (Str × V)) → Option (List (Str × Term))) (c_value_entries : ∀ (a0 : (List (Str × V))) r, r_value_entries a0 = some r → PCalls Try.prog 57 [(PV.sl none 2 (List.map ofFld a0))] (PV.sl none 12 (List.map ofEntry r))) (r_value_plain : V → Option Term) (c_value_plain : ∀ (a0 : V) r, r_value_plain a0 = some r → PCalls Try.prog 42 [(ofV a0)] (ofTermX r)) (a0 : V) (r : Term) (h : b_value_plain r_value_entries r_value_plain a0 = some r) : PCalls Try.prog 42 [(ofV a0)] (ofTermX r) := by
  unfold b_value_plain at h
  refine acalls_of Try.func42 rfl Try.ntmps42 Try.results42 rfl (aw_of_bw ?_)
  change BW _ _ _ ⟨[(0, (ofV a0))], [], _⟩ _
  refine bw_seq ?_
  refine bw_region ?_
  refine ao_step rfl rfl rfl (op1_alloc inf_29 rfl) ?_
  refine ao_nil ?_
  change BW _ _ _ _ _
  refine bw_seq ?_
  refine bw_region ?_
  refine ao_step rfl rfl rfl (op1_move rfl rfl) ?_
  obtain ⟨x1, hx1, h⟩ := obind h
  refine ao_step rfl rfl rfl (op1_pcall rfl en_37 rfl (.cons (Wk.refl _) .nil) ⟨(ids_V a0), trivial⟩ (s_value_kind a0 x1 hx1) rfl) ?_
  refine ao_step rfl rfl rfl (op1_build (cs := [(PV.v (.int .i64 x1)), (PV.v (.bool false)), (PV.v (.int .i64 0)), (PV.v (.float .f64 0)), (ofStr []), (PV.v (.slice none 0 0)), (PV.v (.int .u64 0)), (PV.v (.slice none 0 0)), (PV.v (.slice none 0 0)), (ofStr []), (PV.v (.int .i64 0))]) st_29 inf_29 rfl rfl rfl rfl) ?_
  refine ao_step rfl rfl rfl (op1_alloc inf_29 rfl) ?_
  refine ao_step0 rfl rfl (op1_store inf_29 rfl rfl rfl rfl rfl rfl (Nat.le_of_ble_eq_true rfl) rfl) ?_
  refine ao_nil ?_
  change BW _ _ _ _ _
  refine bw_seqJ (ι := (Bool × Int × Nat × Str × Str × Int × (List Term) × (List (Str × Term)) × Str × Int)) (fun i => value_plain_j1 x1 i.1 i.2.1 i.2.2.1 i.2.2.2.1 i.2.2.2.2.1 i.2.2.2.2.2.1 i.2.2.2.2.2.2.1 i.2.2.2.2.2.2.2.1 i.2.2.2.2.2.2.2.2.1 i.2.2.2.2.2.2.2.2.2 = some r) (fun i => [(2, (PV.rf 0 0)), (3, (PV.rf 1 0))]) (fun i => [.box 29 [(PV.v (.int .i64 0)), (PV.v (.bool false)), (PV.v (.int .i64 0)), (PV.v (.float .f64 0)), (ofStr []), (PV.v (.slice none 0 0)), (PV.v (.int .u64 0)), (PV.v (.slice none 0 0)), (PV.v (.slice none 0 0)), (ofStr []), (PV.v (.int .i64 0))], .box 29 [(PV.v (.int .i64 x1)), (PV.v (.bool i.1)), (PV.v (.int .i64 i.2.1)), (PV.v (.float .f64 i.2.2.1)), (ofStr i.2.2.2.1), (PV.sl none 1 (List.map ofB i.2.2.2.2.1)), (PV.v (.int .u64 i.2.2.2.2.2.1)), (PV.sl none 11 (List.map ofTerm i.2.2.2.2.2.2.1)), (PV.sl none 12 (List.map ofEntry i.2.2.2.2.2.2.2.1)), (ofStr i.2.2.2.2.2.2.2.2.1), (PV.v (.int .i64 i.2.2.2.2.2.2.2.2.2))]]) ?_ ?_ ?_
  · intro i; exact ⟨Nat.le_of_ble_eq_true rfl, ⟨(il_rf rfl), ⟨(il_rf rfl), trivial⟩⟩, ⟨⟨(il_nil rfl), ⟨(il_nil rfl), ⟨(il_nil rfl), ⟨(il_nil rfl), ⟨(il_nil rfl), ⟨(il_nil rfl), ⟨(il_nil rfl), ⟨(il_nil rfl), ⟨(il_nil rfl), ⟨(il_nil rfl), ⟨(il_nil rfl), trivial⟩⟩⟩⟩⟩⟩⟩⟩⟩⟩⟩, ⟨⟨(il_nil rfl), ⟨(il_nil rfl), ⟨(il_nil rfl), ⟨(il_nil rfl), ⟨(il_nil rfl), ⟨(il_nil (ids_slM (fun _ => rfl) _)), ⟨(il_nil rfl), ⟨(il_nil (ids_slM ids_Term _)), ⟨(il_nil (ids_slM ids_Entry _)), ⟨(il_nil rfl), ⟨(il_nil rfl), trivial⟩⟩⟩⟩⟩⟩⟩⟩⟩⟩⟩, trivial⟩⟩⟩
  · rintro ⟨s2, s3, s4, s5, s6, s7, s8, s9, s10, s11⟩ h; replace h : value_plain_j1 x1 s2 s3 s4 s5 s6 s7 s8 s9 s10 s11 = some r := h; unfold value_plain_j1 at h
    change BW _ _ _ ⟨[(2, (PV.rf 0 0)), (3, (PV.rf 1 0))], [.box 29 [(PV.v (.int .i64 0)), (PV.v (.bool false)), (PV.v (.int .i64 0)), (PV.v (.float .f64 0)), (ofStr []), (PV.v (.slice none 0 0)), (PV.v (.int .u64 0)), (PV.v (.slice none 0 0)), (PV.v (.slice none 0 0)), (ofStr []), (PV.v (.int .i64 0))], .box 29 [(PV.v (.int .i64 x1)), (PV.v (.bool s2)), (PV.v (.int .i64 s3)), (PV.v (.float .f64 s4)), (ofStr s5), (PV.sl none 1 (List.map ofB s6)), (PV.v (.int .u64 s7)), (PV.sl none 11 (List.map ofTerm s8)), (PV.sl none 12 (List.map ofEntry s9)), (ofStr s10), (PV.v (.int .i64 s11))]], _⟩ _
    refine bw_seq ?_
    refine bw_region ?_
    refine ao_step rfl rfl rfl ((op1_ldRA inf_29 Try.underlying29 rfl rfl rfl rfl rfl rfl).cast (y := (PV.agg [(PV.v (.int .i64 x1)), (PV.v (.bool s2)), (PV.v (.int .i64 s3)), (PV.v (.float .f64 s4)), (ofStr s5), (PV.sl none 1 (List.map ofB s6)), (PV.v (.int .u64 s7)), (PV.sl none 11 (List.map ofTerm s8)), (PV.sl none 12 (List.map ofEntry s9)), (ofStr s10), (PV.v (.int .i64 s11))])) rfl rfl) ?_
    refine ao_step0 rfl rfl (op1_store inf_29 rfl rfl rfl rfl rfl rfl (Nat.le_of_ble_eq_true rfl) rfl) ?_
    refine ao_nil ?_
    change BW _ _ _ _ _
    refine bw_ret ?_
    change ∃ xs, _ = some xs ∧ EndOk _ _ _ _
    obtain rfl := Option.some.inj h
    exact ⟨_, rfl, endOk0 (y := (ofTermX (Term.mk x1 s2 s3 s4 s5 s6 s7 s8 s9 s10 s11))) (Wk.refl _) (ids_TermX (Term.mk x1 s2 s3 s4 s5 s6 s7 s8 s9 s10 s11)) ⟨rfl, rfl⟩⟩
  · refine bw_seq ?_
    refine bw_region ?_
    refine ao_step rfl rfl rfl (op1_move rfl rfl) ?_
    refine ao_nil ?_
    change BW _ _ _ _ _
    refine bw_block ?_
    change BW _ _ _ _ _
    refine bw_seq ?_
    refine bw_region ?_
    refine ao_step rfl rfl rfl (op1_taBool rfl rfl) ?_
    refine ao_step rfl rfl rfl (op1_ext rfl rfl rfl) ?_
    refine ao_step rfl rfl rfl (op1_ext rfl rfl rfl) ?_
    refine ao_nil ?_
    change BW _ _ _ _ _
    refine bw_cond rfl ?_ ?_
    · intro hc12; replace h := ocond_t hc12 h
      refine bw_seq ?_
      refine bw_region ?_
      refine ao_step rfl rfl rfl (op1_assign rfl rfl) ?_
      refine ao_nil ?_
      change BW _ _ _ _ _
      refine bw_region ?_
      refine ao_step rfl rfl rfl (op1_move rfl rfl) ?_
      refine ao_step rfl rfl rfl (op1_faR st_29 (i := 1) rfl rfl rfl) ?_
      refine ao_step0 rfl rfl (op1_store inf_4 rfl rfl rfl rfl rfl rfl (Nat.le_of_ble_eq_true rfl) rfl) ?_
      refine ao_nil ?_
      exact ⟨rfl, ((a0).asBool, 0, 0, [], [], 0, [], [], [], 0), h, ⟨(.cons .same (.cons (.box (.cons (Wk.refl _) (.cons (Wk.refl _) (.cons (Wk.refl _) (.cons (Wk.refl _) (.cons (Wk.refl _) (.cons Wk.nil (.cons (Wk.refl _) (.cons Wk.nil (.cons Wk.nil (.cons (Wk.refl _) (.cons (Wk.refl _) .nil)))))))))))) .nil)), (sub_consW rfl (fun _ _ h => h) (sub_consW rfl (fun _ _ h => h) sub_nil))⟩⟩
    · intro hc12; replace h := ocond_f hc12 h
      refine bw_seq ?_
      refine bw_region ?_
      refine ao_step rfl rfl rfl (op1_taInt rfl rfl) ?_
      refine ao_step rfl rfl rfl (op1_ext rfl rfl rfl) ?_
      refine ao_step rfl rfl rfl (op1_ext rfl rfl rfl) ?_
      refine ao_nil ?_
      change BW _ _ _ _ _
      refine bw_cond rfl ?_ ?_
      · intro hc13; replace h := ocond_t hc13 h
        refine bw_seq ?_
        refine bw_region ?_
        refine ao_step rfl rfl rfl (op1_assign rfl rfl) ?_
        refine ao_nil ?_
        change BW _ _ _ _ _
        refine bw_region ?_
        refine ao_step rfl rfl rfl (op1_move rfl rfl) ?_
        refine ao_step rfl rfl rfl (op1_faR st_29 (i := 2) rfl rfl rfl) ?_
        refine ao_step0 rfl rfl (op1_store inf_2 rfl rfl rfl rfl rfl rfl (Nat.le_of_ble_eq_true rfl) rfl) ?_
        refine ao_nil ?_
        exact ⟨rfl, (false, (a0).asInt, 0, [], [], 0, [], [], [], 0), h, ⟨(.cons .same (.cons (.box (.cons (Wk.refl _) (.cons (Wk.refl _) (.cons (Wk.refl _) (.cons (Wk.refl _) (.cons (Wk.refl _) (.cons Wk.nil (.cons (Wk.refl _) (.cons Wk.nil (.cons Wk.nil (.cons (Wk.refl _) (.cons (Wk.refl _) .nil)))))))))))) .nil)), (sub_consW rfl (fun _ _ h => h) (sub_consW rfl (fun _ _ h => h) sub_nil))⟩⟩
      · intro hc13; replace h := ocond_f hc13 h
        refine bw_seq ?_
        refine bw_region ?_
        refine ao_step rfl rfl rfl (op1_taFloat rfl rfl) ?_
        refine ao_step rfl rfl rfl (op1_ext rfl rfl rfl) ?_
        refine ao_step rfl rfl rfl (op1_ext rfl rfl rfl) ?_
        refine ao_nil ?_
        change BW _ _ _ _ _
        refine bw_cond rfl ?_ ?_
        · intro hc14; replace h := ocond_t hc14 h
          refine bw_seq ?_
          refine bw_region ?_
          refine ao_step rfl rfl rfl (op1_assign rfl rfl) ?_
          refine ao_nil ?_
          change BW _ _ _ _ _
          refine bw_region ?_
          refine ao_step rfl rfl rfl (op1_move rfl rfl) ?_
          refine ao_step rfl rfl rfl (op1_faR st_29 (i := 3) rfl rfl rfl) ?_
          refine ao_step0 rfl rfl (op1_store inf_22 rfl rfl rfl rfl rfl rfl (Nat.le_of_ble_eq_true rfl) rfl) ?_
          refine ao_nil ?_
          exact ⟨rfl, (false, 0, (a0).asFloat, [], [], 0, [], [], [], 0), h, ⟨(.cons .same (.cons (.box (.cons (Wk.refl _) (.cons (Wk.refl _) (.cons (Wk.refl _) (.cons (Wk.refl _) (.cons (Wk.refl _) (.cons Wk.nil (.cons (Wk.refl _) (.cons Wk.nil (.cons Wk.nil (.cons (Wk.refl _) (.cons (Wk.refl _) .nil)))))))))))) .nil)), (sub_consW rfl (fun _ _ h => h) (sub_consW rfl (fun _ _ h => h) sub_nil))⟩⟩
        · intro hc14; replace h := ocond_f hc14 h
          refine bw_seq ?_
          refine bw_region ?_
          refine ao_step rfl rfl rfl (op1_taText rfl rfl) ?_
          refine ao_step rfl rfl rfl (op1_ext rfl rfl rfl) ?_
          refine ao_step rfl rfl rfl (op1_ext rfl rfl rfl) ?_
          refine ao_nil ?_
          change BW _ _ _ _ _
          refine bw_cond rfl ?_ ?_
          · intro hc15; replace h := ocond_t hc15 h
            refine bw_seq ?_
            refine bw_region ?_
            refine ao_step rfl rfl rfl (op1_assign rfl rfl) ?_
            refine ao_nil ?_
            change BW _ _ _ _ _
            refine bw_region ?_
            refine ao_step rfl rfl rfl (op1_move rfl rfl) ?_
            refine ao_step rfl rfl rfl (op1_faR st_29 (i := 4) rfl rfl rfl) ?_
            refine ao_step0 rfl rfl (op1_store inf_9 rfl rfl rfl rfl rfl rfl (Nat.le_of_ble_eq_true rfl) rfl) ?_
            refine ao_nil ?_
            exact ⟨rfl, (false, 0, 0, (a0).asText, [], 0, [], [], [], 0), h, ⟨(.cons .same (.cons (.box (.cons (Wk.refl _) (.cons (Wk.refl _) (.cons (Wk.refl _) (.cons (Wk.refl _) (.cons (Wk.refl _) (.cons Wk.nil (.cons (Wk.refl _) (.cons Wk.nil (.cons Wk.nil (.cons (Wk.refl _) (.cons (Wk.refl _) .nil)))))))))))) .nil)), (sub_consW rfl (fun _ _ h => h) (sub_consW rfl (fun _ _ h => h) sub_nil))⟩⟩
          · intro hc15; replace h := ocond_f hc15 h
            refine bw_seq ?_
            refine bw_region ?_
            refine ao_step rfl rfl rfl (op1_taBytes rfl rfl) ?_
            refine ao_step rfl rfl rfl (op1_ext rfl rfl rfl) ?_
            refine ao_step rfl rfl rfl (op1_ext rfl rfl rfl) ?_
            refine ao_nil ?_
            change BW _ _ _ _ _
            refine bw_cond rfl ?_ ?_
            · intro hc16; replace h := ocond_t hc16 h
              refine bw_seq ?_
              refine bw_region ?_
              refine ao_step rfl rfl rfl (op1_assign rfl rfl) ?_
              refine ao_nil ?_
              change BW _ _ _ _ _
              refine bw_region ?_
              refine ao_step rfl rfl rfl ((op1_bslice (xs := []) Try.underlying23 inf_5 rfl rfl rfl rfl rfl rfl ⟨Nat.le_of_ble_eq_true rfl, Nat.le_of_ble_eq_true rfl⟩ rfl).cast (y := (PV.sl (some 2) 1 (List.map ofB ([] : Str)))) rfl rfl) ?_
              refine ao_step rfl rfl rfl (op1_move rfl rfl) ?_
              obtain ⟨x17, hx17, h⟩ := obind h
              refine ao_step rfl rfl rfl (op1_appM Try.underlying23 inf_5 rfl Try.underlying23 rfl rfl rfl rfl (fun _ => rfl) (fun _ => rfl) hx17 rfl) ?_
              refine ao_step rfl rfl rfl (op1_faR st_29 (i := 5) rfl rfl rfl) ?_
              refine ao_step0 rfl rfl (op1_store inf_23 rfl rfl rfl rfl rfl rfl (Nat.le_of_ble_eq_true rfl) rfl) ?_
              refine ao_nil ?_
              exact ⟨rfl, (false, 0, 0, [], x17, 0, [], [], [], 0), h, ⟨(.cons .same (.cons (.box (.cons (Wk.refl _) (.cons (Wk.refl _) (.cons (Wk.refl _) (.cons (Wk.refl _) (.cons (Wk.refl _) (.cons Wk.tok (.cons (Wk.refl _) (.cons Wk.nil (.cons Wk.nil (.cons (Wk.refl _) (.cons (Wk.refl _) .nil)))))))))))) .nil)), (sub_consW rfl (fun _ _ h => h) (sub_consW rfl (fun _ _ h => h) sub_nil))⟩⟩
            · intro hc16; replace h := ocond_f hc16 h
              refine bw_seq ?_
              refine bw_region ?_
              refine ao_step rfl rfl rfl (op1_taRef rfl rfl) ?_
              refine ao_step rfl rfl rfl (op1_ext rfl rfl rfl) ?_
              refine ao_step rfl rfl rfl (op1_ext rfl rfl rfl) ?_
              refine ao_nil ?_
              change BW _ _ _ _ _
              refine bw_cond rfl ?_ ?_
              · intro hc18; replace h := ocond_t hc18 h
                refine bw_seq ?_
                refine bw_region ?_
                refine ao_step rfl rfl rfl (op1_assign rfl rfl) ?_
                refine ao_nil ?_
                change BW _ _ _ _ _
                refine bw_region ?_
                refine ao_step rfl rfl rfl (op1_move rfl rfl) ?_
                refine ao_step rfl rfl rfl (op1_faR st_29 (i := 6) rfl rfl rfl) ?_
                refine ao_step0 rfl rfl (op1_store inf_25 rfl rfl rfl rfl rfl rfl (Nat.le_of_ble_eq_true rfl) rfl) ?_
                refine ao_nil ?_
                exact ⟨rfl, (false, 0, 0, [], [], (a0).asRef, [], [], [], 0), h, ⟨(.cons .same (.cons (.box (.cons (Wk.refl _) (.cons (Wk.refl _) (.cons (Wk.refl _) (.cons (Wk.refl _) (.cons (Wk.refl _) (.cons Wk.nil (.cons (Wk.refl _) (.cons Wk.nil (.cons Wk.nil (.cons (Wk.refl _) (.cons (Wk.refl _) .nil)))))))))))) .nil)), (sub_consW rfl (fun _ _ h => h) (sub_consW rfl (fun _ _ h => h) sub_nil))⟩⟩
              · intro hc18; replace h := ocond_f hc18 h
                refine bw_seq ?_
                refine bw_region ?_
                refine ao_step rfl rfl rfl (op1_taList rfl rfl) ?_
                refine ao_step rfl rfl rfl (op1_ext rfl rfl rfl) ?_
                refine ao_step rfl rfl rfl (op1_ext rfl rfl rfl) ?_
                refine ao_nil ?_
                change BW _ _ _ _ _
                refine bw_cond rfl ?_ ?_
                · intro hc19; replace h := ocond_t hc19 h
                  refine bw_seq ?_
                  refine bw_region ?_
                  refine ao_step rfl rfl rfl (op1_assign rfl rfl) ?_
                  refine ao_nil ?_
                  change BW _ _ _ _ _
                  refine bw_seq ?_
                  refine bw_region ?_
                  refine ao_step rfl rfl rfl (op1_move rfl rfl) ?_
                  refine ao_step rfl rfl rfl (op1_lenM Try.underlying60 rfl rfl) ?_
                  refine ao_step rfl rfl rfl (op1_move rfl rfl) ?_
                  refine ao_nil ?_
                  change BW _ _ _ _ _
                  refine bw_block ?_
                  change BW _ _ _ _ _
                  refine bw_ghostB (s := ⟨_, _, _⟩) 1 7 29 (sz := 11) rfl rfl rfl ?_
                  unfold value_plain_l1 at h
                  refine bw_loop (σ := (Nat × (List Term))) (fun i => [(2, (PV.rf 0 0)), (3, (PV.rf 1 0)), (54, (PV.sl none 1 (List.map ofV (a0).asList))), (55, (PV.v (.int .i64 ((((a0).asList).length : Nat) : Int)))), (56, (PV.v (.int .i64 ((i.1 : Nat) : Int))))]) (fun i => [.box 29 [(PV.v (.int .i64 0)), (PV.v (.bool false)), (PV.v (.int .i64 0)), (PV.v (.float .f64 0)), (ofStr []), (PV.v (.slice none 0 0)), (PV.v (.int .u64 0)), (PV.v (.slice none 0 0)), (PV.v (.slice none 0 0)), (ofStr []), (PV.v (.int .i64 0))], .box 29 [(PV.v (.int .i64 x1)), (PV.v (.bool false)), (PV.v (.int .i64 0)), (PV.v (.float .f64 0)), (ofStr []), (PV.v (.slice none 0 0)), (PV.v (.int .u64 0)), (PV.sl (some 2) 11 (List.map ofTerm i.2)), (PV.v (.slice none 0 0)), (ofStr []), (PV.v (.int .i64 0))], .arr 29 (i.2).length]) (0, []) h ?_ ?_ ?_
                  · intro i; exact ⟨Nat.le_of_ble_eq_true rfl, ⟨(il_rf rfl), ⟨(il_rf rfl), ⟨(il_nil (ids_slM ids_V _)), ⟨(il_nil rfl), ⟨(il_nil rfl), trivial⟩⟩⟩⟩⟩, ⟨⟨(il_nil rfl), ⟨(il_nil rfl), ⟨(il_nil rfl), ⟨(il_nil rfl), ⟨(il_nil rfl), ⟨(il_nil rfl), ⟨(il_nil rfl), ⟨(il_nil rfl), ⟨(il_nil rfl), ⟨(il_nil rfl), ⟨(il_nil rfl), trivial⟩⟩⟩⟩⟩⟩⟩⟩⟩⟩⟩, ⟨⟨(il_nil rfl), ⟨(il_nil rfl), ⟨(il_nil rfl), ⟨(il_nil rfl), ⟨(il_nil rfl), ⟨(il_nil rfl), ⟨(il_nil rfl), ⟨(il_tok rfl (ids_map ids_Term _)), ⟨(il_nil rfl), ⟨(il_nil rfl), ⟨(il_nil rfl), trivial⟩⟩⟩⟩⟩⟩⟩⟩⟩⟩⟩, trivial⟩⟩⟩
                  · exact ⟨(.cons .same (.cons .same (.cons .same .nil))), (sub_consW rfl (fun _ _ h => h) (sub_consW rfl (fun _ _ h => h) (sub_consW rfl (fun _ _ h => h) (sub_consW rfl (fun _ _ h => h) (sub_consW rfl (fun _ _ h => h) sub_nil)))))⟩
                  · rintro g1_f ⟨s20, s21⟩ h; replace h : value_plain_l1b r_value_plain a0 x1 (fun y0 y1 => g1_f (y0, y1)) s20 s21 = some r := h; unfold value_plain_l1b at h
                    change BW _ _ _ ⟨[(2, (PV.rf 0 0)), (3, (PV.rf 1 0)), (54, (PV.sl none 1 (List.map ofV (a0).asList))), (55, (PV.v (.int .i64 ((((a0).asList).length : Nat) : Int)))), (56, (PV.v (.int .i64 ((s20 : Nat) : Int))))], [.box 29 [(PV.v (.int .i64 0)), (PV.v (.bool false)), (PV.v (.int .i64 0)), (PV.v (.float .f64 0)), (ofStr []), (PV.v (.slice none 0 0)), (PV.v (.int .u64 0)), (PV.v (.slice none 0 0)), (PV.v (.slice none 0 0)), (ofStr []), (PV.v (.int .i64 0))], .box 29 [(PV.v (.int .i64 x1)), (PV.v (.bool false)), (PV.v (.int .i64 0)), (PV.v (.float .f64 0)), (ofStr []), (PV.v (.slice none 0 0)), (PV.v (.int .u64 0)), (PV.sl (some 2) 11 (List.map ofTerm s21)), (PV.v (.slice none 0 0)), (ofStr []), (PV.v (.int .i64 0))], .arr 29 (s21).length], _⟩ _
                    refine bw_seq ?_
                    refine bw_region ?_
                    refine ao_step rfl rfl rfl ((op1_cmp rfl rfl rfl rfl).cast (y := (PV.v (.bool (decide (((s20 : Nat) : Int) < ((((a0).asList).length : Nat) : Int)))))) rfl rfl) ?_
                    refine ao_nil ?_
                    change BW _ _ _ _ _
                    refine bw_seq ?_
                    refine bw_len (t := 54) rfl fun hb23 => ?_
                    try rw [List.length_map] at hb23
                    refine bw_cond rfl ?_ ?_
                    · intro hc22; replace h := ocond_t hc22 h
                      have hc22_ := of_decide_eq_true hc22
                      refine bw_skip ?_
                      change BW _ _ _ _ _
                      refine bw_seq ?_
                      refine bw_block ?_
                      change BW _ _ _ _ _
                      refine bw_seq ?_
                      refine bw_region ?_
                      obtain ⟨x24, hx24, h⟩ := obind h
                      refine ao_step rfl rfl rfl (op1_idxN (i := s20) Try.underlying60 inf_20 rfl rfl rfl hx24 rfl) ?_
                      refine ao_step rfl rfl rfl (op1_ldP (y := (ofV x24)) Try.underlying20 rfl rfl rfl (by rw [cells_V]; rfl)) ?_
                      refine ao_step rfl rfl rfl (op1_assign rfl rfl) ?_
                      refine ao_nil ?_
                      change BW _ _ _ _ _
                      refine bw_tail 5 [4] [1] mo (by kernel_rfl) ?_
                      refine ac_go rfl rfl rfl rfl (fun H hp => op1_faR st_29 (i := 7) rfl rfl rfl) ?_
                      refine ac_go rfl rfl rfl rfl (fun H hp => (op1_ldR Try.underlying26 rfl rfl rfl (hp.at rfl rfl) rfl).cast (y := (PV.sl (some 2) 11 (List.map ofTerm s21))) rfl rfl) ?_
                      refine ac_go rfl rfl rfl rfl (fun H hp => op1_move rfl rfl) ?_
                      obtain ⟨x25, hx25, h⟩ := obind h
                      refine ac_go rfl rfl rfl rfl (fun H hp => op1_pcall rfl en_42 rfl (.cons (Wk.refl _) .nil) ⟨(ids_V x24), trivial⟩ (c_value_plain x24 x25 hx25) (ids_TermX x25)) ?_
                      refine ac_lgo rfl rfl rfl rfl ((op1_bslice (xs := [(ofTermX x25)]) Try.underlying26 inf_29 rfl rfl rfl rfl rfl rfl ⟨Nat.le_of_ble_eq_true rfl, Nat.le_of_ble_eq_true rfl⟩ rfl).cast (y := (PV.sl (some 3) 11 (List.map ofTerm ([x25] : (List Term))))) (by simp only [List.map_cons, List.map_nil, ofTerm_eq]; try rfl) rfl) ⟨rfl, trivial⟩ ?_
                      refine ac_nil ?_
                      change AO _ _ _ _ _
                      obtain ⟨x26, hx26, h⟩ := obind h
                      refine ao_step rfl rfl rfl (op1_appM Try.underlying26 inf_29 rfl Try.underlying26 rfl rfl rfl rfl csz_Term call1_Term hx26 rfl) ?_
                      refine ao_step rfl rfl rfl (op1_faR st_29 (i := 7) rfl rfl rfl) ?_
                      refine ao_step0 rfl rfl (op1_store inf_26 rfl rfl rfl rfl rfl rfl (Nat.le_of_ble_eq_true rfl) rfl) ?_
                      refine ao_nil ?_
                      change BW _ _ _ _ _
                      refine bw_region ?_
                      refine ao_step rfl rfl rfl (op1_incN (k := s20) (c := 1) rfl rfl rfl (by omega)) ?_
                      refine ao_step rfl rfl rfl (op1_move rfl rfl) ?_
                      refine ao_nil ?_
                      exact ⟨rfl, ((s20 + 1), x26), h, ⟨(.cons .same (.cons .same (.cons .same .nil))), (sub_consW rfl (fun _ _ h => h) (sub_consW rfl (fun _ _ h => h) (sub_consW rfl (fun _ _ h => h) (sub_consW rfl (fun _ _ h => h) (sub_consW rfl (fun _ _ h => h) sub_nil)))))⟩⟩
                    · intro hc22; replace h := ocond_f hc22 h
                      refine bw_exit ?_
                      exact ⟨rfl, (false, 0, 0, [], [], 0, s21, [], [], 0), h, ⟨(.cons .same (.cons (.box (.cons (Wk.refl _) (.cons (Wk.refl _) (.cons (Wk.refl _) (.cons (Wk.refl _) (.cons (Wk.refl _) (.cons Wk.nil (.cons (Wk.refl _) (.cons Wk.tok (.cons Wk.nil (.cons (Wk.refl _) (.cons (Wk.refl _) .nil)))))))))))) .nil)), (sub_consW rfl (fun _ _ h => h) (sub_consW rfl (fun _ _ h => h) sub_nil))⟩⟩
                · intro hc19; replace h := ocond_f hc19 h
                  refine bw_seq ?_
                  refine bw_region ?_
                  refine ao_step rfl rfl rfl (op1_taDict rfl rfl) ?_
                  refine ao_step rfl rfl rfl (op1_ext rfl rfl rfl) ?_
                  refine ao_step rfl rfl rfl (op1_ext rfl rfl rfl) ?_
                  refine ao_nil ?_
                  change BW _ _ _ _ _
                  refine bw_cond rfl ?_ ?_
                  · intro hc27; replace h := ocond_t hc27 h
                    refine bw_seq ?_
                    refine bw_region ?_
                    refine ao_step rfl rfl rfl (op1_assign rfl rfl) ?_
                    refine ao_nil ?_
                    change BW _ _ _ _ _
                    refine bw_region ?_
                    refine ao_step rfl rfl rfl (op1_move rfl rfl) ?_
                    obtain ⟨x28, hx28, h⟩ := obind h
                    refine ao_step rfl rfl rfl (op1_pcall rfl en_57 rfl (.cons (Wk.refl _) .nil) ⟨(ids_slM ids_Fld ((a0).asDict)), trivial⟩ (c_value_entries ((a0).asDict) x28 hx28) (ids_slM ids_Entry x28)) ?_
                    refine ao_step rfl rfl rfl (op1_faR st_29 (i := 8) rfl rfl rfl) ?_
                    refine ao_step0 rfl rfl (op1_store inf_27 rfl rfl rfl rfl rfl rfl (Nat.le_of_ble_eq_true rfl) rfl) ?_
                    refine ao_nil ?_
                    exact ⟨rfl, (false, 0, 0, [], [], 0, [], x28, [], 0), h, ⟨(.cons .same (.cons (.box (.cons (Wk.refl _) (.cons (Wk.refl _) (.cons (Wk.refl _) (.cons (Wk.refl _) (.cons (Wk.refl _) (.cons Wk.nil (.cons (Wk.refl _) (.cons Wk.nil (.cons (Wk.refl _) (.cons (Wk.refl _) (.cons (Wk.refl _) .nil)))))))))))) .nil)), (sub_consW rfl (fun _ _ h => h) (sub_consW rfl (fun _ _ h => h) sub_nil))⟩⟩
                  · intro hc27; replace h := ocond_f hc27 h
                    refine bw_seq ?_
                    refine bw_region ?_
                    refine ao_step rfl rfl rfl (op1_taRec rfl rfl) ?_
                    refine ao_step rfl rfl rfl (op1_ext rfl rfl rfl) ?_
                    refine ao_step rfl rfl rfl (op1_ext rfl rfl rfl) ?_
                    refine ao_nil ?_
                    change BW _ _ _ _ _
                    refine bw_cond rfl ?_ ?_
                    · intro hc29; replace h := ocond_t hc29 h
                      refine bw_seq ?_
                      refine bw_region ?_
                      refine ao_step rfl rfl rfl (op1_assign rfl rfl) ?_
                      refine ao_nil ?_
                      change BW _ _ _ _ _
                      refine bw_tail 15 [14] [] mo (by kernel_rfl) ?_
                      refine ac_go rfl rfl rfl rfl (fun H hp => op1_move rfl rfl) ?_
                      obtain ⟨x30, hx30, h⟩ := obind h
                      refine ac_go rfl rfl rfl rfl (fun H hp => op1_pNil rfl rfl hx30) ?_
                      refine ac_go rfl rfl rfl rfl (fun H hp => op1_faP st_70 (i := 0) rfl rfl rfl) ?_
                      refine ac_go rfl rfl rfl rfl (fun H hp => op1_ldP (y := (ofStr x30.cls)) Try.underlying9 rfl rfl rfl rfl) ?_
                      refine ac_go rfl rfl rfl rfl (fun H hp => op1_move rfl rfl) ?_
                      refine ac_go rfl rfl rfl rfl (fun H hp => op1_pNil rfl rfl hx30) ?_
                      refine ac_go rfl rfl rfl rfl (fun H hp => op1_faP st_70 (i := 1) rfl rfl rfl) ?_
                      refine ac_go rfl rfl rfl rfl (fun H hp => op1_ldP (y := (PV.v (.int .i64 x30.ver))) Try.underlying3 rfl rfl rfl rfl) ?_
                      refine ac_go rfl rfl rfl rfl (fun H hp => op1_move rfl rfl) ?_
                      refine ac_go rfl rfl rfl rfl (fun H hp => op1_pNil rfl rfl hx30) ?_
                      refine ac_go rfl rfl rfl rfl (fun H hp => op1_faP st_70 (i := 2) rfl rfl rfl) ?_
                      refine ac_go rfl rfl rfl rfl (fun H hp => op1_ldP (y := (PV.sl none 2 (List.map ofFld x30.fields))) Try.underlying58 rfl rfl rfl rfl) ?_
                      obtain ⟨x31, hx31, h⟩ := obind h
                      refine ac_go rfl rfl rfl rfl (fun H hp => op1_pcall rfl en_57 rfl (.cons (Wk.refl _) .nil) ⟨(ids_slM ids_Fld x30.fields), trivial⟩ (c_value_entries x30.fields x31 hx31) (ids_slM ids_Entry x31)) ?_
                      refine ac_go rfl rfl rfl rfl (fun H hp => op1_faR st_29 (i := 9) rfl rfl rfl) ?_
                      refine ac_lgo0 rfl rfl rfl (op1_store inf_9 rfl rfl rfl rfl rfl rfl (Nat.le_of_ble_eq_true rfl) rfl) trivial ?_
                      refine ac_nil ?_
                      change AO _ _ _ _ _
                      refine ao_step rfl rfl rfl (op1_faR st_29 (i := 10) rfl rfl rfl) ?_
                      refine ao_step0 rfl rfl (op1_store inf_3 rfl rfl rfl rfl rfl rfl (Nat.le_of_ble_eq_true rfl) rfl) ?_
                      refine ao_step rfl rfl rfl (op1_faR st_29 (i := 8) rfl rfl rfl) ?_
                      refine ao_step0 rfl rfl (op1_store inf_27 rfl rfl rfl rfl rfl rfl (Nat.le_of_ble_eq_true rfl) rfl) ?_
                      refine ao_nil ?_
                      exact ⟨rfl, (false, 0, 0, [], [], 0, [], x31, x30.cls, x30.ver), h, ⟨(.cons .same (.cons (.box (.cons (Wk.refl _) (.cons (Wk.refl _) (.cons (Wk.refl _) (.cons (Wk.refl _) (.cons (Wk.refl _) (.cons Wk.nil (.cons (Wk.refl _) (.cons Wk.nil (.cons (Wk.refl _) (.cons (Wk.refl _) (.cons (Wk.refl _) .nil)))))))))))) .nil)), (sub_consW rfl (fun _ _ h => h) (sub_consW rfl (fun _ _ h => h) sub_nil))⟩⟩
                    · intro hc29; replace h := ocond_f hc29 h
                      refine bw_skip ?_
                      exact ⟨rfl, (false, 0, 0, [], [], 0, [], [], [], 0), h, ⟨(.cons .same (.cons (.box (.cons (Wk.refl _) (.cons (Wk.refl _) (.cons (Wk.refl _) (.cons (Wk.refl _) (.cons (Wk.refl _) (.cons Wk.nil (.cons (Wk.refl _) (.cons Wk.nil (.cons Wk.nil (.cons (Wk.refl _) (.cons (Wk.refl _) .nil)))))))))))) .nil)), (sub_consW rfl (fun _ _ h => h) (sub_consW rfl (fun _ _ h => h) sub_nil))⟩⟩
theorem C_value_entries.sound : ∀ (i : C_value_entries) (r : i.R), fixO C_value_entries.F i = some r → C_value_entries.Q i r := by
  refine fixO_ind (Φ := C_value_entries.F) (Q := C_value_entries.Q) ?_
  intro g hg i r h
  cases i with
  | k_value_entries a0 => exact t_value_entries (fun a0 => g (.k_value_entries a0)) (fun a0 r hr => hg (.k_value_entries a0) r hr) (fun a0 => g (.k_value_plain a0)) (fun a0 r hr => hg (.k_value_plain a0) r hr) a0 r h
  | k_value_plain a0 => exact t_value_plain (fun a0 => g (.k_value_entries a0)) (fun a0 r hr => hg (.k_value_entries a0) r hr) (fun a0 => g (.k_value_plain a0)) (fun a0 r hr => hg (.k_value_plain a0) r hr) a0 r h
theorem s_value_entries (a0 : (List (Str × V))) (r : (List (Str × Term))) (h : p_value_entries a0 = some r) : PCalls Try.prog 57 [(PV.sl none 2 (List.map ofFld a0))] (PV.sl none 12 (List.map ofEntry r)) := C_value_entries.sound (.k_value_entries a0) r h
theorem s_value_plain (a0 : V) (r : Term) (h : p_value_plain a0 = some r) : PCalls Try.prog 42 [(ofV a0)] (ofTermX r) := C_value_entries.sound (.k_value_plain a0) r h
noncomputable def p_value_Plain (a0 : V) : Option (Term × Int) :=
  Option.bind (p_value_check a0) fun x1 =>
  bif (x1.2 != 0) then (
    some ((Term.mk 0 false 0 0 [] [] 0 [] [] [] 0), x1.2)
  ) else (
    Option.bind (p_value_plain a0) fun x3 =>
    some (x3, 0)
  )
theorem s_value_Plain (a0 : V) (r : (Term × Int)) (h : p_value_Plain a0 = some r) : PCalls Try.prog 22 [(ofV a0)] (PV.tup [(ofTermX r.1), (PV.v (.int .i64 r.2))]) := by
  unfold p_value_Plain at h
  refine acalls_of Try.func22 rfl Try.ntmps22 Try.results22 rfl (aw_of_bw ?_)
  change BW _ _ _ ⟨[(0, (ofV a0))], [], _⟩ _
  refine bw_seq ?_
  refine bw_region ?_
  refine ao_step rfl rfl rfl (op1_alloc inf_29 rfl) ?_
  refine ao_step rfl rfl rfl (op1_assign rfl rfl) ?_
  refine ao_nil ?_
  change BW _ _ _ _ _
  refine bw_seq ?_
  refine bw_seq ?_
  refine bw_region ?_
  refine ao_step rfl rfl rfl (op1_move rfl rfl) ?_
  obtain ⟨x1, hx1, h⟩ := obind h
  refine ao_step rfl rfl rfl (op1_pcall rfl en_34 rfl (.cons (Wk.refl _) .nil) ⟨(ids_V a0), trivial⟩ (s_value_check a0 x1 hx1) (ids_tup_cons rfl (ids_tup_cons rfl ids_tup_nil))) ?_
  refine ao_step rfl rfl rfl (op1_move rfl rfl) ?_
  refine ao_step rfl rfl rfl (op1_ext rfl rfl rfl) ?_
  refine ao_step rfl rfl rfl (op1_ext rfl rfl rfl) ?_
  refine ao_step rfl rfl rfl (op1_assign rfl rfl) ?_
  refine ao_step rfl rfl rfl (op1_assign rfl rfl) ?_
  refine ao_nil ?_
  change BW _ _ _ _ _
  refine bw_seq ?_
  refine bw_region ?_
  refine ao_step rfl rfl rfl (op1_move rfl rfl) ?_
  refine ao_step rfl rfl rfl ((op1_cmp rfl rfl rfl rfl).cast (y := (PV.v (.bool (x1.2 != 0)))) rfl rfl) ?_
  refine ao_nil ?_
  change BW _ _ _ _ _
  refine bw_cond rfl ?_ ?_
  · intro hc2; replace h := ocond_t hc2 h
    refine bw_seq ?_
    refine bw_region ?_
    refine ao_step rfl rfl rfl (op1_build (cs := [(PV.v (.int .i64 0)), (PV.v (.bool false)), (PV.v (.int .i64 0)), (PV.v (.float .f64 0)), (ofStr []), (PV.v (.slice none 0 0)), (PV.v (.int .u64 0)), (PV.v (.slice none 0 0)), (PV.v (.slice none 0 0)), (ofStr []), (PV.v (.int .i64 0))]) st_29 inf_29 rfl rfl rfl rfl) ?_
    refine ao_step rfl rfl rfl (op1_move rfl rfl) ?_
    refine ao_step0 rfl rfl (op1_store inf_29 rfl rfl rfl rfl rfl rfl (Nat.le_of_ble_eq_true rfl) rfl) ?_
    refine ao_step rfl rfl rfl (op1_assign rfl rfl) ?_
    refine ao_nil ?_
    change BW _ _ _ _ _
    refine bw_ret ?_
    change ∃ xs, _ = some xs ∧ EndOk _ _ _ _
    obtain rfl := Option.some.inj h
    exact ⟨_, rfl, endOk0 (y := (PV.tup [(ofTermX (Term.mk 0 false 0 0 [] [] 0 [] [] [] 0)), (PV.v (.int .i64 x1.2))])) (Wk.tup (.cons (Wk.agg (.cons (Wk.refl _) (.cons (Wk.refl _) (.cons (Wk.refl _) (.cons (Wk.refl _) (.cons (Wk.refl _) (.cons Wk.nil (.cons (Wk.refl _) (.cons Wk.nil (.cons Wk.nil (.cons (Wk.refl _) (.cons (Wk.refl _) .nil)))))))))))) (.cons (Wk.refl _) .nil))) (ids_tup_cons (ids_TermX (Term.mk 0 false 0 0 [] [] 0 [] [] [] 0)) (ids_tup_cons rfl ids_tup_nil)) ⟨rfl, rfl⟩⟩
  · intro hc2; replace h := ocond_f hc2 h
    refine bw_skip ?_
    change BW _ _ _ _ _
    refine bw_seq ?_
    refine bw_region ?_
    refine ao_step rfl rfl rfl (op1_move rfl rfl) ?_
    obtain ⟨x3, hx3, h⟩ := obind h
    refine ao_step rfl rfl rfl (op1_pcall rfl en_42 rfl (.cons (Wk.refl _) .nil) ⟨(ids_V a0), trivial⟩ (s_value_plain a0 x3 hx3) (ids_TermX x3)) ?_
    refine ao_step0 rfl rfl (op1_store inf_29 rfl rfl rfl rfl rfl rfl (Nat.le_of_ble_eq_true rfl) rfl) ?_
    refine ao_step rfl rfl rfl (op1_assign rfl rfl) ?_
    refine ao_nil ?_
    change BW _ _ _ _ _
    refine bw_ret ?_
    change ∃ xs, _ = some xs ∧ EndOk _ _ _ _
    obtain rfl := Option.some.inj h
    exact ⟨_, rfl, endOk0 (y := (PV.tup [(ofTermX x3), (PV.v (.int .i64 0))])) (Wk.refl _) (ids_tup_cons (ids_TermX x3) (ids_tup_cons rfl ids_tup_nil)) ⟨rfl, rfl⟩⟩
end Go.Proofs.Ythfdpaboekoncaa
