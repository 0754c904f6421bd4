/- Pure functions, and that calls answer as they say. Written by gen.py. -/
import Derived.Test.YthfdpaboekoncaaG3
namespace Go.Proofs.Ythfdpaboekoncaa
open Go Aw
set_option linter.unusedVariables false
set_option linter.unusedSimpArgs false
set_option maxRecDepth 20000
set_option maxHeartbeats 2000000
noncomputable def p_law01_ValueKinds (a0 : Term) : Option Bool :=
  Option.bind (p_mk_Built a0) fun x1 =>
  Option.bind (p_value_Check x1) fun x2 =>
  Option.bind (p_ref01_Check a0) fun x3 =>
  Option.bind (p_value_Size x1) fun x4 =>
  Option.bind (p_ref01_Size a0) fun x5 =>
  Option.bind (p_value_Kind x1) fun x6 =>
  Option.bind (p_law01_kind a0) fun x7 =>
  bif (x6 == x7) then (
    bif (x2.1 == x3.1) then (
      bif (x2.2 == x3.2) then (
        bif (x4.1 == x5.1) then (
          bif (x4.2.1 == x5.2.1) then (
            bif (x4.2.2 == x5.2.2) then (
              Option.bind (p_value_Kind (V.bool true)) fun x14 =>
              some (x14 == 2)
            ) else (
              some false
            )
          ) else (
            some false
          )
        ) else (
          some false
        )
      ) else (
        some false
      )
    ) else (
      some false
    )
  ) else (
    some false
  )
theorem s_law01_ValueKinds (a0 : Term) (r : Bool) (h : p_law01_ValueKinds a0 = some r) : PCalls Try.prog 3 [(ofTermX a0)] (PV.v (.bool r)) := by
  unfold p_law01_ValueKinds at h
  refine acalls_of Try.func3 rfl Try.ntmps3 Try.results3 rfl (aw_of_bw ?_)
  change BW _ _ _ ⟨[(0, (ofTermX a0))], [], _⟩ _
  refine bw_seq ?_
  refine bw_region ?_
  refine ao_step rfl rfl rfl (op1_box rfl rfl rfl) ?_
  refine ao_step rfl rfl rfl (op1_assign rfl rfl) ?_
  refine ao_nil ?_
  change BW _ _ _ _ _
  refine bw_seq ?_
  refine bw_region ?_
  refine ao_step rfl rfl rfl ((op1_ldRA inf_29 Try.underlying29 rfl rfl rfl rfl rfl rfl).cast (y := (PV.agg [(PV.v (.int .i64 a0.kind)), (PV.v (.bool a0.bool)), (PV.v (.int .i64 a0.int)), (PV.v (.float .f64 a0.float)), (ofStr a0.text), (PV.sl none 1 (List.map ofB a0.bytes)), (PV.v (.int .u64 a0.ref)), (PV.sl none 11 (List.map ofTerm a0.list)), (PV.sl none 12 (List.map ofEntry a0.fields)), (ofStr a0.cls), (PV.v (.int .i64 a0.ver))])) rfl rfl) ?_
  obtain ⟨x1, hx1, h⟩ := obind h
  refine ao_step rfl rfl rfl (op1_pcall rfl en_11 rfl (.cons (Wk.refl _) .nil) ⟨(ids_TermX a0), trivial⟩ (s_mk_Built a0 x1 hx1) (ids_V x1)) ?_
  refine ao_step rfl rfl rfl (op1_assign rfl rfl) ?_
  refine ao_nil ?_
  change BW _ _ _ _ _
  refine bw_seq ?_
  refine bw_region ?_
  refine ao_step rfl rfl rfl (op1_move rfl rfl) ?_
  obtain ⟨x2, hx2, h⟩ := obind h
  refine ao_step rfl rfl rfl (op1_pcall rfl en_12 rfl (.cons (Wk.refl _) .nil) ⟨(ids_V x1), trivial⟩ (s_value_Check x1 x2 hx2) (ids_tup_cons rfl (ids_tup_cons rfl ids_tup_nil))) ?_
  refine ao_step rfl rfl rfl (op1_move rfl rfl) ?_
  refine ao_step rfl rfl rfl (op1_ext rfl rfl rfl) ?_
  refine ao_step rfl rfl rfl (op1_ext rfl rfl rfl) ?_
  refine ao_step rfl rfl rfl (op1_assign rfl rfl) ?_
  refine ao_step rfl rfl rfl (op1_assign rfl rfl) ?_
  refine ao_nil ?_
  change BW _ _ _ _ _
  refine bw_seq ?_
  refine bw_region ?_
  refine ao_step rfl rfl rfl ((op1_ldRA inf_29 Try.underlying29 rfl rfl rfl rfl rfl rfl).cast (y := (PV.agg [(PV.v (.int .i64 a0.kind)), (PV.v (.bool a0.bool)), (PV.v (.int .i64 a0.int)), (PV.v (.float .f64 a0.float)), (ofStr a0.text), (PV.sl none 1 (List.map ofB a0.bytes)), (PV.v (.int .u64 a0.ref)), (PV.sl none 11 (List.map ofTerm a0.list)), (PV.sl none 12 (List.map ofEntry a0.fields)), (ofStr a0.cls), (PV.v (.int .i64 a0.ver))])) rfl rfl) ?_
  obtain ⟨x3, hx3, h⟩ := obind h
  refine ao_step rfl rfl rfl (op1_pcall rfl en_13 rfl (.cons (Wk.refl _) .nil) ⟨(ids_TermX a0), trivial⟩ (s_ref01_Check a0 x3 hx3) (ids_tup_cons rfl (ids_tup_cons rfl ids_tup_nil))) ?_
  refine ao_step rfl rfl rfl (op1_move rfl rfl) ?_
  refine ao_step rfl rfl rfl (op1_ext rfl rfl rfl) ?_
  refine ao_step rfl rfl rfl (op1_ext rfl rfl rfl) ?_
  refine ao_step rfl rfl rfl (op1_assign rfl rfl) ?_
  refine ao_step rfl rfl rfl (op1_assign rfl rfl) ?_
  refine ao_nil ?_
  change BW _ _ _ _ _
  refine bw_seq ?_
  refine bw_region ?_
  refine ao_step rfl rfl rfl (op1_move rfl rfl) ?_
  obtain ⟨x4, hx4, h⟩ := obind h
  refine ao_step rfl rfl rfl (op1_pcall rfl en_14 rfl (.cons (Wk.refl _) .nil) ⟨(ids_V x1), trivial⟩ (s_value_Size x1 x4 hx4) (ids_tup_cons rfl (ids_tup_cons rfl (ids_tup_cons rfl ids_tup_nil)))) ?_
  refine ao_step rfl rfl rfl (op1_move rfl rfl) ?_
  refine ao_step rfl rfl rfl (op1_ext rfl rfl rfl) ?_
  refine ao_step rfl rfl rfl (op1_ext rfl rfl rfl) ?_
  refine ao_step rfl rfl rfl (op1_ext rfl rfl rfl) ?_
  refine ao_step rfl rfl rfl (op1_assign rfl rfl) ?_
  refine ao_step rfl rfl rfl (op1_assign rfl rfl) ?_
  refine ao_step rfl rfl rfl (op1_assign rfl rfl) ?_
  refine ao_nil ?_
  change BW _ _ _ _ _
  refine bw_seq ?_
  refine bw_region ?_
  refine ao_step rfl rfl rfl ((op1_ldRA inf_29 Try.underlying29 rfl rfl rfl rfl rfl rfl).cast (y := (PV.agg [(PV.v (.int .i64 a0.kind)), (PV.v (.bool a0.bool)), (PV.v (.int .i64 a0.int)), (PV.v (.float .f64 a0.float)), (ofStr a0.text), (PV.sl none 1 (List.map ofB a0.bytes)), (PV.v (.int .u64 a0.ref)), (PV.sl none 11 (List.map ofTerm a0.list)), (PV.sl none 12 (List.map ofEntry a0.fields)), (ofStr a0.cls), (PV.v (.int .i64 a0.ver))])) rfl rfl) ?_
  obtain ⟨x5, hx5, h⟩ := obind h
  refine ao_step rfl rfl rfl (op1_pcall rfl en_15 rfl (.cons (Wk.refl _) .nil) ⟨(ids_TermX a0), trivial⟩ (s_ref01_Size a0 x5 hx5) (ids_tup_cons rfl (ids_tup_cons rfl (ids_tup_cons rfl ids_tup_nil)))) ?_
  refine ao_step rfl rfl rfl (op1_move rfl rfl) ?_
  refine ao_step rfl rfl rfl (op1_ext rfl rfl rfl) ?_
  refine ao_step rfl rfl rfl (op1_ext rfl rfl rfl) ?_
  refine ao_step rfl rfl rfl (op1_ext rfl rfl rfl) ?_
  refine ao_step rfl rfl rfl (op1_assign rfl rfl) ?_
  refine ao_step rfl rfl rfl (op1_assign rfl rfl) ?_
  refine ao_step rfl rfl rfl (op1_assign rfl rfl) ?_
  refine ao_nil ?_
  change BW _ _ _ _ _
  refine bw_seq ?_
  refine bw_tail 28 [] [0] mo (by kernel_rfl) ?_
  refine ac_go rfl rfl rfl rfl (fun H hp => op1_move rfl rfl) ?_
  obtain ⟨x6, hx6, h⟩ := obind h
  refine ac_go rfl rfl rfl rfl (fun H hp => op1_pcall rfl en_16 rfl (.cons (Wk.refl _) .nil) ⟨(ids_V x1), trivial⟩ (s_value_Kind x1 x6 hx6) rfl) ?_
  refine ac_go rfl rfl rfl rfl (fun H hp => (op1_ldRA inf_29 Try.underlying29 rfl rfl rfl (hp.at rfl rfl) rfl rfl).cast (y := (PV.agg [(PV.v (.int .i64 a0.kind)), (PV.v (.bool a0.bool)), (PV.v (.int .i64 a0.int)), (PV.v (.float .f64 a0.float)), (ofStr a0.text), (PV.sl none 1 (List.map ofB a0.bytes)), (PV.v (.int .u64 a0.ref)), (PV.sl none 11 (List.map ofTerm a0.list)), (PV.sl none 12 (List.map ofEntry a0.fields)), (ofStr a0.cls), (PV.v (.int .i64 a0.ver))])) rfl rfl) ?_
  obtain ⟨x7, hx7, h⟩ := obind h
  refine ac_go rfl rfl rfl rfl (fun H hp => op1_pcall rfl en_17 rfl (.cons (Wk.refl _) .nil) ⟨(ids_TermX a0), trivial⟩ (s_law01_kind a0 x7 hx7) rfl) ?_
  refine ac_go rfl rfl rfl rfl (fun H hp => (op1_cmp rfl rfl rfl rfl).cast (y := (PV.v (.bool (x6 == x7)))) rfl rfl) ?_
  refine ac_go rfl rfl rfl rfl (fun H hp => op1_move rfl rfl) ?_
  refine ac_cases 43 rfl ?_ ?_
  · intro hb8; replace h := ocond_t hb8 h
    refine ac_yes rfl rfl rfl rfl rfl rfl rfl (fun H hp => op1_move rfl rfl) ?_
    refine ac_yes rfl rfl rfl rfl rfl rfl rfl (fun H hp => op1_move rfl rfl) ?_
    refine ac_yes rfl rfl rfl rfl rfl rfl rfl (fun H hp => (op1_cmp rfl rfl rfl rfl).cast (y := (PV.v (.bool (x2.1 == x3.1)))) rfl rfl) ?_
    refine ac_go rfl rfl rfl rfl (fun H hp => op1_pickT rfl rfl rfl) ?_
    refine ac_go rfl rfl rfl rfl (fun H hp => op1_move rfl rfl) ?_
    refine ac_cases 48 rfl ?_ ?_
    · intro hb9; replace h := ocond_t hb9 h
      refine ac_yes rfl rfl rfl rfl rfl rfl rfl (fun H hp => op1_move rfl rfl) ?_
      refine ac_yes rfl rfl rfl rfl rfl rfl rfl (fun H hp => op1_move rfl rfl) ?_
      refine ac_yes rfl rfl rfl rfl rfl rfl rfl (fun H hp => (op1_cmp rfl rfl rfl rfl).cast (y := (PV.v (.bool (x2.2 == x3.2)))) rfl rfl) ?_
      refine ac_go rfl rfl rfl rfl (fun H hp => op1_pickT rfl rfl rfl) ?_
      refine ac_go rfl rfl rfl rfl (fun H hp => op1_move rfl rfl) ?_
      refine ac_cases 53 rfl ?_ ?_
      · intro hb10; replace h := ocond_t hb10 h
        refine ac_yes rfl rfl rfl rfl rfl rfl rfl (fun H hp => op1_move rfl rfl) ?_
        refine ac_yes rfl rfl rfl rfl rfl rfl rfl (fun H hp => op1_move rfl rfl) ?_
        refine ac_yes rfl rfl rfl rfl rfl rfl rfl (fun H hp => (op1_cmp rfl rfl rfl rfl).cast (y := (PV.v (.bool (x4.1 == x5.1)))) rfl rfl) ?_
        refine ac_go rfl rfl rfl rfl (fun H hp => op1_pickT rfl rfl rfl) ?_
        refine ac_go rfl rfl rfl rfl (fun H hp => op1_move rfl rfl) ?_
        refine ac_cases 58 rfl ?_ ?_
        · intro hb11; replace h := ocond_t hb11 h
          refine ac_yes rfl rfl rfl rfl rfl rfl rfl (fun H hp => op1_move rfl rfl) ?_
          refine ac_yes rfl rfl rfl rfl rfl rfl rfl (fun H hp => op1_move rfl rfl) ?_
          refine ac_yes rfl rfl rfl rfl rfl rfl rfl (fun H hp => (op1_cmp rfl rfl rfl rfl).cast (y := (PV.v (.bool (x4.2.1 == x5.2.1)))) rfl rfl) ?_
          refine ac_go rfl rfl rfl rfl (fun H hp => op1_pickT rfl rfl rfl) ?_
          refine ac_go rfl rfl rfl rfl (fun H hp => op1_move rfl rfl) ?_
          refine ac_cases 63 rfl ?_ ?_
          · intro hb12; replace h := ocond_t hb12 h
            refine ac_yes rfl rfl rfl rfl rfl rfl rfl (fun H hp => op1_move rfl rfl) ?_
            refine ac_yes rfl rfl rfl rfl rfl rfl rfl (fun H hp => op1_move rfl rfl) ?_
            refine ac_nil ?_
            change AO _ _ _ _ _
            refine ao_yes rfl rfl rfl rfl rfl rfl ((op1_cmp rfl rfl rfl rfl).cast (y := (PV.v (.bool (x4.2.2 == x5.2.2)))) rfl rfl) ?_
            refine ao_step rfl rfl rfl (op1_pickT rfl rfl rfl) ?_
            refine ao_step rfl rfl rfl (op1_move rfl rfl) ?_
            refine ao_cases (t := 68) rfl ?_ ?_
            · intro hb13; replace h := ocond_t hb13 h
              refine ao_yes rfl rfl rfl rfl rfl rfl ((op1_mkI Try.underlying4 rfl rfl rfl).wk ((Wk.iface (Wk.refl _)).trans (Wk.eq (mk_bool _).symm))) ?_
              obtain ⟨x14, hx14, h⟩ := obind h
              refine ao_yes rfl rfl rfl rfl rfl rfl (op1_pcall rfl en_16 rfl (.cons (Wk.refl _) .nil) ⟨(ids_V (V.bool true)), trivial⟩ (s_value_Kind (V.bool true) x14 hx14) rfl) ?_
              refine ao_yes rfl rfl rfl rfl rfl rfl ((op1_cmp rfl rfl rfl rfl).cast (y := (PV.v (.bool (x14 == 2)))) rfl rfl) ?_
              refine ao_step rfl rfl rfl (op1_pickT rfl rfl rfl) ?_
              refine ao_step rfl rfl rfl (op1_assign rfl rfl) ?_
              refine ao_nil ?_
              change BW _ _ _ _ _
              refine bw_ret ?_
              change ∃ xs, _ = some xs ∧ EndOk _ _ _ _
              obtain rfl := Option.some.inj h
              exact ⟨_, rfl, endOk0 (y := (PV.v (.bool (x14 == 2)))) (Wk.refl _) rfl ⟨rfl, rfl⟩⟩
            · intro hb13; replace h := ocond_f hb13 h
              refine ao_no rfl rfl rfl rfl rfl rfl ?_
              refine ao_no rfl rfl rfl rfl rfl rfl ?_
              refine ao_no rfl rfl rfl rfl rfl rfl ?_
              refine ao_step rfl rfl rfl (op1_pickF rfl rfl rfl) ?_
              refine ao_step rfl rfl rfl (op1_assign rfl rfl) ?_
              refine ao_nil ?_
              change BW _ _ _ _ _
              refine bw_ret ?_
              change ∃ xs, _ = some xs ∧ EndOk _ _ _ _
              obtain rfl := Option.some.inj h
              exact ⟨_, rfl, endOk0 (y := (PV.v (.bool false))) (Wk.refl _) rfl ⟨rfl, rfl⟩⟩
          · intro hb12; replace h := ocond_f hb12 h
            refine ac_no rfl rfl rfl rfl rfl rfl rfl ?_
            refine ac_no rfl rfl rfl rfl rfl rfl rfl ?_
            refine ac_nil ?_
            change AO _ _ _ _ _
            refine ao_no rfl rfl rfl rfl rfl rfl ?_
            refine ao_step rfl rfl rfl (op1_pickF rfl rfl rfl) ?_
            refine ao_step rfl rfl rfl (op1_move rfl rfl) ?_
            refine ao_no rfl rfl rfl rfl rfl rfl ?_
            refine ao_no rfl rfl rfl rfl rfl rfl ?_
            refine ao_no rfl rfl rfl rfl rfl rfl ?_
            refine ao_step rfl rfl rfl (op1_pickF rfl rfl rfl) ?_
            refine ao_step rfl rfl rfl (op1_assign rfl rfl) ?_
            refine ao_nil ?_
            change BW _ _ _ _ _
            refine bw_ret ?_
            change ∃ xs, _ = some xs ∧ EndOk _ _ _ _
            obtain rfl := Option.some.inj h
            exact ⟨_, rfl, endOk0 (y := (PV.v (.bool false))) (Wk.refl _) rfl ⟨rfl, rfl⟩⟩
        · intro hb11; replace h := ocond_f hb11 h
          refine ac_no rfl rfl rfl rfl rfl rfl rfl ?_
          refine ac_no rfl rfl rfl rfl rfl rfl rfl ?_
          refine ac_no rfl rfl rfl rfl rfl rfl rfl ?_
          refine ac_go rfl rfl rfl rfl (fun H hp => op1_pickF rfl rfl rfl) ?_
          refine ac_go rfl rfl rfl rfl (fun H hp => op1_move rfl rfl) ?_
          refine ac_no rfl rfl rfl rfl rfl rfl rfl ?_
          refine ac_no rfl rfl rfl rfl rfl rfl rfl ?_
          refine ac_nil ?_
          change AO _ _ _ _ _
          refine ao_no rfl rfl rfl rfl rfl rfl ?_
          refine ao_step rfl rfl rfl (op1_pickF rfl rfl rfl) ?_
          refine ao_step rfl rfl rfl (op1_move rfl rfl) ?_
          refine ao_no rfl rfl rfl rfl rfl rfl ?_
          refine ao_no rfl rfl rfl rfl rfl rfl ?_
          refine ao_no rfl rfl rfl rfl rfl rfl ?_
          refine ao_step rfl rfl rfl (op1_pickF rfl rfl rfl) ?_
          refine ao_step rfl rfl rfl (op1_assign rfl rfl) ?_
          refine ao_nil ?_
          change BW _ _ _ _ _
          refine bw_ret ?_
          change ∃ xs, _ = some xs ∧ EndOk _ _ _ _
          obtain rfl := Option.some.inj h
          exact ⟨_, rfl, endOk0 (y := (PV.v (.bool false))) (Wk.refl _) rfl ⟨rfl, rfl⟩⟩
      · intro hb10; replace h := ocond_f hb10 h
        refine ac_no rfl rfl rfl rfl rfl rfl rfl ?_
        refine ac_no rfl rfl rfl rfl rfl rfl rfl ?_
        refine ac_no rfl rfl rfl rfl rfl rfl rfl ?_
        refine ac_go rfl rfl rfl rfl (fun H hp => op1_pickF rfl rfl rfl) ?_
        refine ac_go rfl rfl rfl rfl (fun H hp => op1_move rfl rfl) ?_
        refine ac_no rfl rfl rfl rfl rfl rfl rfl ?_
        refine ac_no rfl rfl rfl rfl rfl rfl rfl ?_
        refine ac_no rfl rfl rfl rfl rfl rfl rfl ?_
        refine ac_go rfl rfl rfl rfl (fun H hp => op1_pickF rfl rfl rfl) ?_
        refine ac_go rfl rfl rfl rfl (fun H hp => op1_move rfl rfl) ?_
        refine ac_no rfl rfl rfl rfl rfl rfl rfl ?_
        refine ac_no rfl rfl rfl rfl rfl rfl rfl ?_
        refine ac_nil ?_
        change AO _ _ _ _ _
        refine ao_no rfl rfl rfl rfl rfl rfl ?_
        refine ao_step rfl rfl rfl (op1_pickF rfl rfl rfl) ?_
        refine ao_step rfl rfl rfl (op1_move rfl rfl) ?_
        refine ao_no rfl rfl rfl rfl rfl rfl ?_
        refine ao_no rfl rfl rfl rfl rfl rfl ?_
        refine ao_no rfl rfl rfl rfl rfl rfl ?_
        refine ao_step rfl rfl rfl (op1_pickF rfl rfl rfl) ?_
        refine ao_step rfl rfl rfl (op1_assign rfl rfl) ?_
        refine ao_nil ?_
        change BW _ _ _ _ _
        refine bw_ret ?_
        change ∃ xs, _ = some xs ∧ EndOk _ _ _ _
        obtain rfl := Option.some.inj h
        exact ⟨_, rfl, endOk0 (y := (PV.v (.bool false))) (Wk.refl _) rfl ⟨rfl, rfl⟩⟩
    · intro hb9; replace h := ocond_f hb9 h
      refine ac_no rfl rfl rfl rfl rfl rfl rfl ?_
      refine ac_no rfl rfl rfl rfl rfl rfl rfl ?_
      refine ac_no rfl rfl rfl rfl rfl rfl rfl ?_
      refine ac_go rfl rfl rfl rfl (fun H hp => op1_pickF rfl rfl rfl) ?_
      refine ac_go rfl rfl rfl rfl (fun H hp => op1_move rfl rfl) ?_
      refine ac_no rfl rfl rfl rfl rfl rfl rfl ?_
      refine ac_no rfl rfl rfl rfl rfl rfl rfl ?_
      refine ac_no rfl rfl rfl rfl rfl rfl rfl ?_
      refine ac_go rfl rfl rfl rfl (fun H hp => op1_pickF rfl rfl rfl) ?_
      refine ac_go rfl rfl rfl rfl (fun H hp => op1_move rfl rfl) ?_
      refine ac_no rfl rfl rfl rfl rfl rfl rfl ?_
      refine ac_no rfl rfl rfl rfl rfl rfl rfl ?_
      refine ac_no rfl rfl rfl rfl rfl rfl rfl ?_
      refine ac_go rfl rfl rfl rfl (fun H hp => op1_pickF rfl rfl rfl) ?_
      refine ac_go rfl rfl rfl rfl (fun H hp => op1_move rfl rfl) ?_
      refine ac_no rfl rfl rfl rfl rfl rfl rfl ?_
      refine ac_no rfl rfl rfl rfl rfl rfl rfl ?_
      refine ac_nil ?_
      change AO _ _ _ _ _
      refine ao_no rfl rfl rfl rfl rfl rfl ?_
      refine ao_step rfl rfl rfl (op1_pickF rfl rfl rfl) ?_
      refine ao_step rfl rfl rfl (op1_move rfl rfl) ?_
      refine ao_no rfl rfl rfl rfl rfl rfl ?_
      refine ao_no rfl rfl rfl rfl rfl rfl ?_
      refine ao_no rfl rfl rfl rfl rfl rfl ?_
      refine ao_step rfl rfl rfl (op1_pickF rfl rfl rfl) ?_
      refine ao_step rfl rfl rfl (op1_assign rfl rfl) ?_
      refine ao_nil ?_
      change BW _ _ _ _ _
      refine bw_ret ?_
      change ∃ xs, _ = some xs ∧ EndOk _ _ _ _
      obtain rfl := Option.some.inj h
      exact ⟨_, rfl, endOk0 (y := (PV.v (.bool false))) (Wk.refl _) rfl ⟨rfl, rfl⟩⟩
  · intro hb8; replace h := ocond_f hb8 h
    refine ac_no rfl rfl rfl rfl rfl rfl rfl ?_
    refine ac_no rfl rfl rfl rfl rfl rfl rfl ?_
    refine ac_no rfl rfl rfl rfl rfl rfl rfl ?_
    refine ac_go rfl rfl rfl rfl (fun H hp => op1_pickF rfl rfl rfl) ?_
    refine ac_go rfl rfl rfl rfl (fun H hp => op1_move rfl rfl) ?_
    refine ac_no rfl rfl rfl rfl rfl rfl rfl ?_
    refine ac_no rfl rfl rfl rfl rfl rfl rfl ?_
    refine ac_no rfl rfl rfl rfl rfl rfl rfl ?_
    refine ac_go rfl rfl rfl rfl (fun H hp => op1_pickF rfl rfl rfl) ?_
    refine ac_go rfl rfl rfl rfl (fun H hp => op1_move rfl rfl) ?_
    refine ac_no rfl rfl rfl rfl rfl rfl rfl ?_
    refine ac_no rfl rfl rfl rfl rfl rfl rfl ?_
    refine ac_no rfl rfl rfl rfl rfl rfl rfl ?_
    refine ac_go rfl rfl rfl rfl (fun H hp => op1_pickF rfl rfl rfl) ?_
    refine ac_go rfl rfl rfl rfl (fun H hp => op1_move rfl rfl) ?_
    refine ac_no rfl rfl rfl rfl rfl rfl rfl ?_
    refine ac_no rfl rfl rfl rfl rfl rfl rfl ?_
    refine ac_no rfl rfl rfl rfl rfl rfl rfl ?_
    refine ac_go rfl rfl rfl rfl (fun H hp => op1_pickF rfl rfl rfl) ?_
    refine ac_go rfl rfl rfl rfl (fun H hp => op1_move rfl rfl) ?_
    refine ac_no rfl rfl rfl rfl rfl rfl rfl ?_
    refine ac_no rfl rfl rfl rfl rfl rfl rfl ?_
    refine ac_nil ?_
    change AO _ _ _ _ _
    refine ao_no rfl rfl rfl rfl rfl rfl ?_
    refine ao_step rfl rfl rfl (op1_pickF rfl rfl rfl) ?_
    refine ao_step rfl rfl rfl (op1_move rfl rfl) ?_
    refine ao_no rfl rfl rfl rfl rfl rfl ?_
    refine ao_no rfl rfl rfl rfl rfl rfl ?_
    refine ao_no rfl rfl rfl rfl rfl rfl ?_
    refine ao_step rfl rfl rfl (op1_pickF rfl rfl rfl) ?_
    refine ao_step rfl rfl rfl (op1_assign rfl rfl) ?_
    refine ao_nil ?_
    change BW _ _ _ _ _
    refine bw_ret ?_
    change ∃ xs, _ = some xs ∧ EndOk _ _ _ _
    obtain rfl := Option.some.inj h
    exact ⟨_, rfl, endOk0 (y := (PV.v (.bool false))) (Wk.refl _) rfl ⟨rfl, rfl⟩⟩
noncomputable def p_value_Order (a0 : V) (a1 : V) : Option (Int × Int) :=
  Option.bind (p_value_check a0) fun x1 =>
  bif (x1.2 != 0) then (
    some (0, x1.2)
  ) else (
    Option.bind (p_value_check a1) fun x3 =>
    bif (x3.2 != 0) then (
      some (0, x3.2)
    ) else (
      Option.bind (p_value_order a0 a1) fun x5 =>
      some (x5, 0)
    )
  )
theorem s_value_Order (a0 : V) (a1 : V) (r : (Int × Int)) (h : p_value_Order a0 a1 = some r) : PCalls Try.prog 26 [(ofV a0), (ofV a1)] (PV.tup [(PV.v (.int .i64 r.1)), (PV.v (.int .i64 r.2))]) := by
  unfold p_value_Order at h
  refine acalls_of Try.func26 rfl Try.ntmps26 Try.results26 rfl (aw_of_bw ?_)
  change BW _ _ _ ⟨[(0, (ofV a0)), (1, (ofV a1))], [], _⟩ _
  refine bw_seq ?_
  refine bw_region ?_
  refine ao_step rfl rfl rfl (op1_assign rfl rfl) ?_
  refine ao_step rfl rfl rfl (op1_assign rfl rfl) ?_
  refine ao_nil ?_
  change BW _ _ _ _ _
  refine bw_seq ?_
  refine bw_seq ?_
  refine bw_region ?_
  refine ao_step rfl rfl rfl (op1_move rfl rfl) ?_
  obtain ⟨x1, hx1, h⟩ := obind h
  refine ao_step rfl rfl rfl (op1_pcall rfl en_34 rfl (.cons (Wk.refl _) .nil) ⟨(ids_V a0), trivial⟩ (s_value_check a0 x1 hx1) (ids_tup_cons rfl (ids_tup_cons rfl ids_tup_nil))) ?_
  refine ao_step rfl rfl rfl (op1_move rfl rfl) ?_
  refine ao_step rfl rfl rfl (op1_ext rfl rfl rfl) ?_
  refine ao_step rfl rfl rfl (op1_ext rfl rfl rfl) ?_
  refine ao_step rfl rfl rfl (op1_assign rfl rfl) ?_
  refine ao_step rfl rfl rfl (op1_assign rfl rfl) ?_
  refine ao_nil ?_
  change BW _ _ _ _ _
  refine bw_seq ?_
  refine bw_region ?_
  refine ao_step rfl rfl rfl (op1_move rfl rfl) ?_
  refine ao_step rfl rfl rfl ((op1_cmp rfl rfl rfl rfl).cast (y := (PV.v (.bool (x1.2 != 0)))) rfl rfl) ?_
  refine ao_nil ?_
  change BW _ _ _ _ _
  refine bw_cond rfl ?_ ?_
  · intro hc2; replace h := ocond_t hc2 h
    refine bw_seq ?_
    refine bw_region ?_
    refine ao_step rfl rfl rfl (op1_move rfl rfl) ?_
    refine ao_step rfl rfl rfl (op1_assign rfl rfl) ?_
    refine ao_step rfl rfl rfl (op1_assign rfl rfl) ?_
    refine ao_nil ?_
    change BW _ _ _ _ _
    refine bw_ret ?_
    change ∃ xs, _ = some xs ∧ EndOk _ _ _ _
    obtain rfl := Option.some.inj h
    exact ⟨_, rfl, endOk0 (y := (PV.tup [(PV.v (.int .i64 0)), (PV.v (.int .i64 x1.2))])) (Wk.refl _) (ids_tup_cons rfl (ids_tup_cons rfl ids_tup_nil)) ⟨rfl, rfl⟩⟩
  · intro hc2; replace h := ocond_f hc2 h
    refine bw_skip ?_
    change BW _ _ _ _ _
    refine bw_seq ?_
    refine bw_seq ?_
    refine bw_region ?_
    refine ao_step rfl rfl rfl (op1_move rfl rfl) ?_
    obtain ⟨x3, hx3, h⟩ := obind h
    refine ao_step rfl rfl rfl (op1_pcall rfl en_34 rfl (.cons (Wk.refl _) .nil) ⟨(ids_V a1), trivial⟩ (s_value_check a1 x3 hx3) (ids_tup_cons rfl (ids_tup_cons rfl ids_tup_nil))) ?_
    refine ao_step rfl rfl rfl (op1_move rfl rfl) ?_
    refine ao_step rfl rfl rfl (op1_ext rfl rfl rfl) ?_
    refine ao_step rfl rfl rfl (op1_ext rfl rfl rfl) ?_
    refine ao_step rfl rfl rfl (op1_assign rfl rfl) ?_
    refine ao_step rfl rfl rfl (op1_assign rfl rfl) ?_
    refine ao_nil ?_
    change BW _ _ _ _ _
    refine bw_seq ?_
    refine bw_region ?_
    refine ao_step rfl rfl rfl (op1_move rfl rfl) ?_
    refine ao_step rfl rfl rfl ((op1_cmp rfl rfl rfl rfl).cast (y := (PV.v (.bool (x3.2 != 0)))) rfl rfl) ?_
    refine ao_nil ?_
    change BW _ _ _ _ _
    refine bw_cond rfl ?_ ?_
    · intro hc4; replace h := ocond_t hc4 h
      refine bw_seq ?_
      refine bw_region ?_
      refine ao_step rfl rfl rfl (op1_move rfl rfl) ?_
      refine ao_step rfl rfl rfl (op1_assign rfl rfl) ?_
      refine ao_step rfl rfl rfl (op1_assign rfl rfl) ?_
      refine ao_nil ?_
      change BW _ _ _ _ _
      refine bw_ret ?_
      change ∃ xs, _ = some xs ∧ EndOk _ _ _ _
      obtain rfl := Option.some.inj h
      exact ⟨_, rfl, endOk0 (y := (PV.tup [(PV.v (.int .i64 0)), (PV.v (.int .i64 x3.2))])) (Wk.refl _) (ids_tup_cons rfl (ids_tup_cons rfl ids_tup_nil)) ⟨rfl, rfl⟩⟩
    · intro hc4; replace h := ocond_f hc4 h
      refine bw_skip ?_
      change BW _ _ _ _ _
      refine bw_seq ?_
      refine bw_region ?_
      refine ao_step rfl rfl rfl (op1_move rfl rfl) ?_
      refine ao_step rfl rfl rfl (op1_move rfl rfl) ?_
      obtain ⟨x5, hx5, h⟩ := obind h
      refine ao_step rfl rfl rfl (op1_pcall rfl en_44 rfl (.cons (Wk.refl _) (.cons (Wk.refl _) .nil)) ⟨(ids_V a0), ⟨(ids_V a1), trivial⟩⟩ (s_value_order a0 a1 x5 hx5) rfl) ?_
      refine ao_step rfl rfl rfl (op1_assign rfl rfl) ?_
      refine ao_step rfl rfl rfl (op1_assign rfl rfl) ?_
      refine ao_nil ?_
      change BW _ _ _ _ _
      refine bw_ret ?_
      change ∃ xs, _ = some xs ∧ EndOk _ _ _ _
      obtain rfl := Option.some.inj h
      exact ⟨_, rfl, endOk0 (y := (PV.tup [(PV.v (.int .i64 x5)), (PV.v (.int .i64 0))])) (Wk.refl _) (ids_tup_cons rfl (ids_tup_cons rfl ids_tup_nil)) ⟨rfl, rfl⟩⟩
noncomputable def law01_ValueSizes_j3 (x1 : V) (x2 : V) (x3 : (Int × Int × Int)) (x4 : (Int × Int × Int)) (x5 : (Int × Int × Int)) (s14 : Int) (s15 : Bool) : Option Bool :=
  bif s15 then (
    some (x5.2.2 == 2)
  ) else (
    Option.bind (p_value_Order x1 x2) fun x17 =>
    Option.bind (p_value_Order (V.list ([(V.bool true), x1] : (List V))) (V.list ([(V.bool true), x2] : (List V)))) fun x18 =>
    bif (x5.2.2 == 0) then (
      bif (x5.1 == (IntKind.i64.wrap ((IntKind.i64.wrap (x3.1 + x4.1)) + 2))) then (
        bif (x5.2.1 == (IntKind.i64.wrap (s14 + 1))) then (
          bif (x17.1 == x18.1) then (
            bif (x17.2 == 0) then (
              bif (x18.2 == 0) then (
                some true
              ) else (
                some (decide ((IntKind.i64.wrap (s14 + 1)) > 64))
              )
            ) else (
              some false
            )
          ) else (
            some false
          )
        ) else (
          some false
        )
      ) else (
        some false
      )
    ) else (
      some false
    )
  )
noncomputable def law01_ValueSizes_j2 (x1 : V) (x2 : V) (x3 : (Int × Int × Int)) (x4 : (Int × Int × Int)) (x5 : (Int × Int × Int)) (s14 : Int) : Option Bool :=
  bif (decide ((IntKind.i64.wrap ((IntKind.i64.wrap (x3.1 + x4.1)) + 2)) > 16384)) then (
    law01_ValueSizes_j3 x1 x2 x3 x4 x5 s14 true
  ) else (
    law01_ValueSizes_j3 x1 x2 x3 x4 x5 s14 (decide ((IntKind.i64.wrap (s14 + 1)) > 64))
  )
noncomputable def law01_ValueSizes_j1 (x1 : V) (x2 : V) (x3 : (Int × Int × Int)) (x4 : (Int × Int × Int)) (x5 : (Int × Int × Int)) (s6 : Bool) : Option Bool :=
  bif s6 then (
    Option.bind (p_value_Size (V.list ([V.nil] : (List V)))) fun x8 =>
    bif (x5.2.2 != 0) then (
      bif (x5.1 == 0) then (
        bif (x5.2.1 == 0) then (
          bif (x8.1 == 2) then (
            bif (x8.2.1 == 2) then (
              some (x8.2.2 == 0)
            ) else (
              some false
            )
          ) else (
            some false
          )
        ) else (
          some false
        )
      ) else (
        some false
      )
    ) else (
      some false
    )
  ) else (
    bif (decide (x3.2.1 < (IntKind.i64.wrap (x4.2.1 + 1)))) then (
      law01_ValueSizes_j2 x1 x2 x3 x4 x5 (IntKind.i64.wrap (x4.2.1 + 1))
    ) else (
      law01_ValueSizes_j2 x1 x2 x3 x4 x5 x3.2.1
    )
  )
noncomputable def p_law01_ValueSizes (a0 : Term) (a1 : Term) : Option Bool :=
  Option.bind (p_mk_Built a0) fun x1 =>
  Option.bind (p_mk_Built a1) fun x2 =>
  Option.bind (p_value_Size x1) fun x3 =>
  Option.bind (p_value_Size x2) fun x4 =>
  Option.bind (p_value_Size (V.list ([x1, (V.dict ([(([97] : Str), x2)] : (List (Str × V))))] : (List V)))) fun x5 =>
  bif (x3.2.2 != 0) then (
    law01_ValueSizes_j1 x1 x2 x3 x4 x5 true
  ) else (
    law01_ValueSizes_j1 x1 x2 x3 x4 x5 (x4.2.2 != 0)
  )
theorem s_law01_ValueSizes (a0 : Term) (a1 : Term) (r : Bool) (h : p_law01_ValueSizes a0 a1 = some r) : PCalls Try.prog 8 [(ofTermX a0), (ofTermX a1)] (PV.v (.bool r)) := by
  unfold p_law01_ValueSizes at h
  refine acalls_of Try.func8 rfl Try.ntmps8 Try.results8 rfl (aw_of_bw ?_)
  change BW _ _ _ ⟨[(0, (ofTermX a0)), (1, (ofTermX a1))], [], _⟩ _
  refine bw_seq ?_
  refine bw_region ?_
  refine ao_step rfl rfl rfl (op1_box rfl rfl rfl) ?_
  refine ao_step rfl rfl rfl (op1_box rfl rfl rfl) ?_
  refine ao_step rfl rfl rfl (op1_assign rfl rfl) ?_
  refine ao_nil ?_
  change BW _ _ _ _ _
  refine bw_seq ?_
  refine bw_tail 3 [] [0, 1] mo (by kernel_rfl) ?_
  refine ac_go rfl rfl rfl rfl (fun H hp => (op1_ldRA inf_29 Try.underlying29 rfl rfl rfl (hp.at rfl rfl) rfl rfl).cast (y := (PV.agg [(PV.v (.int .i64 a0.kind)), (PV.v (.bool a0.bool)), (PV.v (.int .i64 a0.int)), (PV.v (.float .f64 a0.float)), (ofStr a0.text), (PV.sl none 1 (List.map ofB a0.bytes)), (PV.v (.int .u64 a0.ref)), (PV.sl none 11 (List.map ofTerm a0.list)), (PV.sl none 12 (List.map ofEntry a0.fields)), (ofStr a0.cls), (PV.v (.int .i64 a0.ver))])) rfl rfl) ?_
  obtain ⟨x1, hx1, h⟩ := obind h
  refine ac_go rfl rfl rfl rfl (fun H hp => op1_pcall rfl en_11 rfl (.cons (Wk.refl _) .nil) ⟨(ids_TermX a0), trivial⟩ (s_mk_Built a0 x1 hx1) (ids_V x1)) ?_
  refine ac_go rfl rfl rfl rfl (fun H hp => (op1_ldRA inf_29 Try.underlying29 rfl rfl rfl (hp.at rfl rfl) rfl rfl).cast (y := (PV.agg [(PV.v (.int .i64 a1.kind)), (PV.v (.bool a1.bool)), (PV.v (.int .i64 a1.int)), (PV.v (.float .f64 a1.float)), (ofStr a1.text), (PV.sl none 1 (List.map ofB a1.bytes)), (PV.v (.int .u64 a1.ref)), (PV.sl none 11 (List.map ofTerm a1.list)), (PV.sl none 12 (List.map ofEntry a1.fields)), (ofStr a1.cls), (PV.v (.int .i64 a1.ver))])) rfl rfl) ?_
  refine ac_nil ?_
  change AO _ _ _ _ _
  obtain ⟨x2, hx2, h⟩ := obind h
  refine ao_step rfl rfl rfl (op1_pcall rfl en_11 rfl (.cons (Wk.refl _) .nil) ⟨(ids_TermX a1), trivial⟩ (s_mk_Built a1 x2 hx2) (ids_V x2)) ?_
  refine ao_step rfl rfl rfl (op1_assign rfl rfl) ?_
  refine ao_step rfl rfl rfl (op1_assign rfl rfl) ?_
  refine ao_nil ?_
  change BW _ _ _ _ _
  refine bw_seq ?_
  refine bw_region ?_
  refine ao_step rfl rfl rfl (op1_move rfl rfl) ?_
  obtain ⟨x3, hx3, h⟩ := obind h
  refine ao_step rfl rfl rfl (op1_pcall rfl en_14 rfl (.cons (Wk.refl _) .nil) ⟨(ids_V x1), trivial⟩ (s_value_Size x1 x3 hx3) (ids_tup_cons rfl (ids_tup_cons rfl (ids_tup_cons rfl ids_tup_nil)))) ?_
  refine ao_step rfl rfl rfl (op1_move rfl rfl) ?_
  refine ao_step rfl rfl rfl (op1_ext rfl rfl rfl) ?_
  refine ao_step rfl rfl rfl (op1_ext rfl rfl rfl) ?_
  refine ao_step rfl rfl rfl (op1_ext rfl rfl rfl) ?_
  refine ao_step rfl rfl rfl (op1_assign rfl rfl) ?_
  refine ao_step rfl rfl rfl (op1_assign rfl rfl) ?_
  refine ao_step rfl rfl rfl (op1_assign rfl rfl) ?_
  refine ao_nil ?_
  change BW _ _ _ _ _
  refine bw_seq ?_
  refine bw_region ?_
  refine ao_step rfl rfl rfl (op1_move rfl rfl) ?_
  obtain ⟨x4, hx4, h⟩ := obind h
  refine ao_step rfl rfl rfl (op1_pcall rfl en_14 rfl (.cons (Wk.refl _) .nil) ⟨(ids_V x2), trivial⟩ (s_value_Size x2 x4 hx4) (ids_tup_cons rfl (ids_tup_cons rfl (ids_tup_cons rfl ids_tup_nil)))) ?_
  refine ao_step rfl rfl rfl (op1_move rfl rfl) ?_
  refine ao_step rfl rfl rfl (op1_ext rfl rfl rfl) ?_
  refine ao_step rfl rfl rfl (op1_ext rfl rfl rfl) ?_
  refine ao_step rfl rfl rfl (op1_ext rfl rfl rfl) ?_
  refine ao_step rfl rfl rfl (op1_assign rfl rfl) ?_
  refine ao_step rfl rfl rfl (op1_assign rfl rfl) ?_
  refine ao_step rfl rfl rfl (op1_assign rfl rfl) ?_
  refine ao_nil ?_
  change BW _ _ _ _ _
  refine bw_seq ?_
  refine bw_region ?_
  refine ao_step rfl rfl rfl (op1_move rfl rfl) ?_
  refine ao_step rfl rfl rfl (op1_move rfl rfl) ?_
  refine ao_step rfl rfl rfl (op1_build (cs := [(ofStr ([97] : Str)), (ofV x2)]) st_56 inf_56 rfl rfl (by simp only [List.all_cons, List.all_nil, cok_V, cok_RecP, Bool.and_true, Bool.true_and]; try rfl) (by simp only [afill, List.getElem?_cons_zero, List.getElem?_cons_succ, cells_V, cells_RecP]; rfl)) ?_
  refine ao_step rfl rfl rfl ((op1_bslice (xs := [(PV.agg [(ofStr ([97] : Str)), (ofV x2)])]) Try.underlying58 inf_56 rfl rfl rfl (by simp only [List.all_cons, List.all_nil, cok_V, cok_RecP, Bool.and_true, Bool.true_and]; try rfl) (by simp only [List.all_cons, List.all_nil, csz_V, csz_RecP, cells_V, cells_RecP]; try rfl) rfl ⟨Nat.le_of_ble_eq_true rfl, Nat.le_of_ble_eq_true rfl⟩ (by simp only [zipN, afill, List.flatMap_cons, List.flatMap_nil, cells_V, cells_RecP]; try rfl)).cast (y := (PV.sl (some 2) 2 (List.map ofFld ([(([97] : Str), x2)] : (List (Str × V)))))) rfl rfl) ?_
  refine ao_step rfl rfl rfl ((op1_mkI Try.underlying58 rfl rfl rfl).wk ((Wk.iface Wk.tok).trans (Wk.eq (mk_dict _).symm))) ?_
  refine ao_step rfl rfl rfl ((op1_bslice (xs := [(ofV x1), (ofV (V.dict ([(([97] : Str), x2)] : (List (Str × V)))))]) Try.underlying60 inf_20 rfl rfl rfl (by simp only [List.all_cons, List.all_nil, cok_V, cok_RecP, Bool.and_true, Bool.true_and]; try rfl) (by simp only [List.all_cons, List.all_nil, csz_V, csz_RecP, cells_V, cells_RecP]; try rfl) rfl ⟨Nat.le_of_ble_eq_true rfl, Nat.le_of_ble_eq_true rfl⟩ (by simp only [zipN, afill, List.flatMap_cons, List.flatMap_nil, cells_V, cells_RecP]; try rfl)).cast (y := (PV.sl (some 3) 1 (List.map ofV ([x1, (V.dict ([(([97] : Str), x2)] : (List (Str × V))))] : (List V))))) rfl rfl) ?_
  refine ao_step rfl rfl rfl ((op1_mkI Try.underlying60 rfl rfl rfl).wk ((Wk.iface Wk.tok).trans (Wk.eq (mk_list _).symm))) ?_
  obtain ⟨x5, hx5, h⟩ := obind h
  refine ao_step rfl rfl rfl (op1_pcall rfl en_14 rfl (.cons (Wk.refl _) .nil) ⟨(ids_V (V.list ([x1, (V.dict ([(([97] : Str), x2)] : (List (Str × V))))] : (List V)))), trivial⟩ (s_value_Size (V.list ([x1, (V.dict ([(([97] : Str), x2)] : (List (Str × V))))] : (List V))) x5 hx5) (ids_tup_cons rfl (ids_tup_cons rfl (ids_tup_cons rfl ids_tup_nil)))) ?_
  refine ao_step rfl rfl rfl (op1_move rfl rfl) ?_
  refine ao_step rfl rfl rfl (op1_ext rfl rfl rfl) ?_
  refine ao_step rfl rfl rfl (op1_ext rfl rfl rfl) ?_
  refine ao_step rfl rfl rfl (op1_ext rfl rfl rfl) ?_
  refine ao_step rfl rfl rfl (op1_assign rfl rfl) ?_
  refine ao_step rfl rfl rfl (op1_assign rfl rfl) ?_
  refine ao_step rfl rfl rfl (op1_assign rfl rfl) ?_
  refine ao_nil ?_
  change BW _ _ _ _ _
  refine bw_seq ?_
  refine bw_seqJ (ι := Bool) (fun i => law01_ValueSizes_j1 x1 x2 x3 x4 x5 i = some r) (fun i => [(5, (ofV x1)), (6, (ofV x2)), (7, (PV.v (.int .i64 x3.1))), (8, (PV.v (.int .i64 x3.2.1))), (10, (PV.v (.int .i64 x4.1))), (11, (PV.v (.int .i64 x4.2.1))), (13, (PV.v (.int .i64 x5.1))), (14, (PV.v (.int .i64 x5.2.1))), (15, (PV.v (.int .i64 x5.2.2))), (56, (PV.v (.bool i)))]) (fun i => []) ?_ ?_ ?_
  · intro i; exact ⟨Nat.le_of_ble_eq_true rfl, ⟨(il_nil (ids_V _)), ⟨(il_nil (ids_V _)), ⟨(il_nil rfl), ⟨(il_nil rfl), ⟨(il_nil rfl), ⟨(il_nil rfl), ⟨(il_nil rfl), ⟨(il_nil rfl), ⟨(il_nil rfl), ⟨(il_nil rfl), trivial⟩⟩⟩⟩⟩⟩⟩⟩⟩⟩, trivial⟩
  · rintro s6 h; replace h : law01_ValueSizes_j1 x1 x2 x3 x4 x5 s6 = some r := h; unfold law01_ValueSizes_j1 at h
    change BW _ _ _ ⟨[(5, (ofV x1)), (6, (ofV x2)), (7, (PV.v (.int .i64 x3.1))), (8, (PV.v (.int .i64 x3.2.1))), (10, (PV.v (.int .i64 x4.1))), (11, (PV.v (.int .i64 x4.2.1))), (13, (PV.v (.int .i64 x5.1))), (14, (PV.v (.int .i64 x5.2.1))), (15, (PV.v (.int .i64 x5.2.2))), (56, (PV.v (.bool s6)))], [], _⟩ _
    refine bw_cond rfl ?_ ?_
    · intro hc7; replace h := ocond_t hc7 h
      refine bw_seq ?_
      refine bw_region ?_
      refine ao_step rfl rfl rfl (((op1_bslice (xs := [(PV.v .nilIface)]) Try.underlying60 inf_20 rfl rfl rfl (by simp only [List.all_cons, List.all_nil, cok_V, cok_RecP, Bool.and_true, Bool.true_and]; try rfl) (by simp only [List.all_cons, List.all_nil, csz_V, csz_RecP, cells_V, cells_RecP]; try rfl) rfl ⟨Nat.le_of_ble_eq_true rfl, Nat.le_of_ble_eq_true rfl⟩ (by simp only [zipN, afill, List.flatMap_cons, List.flatMap_nil, cells_V, cells_RecP]; try rfl)).wk (Wk.sl (.cons (y := (ofV V.nil)) (by rw [cells_V]; exact (.cons (Wk.eq mk_nil.symm) .nil)) .nil))).cast (y := (PV.sl (some 0) 1 (List.map ofV ([V.nil] : (List V))))) rfl rfl) ?_
      refine ao_step rfl rfl rfl ((op1_mkI Try.underlying60 rfl rfl rfl).wk ((Wk.iface Wk.tok).trans (Wk.eq (mk_list _).symm))) ?_
      obtain ⟨x8, hx8, h⟩ := obind h
      refine ao_step rfl rfl rfl (op1_pcall rfl en_14 rfl (.cons (Wk.refl _) .nil) ⟨(ids_V (V.list ([V.nil] : (List V)))), trivial⟩ (s_value_Size (V.list ([V.nil] : (List V))) x8 hx8) (ids_tup_cons rfl (ids_tup_cons rfl (ids_tup_cons rfl ids_tup_nil)))) ?_
      refine ao_step rfl rfl rfl (op1_move rfl rfl) ?_
      refine ao_step rfl rfl rfl (op1_ext rfl rfl rfl) ?_
      refine ao_step rfl rfl rfl (op1_ext rfl rfl rfl) ?_
      refine ao_step rfl rfl rfl (op1_ext rfl rfl rfl) ?_
      refine ao_step rfl rfl rfl (op1_assign rfl rfl) ?_
      refine ao_step rfl rfl rfl (op1_assign rfl rfl) ?_
      refine ao_step rfl rfl rfl (op1_assign rfl rfl) ?_
      refine ao_nil ?_
      change BW _ _ _ _ _
      refine bw_seq ?_
      refine bw_region ?_
      refine ao_step rfl rfl rfl (op1_move rfl rfl) ?_
      refine ao_step rfl rfl rfl ((op1_cmp rfl rfl rfl rfl).cast (y := (PV.v (.bool (x5.2.2 != 0)))) rfl rfl) ?_
      refine ao_step rfl rfl rfl (op1_move rfl rfl) ?_
      refine ao_cases (t := 66) rfl ?_ ?_
      · intro hb9; replace h := ocond_t hb9 h
        refine ao_yes rfl rfl rfl rfl rfl rfl (op1_move rfl rfl) ?_
        refine ao_yes rfl rfl rfl rfl rfl rfl ((op1_cmp rfl rfl rfl rfl).cast (y := (PV.v (.bool (x5.1 == 0)))) rfl rfl) ?_
        refine ao_step rfl rfl rfl (op1_pickT rfl rfl rfl) ?_
        refine ao_step rfl rfl rfl (op1_move rfl rfl) ?_
        refine ao_cases (t := 70) rfl ?_ ?_
        · intro hb10; replace h := ocond_t hb10 h
          refine ao_yes rfl rfl rfl rfl rfl rfl (op1_move rfl rfl) ?_
          refine ao_yes rfl rfl rfl rfl rfl rfl ((op1_cmp rfl rfl rfl rfl).cast (y := (PV.v (.bool (x5.2.1 == 0)))) rfl rfl) ?_
          refine ao_step rfl rfl rfl (op1_pickT rfl rfl rfl) ?_
          refine ao_step rfl rfl rfl (op1_move rfl rfl) ?_
          refine ao_cases (t := 74) rfl ?_ ?_
          · intro hb11; replace h := ocond_t hb11 h
            refine ao_yes rfl rfl rfl rfl rfl rfl (op1_move rfl rfl) ?_
            refine ao_yes rfl rfl rfl rfl rfl rfl ((op1_cmp rfl rfl rfl rfl).cast (y := (PV.v (.bool (x8.1 == 2)))) rfl rfl) ?_
            refine ao_step rfl rfl rfl (op1_pickT rfl rfl rfl) ?_
            refine ao_step rfl rfl rfl (op1_move rfl rfl) ?_
            refine ao_cases (t := 78) rfl ?_ ?_
            · intro hb12; replace h := ocond_t hb12 h
              refine ao_yes rfl rfl rfl rfl rfl rfl (op1_move rfl rfl) ?_
              refine ao_yes rfl rfl rfl rfl rfl rfl ((op1_cmp rfl rfl rfl rfl).cast (y := (PV.v (.bool (x8.2.1 == 2)))) rfl rfl) ?_
              refine ao_step rfl rfl rfl (op1_pickT rfl rfl rfl) ?_
              refine ao_step rfl rfl rfl (op1_move rfl rfl) ?_
              refine ao_cases (t := 82) rfl ?_ ?_
              · intro hb13; replace h := ocond_t hb13 h
                refine ao_yes rfl rfl rfl rfl rfl rfl (op1_move rfl rfl) ?_
                refine ao_yes rfl rfl rfl rfl rfl rfl ((op1_cmp rfl rfl rfl rfl).cast (y := (PV.v (.bool (x8.2.2 == 0)))) rfl rfl) ?_
                refine ao_step rfl rfl rfl (op1_pickT rfl rfl rfl) ?_
                refine ao_step rfl rfl rfl (op1_assign rfl rfl) ?_
                refine ao_nil ?_
                change BW _ _ _ _ _
                refine bw_ret ?_
                change ∃ xs, _ = some xs ∧ EndOk _ _ _ _
                obtain rfl := Option.some.inj h
                exact ⟨_, rfl, endOk0 (y := (PV.v (.bool (x8.2.2 == 0)))) (Wk.refl _) rfl ⟨rfl, rfl⟩⟩
              · intro hb13; replace h := ocond_f hb13 h
                refine ao_no rfl rfl rfl rfl rfl rfl ?_
                refine ao_no rfl rfl rfl rfl rfl rfl ?_
                refine ao_step rfl rfl rfl (op1_pickF rfl rfl rfl) ?_
                refine ao_step rfl rfl rfl (op1_assign rfl rfl) ?_
                refine ao_nil ?_
                change BW _ _ _ _ _
                refine bw_ret ?_
                change ∃ xs, _ = some xs ∧ EndOk _ _ _ _
                obtain rfl := Option.some.inj h
                exact ⟨_, rfl, endOk0 (y := (PV.v (.bool false))) (Wk.refl _) rfl ⟨rfl, rfl⟩⟩
            · intro hb12; replace h := ocond_f hb12 h
              refine ao_no rfl rfl rfl rfl rfl rfl ?_
              refine ao_no rfl rfl rfl rfl rfl rfl ?_
              refine ao_step rfl rfl rfl (op1_pickF rfl rfl rfl) ?_
              refine ao_step rfl rfl rfl (op1_move rfl rfl) ?_
              refine ao_no rfl rfl rfl rfl rfl rfl ?_
              refine ao_no rfl rfl rfl rfl rfl rfl ?_
              refine ao_step rfl rfl rfl (op1_pickF rfl rfl rfl) ?_
              refine ao_step rfl rfl rfl (op1_assign rfl rfl) ?_
              refine ao_nil ?_
              change BW _ _ _ _ _
              refine bw_ret ?_
              change ∃ xs, _ = some xs ∧ EndOk _ _ _ _
              obtain rfl := Option.some.inj h
              exact ⟨_, rfl, endOk0 (y := (PV.v (.bool false))) (Wk.refl _) rfl ⟨rfl, rfl⟩⟩
          · intro hb11; replace h := ocond_f hb11 h
            refine ao_no rfl rfl rfl rfl rfl rfl ?_
            refine ao_no rfl rfl rfl rfl rfl rfl ?_
            refine ao_step rfl rfl rfl (op1_pickF rfl rfl rfl) ?_
            refine ao_step rfl rfl rfl (op1_move rfl rfl) ?_
            refine ao_no rfl rfl rfl rfl rfl rfl ?_
            refine ao_no rfl rfl rfl rfl rfl rfl ?_
            refine ao_step rfl rfl rfl (op1_pickF rfl rfl rfl) ?_
            refine ao_step rfl rfl rfl (op1_move rfl rfl) ?_
            refine ao_no rfl rfl rfl rfl rfl rfl ?_
            refine ao_no rfl rfl rfl rfl rfl rfl ?_
            refine ao_step rfl rfl rfl (op1_pickF rfl rfl rfl) ?_
            refine ao_step rfl rfl rfl (op1_assign rfl rfl) ?_
            refine ao_nil ?_
            change BW _ _ _ _ _
            refine bw_ret ?_
            change ∃ xs, _ = some xs ∧ EndOk _ _ _ _
            obtain rfl := Option.some.inj h
            exact ⟨_, rfl, endOk0 (y := (PV.v (.bool false))) (Wk.refl _) rfl ⟨rfl, rfl⟩⟩
        · intro hb10; replace h := ocond_f hb10 h
          refine ao_no rfl rfl rfl rfl rfl rfl ?_
          refine ao_no rfl rfl rfl rfl rfl rfl ?_
          refine ao_step rfl rfl rfl (op1_pickF rfl rfl rfl) ?_
          refine ao_step rfl rfl rfl (op1_move rfl rfl) ?_
          refine ao_no rfl rfl rfl rfl rfl rfl ?_
          refine ao_no rfl rfl rfl rfl rfl rfl ?_
          refine ao_step rfl rfl rfl (op1_pickF rfl rfl rfl) ?_
          refine ao_step rfl rfl rfl (op1_move rfl rfl) ?_
          refine ao_no rfl rfl rfl rfl rfl rfl ?_
          refine ao_no rfl rfl rfl rfl rfl rfl ?_
          refine ao_step rfl rfl rfl (op1_pickF rfl rfl rfl) ?_
          refine ao_step rfl rfl rfl (op1_move rfl rfl) ?_
          refine ao_no rfl rfl rfl rfl rfl rfl ?_
          refine ao_no rfl rfl rfl rfl rfl rfl ?_
          refine ao_step rfl rfl rfl (op1_pickF rfl rfl rfl) ?_
          refine ao_step rfl rfl rfl (op1_assign rfl rfl) ?_
          refine ao_nil ?_
          change BW _ _ _ _ _
          refine bw_ret ?_
          change ∃ xs, _ = some xs ∧ EndOk _ _ _ _
          obtain rfl := Option.some.inj h
          exact ⟨_, rfl, endOk0 (y := (PV.v (.bool false))) (Wk.refl _) rfl ⟨rfl, rfl⟩⟩
      · intro hb9; replace h := ocond_f hb9 h
        refine ao_no rfl rfl rfl rfl rfl rfl ?_
        refine ao_no rfl rfl rfl rfl rfl rfl ?_
        refine ao_step rfl rfl rfl (op1_pickF rfl rfl rfl) ?_
        refine ao_step rfl rfl rfl (op1_move rfl rfl) ?_
        refine ao_no rfl rfl rfl rfl rfl rfl ?_
        refine ao_no rfl rfl rfl rfl rfl rfl ?_
        refine ao_step rfl rfl rfl (op1_pickF rfl rfl rfl) ?_
        refine ao_step rfl rfl rfl (op1_move rfl rfl) ?_
        refine ao_no rfl rfl rfl rfl rfl rfl ?_
        refine ao_no rfl rfl rfl rfl rfl rfl ?_
        refine ao_step rfl rfl rfl (op1_pickF rfl rfl rfl) ?_
        refine ao_step rfl rfl rfl (op1_move rfl rfl) ?_
        refine ao_no rfl rfl rfl rfl rfl rfl ?_
        refine ao_no rfl rfl rfl rfl rfl rfl ?_
        refine ao_step rfl rfl rfl (op1_pickF rfl rfl rfl) ?_
        refine ao_step rfl rfl rfl (op1_move rfl rfl) ?_
        refine ao_no rfl rfl rfl rfl rfl rfl ?_
        refine ao_no rfl rfl rfl rfl rfl rfl ?_
        refine ao_step rfl rfl rfl (op1_pickF rfl rfl rfl) ?_
        refine ao_step rfl rfl rfl (op1_assign rfl rfl) ?_
        refine ao_nil ?_
        change BW _ _ _ _ _
        refine bw_ret ?_
        change ∃ xs, _ = some xs ∧ EndOk _ _ _ _
        obtain rfl := Option.some.inj h
        exact ⟨_, rfl, endOk0 (y := (PV.v (.bool false))) (Wk.refl _) rfl ⟨rfl, rfl⟩⟩
    · intro hc7; replace h := ocond_f hc7 h
      refine bw_skip ?_
      change BW _ _ _ _ _
      refine bw_seqJ (ι := Int) (fun i => law01_ValueSizes_j2 x1 x2 x3 x4 x5 i = some r) (fun i => [(5, (ofV x1)), (6, (ofV x2)), (7, (PV.v (.int .i64 x3.1))), (8, (PV.v (.int .i64 i))), (10, (PV.v (.int .i64 x4.1))), (13, (PV.v (.int .i64 x5.1))), (14, (PV.v (.int .i64 x5.2.1))), (15, (PV.v (.int .i64 x5.2.2)))]) (fun i => []) ?_ ?_ ?_
      · intro i; exact ⟨Nat.le_of_ble_eq_true rfl, ⟨(il_nil (ids_V _)), ⟨(il_nil (ids_V _)), ⟨(il_nil rfl), ⟨(il_nil rfl), ⟨(il_nil rfl), ⟨(il_nil rfl), ⟨(il_nil rfl), ⟨(il_nil rfl), trivial⟩⟩⟩⟩⟩⟩⟩⟩, trivial⟩
      · rintro s14 h; replace h : law01_ValueSizes_j2 x1 x2 x3 x4 x5 s14 = some r := h; unfold law01_ValueSizes_j2 at h
        change BW _ _ _ ⟨[(5, (ofV x1)), (6, (ofV x2)), (7, (PV.v (.int .i64 x3.1))), (8, (PV.v (.int .i64 s14))), (10, (PV.v (.int .i64 x4.1))), (13, (PV.v (.int .i64 x5.1))), (14, (PV.v (.int .i64 x5.2.1))), (15, (PV.v (.int .i64 x5.2.2)))], [], _⟩ _
        refine bw_seq ?_
        refine bw_seqJ (ι := Bool) (fun i => law01_ValueSizes_j3 x1 x2 x3 x4 x5 s14 i = some r) (fun i => [(5, (ofV x1)), (6, (ofV x2)), (7, (PV.v (.int .i64 x3.1))), (8, (PV.v (.int .i64 s14))), (10, (PV.v (.int .i64 x4.1))), (13, (PV.v (.int .i64 x5.1))), (14, (PV.v (.int .i64 x5.2.1))), (15, (PV.v (.int .i64 x5.2.2))), (101, (PV.v (.bool i)))]) (fun i => []) ?_ ?_ ?_
        · intro i; exact ⟨Nat.le_of_ble_eq_true rfl, ⟨(il_nil (ids_V _)), ⟨(il_nil (ids_V _)), ⟨(il_nil rfl), ⟨(il_nil rfl), ⟨(il_nil rfl), ⟨(il_nil rfl), ⟨(il_nil rfl), ⟨(il_nil rfl), ⟨(il_nil rfl), trivial⟩⟩⟩⟩⟩⟩⟩⟩⟩, trivial⟩
        · rintro s15 h; replace h : law01_ValueSizes_j3 x1 x2 x3 x4 x5 s14 s15 = some r := h; unfold law01_ValueSizes_j3 at h
          change BW _ _ _ ⟨[(5, (ofV x1)), (6, (ofV x2)), (7, (PV.v (.int .i64 x3.1))), (8, (PV.v (.int .i64 s14))), (10, (PV.v (.int .i64 x4.1))), (13, (PV.v (.int .i64 x5.1))), (14, (PV.v (.int .i64 x5.2.1))), (15, (PV.v (.int .i64 x5.2.2))), (101, (PV.v (.bool s15)))], [], _⟩ _
          refine bw_cond rfl ?_ ?_
          · intro hc16; replace h := ocond_t hc16 h
            refine bw_seq ?_
            refine bw_region ?_
            refine ao_step rfl rfl rfl (op1_move rfl rfl) ?_
            refine ao_step rfl rfl rfl ((op1_cmp rfl rfl rfl rfl).cast (y := (PV.v (.bool (x5.2.2 == 2)))) rfl rfl) ?_
            refine ao_step rfl rfl rfl (op1_assign rfl rfl) ?_
            refine ao_nil ?_
            change BW _ _ _ _ _
            refine bw_ret ?_
            change ∃ xs, _ = some xs ∧ EndOk _ _ _ _
            obtain rfl := Option.some.inj h
            exact ⟨_, rfl, endOk0 (y := (PV.v (.bool (x5.2.2 == 2)))) (Wk.refl _) rfl ⟨rfl, rfl⟩⟩
          · intro hc16; replace h := ocond_f hc16 h
            refine bw_skip ?_
            change BW _ _ _ _ _
            refine bw_seq ?_
            refine bw_region ?_
            refine ao_step rfl rfl rfl (op1_move rfl rfl) ?_
            refine ao_step rfl rfl rfl (op1_move rfl rfl) ?_
            obtain ⟨x17, hx17, h⟩ := obind h
            refine ao_step rfl rfl rfl (op1_pcall rfl en_26 rfl (.cons (Wk.refl _) (.cons (Wk.refl _) .nil)) ⟨(ids_V x1), ⟨(ids_V x2), trivial⟩⟩ (s_value_Order x1 x2 x17 hx17) (ids_tup_cons rfl (ids_tup_cons rfl ids_tup_nil))) ?_
            refine ao_step rfl rfl rfl (op1_move rfl rfl) ?_
            refine ao_step rfl rfl rfl (op1_ext rfl rfl rfl) ?_
            refine ao_step rfl rfl rfl (op1_ext rfl rfl rfl) ?_
            refine ao_step rfl rfl rfl (op1_assign rfl rfl) ?_
            refine ao_step rfl rfl rfl (op1_assign rfl rfl) ?_
            refine ao_nil ?_
            change BW _ _ _ _ _
            refine bw_seq ?_
            refine bw_region ?_
            refine ao_step rfl rfl rfl ((op1_mkI Try.underlying4 rfl rfl rfl).wk ((Wk.iface (Wk.refl _)).trans (Wk.eq (mk_bool _).symm))) ?_
            refine ao_step rfl rfl rfl (op1_move rfl rfl) ?_
            refine ao_step rfl rfl rfl ((op1_bslice (xs := [(ofV (V.bool true)), (ofV x1)]) Try.underlying60 inf_20 rfl rfl rfl (by simp only [List.all_cons, List.all_nil, cok_V, cok_RecP, Bool.and_true, Bool.true_and]; try rfl) (by simp only [List.all_cons, List.all_nil, csz_V, csz_RecP, cells_V, cells_RecP]; try rfl) rfl ⟨Nat.le_of_ble_eq_true rfl, Nat.le_of_ble_eq_true rfl⟩ (by simp only [zipN, afill, List.flatMap_cons, List.flatMap_nil, cells_V, cells_RecP]; try rfl)).cast (y := (PV.sl (some 0) 1 (List.map ofV ([(V.bool true), x1] : (List V))))) rfl rfl) ?_
            refine ao_step rfl rfl rfl ((op1_mkI Try.underlying60 rfl rfl rfl).wk ((Wk.iface Wk.tok).trans (Wk.eq (mk_list _).symm))) ?_
            refine ao_step rfl rfl rfl ((op1_mkI Try.underlying4 rfl rfl rfl).wk ((Wk.iface (Wk.refl _)).trans (Wk.eq (mk_bool _).symm))) ?_
            refine ao_step rfl rfl rfl (op1_move rfl rfl) ?_
            refine ao_step rfl rfl rfl ((op1_bslice (xs := [(ofV (V.bool true)), (ofV x2)]) Try.underlying60 inf_20 rfl rfl rfl (by simp only [List.all_cons, List.all_nil, cok_V, cok_RecP, Bool.and_true, Bool.true_and]; try rfl) (by simp only [List.all_cons, List.all_nil, csz_V, csz_RecP, cells_V, cells_RecP]; try rfl) rfl ⟨Nat.le_of_ble_eq_true rfl, Nat.le_of_ble_eq_true rfl⟩ (by simp only [zipN, afill, List.flatMap_cons, List.flatMap_nil, cells_V, cells_RecP]; try rfl)).cast (y := (PV.sl (some 1) 1 (List.map ofV ([(V.bool true), x2] : (List V))))) rfl rfl) ?_
            refine ao_step rfl rfl rfl ((op1_mkI Try.underlying60 rfl rfl rfl).wk ((Wk.iface Wk.tok).trans (Wk.eq (mk_list _).symm))) ?_
            obtain ⟨x18, hx18, h⟩ := obind h
            refine ao_step rfl rfl rfl (op1_pcall rfl en_26 rfl (.cons (Wk.refl _) (.cons (Wk.refl _) .nil)) ⟨(ids_V (V.list ([(V.bool true), x1] : (List V)))), ⟨(ids_V (V.list ([(V.bool true), x2] : (List V)))), trivial⟩⟩ (s_value_Order (V.list ([(V.bool true), x1] : (List V))) (V.list ([(V.bool true), x2] : (List V))) x18 hx18) (ids_tup_cons rfl (ids_tup_cons rfl ids_tup_nil))) ?_
            refine ao_step rfl rfl rfl (op1_move rfl rfl) ?_
            refine ao_step rfl rfl rfl (op1_ext rfl rfl rfl) ?_
            refine ao_step rfl rfl rfl (op1_ext rfl rfl rfl) ?_
            refine ao_step rfl rfl rfl (op1_assign rfl rfl) ?_
            refine ao_step rfl rfl rfl (op1_assign rfl rfl) ?_
            refine ao_nil ?_
            change BW _ _ _ _ _
            refine bw_seq ?_
            refine bw_region ?_
            refine ao_step rfl rfl rfl (op1_move rfl rfl) ?_
            refine ao_step rfl rfl rfl ((op1_cmp rfl rfl rfl rfl).cast (y := (PV.v (.bool (x5.2.2 == 0)))) rfl rfl) ?_
            refine ao_step rfl rfl rfl (op1_move rfl rfl) ?_
            refine ao_cases (t := 124) rfl ?_ ?_
            · intro hb19; replace h := ocond_t hb19 h
              refine ao_yes rfl rfl rfl rfl rfl rfl (op1_move rfl rfl) ?_
              refine ao_yes rfl rfl rfl rfl rfl rfl (op1_move rfl rfl) ?_
              refine ao_yes rfl rfl rfl rfl rfl rfl (op1_move rfl rfl) ?_
              refine ao_yes rfl rfl rfl rfl rfl rfl (op1_addW rfl rfl rfl) ?_
              refine ao_yes rfl rfl rfl rfl rfl rfl (op1_addW rfl rfl rfl) ?_
              refine ao_yes rfl rfl rfl rfl rfl rfl ((op1_cmp rfl rfl rfl rfl).cast (y := (PV.v (.bool (x5.1 == (IntKind.i64.wrap ((IntKind.i64.wrap (x3.1 + x4.1)) + 2)))))) rfl rfl) ?_
              refine ao_step rfl rfl rfl (op1_pickT rfl rfl rfl) ?_
              refine ao_step rfl rfl rfl (op1_move rfl rfl) ?_
              refine ao_cases (t := 132) rfl ?_ ?_
              · intro hb20; replace h := ocond_t hb20 h
                refine ao_yes rfl rfl rfl rfl rfl rfl (op1_move rfl rfl) ?_
                refine ao_yes rfl rfl rfl rfl rfl rfl (op1_move rfl rfl) ?_
                refine ao_yes rfl rfl rfl rfl rfl rfl (op1_addW rfl rfl rfl) ?_
                refine ao_yes rfl rfl rfl rfl rfl rfl ((op1_cmp rfl rfl rfl rfl).cast (y := (PV.v (.bool (x5.2.1 == (IntKind.i64.wrap (s14 + 1)))))) rfl rfl) ?_
                refine ao_step rfl rfl rfl (op1_pickT rfl rfl rfl) ?_
                refine ao_step rfl rfl rfl (op1_move rfl rfl) ?_
                refine ao_cases (t := 138) rfl ?_ ?_
                · intro hb21; replace h := ocond_t hb21 h
                  refine ao_yes rfl rfl rfl rfl rfl rfl (op1_move rfl rfl) ?_
                  refine ao_yes rfl rfl rfl rfl rfl rfl (op1_move rfl rfl) ?_
                  refine ao_yes rfl rfl rfl rfl rfl rfl ((op1_cmp rfl rfl rfl rfl).cast (y := (PV.v (.bool (x17.1 == x18.1)))) rfl rfl) ?_
                  refine ao_step rfl rfl rfl (op1_pickT rfl rfl rfl) ?_
                  refine ao_step rfl rfl rfl (op1_move rfl rfl) ?_
                  refine ao_cases (t := 143) rfl ?_ ?_
                  · intro hb22; replace h := ocond_t hb22 h
                    refine ao_yes rfl rfl rfl rfl rfl rfl (op1_move rfl rfl) ?_
                    refine ao_yes rfl rfl rfl rfl rfl rfl ((op1_cmp rfl rfl rfl rfl).cast (y := (PV.v (.bool (x17.2 == 0)))) rfl rfl) ?_
                    refine ao_step rfl rfl rfl (op1_pickT rfl rfl rfl) ?_
                    refine ao_step rfl rfl rfl (op1_move rfl rfl) ?_
                    refine ao_cases (t := 147) rfl ?_ ?_
                    · intro hb23; replace h := ocond_t hb23 h
                      refine ao_yes rfl rfl rfl rfl rfl rfl (op1_move rfl rfl) ?_
                      refine ao_yes rfl rfl rfl rfl rfl rfl ((op1_cmp rfl rfl rfl rfl).cast (y := (PV.v (.bool (x18.2 == 0)))) rfl rfl) ?_
                      refine ao_yes rfl rfl rfl rfl rfl rfl (op1_move rfl rfl) ?_
                      refine ao_cases (t := 150) rfl ?_ ?_
                      · intro hb24; replace h := ocond_t hb24 h
                        refine ao_no rfl rfl rfl rfl rfl rfl ?_
                        refine ao_no rfl rfl rfl rfl rfl rfl ?_
                        refine ao_no rfl rfl rfl rfl rfl rfl ?_
                        refine ao_yes rfl rfl rfl rfl rfl rfl (op1_pickT rfl rfl rfl) ?_
                        refine ao_step rfl rfl rfl (op1_pickT rfl rfl rfl) ?_
                        refine ao_step rfl rfl rfl (op1_assign rfl rfl) ?_
                        refine ao_nil ?_
                        change BW _ _ _ _ _
                        refine bw_ret ?_
                        change ∃ xs, _ = some xs ∧ EndOk _ _ _ _
                        obtain rfl := Option.some.inj h
                        exact ⟨_, rfl, endOk0 (y := (PV.v (.bool true))) (Wk.refl _) rfl ⟨rfl, rfl⟩⟩
                      · intro hb24; replace h := ocond_f hb24 h
                        refine ao_yes rfl rfl rfl rfl rfl rfl (op1_move rfl rfl) ?_
                        refine ao_yes rfl rfl rfl rfl rfl rfl (op1_addW rfl rfl rfl) ?_
                        refine ao_yes rfl rfl rfl rfl rfl rfl ((op1_cmp rfl rfl rfl rfl).cast (y := (PV.v (.bool (decide ((IntKind.i64.wrap (s14 + 1)) > 64))))) rfl rfl) ?_
                        refine ao_yes rfl rfl rfl rfl rfl rfl (op1_pickF rfl rfl rfl) ?_
                        refine ao_step rfl rfl rfl (op1_pickT rfl rfl rfl) ?_
                        refine ao_step rfl rfl rfl (op1_assign rfl rfl) ?_
                        refine ao_nil ?_
                        change BW _ _ _ _ _
                        refine bw_ret ?_
                        change ∃ xs, _ = some xs ∧ EndOk _ _ _ _
                        obtain rfl := Option.some.inj h
                        exact ⟨_, rfl, endOk0 (y := (PV.v (.bool (decide ((IntKind.i64.wrap (s14 + 1)) > 64))))) (Wk.refl _) rfl ⟨rfl, rfl⟩⟩
                    · intro hb23; replace h := ocond_f hb23 h
                      refine ao_no rfl rfl rfl rfl rfl rfl ?_
                      refine ao_no rfl rfl rfl rfl rfl rfl ?_
                      refine ao_no rfl rfl rfl rfl rfl rfl ?_
                      refine ao_no rfl rfl rfl rfl rfl rfl ?_
                      refine ao_no rfl rfl rfl rfl rfl rfl ?_
                      refine ao_no rfl rfl rfl rfl rfl rfl ?_
                      refine ao_no rfl rfl rfl rfl rfl rfl ?_
                      refine ao_step rfl rfl rfl (op1_pickF rfl rfl rfl) ?_
                      refine ao_step rfl rfl rfl (op1_assign rfl rfl) ?_
                      refine ao_nil ?_
                      change BW _ _ _ _ _
                      refine bw_ret ?_
                      change ∃ xs, _ = some xs ∧ EndOk _ _ _ _
                      obtain rfl := Option.some.inj h
                      exact ⟨_, rfl, endOk0 (y := (PV.v (.bool false))) (Wk.refl _) rfl ⟨rfl, rfl⟩⟩
                  · intro hb22; replace h := ocond_f hb22 h
                    refine ao_no rfl rfl rfl rfl rfl rfl ?_
                    refine ao_no rfl rfl rfl rfl rfl rfl ?_
                    refine ao_step rfl rfl rfl (op1_pickF rfl rfl rfl) ?_
                    refine ao_step rfl rfl rfl (op1_move rfl rfl) ?_
                    refine ao_no rfl rfl rfl rfl rfl rfl ?_
                    refine ao_no rfl rfl rfl rfl rfl rfl ?_
                    refine ao_no rfl rfl rfl rfl rfl rfl ?_
                    refine ao_no rfl rfl rfl rfl rfl rfl ?_
                    refine ao_no rfl rfl rfl rfl rfl rfl ?_
                    refine ao_no rfl rfl rfl rfl rfl rfl ?_
                    refine ao_no rfl rfl rfl rfl rfl rfl ?_
                    refine ao_step rfl rfl rfl (op1_pickF rfl rfl rfl) ?_
                    refine ao_step rfl rfl rfl (op1_assign rfl rfl) ?_
                    refine ao_nil ?_
                    change BW _ _ _ _ _
                    refine bw_ret ?_
                    change ∃ xs, _ = some xs ∧ EndOk _ _ _ _
                    obtain rfl := Option.some.inj h
                    exact ⟨_, rfl, endOk0 (y := (PV.v (.bool false))) (Wk.refl _) rfl ⟨rfl, rfl⟩⟩
                · intro hb21; replace h := ocond_f hb21 h
                  refine ao_no rfl rfl rfl rfl rfl rfl ?_
                  refine ao_no rfl rfl rfl rfl rfl rfl ?_
                  refine ao_no rfl rfl rfl rfl rfl rfl ?_
                  refine ao_step rfl rfl rfl (op1_pickF rfl rfl rfl) ?_
                  refine ao_step rfl rfl rfl (op1_move rfl rfl) ?_
                  refine ao_no rfl rfl rfl rfl rfl rfl ?_
                  refine ao_no rfl rfl rfl rfl rfl rfl ?_
                  refine ao_step rfl rfl rfl (op1_pickF rfl rfl rfl) ?_
                  refine ao_step rfl rfl rfl (op1_move rfl rfl) ?_
                  refine ao_no rfl rfl rfl rfl rfl rfl ?_
                  refine ao_no rfl rfl rfl rfl rfl rfl ?_
                  refine ao_no rfl rfl rfl rfl rfl rfl ?_
                  refine ao_no rfl rfl rfl rfl rfl rfl ?_
                  refine ao_no rfl rfl rfl rfl rfl rfl ?_
                  refine ao_no rfl rfl rfl rfl rfl rfl ?_
                  refine ao_no rfl rfl rfl rfl rfl rfl ?_
                  refine ao_step rfl rfl rfl (op1_pickF rfl rfl rfl) ?_
                  refine ao_step rfl rfl rfl (op1_assign rfl rfl) ?_
                  refine ao_nil ?_
                  change BW _ _ _ _ _
                  refine bw_ret ?_
                  change ∃ xs, _ = some xs ∧ EndOk _ _ _ _
                  obtain rfl := Option.some.inj h
                  exact ⟨_, rfl, endOk0 (y := (PV.v (.bool false))) (Wk.refl _) rfl ⟨rfl, rfl⟩⟩
              · intro hb20; replace h := ocond_f hb20 h
                refine ao_no rfl rfl rfl rfl rfl rfl ?_
                refine ao_no rfl rfl rfl rfl rfl rfl ?_
                refine ao_no rfl rfl rfl rfl rfl rfl ?_
                refine ao_no rfl rfl rfl rfl rfl rfl ?_
                refine ao_step rfl rfl rfl (op1_pickF rfl rfl rfl) ?_
                refine ao_step rfl rfl rfl (op1_move rfl rfl) ?_
                refine ao_no rfl rfl rfl rfl rfl rfl ?_
                refine ao_no rfl rfl rfl rfl rfl rfl ?_
                refine ao_no rfl rfl rfl rfl rfl rfl ?_
                refine ao_step rfl rfl rfl (op1_pickF rfl rfl rfl) ?_
                refine ao_step rfl rfl rfl (op1_move rfl rfl) ?_
                refine ao_no rfl rfl rfl rfl rfl rfl ?_
                refine ao_no rfl rfl rfl rfl rfl rfl ?_
                refine ao_step rfl rfl rfl (op1_pickF rfl rfl rfl) ?_
                refine ao_step rfl rfl rfl (op1_move rfl rfl) ?_
                refine ao_no rfl rfl rfl rfl rfl rfl ?_
                refine ao_no rfl rfl rfl rfl rfl rfl ?_
                refine ao_no rfl rfl rfl rfl rfl rfl ?_
                refine ao_no rfl rfl rfl rfl rfl rfl ?_
                refine ao_no rfl rfl rfl rfl rfl rfl ?_
                refine ao_no rfl rfl rfl rfl rfl rfl ?_
                refine ao_no rfl rfl rfl rfl rfl rfl ?_
                refine ao_step rfl rfl rfl (op1_pickF rfl rfl rfl) ?_
                refine ao_step rfl rfl rfl (op1_assign rfl rfl) ?_
                refine ao_nil ?_
                change BW _ _ _ _ _
                refine bw_ret ?_
                change ∃ xs, _ = some xs ∧ EndOk _ _ _ _
                obtain rfl := Option.some.inj h
                exact ⟨_, rfl, endOk0 (y := (PV.v (.bool false))) (Wk.refl _) rfl ⟨rfl, rfl⟩⟩
            · intro hb19; replace h := ocond_f hb19 h
              refine ao_no rfl rfl rfl rfl rfl rfl ?_
              refine ao_no rfl rfl rfl rfl rfl rfl ?_
              refine ao_no rfl rfl rfl rfl rfl rfl ?_
              refine ao_no rfl rfl rfl rfl rfl rfl ?_
              refine ao_no rfl rfl rfl rfl rfl rfl ?_
              refine ao_no rfl rfl rfl rfl rfl rfl ?_
              refine ao_step rfl rfl rfl (op1_pickF rfl rfl rfl) ?_
              refine ao_step rfl rfl rfl (op1_move rfl rfl) ?_
              refine ao_no rfl rfl rfl rfl rfl rfl ?_
              refine ao_no rfl rfl rfl rfl rfl rfl ?_
              refine ao_no rfl rfl rfl rfl rfl rfl ?_
              refine ao_no rfl rfl rfl rfl rfl rfl ?_
              refine ao_step rfl rfl rfl (op1_pickF rfl rfl rfl) ?_
              refine ao_step rfl rfl rfl (op1_move rfl rfl) ?_
              refine ao_no rfl rfl rfl rfl rfl rfl ?_
              refine ao_no rfl rfl rfl rfl rfl rfl ?_
              refine ao_no rfl rfl rfl rfl rfl rfl ?_
              refine ao_step rfl rfl rfl (op1_pickF rfl rfl rfl) ?_
              refine ao_step rfl rfl rfl (op1_move rfl rfl) ?_
              refine ao_no rfl rfl rfl rfl rfl rfl ?_
              refine ao_no rfl rfl rfl rfl rfl rfl ?_
              refine ao_step rfl rfl rfl (op1_pickF rfl rfl rfl) ?_
              refine ao_step rfl rfl rfl (op1_move rfl rfl) ?_
              refine ao_no rfl rfl rfl rfl rfl rfl ?_
              refine ao_no rfl rfl rfl rfl rfl rfl ?_
              refine ao_no rfl rfl rfl rfl rfl rfl ?_
              refine ao_no rfl rfl rfl rfl rfl rfl ?_
              refine ao_no rfl rfl rfl rfl rfl rfl ?_
              refine ao_no rfl rfl rfl rfl rfl rfl ?_
              refine ao_no rfl rfl rfl rfl rfl rfl ?_
              refine ao_step rfl rfl rfl (op1_pickF rfl rfl rfl) ?_
              refine ao_step rfl rfl rfl (op1_assign rfl rfl) ?_
              refine ao_nil ?_
              change BW _ _ _ _ _
              refine bw_ret ?_
              change ∃ xs, _ = some xs ∧ EndOk _ _ _ _
              obtain rfl := Option.some.inj h
              exact ⟨_, rfl, endOk0 (y := (PV.v (.bool false))) (Wk.refl _) rfl ⟨rfl, rfl⟩⟩
        · refine bw_region ?_
          refine ao_step rfl rfl rfl (op1_move rfl rfl) ?_
          refine ao_step rfl rfl rfl (op1_move rfl rfl) ?_
          refine ao_step rfl rfl rfl (op1_addW rfl rfl rfl) ?_
          refine ao_step rfl rfl rfl (op1_addW rfl rfl rfl) ?_
          refine ao_step rfl rfl rfl ((op1_cmp rfl rfl rfl rfl).cast (y := (PV.v (.bool (decide ((IntKind.i64.wrap ((IntKind.i64.wrap (x3.1 + x4.1)) + 2)) > 16384))))) rfl rfl) ?_
          refine ao_step rfl rfl rfl (op1_move rfl rfl) ?_
          refine ao_cases (t := 97) rfl ?_ ?_
          · intro hb25; replace h := ocond_t hb25 h
            refine ao_no rfl rfl rfl rfl rfl rfl ?_
            refine ao_no rfl rfl rfl rfl rfl rfl ?_
            refine ao_no rfl rfl rfl rfl rfl rfl ?_
            refine ao_step rfl rfl rfl (op1_pickT rfl rfl rfl) ?_
            refine ao_nil ?_
            exact ⟨rfl, true, h, ⟨.nil, (sub_consW rfl (fun _ _ h => h) (sub_consW rfl (fun _ _ h => h) (sub_consW rfl (fun _ _ h => h) (sub_consW rfl (fun _ _ h => h) (sub_consW rfl (fun _ _ h => h) (sub_consW rfl (fun _ _ h => h) (sub_consW rfl (fun _ _ h => h) (sub_consW rfl (fun _ _ h => h) (sub_consW rfl (fun _ _ h => h) sub_nil)))))))))⟩⟩
          · intro hb25; replace h := ocond_f hb25 h
            refine ao_yes rfl rfl rfl rfl rfl rfl (op1_move rfl rfl) ?_
            refine ao_yes rfl rfl rfl rfl rfl rfl (op1_addW rfl rfl rfl) ?_
            refine ao_yes rfl rfl rfl rfl rfl rfl ((op1_cmp rfl rfl rfl rfl).cast (y := (PV.v (.bool (decide ((IntKind.i64.wrap (s14 + 1)) > 64))))) rfl rfl) ?_
            refine ao_step rfl rfl rfl (op1_pickF rfl rfl rfl) ?_
            refine ao_nil ?_
            exact ⟨rfl, (decide ((IntKind.i64.wrap (s14 + 1)) > 64)), h, ⟨.nil, (sub_consW rfl (fun _ _ h => h) (sub_consW rfl (fun _ _ h => h) (sub_consW rfl (fun _ _ h => h) (sub_consW rfl (fun _ _ h => h) (sub_consW rfl (fun _ _ h => h) (sub_consW rfl (fun _ _ h => h) (sub_consW rfl (fun _ _ h => h) (sub_consW rfl (fun _ _ h => h) (sub_consW rfl (fun _ _ h => h) sub_nil)))))))))⟩⟩
      · refine bw_seq ?_
        refine bw_region ?_
        refine ao_step rfl rfl rfl (op1_move rfl rfl) ?_
        refine ao_step rfl rfl rfl (op1_move rfl rfl) ?_
        refine ao_step rfl rfl rfl (op1_addW rfl rfl rfl) ?_
        refine ao_step rfl rfl rfl ((op1_cmp rfl rfl rfl rfl).cast (y := (PV.v (.bool (decide (x3.2.1 < (IntKind.i64.wrap (x4.2.1 + 1))))))) rfl rfl) ?_
        refine ao_nil ?_
        change BW _ _ _ _ _
        refine bw_cond rfl ?_ ?_
        · intro hc26; replace h := ocond_t hc26 h
          refine bw_region ?_
          refine ao_step rfl rfl rfl (op1_move rfl rfl) ?_
          refine ao_step rfl rfl rfl (op1_addW rfl rfl rfl) ?_
          refine ao_step rfl rfl rfl (op1_assign rfl rfl) ?_
          refine ao_nil ?_
          exact ⟨rfl, (IntKind.i64.wrap (x4.2.1 + 1)), h, ⟨.nil, (sub_consW rfl (fun _ _ h => h) (sub_consW rfl (fun _ _ h => h) (sub_consW rfl (fun _ _ h => h) (sub_consW rfl (fun _ _ h => h) (sub_consW rfl (fun _ _ h => h) (sub_consW rfl (fun _ _ h => h) (sub_consW rfl (fun _ _ h => h) (sub_consW rfl (fun _ _ h => h) sub_nil))))))))⟩⟩
        · intro hc26; replace h := ocond_f hc26 h
          refine bw_skip ?_
          exact ⟨rfl, x3.2.1, h, ⟨.nil, (sub_consW rfl (fun _ _ h => h) (sub_consW rfl (fun _ _ h => h) (sub_consW rfl (fun _ _ h => h) (sub_consW rfl (fun _ _ h => h) (sub_consW rfl (fun _ _ h => h) (sub_consW rfl (fun _ _ h => h) (sub_consW rfl (fun _ _ h => h) (sub_consW rfl (fun _ _ h => h) sub_nil))))))))⟩⟩
  · refine bw_region ?_
    refine ao_step rfl rfl rfl (op1_move rfl rfl) ?_
    refine ao_step rfl rfl rfl ((op1_cmp rfl rfl rfl rfl).cast (y := (PV.v (.bool (x3.2.2 != 0)))) rfl rfl) ?_
    refine ao_step rfl rfl rfl (op1_move rfl rfl) ?_
    refine ao_cases (t := 53) rfl ?_ ?_
    · intro hb27; replace h := ocond_t hb27 h
      refine ao_no rfl rfl rfl rfl rfl rfl ?_
      refine ao_no rfl rfl rfl rfl rfl rfl ?_
      refine ao_step rfl rfl rfl (op1_pickT rfl rfl rfl) ?_
      refine ao_nil ?_
      exact ⟨rfl, true, h, ⟨.nil, (sub_consW rfl (fun _ _ h => h) (sub_consW rfl (fun _ _ h => h) (sub_consW rfl (fun _ _ h => h) (sub_consW rfl (fun _ _ h => h) (sub_consW rfl (fun _ _ h => h) (sub_consW rfl (fun _ _ h => h) (sub_consW rfl (fun _ _ h => h) (sub_consW rfl (fun _ _ h => h) (sub_consW rfl (fun _ _ h => h) (sub_consW rfl (fun _ _ h => h) sub_nil))))))))))⟩⟩
    · intro hb27; replace h := ocond_f hb27 h
      refine ao_yes rfl rfl rfl rfl rfl rfl (op1_move rfl rfl) ?_
      refine ao_yes rfl rfl rfl rfl rfl rfl ((op1_cmp rfl rfl rfl rfl).cast (y := (PV.v (.bool (x4.2.2 != 0)))) rfl rfl) ?_
      refine ao_step rfl rfl rfl (op1_pickF rfl rfl rfl) ?_
      refine ao_nil ?_
      exact ⟨rfl, (x4.2.2 != 0), h, ⟨.nil, (sub_consW rfl (fun _ _ h => h) (sub_consW rfl (fun _ _ h => h) (sub_consW rfl (fun _ _ h => h) (sub_consW rfl (fun _ _ h => h) (sub_consW rfl (fun _ _ h => h) (sub_consW rfl (fun _ _ h => h) (sub_consW rfl (fun _ _ h => h) (sub_consW rfl (fun _ _ h => h) (sub_consW rfl (fun _ _ h => h) (sub_consW rfl (fun _ _ h => h) sub_nil))))))))))⟩⟩
end Go.Proofs.Ythfdpaboekoncaa
