/- Pure functions, and that calls answer as they say. Written by gen.py. -/
import Derived.Test.YthfdpaboekoncaaG2
namespace Go.Proofs.Ythfdpaboekoncaa
open Go Aw
set_option linter.unusedVariables false
set_option linter.unusedSimpArgs false
set_option maxRecDepth 20000
set_option maxHeartbeats 2000000
noncomputable def p_law01_ValueKinds (a0 : Term) : Option Bool :=
  Option.bind (p_mk_Built a0) fun x1 =>
  Option.bind (p_value_Check x1) fun x2 =>
  Option.bind (p_ref01_Check a0) fun x3 =>
  Option.bind (p_value_Size x1) fun x4 =>
  Option.bind (p_ref01_Size a0) fun x5 =>
  Option.bind (p_value_Kind x1) fun x6 =>
  Option.bind (p_law01_kind a0) fun x7 =>
  bif (x6 == x7) then (
    bif (x2.1 == x3.1) then (
      bif (x2.2 == x3.2) then (
        bif (x4.1 == x5.1) then (
          bif (x4.2.1 == x5.2.1) then (
            bif (x4.2.2 == x5.2.2) then (
              Option.bind (p_value_Kind (V.bool true)) fun x14 =>
              some (x14 == 2)
            ) else (
              some false
            )
          ) else (
            some false
          )
        ) else (
          some false
        )
      ) else (
        some false
      )
    ) else (
      some false
    )
  ) else (
    some false
  )
theorem s_law01_ValueKinds (a0 : Term) (r : Bool) (h : p_law01_ValueKinds a0 = some r) : PCalls Try.prog 3 [(ofTermX a0)] (PV.v (.bool r)) := by
  unfold p_law01_ValueKinds at h
  refine acalls_of Try.func3 rfl Try.ntmps3 Try.results3 rfl (aw_of_bw ?_)
  change BW _ _ _ ⟨[(0, (ofTermX a0))], [], _⟩ _
  refine bw_seq ?_
  refine bw_region ?_
  refine ao_step rfl rfl rfl (op1_box rfl rfl rfl) ?_
  refine ao_step rfl rfl rfl (op1_assign rfl rfl) ?_
  refine ao_nil ?_
  change BW _ _ _ _ _
  refine bw_seq ?_
  refine bw_region ?_
  refine ao_step rfl rfl rfl ((op1_ldRA inf_29 Try.underlying29 rfl rfl rfl rfl rfl rfl).cast (y := (PV.agg [(PV.v (.int .i64 a0.kind)), (PV.v (.bool a0.bool)), (PV.v (.int .i64 a0.int)), (PV.v (.float .f64 a0.float)), (ofStr a0.text), (PV.sl none 1 (List.map ofB a0.bytes)), (PV.v (.int .u64 a0.ref)), (PV.sl none 11 (List.map ofTerm a0.list)), (PV.sl none 12 (List.map ofEntry a0.fields)), (ofStr a0.cls), (PV.v (.int .i64 a0.ver))])) rfl rfl) ?_
  obtain ⟨x1, hx1, h⟩ := obind h
  refine ao_step rfl rfl rfl (op1_pcall rfl en_11 rfl (.cons (Wk.refl _) .nil) ⟨(ids_TermX a0), trivial⟩ (s_mk_Built a0 x1 hx1) (ids_V x1)) ?_
  refine ao_step rfl rfl rfl (op1_assign rfl rfl) ?_
  refine ao_nil ?_
  change BW _ _ _ _ _
  refine bw_seq ?_
  refine bw_region ?_
  refine ao_step rfl rfl rfl (op1_move rfl rfl) ?_
  obtain ⟨x2, hx2, h⟩ := obind h
  refine ao_step rfl rfl rfl (op1_pcall rfl en_12 rfl (.cons (Wk.refl _) .nil) ⟨(ids_V x1), trivial⟩ (s_value_Check x1 x2 hx2) (ids_tup_cons rfl (ids_tup_cons rfl ids_tup_nil))) ?_
  refine ao_step rfl rfl rfl (op1_move rfl rfl) ?_
  refine ao_step rfl rfl rfl (op1_ext rfl rfl rfl) ?_
  refine ao_step rfl rfl rfl (op1_ext rfl rfl rfl) ?_
  refine ao_step rfl rfl rfl (op1_assign rfl rfl) ?_
  refine ao_step rfl rfl rfl (op1_assign rfl rfl) ?_
  refine ao_nil ?_
  change BW _ _ _ _ _
  refine bw_seq ?_
  refine bw_region ?_
  refine ao_step rfl rfl rfl ((op1_ldRA inf_29 Try.underlying29 rfl rfl rfl rfl rfl rfl).cast (y := (PV.agg [(PV.v (.int .i64 a0.kind)), (PV.v (.bool a0.bool)), (PV.v (.int .i64 a0.int)), (PV.v (.float .f64 a0.float)), (ofStr a0.text), (PV.sl none 1 (List.map ofB a0.bytes)), (PV.v (.int .u64 a0.ref)), (PV.sl none 11 (List.map ofTerm a0.list)), (PV.sl none 12 (List.map ofEntry a0.fields)), (ofStr a0.cls), (PV.v (.int .i64 a0.ver))])) rfl rfl) ?_
  obtain ⟨x3, hx3, h⟩ := obind h
  refine ao_step rfl rfl rfl (op1_pcall rfl en_13 rfl (.cons (Wk.refl _) .nil) ⟨(ids_TermX a0), trivial⟩ (s_ref01_Check a0 x3 hx3) (ids_tup_cons rfl (ids_tup_cons rfl ids_tup_nil))) ?_
  refine ao_step rfl rfl rfl (op1_move rfl rfl) ?_
  refine ao_step rfl rfl rfl (op1_ext rfl rfl rfl) ?_
  refine ao_step rfl rfl rfl (op1_ext rfl rfl rfl) ?_
  refine ao_step rfl rfl rfl (op1_assign rfl rfl) ?_
  refine ao_step rfl rfl rfl (op1_assign rfl rfl) ?_
  refine ao_nil ?_
  change BW _ _ _ _ _
  refine bw_seq ?_
  refine bw_region ?_
  refine ao_step rfl rfl rfl (op1_move rfl rfl) ?_
  obtain ⟨x4, hx4, h⟩ := obind h
  refine ao_step rfl rfl rfl (op1_pcall rfl en_14 rfl (.cons (Wk.refl _) .nil) ⟨(ids_V x1), trivial⟩ (s_value_Size x1 x4 hx4) (ids_tup_cons rfl (ids_tup_cons rfl (ids_tup_cons rfl ids_tup_nil)))) ?_
  refine ao_step rfl rfl rfl (op1_move rfl rfl) ?_
  refine ao_step rfl rfl rfl (op1_ext rfl rfl rfl) ?_
  refine ao_step rfl rfl rfl (op1_ext rfl rfl rfl) ?_
  refine ao_step rfl rfl rfl (op1_ext rfl rfl rfl) ?_
  refine ao_step rfl rfl rfl (op1_assign rfl rfl) ?_
  refine ao_step rfl rfl rfl (op1_assign rfl rfl) ?_
  refine ao_step rfl rfl rfl (op1_assign rfl rfl) ?_
  refine ao_nil ?_
  change BW _ _ _ _ _
  refine bw_seq ?_
  refine bw_region ?_
  refine ao_step rfl rfl rfl ((op1_ldRA inf_29 Try.underlying29 rfl rfl rfl rfl rfl rfl).cast (y := (PV.agg [(PV.v (.int .i64 a0.kind)), (PV.v (.bool a0.bool)), (PV.v (.int .i64 a0.int)), (PV.v (.float .f64 a0.float)), (ofStr a0.text), (PV.sl none 1 (List.map ofB a0.bytes)), (PV.v (.int .u64 a0.ref)), (PV.sl none 11 (List.map ofTerm a0.list)), (PV.sl none 12 (List.map ofEntry a0.fields)), (ofStr a0.cls), (PV.v (.int .i64 a0.ver))])) rfl rfl) ?_
  obtain ⟨x5, hx5, h⟩ := obind h
  refine ao_step rfl rfl rfl (op1_pcall rfl en_15 rfl (.cons (Wk.refl _) .nil) ⟨(ids_TermX a0), trivial⟩ (s_ref01_Size a0 x5 hx5) (ids_tup_cons rfl (ids_tup_cons rfl (ids_tup_cons rfl ids_tup_nil)))) ?_
  refine ao_step rfl rfl rfl (op1_move rfl rfl) ?_
  refine ao_step rfl rfl rfl (op1_ext rfl rfl rfl) ?_
  refine ao_step rfl rfl rfl (op1_ext rfl rfl rfl) ?_
  refine ao_step rfl rfl rfl (op1_ext rfl rfl rfl) ?_
  refine ao_step rfl rfl rfl (op1_assign rfl rfl) ?_
  refine ao_step rfl rfl rfl (op1_assign rfl rfl) ?_
  refine ao_step rfl rfl rfl (op1_assign rfl rfl) ?_
  refine ao_nil ?_
  change BW _ _ _ _ _
  refine bw_seq ?_
  refine bw_tail 28 [] [0] mo (by kernel_rfl) ?_
  refine ac_go rfl rfl rfl rfl (fun H hp => op1_move rfl rfl) ?_
  obtain ⟨x6, hx6, h⟩ := obind h
  refine ac_go rfl rfl rfl rfl (fun H hp => op1_pcall rfl en_16 rfl (.cons (Wk.refl _) .nil) ⟨(ids_V x1), trivial⟩ (s_value_Kind x1 x6 hx6) rfl) ?_
  refine ac_go rfl rfl rfl rfl (fun H hp => (op1_ldRA inf_29 Try.underlying29 rfl rfl rfl (hp.at rfl rfl) rfl rfl).cast (y := (PV.agg [(PV.v (.int .i64 a0.kind)), (PV.v (.bool a0.bool)), (PV.v (.int .i64 a0.int)), (PV.v (.float .f64 a0.float)), (ofStr a0.text), (PV.sl none 1 (List.map ofB a0.bytes)), (PV.v (.int .u64 a0.ref)), (PV.sl none 11 (List.map ofTerm a0.list)), (PV.sl none 12 (List.map ofEntry a0.fields)), (ofStr a0.cls), (PV.v (.int .i64 a0.ver))])) rfl rfl) ?_
  obtain ⟨x7, hx7, h⟩ := obind h
  refine ac_go rfl rfl rfl rfl (fun H hp => op1_pcall rfl en_17 rfl (.cons (Wk.refl _) .nil) ⟨(ids_TermX a0), trivial⟩ (s_law01_kind a0 x7 hx7) rfl) ?_
  refine ac_go rfl rfl rfl rfl (fun H hp => (op1_cmp rfl rfl rfl rfl).cast (y := (PV.v (.bool (x6 == x7)))) rfl rfl) ?_
  refine ac_go rfl rfl rfl rfl (fun H hp => op1_move rfl rfl) ?_
  refine ac_cases 43 rfl ?_ ?_
  · intro hb8; replace h := ocond_t hb8 h
    refine ac_yes rfl rfl rfl rfl rfl rfl rfl (fun H hp => op1_move rfl rfl) ?_
    refine ac_yes rfl rfl rfl rfl rfl rfl rfl (fun H hp => op1_move rfl rfl) ?_
    refine ac_yes rfl rfl rfl rfl rfl rfl rfl (fun H hp => (op1_cmp rfl rfl rfl rfl).cast (y := (PV.v (.bool (x2.1 == x3.1)))) rfl rfl) ?_
    refine ac_go rfl rfl rfl rfl (fun H hp => op1_pickT rfl rfl rfl) ?_
    refine ac_go rfl rfl rfl rfl (fun H hp => op1_move rfl rfl) ?_
    refine ac_cases 48 rfl ?_ ?_
    · intro hb9; replace h := ocond_t hb9 h
      refine ac_yes rfl rfl rfl rfl rfl rfl rfl (fun H hp => op1_move rfl rfl) ?_
      refine ac_yes rfl rfl rfl rfl rfl rfl rfl (fun H hp => op1_move rfl rfl) ?_
      refine ac_yes rfl rfl rfl rfl rfl rfl rfl (fun H hp => (op1_cmp rfl rfl rfl rfl).cast (y := (PV.v (.bool (x2.2 == x3.2)))) rfl rfl) ?_
      refine ac_go rfl rfl rfl rfl (fun H hp => op1_pickT rfl rfl rfl) ?_
      refine ac_go rfl rfl rfl rfl (fun H hp => op1_move rfl rfl) ?_
      refine ac_cases 53 rfl ?_ ?_
      · intro hb10; replace h := ocond_t hb10 h
        refine ac_yes rfl rfl rfl rfl rfl rfl rfl (fun H hp => op1_move rfl rfl) ?_
        refine ac_yes rfl rfl rfl rfl rfl rfl rfl (fun H hp => op1_move rfl rfl) ?_
        refine ac_yes rfl rfl rfl rfl rfl rfl rfl (fun H hp => (op1_cmp rfl rfl rfl rfl).cast (y := (PV.v (.bool (x4.1 == x5.1)))) rfl rfl) ?_
        refine ac_go rfl rfl rfl rfl (fun H hp => op1_pickT rfl rfl rfl) ?_
        refine ac_go rfl rfl rfl rfl (fun H hp => op1_move rfl rfl) ?_
        refine ac_cases 58 rfl ?_ ?_
        · intro hb11; replace h := ocond_t hb11 h
          refine ac_yes rfl rfl rfl rfl rfl rfl rfl (fun H hp => op1_move rfl rfl) ?_
          refine ac_yes rfl rfl rfl rfl rfl rfl rfl (fun H hp => op1_move rfl rfl) ?_
          refine ac_yes rfl rfl rfl rfl rfl rfl rfl (fun H hp => (op1_cmp rfl rfl rfl rfl).cast (y := (PV.v (.bool (x4.2.1 == x5.2.1)))) rfl rfl) ?_
          refine ac_go rfl rfl rfl rfl (fun H hp => op1_pickT rfl rfl rfl) ?_
          refine ac_go rfl rfl rfl rfl (fun H hp => op1_move rfl rfl) ?_
          refine ac_cases 63 rfl ?_ ?_
          · intro hb12; replace h := ocond_t hb12 h
            refine ac_yes rfl rfl rfl rfl rfl rfl rfl (fun H hp => op1_move rfl rfl) ?_
            refine ac_yes rfl rfl rfl rfl rfl rfl rfl (fun H hp => op1_move rfl rfl) ?_
            refine ac_nil ?_
            change AO _ _ _ _ _
            refine ao_yes rfl rfl rfl rfl rfl rfl ((op1_cmp rfl rfl rfl rfl).cast (y := (PV.v (.bool (x4.2.2 == x5.2.2)))) rfl rfl) ?_
            refine ao_step rfl rfl rfl (op1_pickT rfl rfl rfl) ?_
            refine ao_step rfl rfl rfl (op1_move rfl rfl) ?_
            refine ao_cases (t := 68) rfl ?_ ?_
            · intro hb13; replace h := ocond_t hb13 h
              refine ao_yes rfl rfl rfl rfl rfl rfl ((op1_mkI Try.underlying4 rfl rfl rfl).wk ((Wk.iface (Wk.refl _)).trans (Wk.eq (mk_bool _).symm))) ?_
              obtain ⟨x14, hx14, h⟩ := obind h
              refine ao_yes rfl rfl rfl rfl rfl rfl (op1_pcall rfl en_16 rfl (.cons (Wk.refl _) .nil) ⟨(ids_V (V.bool true)), trivial⟩ (s_value_Kind (V.bool true) x14 hx14) rfl) ?_
              refine ao_yes rfl rfl rfl rfl rfl rfl ((op1_cmp rfl rfl rfl rfl).cast (y := (PV.v (.bool (x14 == 2)))) rfl rfl) ?_
              refine ao_step rfl rfl rfl (op1_pickT rfl rfl rfl) ?_
              refine ao_step rfl rfl rfl (op1_assign rfl rfl) ?_
              refine ao_nil ?_
              change BW _ _ _ _ _
              refine bw_ret ?_
              change ∃ xs, _ = some xs ∧ EndOk _ _ _ _
              obtain rfl := Option.some.inj h
              exact ⟨_, rfl, endOk0 (y := (PV.v (.bool (x14 == 2)))) (Wk.refl _) rfl ⟨rfl, rfl⟩⟩
            · intro hb13; replace h := ocond_f hb13 h
              refine ao_no rfl rfl rfl rfl rfl rfl ?_
              refine ao_no rfl rfl rfl rfl rfl rfl ?_
              refine ao_no rfl rfl rfl rfl rfl rfl ?_
              refine ao_step rfl rfl rfl (op1_pickF rfl rfl rfl) ?_
              refine ao_step rfl rfl rfl (op1_assign rfl rfl) ?_
              refine ao_nil ?_
              change BW _ _ _ _ _
              refine bw_ret ?_
              change ∃ xs, _ = some xs ∧ EndOk _ _ _ _
              obtain rfl := Option.some.inj h
              exact ⟨_, rfl, endOk0 (y := (PV.v (.bool false))) (Wk.refl _) rfl ⟨rfl, rfl⟩⟩
          · intro hb12; replace h := ocond_f hb12 h
            refine ac_no rfl rfl rfl rfl rfl rfl rfl ?_
            refine ac_no rfl rfl rfl rfl rfl rfl rfl ?_
            refine ac_nil ?_
            change AO _ _ _ _ _
            refine ao_no rfl rfl rfl rfl rfl rfl ?_
            refine ao_step rfl rfl rfl (op1_pickF rfl rfl rfl) ?_
            refine ao_step rfl rfl rfl (op1_move rfl rfl) ?_
            refine ao_no rfl rfl rfl rfl rfl rfl ?_
            refine ao_no rfl rfl rfl rfl rfl rfl ?_
            refine ao_no rfl rfl rfl rfl rfl rfl ?_
            refine ao_step rfl rfl rfl (op1_pickF rfl rfl rfl) ?_
            refine ao_step rfl rfl rfl (op1_assign rfl rfl) ?_
            refine ao_nil ?_
            change BW _ _ _ _ _
            refine bw_ret ?_
            change ∃ xs, _ = some xs ∧ EndOk _ _ _ _
            obtain rfl := Option.some.inj h
            exact ⟨_, rfl, endOk0 (y := (PV.v (.bool false))) (Wk.refl _) rfl ⟨rfl, rfl⟩⟩
        · intro hb11; replace h := ocond_f hb11 h
          refine ac_no rfl rfl rfl rfl rfl rfl rfl ?_
          refine ac_no rfl rfl rfl rfl rfl rfl rfl ?_
          refine ac_no rfl rfl rfl rfl rfl rfl rfl ?_
          refine ac_go rfl rfl rfl rfl (fun H hp => op1_pickF rfl rfl rfl) ?_
          refine ac_go rfl rfl rfl rfl (fun H hp => op1_move rfl rfl) ?_
          refine ac_no rfl rfl rfl rfl rfl rfl rfl ?_
          refine ac_no rfl rfl rfl rfl rfl rfl rfl ?_
          refine ac_nil ?_
          change AO _ _ _ _ _
          refine ao_no rfl rfl rfl rfl rfl rfl ?_
          refine ao_step rfl rfl rfl (op1_pickF rfl rfl rfl) ?_
          refine ao_step rfl rfl rfl (op1_move rfl rfl) ?_
          refine ao_no rfl rfl rfl rfl rfl rfl ?_
          refine ao_no rfl rfl rfl rfl rfl rfl ?_
          refine ao_no rfl rfl rfl rfl rfl rfl ?_
          refine ao_step rfl rfl rfl (op1_pickF rfl rfl rfl) ?_
          refine ao_step rfl rfl rfl (op1_assign rfl rfl) ?_
          refine ao_nil ?_
          change BW _ _ _ _ _
          refine bw_ret ?_
          change ∃ xs, _ = some xs ∧ EndOk _ _ _ _
          obtain rfl := Option.some.inj h
          exact ⟨_, rfl, endOk0 (y := (PV.v (.bool false))) (Wk.refl _) rfl ⟨rfl, rfl⟩⟩
      · intro hb10; replace h := ocond_f hb10 h
        refine ac_no rfl rfl rfl rfl rfl rfl rfl ?_
        refine ac_no rfl rfl rfl rfl rfl rfl rfl ?_
        refine ac_no rfl rfl rfl rfl rfl rfl rfl ?_
        refine ac_go rfl rfl rfl rfl (fun H hp => op1_pickF rfl rfl rfl) ?_
        refine ac_go rfl rfl rfl rfl (fun H hp => op1_move rfl rfl) ?_
        refine ac_no rfl rfl rfl rfl rfl rfl rfl ?_
        refine ac_no rfl rfl rfl rfl rfl rfl rfl ?_
        refine ac_no rfl rfl rfl rfl rfl rfl rfl ?_
        refine ac_go rfl rfl rfl rfl (fun H hp => op1_pickF rfl rfl rfl) ?_
        refine ac_go rfl rfl rfl rfl (fun H hp => op1_move rfl rfl) ?_
        refine ac_no rfl rfl rfl rfl rfl rfl rfl ?_
        refine ac_no rfl rfl rfl rfl rfl rfl rfl ?_
        refine ac_nil ?_
        change AO _ _ _ _ _
        refine ao_no rfl rfl rfl rfl rfl rfl ?_
        refine ao_step rfl rfl rfl (op1_pickF rfl rfl rfl) ?_
        refine ao_step rfl rfl rfl (op1_move rfl rfl) ?_
        refine ao_no rfl rfl rfl rfl rfl rfl ?_
        refine ao_no rfl rfl rfl rfl rfl rfl ?_
        refine ao_no rfl rfl rfl rfl rfl rfl ?_
        refine ao_step rfl rfl rfl (op1_pickF rfl rfl rfl) ?_
        refine ao_step rfl rfl rfl (op1_assign rfl rfl) ?_
        refine ao_nil ?_
        change BW _ _ _ _ _
        refine bw_ret ?_
        change ∃ xs, _ = some xs ∧ EndOk _ _ _ _
        obtain rfl := Option.some.inj h
        exact ⟨_, rfl, endOk0 (y := (PV.v (.bool false))) (Wk.refl _) rfl ⟨rfl, rfl⟩⟩
    · intro hb9; replace h := ocond_f hb9 h
      refine ac_no rfl rfl rfl rfl rfl rfl rfl ?_
      refine ac_no rfl rfl rfl rfl rfl rfl rfl ?_
      refine ac_no rfl rfl rfl rfl rfl rfl rfl ?_
      refine ac_go rfl rfl rfl rfl (fun H hp => op1_pickF rfl rfl rfl) ?_
      refine ac_go rfl rfl rfl rfl (fun H hp => op1_move rfl rfl) ?_
      refine ac_no rfl rfl rfl rfl rfl rfl rfl ?_
      refine ac_no rfl rfl rfl rfl rfl rfl rfl ?_
      refine ac_no rfl rfl rfl rfl rfl rfl rfl ?_
      refine ac_go rfl rfl rfl rfl (fun H hp => op1_pickF rfl rfl rfl) ?_
      refine ac_go rfl rfl rfl rfl (fun H hp => op1_move rfl rfl) ?_
      refine ac_no rfl rfl rfl rfl rfl rfl rfl ?_
      refine ac_no rfl rfl rfl rfl rfl rfl rfl ?_
      refine ac_no rfl rfl rfl rfl rfl rfl rfl ?_
      refine ac_go rfl rfl rfl rfl (fun H hp => op1_pickF rfl rfl rfl) ?_
      refine ac_go rfl rfl rfl rfl (fun H hp => op1_move rfl rfl) ?_
      refine ac_no rfl rfl rfl rfl rfl rfl rfl ?_
      refine ac_no rfl rfl rfl rfl rfl rfl rfl ?_
      refine ac_nil ?_
      change AO _ _ _ _ _
      refine ao_no rfl rfl rfl rfl rfl rfl ?_
      refine ao_step rfl rfl rfl (op1_pickF rfl rfl rfl) ?_
      refine ao_step rfl rfl rfl (op1_move rfl rfl) ?_
      refine ao_no rfl rfl rfl rfl rfl rfl ?_
      refine ao_no rfl rfl rfl rfl rfl rfl ?_
      refine ao_no rfl rfl rfl rfl rfl rfl ?_
      refine ao_step rfl rfl rfl (op1_pickF rfl rfl rfl) ?_
      refine ao_step rfl rfl rfl (op1_assign rfl rfl) ?_
      refine ao_nil ?_
      change BW _ _ _ _ _
      refine bw_ret ?_
      change ∃ xs, _ = some xs ∧ EndOk _ _ _ _
      obtain rfl := Option.some.inj h
      exact ⟨_, rfl, endOk0 (y := (PV.v (.bool false))) (Wk.refl _) rfl ⟨rfl, rfl⟩⟩
  · intro hb8; replace h := ocond_f hb8 h
    refine ac_no rfl rfl rfl rfl rfl rfl rfl ?_
    refine ac_no rfl rfl rfl rfl rfl rfl rfl ?_
    refine ac_no rfl rfl rfl rfl rfl rfl rfl ?_
    refine ac_go rfl rfl rfl rfl (fun H hp => op1_pickF rfl rfl rfl) ?_
    refine ac_go rfl rfl rfl rfl (fun H hp => op1_move rfl rfl) ?_
    refine ac_no rfl rfl rfl rfl rfl rfl rfl ?_
    refine ac_no rfl rfl rfl rfl rfl rfl rfl ?_
    refine ac_no rfl rfl rfl rfl rfl rfl rfl ?_
    refine ac_go rfl rfl rfl rfl (fun H hp => op1_pickF rfl rfl rfl) ?_
    refine ac_go rfl rfl rfl rfl (fun H hp => op1_move rfl rfl) ?_
    refine ac_no rfl rfl rfl rfl rfl rfl rfl ?_
    refine ac_no rfl rfl rfl rfl rfl rfl rfl ?_
    refine ac_no rfl rfl rfl rfl rfl rfl rfl ?_
    refine ac_go rfl rfl rfl rfl (fun H hp => op1_pickF rfl rfl rfl) ?_
    refine ac_go rfl rfl rfl rfl (fun H hp => op1_move rfl rfl) ?_
    refine ac_no rfl rfl rfl rfl rfl rfl rfl ?_
    refine ac_no rfl rfl rfl rfl rfl rfl rfl ?_
    refine ac_no rfl rfl rfl rfl rfl rfl rfl ?_
    refine ac_go rfl rfl rfl rfl (fun H hp => op1_pickF rfl rfl rfl) ?_
    refine ac_go rfl rfl rfl rfl (fun H hp => op1_move rfl rfl) ?_
    refine ac_no rfl rfl rfl rfl rfl rfl rfl ?_
    refine ac_no rfl rfl rfl rfl rfl rfl rfl ?_
    refine ac_nil ?_
    change AO _ _ _ _ _
    refine ao_no rfl rfl rfl rfl rfl rfl ?_
    refine ao_step rfl rfl rfl (op1_pickF rfl rfl rfl) ?_
    refine ao_step rfl rfl rfl (op1_move rfl rfl) ?_
    refine ao_no rfl rfl rfl rfl rfl rfl ?_
    refine ao_no rfl rfl rfl rfl rfl rfl ?_
    refine ao_no rfl rfl rfl rfl rfl rfl ?_
    refine ao_step rfl rfl rfl (op1_pickF rfl rfl rfl) ?_
    refine ao_step rfl rfl rfl (op1_assign rfl rfl) ?_
    refine ao_nil ?_
    change BW _ _ _ _ _
    refine bw_ret ?_
    change ∃ xs, _ = some xs ∧ EndOk _ _ _ _
    obtain rfl := Option.some.inj h
    exact ⟨_, rfl, endOk0 (y := (PV.v (.bool false))) (Wk.refl _) rfl ⟨rfl, rfl⟩⟩
end Go.Proofs.Ythfdpaboekoncaa
