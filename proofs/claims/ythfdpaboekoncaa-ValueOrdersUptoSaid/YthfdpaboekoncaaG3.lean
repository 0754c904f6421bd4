/- Pure functions, and that calls answer as they say. Written by gen.py. -/
import Derived.Test.YthfdpaboekoncaaG2
namespace Go.Proofs.Ythfdpaboekoncaa
open Go Aw
set_option linter.unusedVariables false
set_option linter.unusedSimpArgs false
set_option maxRecDepth 20000
set_option maxHeartbeats 2000000
noncomputable def p_law01_ValueKinds (a0 : Term) : Option Bool :=
  Option.bind (p_mk_Built a0) fun x1 =>
  Option.bind (p_value_Check x1) fun x2 =>
  Option.bind (p_ref01_Check a0) fun x3 =>
  Option.bind (p_value_Size x1) fun x4 =>
  Option.bind (p_ref01_Size a0) fun x5 =>
  Option.bind (p_value_Kind x1) fun x6 =>
  Option.bind (p_law01_kind a0) fun x7 =>
  bif (x6 == x7) then (
    bif (x2.1 == x3.1) then (
      bif (x2.2 == x3.2) then (
        bif (x4.1 == x5.1) then (
          bif (x4.2.1 == x5.2.1) then (
            bif (x4.2.2 == x5.2.2) then (
              Option.bind (p_value_Kind (V.bool true)) fun x14 =>
              some (x14 == 2)
            ) else (
              some false
            )
          ) else (
            some false
          )
        ) else (
          some false
        )
      ) else (
        some false
      )
    ) else (
      some false
    )
  ) else (
    some false
  )
theorem s_law01_ValueKinds (a0 : Term) (r : Bool) (h : p_law01_ValueKinds a0 = some r) : PCalls Try.prog 3 [(ofTermX a0)] (PV.v (.bool r)) := by
  unfold p_law01_ValueKinds at h
  refine acalls_of Try.func3 rfl Try.ntmps3 Try.results3 rfl (aw_of_bw ?_)
  change BW _ _ _ ⟨[(0, (ofTermX a0))], [], _⟩ _
  refine bw_seq ?_
  refine bw_region ?_
  refine ao_step rfl rfl rfl (op1_box rfl rfl rfl) ?_
  refine ao_step rfl rfl rfl (op1_assign rfl rfl) ?_
  refine ao_nil ?_
  change BW _ _ _ _ _
  refine bw_seq ?_
  refine bw_region ?_
  refine ao_step rfl rfl rfl ((op1_ldRA inf_29 Try.underlying29 rfl rfl rfl rfl rfl rfl).cast (y := (PV.agg [(PV.v (.int .i64 a0.kind)), (PV.v (.bool a0.bool)), (PV.v (.int .i64 a0.int)), (PV.v (.float .f64 a0.float)), (ofStr a0.text), (PV.sl none 1 (List.map ofB a0.bytes)), (PV.v (.int .u64 a0.ref)), (PV.sl none 11 (List.map ofTerm a0.list)), (PV.sl none 12 (List.map ofEntry a0.fields)), (ofStr a0.cls), (PV.v (.int .i64 a0.ver))])) rfl rfl) ?_
  obtain ⟨x1, hx1, h⟩ := obind h
  refine ao_step rfl rfl rfl (op1_pcall rfl en_11 rfl (.cons (Wk.refl _) .nil) ⟨(ids_TermX a0), trivial⟩ (s_mk_Built a0 x1 hx1) (ids_V x1)) ?_
  refine ao_step rfl rfl rfl (op1_assign rfl rfl) ?_
  refine ao_nil ?_
  change BW _ _ _ _ _
  refine bw_seq ?_
  refine bw_region ?_
  refine ao_step rfl rfl rfl (op1_move rfl rfl) ?_
  obtain ⟨x2, hx2, h⟩ := obind h
  refine ao_step rfl rfl rfl (op1_pcall rfl en_12 rfl (.cons (Wk.refl _) .nil) ⟨(ids_V x1), trivial⟩ (s_value_Check x1 x2 hx2) (ids_tup_cons rfl (ids_tup_cons rfl ids_tup_nil))) ?_
  refine ao_step rfl rfl rfl (op1_move rfl rfl) ?_
  refine ao_step rfl rfl rfl (op1_ext rfl rfl rfl) ?_
  refine ao_step rfl rfl rfl (op1_ext rfl rfl rfl) ?_
  refine ao_step rfl rfl rfl (op1_assign rfl rfl) ?_
  refine ao_step rfl rfl rfl (op1_assign rfl rfl) ?_
  refine ao_nil ?_
  change BW _ _ _ _ _
  refine bw_seq ?_
  refine bw_region ?_
  refine ao_step rfl rfl rfl ((op1_ldRA inf_29 Try.underlying29 rfl rfl rfl rfl rfl rfl).cast (y := (PV.agg [(PV.v (.int .i64 a0.kind)), (PV.v (.bool a0.bool)), (PV.v (.int .i64 a0.int)), (PV.v (.float .f64 a0.float)), (ofStr a0.text), (PV.sl none 1 (List.map ofB a0.bytes)), (PV.v (.int .u64 a0.ref)), (PV.sl none 11 (List.map ofTerm a0.list)), (PV.sl none 12 (List.map ofEntry a0.fields)), (ofStr a0.cls), (PV.v (.int .i64 a0.ver))])) rfl rfl) ?_
  obtain ⟨x3, hx3, h⟩ := obind h
  refine ao_step rfl rfl rfl (op1_pcall rfl en_13 rfl (.cons (Wk.refl _) .nil) ⟨(ids_TermX a0), trivial⟩ (s_ref01_Check a0 x3 hx3) (ids_tup_cons rfl (ids_tup_cons rfl ids_tup_nil))) ?_
  refine ao_step rfl rfl rfl (op1_move rfl rfl) ?_
  refine ao_step rfl rfl rfl (op1_ext rfl rfl rfl) ?_
  refine ao_step rfl rfl rfl (op1_ext rfl rfl rfl) ?_
  refine ao_step rfl rfl rfl (op1_assign rfl rfl) ?_
  refine ao_step rfl rfl rfl (op1_assign rfl rfl) ?_
  refine ao_nil ?_
  change BW _ _ _ _ _
  refine bw_seq ?_
  refine bw_region ?_
  refine ao_step rfl rfl rfl (op1_move rfl rfl) ?_
  obtain ⟨x4, hx4, h⟩ := obind h
  refine ao_step rfl rfl rfl (op1_pcall rfl en_14 rfl (.cons (Wk.refl _) .nil) ⟨(ids_V x1), trivial⟩ (s_value_Size x1 x4 hx4) (ids_tup_cons rfl (ids_tup_cons rfl (ids_tup_cons rfl ids_tup_nil)))) ?_
  refine ao_step rfl rfl rfl (op1_move rfl rfl) ?_
  refine ao_step rfl rfl rfl (op1_ext rfl rfl rfl) ?_
  refine ao_step rfl rfl rfl (op1_ext rfl rfl rfl) ?_
  refine ao_step rfl rfl rfl (op1_ext rfl rfl rfl) ?_
  refine ao_step rfl rfl rfl (op1_assign rfl rfl) ?_
  refine ao_step rfl rfl rfl (op1_assign rfl rfl) ?_
  refine ao_step rfl rfl rfl (op1_assign rfl rfl) ?_
  refine ao_nil ?_
  change BW _ _ _ _ _
  refine bw_seq ?_
  refine bw_region ?_
  refine ao_step rfl rfl rfl ((op1_ldRA inf_29 Try.underlying29 rfl rfl rfl rfl rfl rfl).cast (y := (PV.agg [(PV.v (.int .i64 a0.kind)), (PV.v (.bool a0.bool)), (PV.v (.int .i64 a0.int)), (PV.v (.float .f64 a0.float)), (ofStr a0.text), (PV.sl none 1 (List.map ofB a0.bytes)), (PV.v (.int .u64 a0.ref)), (PV.sl none 11 (List.map ofTerm a0.list)), (PV.sl none 12 (List.map ofEntry a0.fields)), (ofStr a0.cls), (PV.v (.int .i64 a0.ver))])) rfl rfl) ?_
  obtain ⟨x5, hx5, h⟩ := obind h
  refine ao_step rfl rfl rfl (op1_pcall rfl en_15 rfl (.cons (Wk.refl _) .nil) ⟨(ids_TermX a0), trivial⟩ (s_ref01_Size a0 x5 hx5) (ids_tup_cons rfl (ids_tup_cons rfl (ids_tup_cons rfl ids_tup_nil)))) ?_
  refine ao_step rfl rfl rfl (op1_move rfl rfl) ?_
  refine ao_step rfl rfl rfl (op1_ext rfl rfl rfl) ?_
  refine ao_step rfl rfl rfl (op1_ext rfl rfl rfl) ?_
  refine ao_step rfl rfl rfl (op1_ext rfl rfl rfl) ?_
  refine ao_step rfl rfl rfl (op1_assign rfl rfl) ?_
  refine ao_step rfl rfl rfl (op1_assign rfl rfl) ?_
  refine ao_step rfl rfl rfl (op1_assign rfl rfl) ?_
  refine ao_nil ?_
  change BW _ _ _ _ _
  refine bw_seq ?_
  refine bw_tail 28 [] [0] mo (by kernel_rfl) ?_
  refine ac_go rfl rfl rfl rfl (fun H hp => op1_move rfl rfl) ?_
  obtain ⟨x6, hx6, h⟩ := obind h
  refine ac_go rfl rfl rfl rfl (fun H hp => op1_pcall rfl en_16 rfl (.cons (Wk.refl _) .nil) ⟨(ids_V x1), trivial⟩ (s_value_Kind x1 x6 hx6) rfl) ?_
  refine ac_go rfl rfl rfl rfl (fun H hp => (op1_ldRA inf_29 Try.underlying29 rfl rfl rfl (hp.at rfl rfl) rfl rfl).cast (y := (PV.agg [(PV.v (.int .i64 a0.kind)), (PV.v (.bool a0.bool)), (PV.v (.int .i64 a0.int)), (PV.v (.float .f64 a0.float)), (ofStr a0.text), (PV.sl none 1 (List.map ofB a0.bytes)), (PV.v (.int .u64 a0.ref)), (PV.sl none 11 (List.map ofTerm a0.list)), (PV.sl none 12 (List.map ofEntry a0.fields)), (ofStr a0.cls), (PV.v (.int .i64 a0.ver))])) rfl rfl) ?_
  obtain ⟨x7, hx7, h⟩ := obind h
  refine ac_go rfl rfl rfl rfl (fun H hp => op1_pcall rfl en_17 rfl (.cons (Wk.refl _) .nil) ⟨(ids_TermX a0), trivial⟩ (s_law01_kind a0 x7 hx7) rfl) ?_
  refine ac_go rfl rfl rfl rfl (fun H hp => (op1_cmp rfl rfl rfl rfl).cast (y := (PV.v (.bool (x6 == x7)))) rfl rfl) ?_
  refine ac_go rfl rfl rfl rfl (fun H hp => op1_move rfl rfl) ?_
  refine ac_cases 43 rfl ?_ ?_
  · intro hb8; replace h := ocond_t hb8 h
    refine ac_yes rfl rfl rfl rfl rfl rfl rfl (fun H hp => op1_move rfl rfl) ?_
    refine ac_yes rfl rfl rfl rfl rfl rfl rfl (fun H hp => op1_move rfl rfl) ?_
    refine ac_yes rfl rfl rfl rfl rfl rfl rfl (fun H hp => (op1_cmp rfl rfl rfl rfl).cast (y := (PV.v (.bool (x2.1 == x3.1)))) rfl rfl) ?_
    refine ac_go rfl rfl rfl rfl (fun H hp => op1_pickT rfl rfl rfl) ?_
    refine ac_go rfl rfl rfl rfl (fun H hp => op1_move rfl rfl) ?_
    refine ac_cases 48 rfl ?_ ?_
    · intro hb9; replace h := ocond_t hb9 h
      refine ac_yes rfl rfl rfl rfl rfl rfl rfl (fun H hp => op1_move rfl rfl) ?_
      refine ac_yes rfl rfl rfl rfl rfl rfl rfl (fun H hp => op1_move rfl rfl) ?_
      refine ac_yes rfl rfl rfl rfl rfl rfl rfl (fun H hp => (op1_cmp rfl rfl rfl rfl).cast (y := (PV.v (.bool (x2.2 == x3.2)))) rfl rfl) ?_
      refine ac_go rfl rfl rfl rfl (fun H hp => op1_pickT rfl rfl rfl) ?_
      refine ac_go rfl rfl rfl rfl (fun H hp => op1_move rfl rfl) ?_
      refine ac_cases 53 rfl ?_ ?_
      · intro hb10; replace h := ocond_t hb10 h
        refine ac_yes rfl rfl rfl rfl rfl rfl rfl (fun H hp => op1_move rfl rfl) ?_
        refine ac_yes rfl rfl rfl rfl rfl rfl rfl (fun H hp => op1_move rfl rfl) ?_
        refine ac_yes rfl rfl rfl rfl rfl rfl rfl (fun H hp => (op1_cmp rfl rfl rfl rfl).cast (y := (PV.v (.bool (x4.1 == x5.1)))) rfl rfl) ?_
        refine ac_go rfl rfl rfl rfl (fun H hp => op1_pickT rfl rfl rfl) ?_
        refine ac_go rfl rfl rfl rfl (fun H hp => op1_move rfl rfl) ?_
        refine ac_cases 58 rfl ?_ ?_
        · intro hb11; replace h := ocond_t hb11 h
          refine ac_yes rfl rfl rfl rfl rfl rfl rfl (fun H hp => op1_move rfl rfl) ?_
          refine ac_yes rfl rfl rfl rfl rfl rfl rfl (fun H hp => op1_move rfl rfl) ?_
          refine ac_yes rfl rfl rfl rfl rfl rfl rfl (fun H hp => (op1_cmp rfl rfl rfl rfl).cast (y := (PV.v (.bool (x4.2.1 == x5.2.1)))) rfl rfl) ?_
          refine ac_go rfl rfl rfl rfl (fun H hp => op1_pickT rfl rfl rfl) ?_
          refine ac_go rfl rfl rfl rfl (fun H hp => op1_move rfl rfl) ?_
          refine ac_cases 63 rfl ?_ ?_
          · intro hb12; replace h := ocond_t hb12 h
            refine ac_yes rfl rfl rfl rfl rfl rfl rfl (fun H hp => op1_move rfl rfl) ?_
            refine ac_yes rfl rfl rfl rfl rfl rfl rfl (fun H hp => op1_move rfl rfl) ?_
            refine ac_nil ?_
            change AO _ _ _ _ _
            refine ao_yes rfl rfl rfl rfl rfl rfl ((op1_cmp rfl rfl rfl rfl).cast (y := (PV.v (.bool (x4.2.2 == x5.2.2)))) rfl rfl) ?_
            refine ao_step rfl rfl rfl (op1_pickT rfl rfl rfl) ?_
            refine ao_step rfl rfl rfl (op1_move rfl rfl) ?_
            refine ao_cases (t := 68) rfl ?_ ?_
            · intro hb13; replace h := ocond_t hb13 h
              refine ao_yes rfl rfl rfl rfl rfl rfl ((op1_mkI Try.underlying4 rfl rfl rfl).wk ((Wk.iface (Wk.refl _)).trans (Wk.eq (mk_bool _).symm))) ?_
              obtain ⟨x14, hx14, h⟩ := obind h
              refine ao_yes rfl rfl rfl rfl rfl rfl (op1_pcall rfl en_16 rfl (.cons (Wk.refl _) .nil) ⟨(ids_V (V.bool true)), trivial⟩ (s_value_Kind (V.bool true) x14 hx14) rfl) ?_
              refine ao_yes rfl rfl rfl rfl rfl rfl ((op1_cmp rfl rfl rfl rfl).cast (y := (PV.v (.bool (x14 == 2)))) rfl rfl) ?_
              refine ao_step rfl rfl rfl (op1_pickT rfl rfl rfl) ?_
              refine ao_step rfl rfl rfl (op1_assign rfl rfl) ?_
              refine ao_nil ?_
              change BW _ _ _ _ _
              refine bw_ret ?_
              change ∃ xs, _ = some xs ∧ EndOk _ _ _ _
              obtain rfl := Option.some.inj h
              exact ⟨_, rfl, endOk0 (y := (PV.v (.bool (x14 == 2)))) (Wk.refl _) rfl ⟨rfl, rfl⟩⟩
            · intro hb13; replace h := ocond_f hb13 h
              refine ao_no rfl rfl rfl rfl rfl rfl ?_
              refine ao_no rfl rfl rfl rfl rfl rfl ?_
              refine ao_no rfl rfl rfl rfl rfl rfl ?_
              refine ao_step rfl rfl rfl (op1_pickF rfl rfl rfl) ?_
              refine ao_step rfl rfl rfl (op1_assign rfl rfl) ?_
              refine ao_nil ?_
              change BW _ _ _ _ _
              refine bw_ret ?_
              change ∃ xs, _ = some xs ∧ EndOk _ _ _ _
              obtain rfl := Option.some.inj h
              exact ⟨_, rfl, endOk0 (y := (PV.v (.bool false))) (Wk.refl _) rfl ⟨rfl, rfl⟩⟩
          · intro hb12; replace h := ocond_f hb12 h
            refine ac_no rfl rfl rfl rfl rfl rfl rfl ?_
            refine ac_no rfl rfl rfl rfl rfl rfl rfl ?_
            refine ac_nil ?_
            change AO _ _ _ _ _
            refine ao_no rfl rfl rfl rfl rfl rfl ?_
            refine ao_step rfl rfl rfl (op1_pickF rfl rfl rfl) ?_
            refine ao_step rfl rfl rfl (op1_move rfl rfl) ?_
            refine ao_no rfl rfl rfl rfl rfl rfl ?_
            refine ao_no rfl rfl rfl rfl rfl rfl ?_
            refine ao_no rfl rfl rfl rfl rfl rfl ?_
            refine ao_step rfl rfl rfl (op1_pickF rfl rfl rfl) ?_
            refine ao_step rfl rfl rfl (op1_assign rfl rfl) ?_
            refine ao_nil ?_
            change BW _ _ _ _ _
            refine bw_ret ?_
            change ∃ xs, _ = some xs ∧ EndOk _ _ _ _
            obtain rfl := Option.some.inj h
            exact ⟨_, rfl, endOk0 (y := (PV.v (.bool false))) (Wk.refl _) rfl ⟨rfl, rfl⟩⟩
        · intro hb11; replace h := ocond_f hb11 h
          refine ac_no rfl rfl rfl rfl rfl rfl rfl ?_
          refine ac_no rfl rfl rfl rfl rfl rfl rfl ?_
          refine ac_no rfl rfl rfl rfl rfl rfl rfl ?_
          refine ac_go rfl rfl rfl rfl (fun H hp => op1_pickF rfl rfl rfl) ?_
          refine ac_go rfl rfl rfl rfl (fun H hp => op1_move rfl rfl) ?_
          refine ac_no rfl rfl rfl rfl rfl rfl rfl ?_
          refine ac_no rfl rfl rfl rfl rfl rfl rfl ?_
          refine ac_nil ?_
          change AO _ _ _ _ _
          refine ao_no rfl rfl rfl rfl rfl rfl ?_
          refine ao_step rfl rfl rfl (op1_pickF rfl rfl rfl) ?_
          refine ao_step rfl rfl rfl (op1_move rfl rfl) ?_
          refine ao_no rfl rfl rfl rfl rfl rfl ?_
          refine ao_no rfl rfl rfl rfl rfl rfl ?_
          refine ao_no rfl rfl rfl rfl rfl rfl ?_
          refine ao_step rfl rfl rfl (op1_pickF rfl rfl rfl) ?_
          refine ao_step rfl rfl rfl (op1_assign rfl rfl) ?_
          refine ao_nil ?_
          change BW _ _ _ _ _
          refine bw_ret ?_
          change ∃ xs, _ = some xs ∧ EndOk _ _ _ _
          obtain rfl := Option.some.inj h
          exact ⟨_, rfl, endOk0 (y := (PV.v (.bool false))) (Wk.refl _) rfl ⟨rfl, rfl⟩⟩
      · intro hb10; replace h := ocond_f hb10 h
        refine ac_no rfl rfl rfl rfl rfl rfl rfl ?_
        refine ac_no rfl rfl rfl rfl rfl rfl rfl ?_
        refine ac_no rfl rfl rfl rfl rfl rfl rfl ?_
        refine ac_go rfl rfl rfl rfl (fun H hp => op1_pickF rfl rfl rfl) ?_
        refine ac_go rfl rfl rfl rfl (fun H hp => op1_move rfl rfl) ?_
        refine ac_no rfl rfl rfl rfl rfl rfl rfl ?_
        refine ac_no rfl rfl rfl rfl rfl rfl rfl ?_
        refine ac_no rfl rfl rfl rfl rfl rfl rfl ?_
        refine ac_go rfl rfl rfl rfl (fun H hp => op1_pickF rfl rfl rfl) ?_
        refine ac_go rfl rfl rfl rfl (fun H hp => op1_move rfl rfl) ?_
        refine ac_no rfl rfl rfl rfl rfl rfl rfl ?_
        refine ac_no rfl rfl rfl rfl rfl rfl rfl ?_
        refine ac_nil ?_
        change AO _ _ _ _ _
        refine ao_no rfl rfl rfl rfl rfl rfl ?_
        refine ao_step rfl rfl rfl (op1_pickF rfl rfl rfl) ?_
        refine ao_step rfl rfl rfl (op1_move rfl rfl) ?_
        refine ao_no rfl rfl rfl rfl rfl rfl ?_
        refine ao_no rfl rfl rfl rfl rfl rfl ?_
        refine ao_no rfl rfl rfl rfl rfl rfl ?_
        refine ao_step rfl rfl rfl (op1_pickF rfl rfl rfl) ?_
        refine ao_step rfl rfl rfl (op1_assign rfl rfl) ?_
        refine ao_nil ?_
        change BW _ _ _ _ _
        refine bw_ret ?_
        change ∃ xs, _ = some xs ∧ EndOk _ _ _ _
        obtain rfl := Option.some.inj h
        exact ⟨_, rfl, endOk0 (y := (PV.v (.bool false))) (Wk.refl _) rfl ⟨rfl, rfl⟩⟩
    · intro hb9; replace h := ocond_f hb9 h
      refine ac_no rfl rfl rfl rfl rfl rfl rfl ?_
      refine ac_no rfl rfl rfl rfl rfl rfl rfl ?_
      refine ac_no rfl rfl rfl rfl rfl rfl rfl ?_
      refine ac_go rfl rfl rfl rfl (fun H hp => op1_pickF rfl rfl rfl) ?_
      refine ac_go rfl rfl rfl rfl (fun H hp => op1_move rfl rfl) ?_
      refine ac_no rfl rfl rfl rfl rfl rfl rfl ?_
      refine ac_no rfl rfl rfl rfl rfl rfl rfl ?_
      refine ac_no rfl rfl rfl rfl rfl rfl rfl ?_
      refine ac_go rfl rfl rfl rfl (fun H hp => op1_pickF rfl rfl rfl) ?_
      refine ac_go rfl rfl rfl rfl (fun H hp => op1_move rfl rfl) ?_
      refine ac_no rfl rfl rfl rfl rfl rfl rfl ?_
      refine ac_no rfl rfl rfl rfl rfl rfl rfl ?_
      refine ac_no rfl rfl rfl rfl rfl rfl rfl ?_
      refine ac_go rfl rfl rfl rfl (fun H hp => op1_pickF rfl rfl rfl) ?_
      refine ac_go rfl rfl rfl rfl (fun H hp => op1_move rfl rfl) ?_
      refine ac_no rfl rfl rfl rfl rfl rfl rfl ?_
      refine ac_no rfl rfl rfl rfl rfl rfl rfl ?_
      refine ac_nil ?_
      change AO _ _ _ _ _
      refine ao_no rfl rfl rfl rfl rfl rfl ?_
      refine ao_step rfl rfl rfl (op1_pickF rfl rfl rfl) ?_
      refine ao_step rfl rfl rfl (op1_move rfl rfl) ?_
      refine ao_no rfl rfl rfl rfl rfl rfl ?_
      refine ao_no rfl rfl rfl rfl rfl rfl ?_
      refine ao_no rfl rfl rfl rfl rfl rfl ?_
      refine ao_step rfl rfl rfl (op1_pickF rfl rfl rfl) ?_
      refine ao_step rfl rfl rfl (op1_assign rfl rfl) ?_
      refine ao_nil ?_
      change BW _ _ _ _ _
      refine bw_ret ?_
      change ∃ xs, _ = some xs ∧ EndOk _ _ _ _
      obtain rfl := Option.some.inj h
      exact ⟨_, rfl, endOk0 (y := (PV.v (.bool false))) (Wk.refl _) rfl ⟨rfl, rfl⟩⟩
  · intro hb8; replace h := ocond_f hb8 h
    refine ac_no rfl rfl rfl rfl rfl rfl rfl ?_
    refine ac_no rfl rfl rfl rfl rfl rfl rfl ?_
    refine ac_no rfl rfl rfl rfl rfl rfl rfl ?_
    refine ac_go rfl rfl rfl rfl (fun H hp => op1_pickF rfl rfl rfl) ?_
    refine ac_go rfl rfl rfl rfl (fun H hp => op1_move rfl rfl) ?_
    refine ac_no rfl rfl rfl rfl rfl rfl rfl ?_
    refine ac_no rfl rfl rfl rfl rfl rfl rfl ?_
    refine ac_no rfl rfl rfl rfl rfl rfl rfl ?_
    refine ac_go rfl rfl rfl rfl (fun H hp => op1_pickF rfl rfl rfl) ?_
    refine ac_go rfl rfl rfl rfl (fun H hp => op1_move rfl rfl) ?_
    refine ac_no rfl rfl rfl rfl rfl rfl rfl ?_
    refine ac_no rfl rfl rfl rfl rfl rfl rfl ?_
    refine ac_no rfl rfl rfl rfl rfl rfl rfl ?_
    refine ac_go rfl rfl rfl rfl (fun H hp => op1_pickF rfl rfl rfl) ?_
    refine ac_go rfl rfl rfl rfl (fun H hp => op1_move rfl rfl) ?_
    refine ac_no rfl rfl rfl rfl rfl rfl rfl ?_
    refine ac_no rfl rfl rfl rfl rfl rfl rfl ?_
    refine ac_no rfl rfl rfl rfl rfl rfl rfl ?_
    refine ac_go rfl rfl rfl rfl (fun H hp => op1_pickF rfl rfl rfl) ?_
    refine ac_go rfl rfl rfl rfl (fun H hp => op1_move rfl rfl) ?_
    refine ac_no rfl rfl rfl rfl rfl rfl rfl ?_
    refine ac_no rfl rfl rfl rfl rfl rfl rfl ?_
    refine ac_nil ?_
    change AO _ _ _ _ _
    refine ao_no rfl rfl rfl rfl rfl rfl ?_
    refine ao_step rfl rfl rfl (op1_pickF rfl rfl rfl) ?_
    refine ao_step rfl rfl rfl (op1_move rfl rfl) ?_
    refine ao_no rfl rfl rfl rfl rfl rfl ?_
    refine ao_no rfl rfl rfl rfl rfl rfl ?_
    refine ao_no rfl rfl rfl rfl rfl rfl ?_
    refine ao_step rfl rfl rfl (op1_pickF rfl rfl rfl) ?_
    refine ao_step rfl rfl rfl (op1_assign rfl rfl) ?_
    refine ao_nil ?_
    change BW _ _ _ _ _
    refine bw_ret ?_
    change ∃ xs, _ = some xs ∧ EndOk _ _ _ _
    obtain rfl := Option.some.inj h
    exact ⟨_, rfl, endOk0 (y := (PV.v (.bool false))) (Wk.refl _) rfl ⟨rfl, rfl⟩⟩
noncomputable def p_value_cmp_int (a0 : Int) (a1 : Int) : Option Int :=
  bif (decide (a0 < a1)) then (
    some (-1)
  ) else (
    bif (decide (a0 > a1)) then (
      some 1
    ) else (
      some 0
    )
  )
theorem s_value_cmp_int (a0 : Int) (a1 : Int) (r : Int) (h : p_value_cmp_int a0 a1 = some r) : PCalls Try.prog 58 [(PV.v (.int .i64 a0)), (PV.v (.int .i64 a1))] (PV.v (.int .i64 r)) := by
  unfold p_value_cmp_int at h
  refine acalls_of Try.func58 rfl Try.ntmps58 Try.results58 rfl (aw_of_bw ?_)
  change BW _ _ _ ⟨[(0, (PV.v (.int .i64 a0))), (1, (PV.v (.int .i64 a1)))], [], _⟩ _
  refine bw_seq ?_
  refine bw_region ?_
  refine ao_step rfl rfl rfl (op1_assign rfl rfl) ?_
  refine ao_nil ?_
  change BW _ _ _ _ _
  refine bw_seq ?_
  refine bw_block ?_
  change BW _ _ _ _ _
  refine bw_seq ?_
  refine bw_region ?_
  refine ao_step rfl rfl rfl (op1_move rfl rfl) ?_
  refine ao_step rfl rfl rfl (op1_move rfl rfl) ?_
  refine ao_step rfl rfl rfl ((op1_cmp rfl rfl rfl rfl).cast (y := (PV.v (.bool (decide (a0 < a1))))) rfl rfl) ?_
  refine ao_step rfl rfl rfl (op1_assign rfl rfl) ?_
  refine ao_nil ?_
  change BW _ _ _ _ _
  refine bw_cond rfl ?_ ?_
  · intro hc1; replace h := ocond_t hc1 h
    refine bw_seq ?_
    refine bw_region ?_
    refine ao_step rfl rfl rfl (op1_assign rfl rfl) ?_
    refine ao_nil ?_
    change BW _ _ _ _ _
    refine bw_ret ?_
    change ∃ xs, _ = some xs ∧ EndOk _ _ _ _
    obtain rfl := Option.some.inj h
    exact ⟨_, rfl, endOk0 (y := (PV.v (.int .i64 (-1)))) (Wk.refl _) rfl ⟨rfl, rfl⟩⟩
  · intro hc1; replace h := ocond_f hc1 h
    refine bw_seq ?_
    refine bw_region ?_
    refine ao_step rfl rfl rfl (op1_move rfl rfl) ?_
    refine ao_step rfl rfl rfl (op1_move rfl rfl) ?_
    refine ao_step rfl rfl rfl ((op1_cmp rfl rfl rfl rfl).cast (y := (PV.v (.bool (decide (a0 > a1))))) rfl rfl) ?_
    refine ao_step rfl rfl rfl (op1_assign rfl rfl) ?_
    refine ao_nil ?_
    change BW _ _ _ _ _
    refine bw_cond rfl ?_ ?_
    · intro hc2; replace h := ocond_t hc2 h
      refine bw_seq ?_
      refine bw_region ?_
      refine ao_step rfl rfl rfl (op1_assign rfl rfl) ?_
      refine ao_nil ?_
      change BW _ _ _ _ _
      refine bw_ret ?_
      change ∃ xs, _ = some xs ∧ EndOk _ _ _ _
      obtain rfl := Option.some.inj h
      exact ⟨_, rfl, endOk0 (y := (PV.v (.int .i64 1))) (Wk.refl _) rfl ⟨rfl, rfl⟩⟩
    · intro hc2; replace h := ocond_f hc2 h
      refine bw_skip ?_
      change BW _ _ _ _ _
      refine bw_seq ?_
      refine bw_region ?_
      refine ao_step rfl rfl rfl (op1_assign rfl rfl) ?_
      refine ao_nil ?_
      change BW _ _ _ _ _
      refine bw_ret ?_
      change ∃ xs, _ = some xs ∧ EndOk _ _ _ _
      obtain rfl := Option.some.inj h
      exact ⟨_, rfl, endOk0 (y := (PV.v (.int .i64 0))) (Wk.refl _) rfl ⟨rfl, rfl⟩⟩
noncomputable def p_value_truth (a0 : Bool) : Option Int :=
  bif a0 then (
    some 1
  ) else (
    some 0
  )
theorem s_value_truth (a0 : Bool) (r : Int) (h : p_value_truth a0 = some r) : PCalls Try.prog 59 [(PV.v (.bool a0))] (PV.v (.int .i64 r)) := by
  unfold p_value_truth at h
  refine acalls_of Try.func59 rfl Try.ntmps59 Try.results59 rfl (aw_of_bw ?_)
  change BW _ _ _ ⟨[(0, (PV.v (.bool a0)))], [], _⟩ _
  refine bw_seq ?_
  refine bw_region ?_
  refine ao_step rfl rfl rfl (op1_assign rfl rfl) ?_
  refine ao_nil ?_
  change BW _ _ _ _ _
  refine bw_seq ?_
  refine bw_seq ?_
  refine bw_region ?_
  refine ao_step rfl rfl rfl (op1_move rfl rfl) ?_
  refine ao_nil ?_
  change BW _ _ _ _ _
  refine bw_cond rfl ?_ ?_
  · intro hc1; replace h := ocond_t hc1 h
    refine bw_seq ?_
    refine bw_region ?_
    refine ao_step rfl rfl rfl (op1_assign rfl rfl) ?_
    refine ao_nil ?_
    change BW _ _ _ _ _
    refine bw_ret ?_
    change ∃ xs, _ = some xs ∧ EndOk _ _ _ _
    obtain rfl := Option.some.inj h
    exact ⟨_, rfl, endOk0 (y := (PV.v (.int .i64 1))) (Wk.refl _) rfl ⟨rfl, rfl⟩⟩
  · intro hc1; replace h := ocond_f hc1 h
    refine bw_skip ?_
    change BW _ _ _ _ _
    refine bw_seq ?_
    refine bw_region ?_
    refine ao_step rfl rfl rfl (op1_assign rfl rfl) ?_
    refine ao_nil ?_
    change BW _ _ _ _ _
    refine bw_ret ?_
    change ∃ xs, _ = some xs ∧ EndOk _ _ _ _
    obtain rfl := Option.some.inj h
    exact ⟨_, rfl, endOk0 (y := (PV.v (.int .i64 0))) (Wk.refl _) rfl ⟨rfl, rfl⟩⟩
noncomputable def p_value_cmp_int64 (a0 : Int) (a1 : Int) : Option Int :=
  bif (decide (a0 < a1)) then (
    some (-1)
  ) else (
    bif (decide (a0 > a1)) then (
      some 1
    ) else (
      some 0
    )
  )
theorem s_value_cmp_int64 (a0 : Int) (a1 : Int) (r : Int) (h : p_value_cmp_int64 a0 a1 = some r) : PCalls Try.prog 60 [(PV.v (.int .i64 a0)), (PV.v (.int .i64 a1))] (PV.v (.int .i64 r)) := by
  unfold p_value_cmp_int64 at h
  refine acalls_of Try.func60 rfl Try.ntmps60 Try.results60 rfl (aw_of_bw ?_)
  change BW _ _ _ ⟨[(0, (PV.v (.int .i64 a0))), (1, (PV.v (.int .i64 a1)))], [], _⟩ _
  refine bw_seq ?_
  refine bw_region ?_
  refine ao_step rfl rfl rfl (op1_assign rfl rfl) ?_
  refine ao_nil ?_
  change BW _ _ _ _ _
  refine bw_seq ?_
  refine bw_block ?_
  change BW _ _ _ _ _
  refine bw_seq ?_
  refine bw_region ?_
  refine ao_step rfl rfl rfl (op1_move rfl rfl) ?_
  refine ao_step rfl rfl rfl (op1_move rfl rfl) ?_
  refine ao_step rfl rfl rfl ((op1_cmp rfl rfl rfl rfl).cast (y := (PV.v (.bool (decide (a0 < a1))))) rfl rfl) ?_
  refine ao_step rfl rfl rfl (op1_assign rfl rfl) ?_
  refine ao_nil ?_
  change BW _ _ _ _ _
  refine bw_cond rfl ?_ ?_
  · intro hc1; replace h := ocond_t hc1 h
    refine bw_seq ?_
    refine bw_region ?_
    refine ao_step rfl rfl rfl (op1_assign rfl rfl) ?_
    refine ao_nil ?_
    change BW _ _ _ _ _
    refine bw_ret ?_
    change ∃ xs, _ = some xs ∧ EndOk _ _ _ _
    obtain rfl := Option.some.inj h
    exact ⟨_, rfl, endOk0 (y := (PV.v (.int .i64 (-1)))) (Wk.refl _) rfl ⟨rfl, rfl⟩⟩
  · intro hc1; replace h := ocond_f hc1 h
    refine bw_seq ?_
    refine bw_region ?_
    refine ao_step rfl rfl rfl (op1_move rfl rfl) ?_
    refine ao_step rfl rfl rfl (op1_move rfl rfl) ?_
    refine ao_step rfl rfl rfl ((op1_cmp rfl rfl rfl rfl).cast (y := (PV.v (.bool (decide (a0 > a1))))) rfl rfl) ?_
    refine ao_step rfl rfl rfl (op1_assign rfl rfl) ?_
    refine ao_nil ?_
    change BW _ _ _ _ _
    refine bw_cond rfl ?_ ?_
    · intro hc2; replace h := ocond_t hc2 h
      refine bw_seq ?_
      refine bw_region ?_
      refine ao_step rfl rfl rfl (op1_assign rfl rfl) ?_
      refine ao_nil ?_
      change BW _ _ _ _ _
      refine bw_ret ?_
      change ∃ xs, _ = some xs ∧ EndOk _ _ _ _
      obtain rfl := Option.some.inj h
      exact ⟨_, rfl, endOk0 (y := (PV.v (.int .i64 1))) (Wk.refl _) rfl ⟨rfl, rfl⟩⟩
    · intro hc2; replace h := ocond_f hc2 h
      refine bw_skip ?_
      change BW _ _ _ _ _
      refine bw_seq ?_
      refine bw_region ?_
      refine ao_step rfl rfl rfl (op1_assign rfl rfl) ?_
      refine ao_nil ?_
      change BW _ _ _ _ _
      refine bw_ret ?_
      change ∃ xs, _ = some xs ∧ EndOk _ _ _ _
      obtain rfl := Option.some.inj h
      exact ⟨_, rfl, endOk0 (y := (PV.v (.int .i64 0))) (Wk.refl _) rfl ⟨rfl, rfl⟩⟩
noncomputable def p_value_place (a0 : Nat) : Option Int :=
  bif ((shrK .u64 ((a0 : Nat) : Int) 63) == 1) then (
    some (notK .u64 ((a0 : Nat) : Int))
  ) else (
    some (orK .u64 ((a0 : Nat) : Int) 9223372036854775808)
  )
theorem s_value_place (a0 : Nat) (r : Int) (h : p_value_place a0 = some r) : PCalls Try.prog 62 [(PV.v (.float .f64 a0))] (PV.v (.int .u64 r)) := by
  unfold p_value_place at h
  refine acalls_of Try.func62 rfl Try.ntmps62 Try.results62 rfl (aw_of_bw ?_)
  change BW _ _ _ ⟨[(0, (PV.v (.float .f64 a0)))], [], _⟩ _
  refine bw_seq ?_
  refine bw_region ?_
  refine ao_step rfl rfl rfl (op1_assign rfl rfl) ?_
  refine ao_nil ?_
  change BW _ _ _ _ _
  refine bw_seq ?_
  refine bw_region ?_
  refine ao_step rfl rfl rfl (op1_move rfl rfl) ?_
  refine ao_step rfl rfl rfl (op1_f64bits rfl rfl) ?_
  refine ao_step rfl rfl rfl (op1_assign rfl rfl) ?_
  refine ao_nil ?_
  change BW _ _ _ _ _
  refine bw_seq ?_
  refine bw_seq ?_
  refine bw_region ?_
  refine ao_step rfl rfl rfl (op1_move rfl rfl) ?_
  refine ao_step rfl rfl rfl ((op1_shr rfl rfl rfl (by decide)).cast (y := (PV.v (.int .u64 (shrK .u64 ((a0 : Nat) : Int) 63)))) rfl rfl) ?_
  refine ao_step rfl rfl rfl ((op1_cmp rfl rfl rfl rfl).cast (y := (PV.v (.bool ((shrK .u64 ((a0 : Nat) : Int) 63) == 1)))) rfl rfl) ?_
  refine ao_nil ?_
  change BW _ _ _ _ _
  refine bw_cond rfl ?_ ?_
  · intro hc1; replace h := ocond_t hc1 h
    refine bw_seq ?_
    refine bw_region ?_
    refine ao_step rfl rfl rfl (op1_move rfl rfl) ?_
    refine ao_step rfl rfl rfl (op1_xorU rfl rfl) ?_
    refine ao_step rfl rfl rfl (op1_assign rfl rfl) ?_
    refine ao_nil ?_
    change BW _ _ _ _ _
    refine bw_ret ?_
    change ∃ xs, _ = some xs ∧ EndOk _ _ _ _
    obtain rfl := Option.some.inj h
    exact ⟨_, rfl, endOk0 (y := (PV.v (.int .u64 (notK .u64 ((a0 : Nat) : Int))))) (Wk.refl _) rfl ⟨rfl, rfl⟩⟩
  · intro hc1; replace h := ocond_f hc1 h
    refine bw_skip ?_
    change BW _ _ _ _ _
    refine bw_seq ?_
    refine bw_region ?_
    refine ao_step rfl rfl rfl (op1_move rfl rfl) ?_
    refine ao_step rfl rfl rfl ((op1_orW rfl rfl rfl).cast (y := (PV.v (.int .u64 (orK .u64 ((a0 : Nat) : Int) 9223372036854775808)))) rfl rfl) ?_
    refine ao_step rfl rfl rfl (op1_assign rfl rfl) ?_
    refine ao_nil ?_
    change BW _ _ _ _ _
    refine bw_ret ?_
    change ∃ xs, _ = some xs ∧ EndOk _ _ _ _
    obtain rfl := Option.some.inj h
    exact ⟨_, rfl, endOk0 (y := (PV.v (.int .u64 (orK .u64 ((a0 : Nat) : Int) 9223372036854775808)))) (Wk.refl _) rfl ⟨rfl, rfl⟩⟩
noncomputable def p_value_cmp_uint64 (a0 : Int) (a1 : Int) : Option Int :=
  bif (decide (a0 < a1)) then (
    some (-1)
  ) else (
    bif (decide (a0 > a1)) then (
      some 1
    ) else (
      some 0
    )
  )
theorem s_value_cmp_uint64 (a0 : Int) (a1 : Int) (r : Int) (h : p_value_cmp_uint64 a0 a1 = some r) : PCalls Try.prog 61 [(PV.v (.int .u64 a0)), (PV.v (.int .u64 a1))] (PV.v (.int .i64 r)) := by
  unfold p_value_cmp_uint64 at h
  refine acalls_of Try.func61 rfl Try.ntmps61 Try.results61 rfl (aw_of_bw ?_)
  change BW _ _ _ ⟨[(0, (PV.v (.int .u64 a0))), (1, (PV.v (.int .u64 a1)))], [], _⟩ _
  refine bw_seq ?_
  refine bw_region ?_
  refine ao_step rfl rfl rfl (op1_assign rfl rfl) ?_
  refine ao_nil ?_
  change BW _ _ _ _ _
  refine bw_seq ?_
  refine bw_block ?_
  change BW _ _ _ _ _
  refine bw_seq ?_
  refine bw_region ?_
  refine ao_step rfl rfl rfl (op1_move rfl rfl) ?_
  refine ao_step rfl rfl rfl (op1_move rfl rfl) ?_
  refine ao_step rfl rfl rfl ((op1_cmp rfl rfl rfl rfl).cast (y := (PV.v (.bool (decide (a0 < a1))))) rfl rfl) ?_
  refine ao_step rfl rfl rfl (op1_assign rfl rfl) ?_
  refine ao_nil ?_
  change BW _ _ _ _ _
  refine bw_cond rfl ?_ ?_
  · intro hc1; replace h := ocond_t hc1 h
    refine bw_seq ?_
    refine bw_region ?_
    refine ao_step rfl rfl rfl (op1_assign rfl rfl) ?_
    refine ao_nil ?_
    change BW _ _ _ _ _
    refine bw_ret ?_
    change ∃ xs, _ = some xs ∧ EndOk _ _ _ _
    obtain rfl := Option.some.inj h
    exact ⟨_, rfl, endOk0 (y := (PV.v (.int .i64 (-1)))) (Wk.refl _) rfl ⟨rfl, rfl⟩⟩
  · intro hc1; replace h := ocond_f hc1 h
    refine bw_seq ?_
    refine bw_region ?_
    refine ao_step rfl rfl rfl (op1_move rfl rfl) ?_
    refine ao_step rfl rfl rfl (op1_move rfl rfl) ?_
    refine ao_step rfl rfl rfl ((op1_cmp rfl rfl rfl rfl).cast (y := (PV.v (.bool (decide (a0 > a1))))) rfl rfl) ?_
    refine ao_step rfl rfl rfl (op1_assign rfl rfl) ?_
    refine ao_nil ?_
    change BW _ _ _ _ _
    refine bw_cond rfl ?_ ?_
    · intro hc2; replace h := ocond_t hc2 h
      refine bw_seq ?_
      refine bw_region ?_
      refine ao_step rfl rfl rfl (op1_assign rfl rfl) ?_
      refine ao_nil ?_
      change BW _ _ _ _ _
      refine bw_ret ?_
      change ∃ xs, _ = some xs ∧ EndOk _ _ _ _
      obtain rfl := Option.some.inj h
      exact ⟨_, rfl, endOk0 (y := (PV.v (.int .i64 1))) (Wk.refl _) rfl ⟨rfl, rfl⟩⟩
    · intro hc2; replace h := ocond_f hc2 h
      refine bw_skip ?_
      change BW _ _ _ _ _
      refine bw_seq ?_
      refine bw_region ?_
      refine ao_step rfl rfl rfl (op1_assign rfl rfl) ?_
      refine ao_nil ?_
      change BW _ _ _ _ _
      refine bw_ret ?_
      change ∃ xs, _ = some xs ∧ EndOk _ _ _ _
      obtain rfl := Option.some.inj h
      exact ⟨_, rfl, endOk0 (y := (PV.v (.int .i64 0))) (Wk.refl _) rfl ⟨rfl, rfl⟩⟩
noncomputable def p_value_cmp_string (a0 : Str) (a1 : Str) : Option Int :=
  bif (Op.bytesLess a0 a1) then (
    some (-1)
  ) else (
    bif (!(Op.bytesLess a0 a1 || a0 == a1)) then (
      some 1
    ) else (
      some 0
    )
  )
theorem s_value_cmp_string (a0 : Str) (a1 : Str) (r : Int) (h : p_value_cmp_string a0 a1 = some r) : PCalls Try.prog 63 [(ofStr a0), (ofStr a1)] (PV.v (.int .i64 r)) := by
  unfold p_value_cmp_string at h
  refine acalls_of Try.func63 rfl Try.ntmps63 Try.results63 rfl (aw_of_bw ?_)
  change BW _ _ _ ⟨[(0, (ofStr a0)), (1, (ofStr a1))], [], _⟩ _
  refine bw_seq ?_
  refine bw_region ?_
  refine ao_step rfl rfl rfl (op1_assign rfl rfl) ?_
  refine ao_nil ?_
  change BW _ _ _ _ _
  refine bw_seq ?_
  refine bw_block ?_
  change BW _ _ _ _ _
  refine bw_seq ?_
  refine bw_region ?_
  refine ao_step rfl rfl rfl (op1_move rfl rfl) ?_
  refine ao_step rfl rfl rfl (op1_move rfl rfl) ?_
  refine ao_step rfl rfl rfl ((op1_cmpT (a := a0) (b := a1) rfl rfl rfl rfl).cast (y := (PV.v (.bool (Op.bytesLess a0 a1)))) rfl rfl) ?_
  refine ao_step rfl rfl rfl (op1_assign rfl rfl) ?_
  refine ao_nil ?_
  change BW _ _ _ _ _
  refine bw_cond rfl ?_ ?_
  · intro hc1; replace h := ocond_t hc1 h
    refine bw_seq ?_
    refine bw_region ?_
    refine ao_step rfl rfl rfl (op1_assign rfl rfl) ?_
    refine ao_nil ?_
    change BW _ _ _ _ _
    refine bw_ret ?_
    change ∃ xs, _ = some xs ∧ EndOk _ _ _ _
    obtain rfl := Option.some.inj h
    exact ⟨_, rfl, endOk0 (y := (PV.v (.int .i64 (-1)))) (Wk.refl _) rfl ⟨rfl, rfl⟩⟩
  · intro hc1; replace h := ocond_f hc1 h
    refine bw_seq ?_
    refine bw_region ?_
    refine ao_step rfl rfl rfl (op1_move rfl rfl) ?_
    refine ao_step rfl rfl rfl (op1_move rfl rfl) ?_
    refine ao_step rfl rfl rfl ((op1_cmpT (a := a0) (b := a1) rfl rfl rfl rfl).cast (y := (PV.v (.bool (!(Op.bytesLess a0 a1 || a0 == a1))))) rfl rfl) ?_
    refine ao_step rfl rfl rfl (op1_assign rfl rfl) ?_
    refine ao_nil ?_
    change BW _ _ _ _ _
    refine bw_cond rfl ?_ ?_
    · intro hc2; replace h := ocond_t hc2 h
      refine bw_seq ?_
      refine bw_region ?_
      refine ao_step rfl rfl rfl (op1_assign rfl rfl) ?_
      refine ao_nil ?_
      change BW _ _ _ _ _
      refine bw_ret ?_
      change ∃ xs, _ = some xs ∧ EndOk _ _ _ _
      obtain rfl := Option.some.inj h
      exact ⟨_, rfl, endOk0 (y := (PV.v (.int .i64 1))) (Wk.refl _) rfl ⟨rfl, rfl⟩⟩
    · intro hc2; replace h := ocond_f hc2 h
      refine bw_skip ?_
      change BW _ _ _ _ _
      refine bw_seq ?_
      refine bw_region ?_
      refine ao_step rfl rfl rfl (op1_assign rfl rfl) ?_
      refine ao_nil ?_
      change BW _ _ _ _ _
      refine bw_ret ?_
      change ∃ xs, _ = some xs ∧ EndOk _ _ _ _
      obtain rfl := Option.some.inj h
      exact ⟨_, rfl, endOk0 (y := (PV.v (.int .i64 0))) (Wk.refl _) rfl ⟨rfl, rfl⟩⟩
noncomputable def p_cmp_isNaN_byte (a0 : UInt8) : Option Bool :=
  some (((a0).toNat : Int) != ((a0).toNat : Int))
theorem s_cmp_isNaN_byte (a0 : UInt8) (r : Bool) (h : p_cmp_isNaN_byte a0 = some r) : PCalls Try.prog 79 [(ofB a0)] (PV.v (.bool r)) := by
  unfold p_cmp_isNaN_byte at h
  refine acalls_of Try.func79 rfl Try.ntmps79 Try.results79 rfl (aw_of_bw ?_)
  change BW _ _ _ ⟨[(0, (ofB a0))], [], _⟩ _
  refine bw_seq ?_
  refine bw_region ?_
  refine ao_step rfl rfl rfl (op1_assign rfl rfl) ?_
  refine ao_nil ?_
  change BW _ _ _ _ _
  refine bw_seq ?_
  refine bw_region ?_
  refine ao_step rfl rfl rfl (op1_move rfl rfl) ?_
  refine ao_step rfl rfl rfl (op1_move rfl rfl) ?_
  refine ao_step rfl rfl rfl ((op1_cmp rfl rfl rfl rfl).cast (y := (PV.v (.bool (((a0).toNat : Int) != ((a0).toNat : Int))))) rfl rfl) ?_
  refine ao_step rfl rfl rfl (op1_assign rfl rfl) ?_
  refine ao_nil ?_
  change BW _ _ _ _ _
  refine bw_ret ?_
  change ∃ xs, _ = some xs ∧ EndOk _ _ _ _
  obtain rfl := Option.some.inj h
  exact ⟨_, rfl, endOk0 (y := (PV.v (.bool (((a0).toNat : Int) != ((a0).toNat : Int))))) (Wk.refl _) rfl ⟨rfl, rfl⟩⟩
noncomputable def p_cmp_Compare_byte (a0 : UInt8) (a1 : UInt8) : Option Int :=
  Option.bind (p_cmp_isNaN_byte a0) fun x1 =>
  Option.bind (p_cmp_isNaN_byte a1) fun x2 =>
  bif x1 then (
    bif x2 then (
      some 0
    ) else (
      some (-1)
    )
  ) else (
    bif x2 then (
      some 1
    ) else (
      bif (decide (((a0).toNat : Int) < ((a1).toNat : Int))) then (
        some (-1)
      ) else (
        bif (decide (((a0).toNat : Int) > ((a1).toNat : Int))) then (
          some 1
        ) else (
          some 0
        )
      )
    )
  )
theorem s_cmp_Compare_byte (a0 : UInt8) (a1 : UInt8) (r : Int) (h : p_cmp_Compare_byte a0 a1 = some r) : PCalls Try.prog 78 [(ofB a0), (ofB a1)] (PV.v (.int .i64 r)) := by
  unfold p_cmp_Compare_byte at h
  refine acalls_of Try.func78 rfl Try.ntmps78 Try.results78 rfl (aw_of_bw ?_)
  change BW _ _ _ ⟨[(0, (ofB a0)), (1, (ofB a1))], [], _⟩ _
  refine bw_seq ?_
  refine bw_region ?_
  refine ao_step rfl rfl rfl (op1_assign rfl rfl) ?_
  refine ao_nil ?_
  change BW _ _ _ _ _
  refine bw_seq ?_
  refine bw_region ?_
  refine ao_step rfl rfl rfl (op1_move rfl rfl) ?_
  obtain ⟨x1, hx1, h⟩ := obind h
  refine ao_step rfl rfl rfl (op1_pcall rfl en_79 rfl (.cons (Wk.refl _) .nil) ⟨rfl, trivial⟩ (s_cmp_isNaN_byte a0 x1 hx1) rfl) ?_
  refine ao_step rfl rfl rfl (op1_assign rfl rfl) ?_
  refine ao_nil ?_
  change BW _ _ _ _ _
  refine bw_seq ?_
  refine bw_region ?_
  refine ao_step rfl rfl rfl (op1_move rfl rfl) ?_
  obtain ⟨x2, hx2, h⟩ := obind h
  refine ao_step rfl rfl rfl (op1_pcall rfl en_79 rfl (.cons (Wk.refl _) .nil) ⟨rfl, trivial⟩ (s_cmp_isNaN_byte a1 x2 hx2) rfl) ?_
  refine ao_step rfl rfl rfl (op1_assign rfl rfl) ?_
  refine ao_nil ?_
  change BW _ _ _ _ _
  refine bw_seq ?_
  refine bw_seq ?_
  refine bw_region ?_
  refine ao_step rfl rfl rfl (op1_move rfl rfl) ?_
  refine ao_nil ?_
  change BW _ _ _ _ _
  refine bw_cond rfl ?_ ?_
  · intro hc3; replace h := ocond_t hc3 h
    refine bw_seq ?_
    refine bw_seq ?_
    refine bw_region ?_
    refine ao_step rfl rfl rfl (op1_move rfl rfl) ?_
    refine ao_nil ?_
    change BW _ _ _ _ _
    refine bw_cond rfl ?_ ?_
    · intro hc4; replace h := ocond_t hc4 h
      refine bw_seq ?_
      refine bw_region ?_
      refine ao_step rfl rfl rfl (op1_assign rfl rfl) ?_
      refine ao_nil ?_
      change BW _ _ _ _ _
      refine bw_ret ?_
      change ∃ xs, _ = some xs ∧ EndOk _ _ _ _
      obtain rfl := Option.some.inj h
      exact ⟨_, rfl, endOk0 (y := (PV.v (.int .i64 0))) (Wk.refl _) rfl ⟨rfl, rfl⟩⟩
    · intro hc4; replace h := ocond_f hc4 h
      refine bw_skip ?_
      change BW _ _ _ _ _
      refine bw_seq ?_
      refine bw_region ?_
      refine ao_step rfl rfl rfl (op1_assign rfl rfl) ?_
      refine ao_nil ?_
      change BW _ _ _ _ _
      refine bw_ret ?_
      change ∃ xs, _ = some xs ∧ EndOk _ _ _ _
      obtain rfl := Option.some.inj h
      exact ⟨_, rfl, endOk0 (y := (PV.v (.int .i64 (-1)))) (Wk.refl _) rfl ⟨rfl, rfl⟩⟩
  · intro hc3; replace h := ocond_f hc3 h
    refine bw_skip ?_
    change BW _ _ _ _ _
    refine bw_seq ?_
    refine bw_seq ?_
    refine bw_region ?_
    refine ao_step rfl rfl rfl (op1_move rfl rfl) ?_
    refine ao_nil ?_
    change BW _ _ _ _ _
    refine bw_cond rfl ?_ ?_
    · intro hc5; replace h := ocond_t hc5 h
      refine bw_seq ?_
      refine bw_region ?_
      refine ao_step rfl rfl rfl (op1_assign rfl rfl) ?_
      refine ao_nil ?_
      change BW _ _ _ _ _
      refine bw_ret ?_
      change ∃ xs, _ = some xs ∧ EndOk _ _ _ _
      obtain rfl := Option.some.inj h
      exact ⟨_, rfl, endOk0 (y := (PV.v (.int .i64 1))) (Wk.refl _) rfl ⟨rfl, rfl⟩⟩
    · intro hc5; replace h := ocond_f hc5 h
      refine bw_skip ?_
      change BW _ _ _ _ _
      refine bw_seq ?_
      refine bw_seq ?_
      refine bw_region ?_
      refine ao_step rfl rfl rfl (op1_move rfl rfl) ?_
      refine ao_step rfl rfl rfl (op1_move rfl rfl) ?_
      refine ao_step rfl rfl rfl ((op1_cmp rfl rfl rfl rfl).cast (y := (PV.v (.bool (decide (((a0).toNat : Int) < ((a1).toNat : Int)))))) rfl rfl) ?_
      refine ao_nil ?_
      change BW _ _ _ _ _
      refine bw_cond rfl ?_ ?_
      · intro hc6; replace h := ocond_t hc6 h
        refine bw_seq ?_
        refine bw_region ?_
        refine ao_step rfl rfl rfl (op1_assign rfl rfl) ?_
        refine ao_nil ?_
        change BW _ _ _ _ _
        refine bw_ret ?_
        change ∃ xs, _ = some xs ∧ EndOk _ _ _ _
        obtain rfl := Option.some.inj h
        exact ⟨_, rfl, endOk0 (y := (PV.v (.int .i64 (-1)))) (Wk.refl _) rfl ⟨rfl, rfl⟩⟩
      · intro hc6; replace h := ocond_f hc6 h
        refine bw_skip ?_
        change BW _ _ _ _ _
        refine bw_seq ?_
        refine bw_seq ?_
        refine bw_region ?_
        refine ao_step rfl rfl rfl (op1_move rfl rfl) ?_
        refine ao_step rfl rfl rfl (op1_move rfl rfl) ?_
        refine ao_step rfl rfl rfl ((op1_cmp rfl rfl rfl rfl).cast (y := (PV.v (.bool (decide (((a0).toNat : Int) > ((a1).toNat : Int)))))) rfl rfl) ?_
        refine ao_nil ?_
        change BW _ _ _ _ _
        refine bw_cond rfl ?_ ?_
        · intro hc7; replace h := ocond_t hc7 h
          refine bw_seq ?_
          refine bw_region ?_
          refine ao_step rfl rfl rfl (op1_assign rfl rfl) ?_
          refine ao_nil ?_
          change BW _ _ _ _ _
          refine bw_ret ?_
          change ∃ xs, _ = some xs ∧ EndOk _ _ _ _
          obtain rfl := Option.some.inj h
          exact ⟨_, rfl, endOk0 (y := (PV.v (.int .i64 1))) (Wk.refl _) rfl ⟨rfl, rfl⟩⟩
        · intro hc7; replace h := ocond_f hc7 h
          refine bw_skip ?_
          change BW _ _ _ _ _
          refine bw_seq ?_
          refine bw_region ?_
          refine ao_step rfl rfl rfl (op1_assign rfl rfl) ?_
          refine ao_nil ?_
          change BW _ _ _ _ _
          refine bw_ret ?_
          change ∃ xs, _ = some xs ∧ EndOk _ _ _ _
          obtain rfl := Option.some.inj h
          exact ⟨_, rfl, endOk0 (y := (PV.v (.int .i64 0))) (Wk.refl _) rfl ⟨rfl, rfl⟩⟩
noncomputable def slices_Compare_byte_byte_l1b (a0 : Str) (a1 : Str) (g1 : Nat → Option Int) (s1 : Nat) : Option Int :=
  bif (decide (((s1 : Nat) : Int) < (((a0).length : Nat) : Int))) then (
    Option.bind ((a0)[s1]?) fun x4 =>
    bif (decide (((s1 : Nat) : Int) ≥ (((a1).length : Nat) : Int))) then (
      some 1
    ) else (
      Option.bind ((a1)[s1]?) fun x6 =>
      Option.bind (p_cmp_Compare_byte x4 x6) fun x7 =>
      bif (x7 != 0) then (
        some x7
      ) else (
        g1 (s1 + 1)
      )
    )
  ) else (
    bif (decide ((((a0).length : Nat) : Int) < (((a1).length : Nat) : Int))) then (
      some (-1)
    ) else (
      some 0
    )
  )
theorem slices_Compare_byte_byte_l1b_cm {ι : Type} {ρ : ι → Type} (g1 : (∀ i, Option (ρ i)) → Nat → Option Int) (h_g1 : ∀ y0, CM (fun G => g1 G y0)) (a0 : Str) (a1 : Str) (s1 : Nat) : CM (fun G : (∀ i, Option (ρ i)) => slices_Compare_byte_byte_l1b a0 a1 (g1 G) s1) := by
  simp only [slices_Compare_byte_byte_l1b]
  repeat (first | exact cm_const | exact h_g1 _ | refine cm_cond ?_ ?_ | refine cm_bind ?_ (fun _ => ?_))
noncomputable def slices_Compare_byte_byte_l1 (a0 : Str) (a1 : Str) (s1 : Nat) : Option Int :=
  fixO (ι := Nat) (ρ := fun _ => Int) (fun g i => slices_Compare_byte_byte_l1b a0 a1 (fun s1 => g s1) i) s1
theorem slices_Compare_byte_byte_l1_eq (a0 : Str) (a1 : Str) (s1 : Nat) : slices_Compare_byte_byte_l1 a0 a1 s1 = slices_Compare_byte_byte_l1b a0 a1 (slices_Compare_byte_byte_l1 a0 a1) s1 :=
  fixO_eq (ι := Nat) (ρ := fun _ => Int) (Φ := fun g i => slices_Compare_byte_byte_l1b a0 a1 (fun s1 => g s1) i) (fun i => slices_Compare_byte_byte_l1b_cm (ι := Nat) (ρ := fun _ => Int) (fun g => (fun s1 => g s1)) (fun _ => cm_app) a0 a1 i) s1
noncomputable def p_slices_Compare_byte_byte (a0 : Str) (a1 : Str) : Option Int :=
  slices_Compare_byte_byte_l1 a0 a1 0
theorem s_slices_Compare_byte_byte (a0 : Str) (a1 : Str) (r : Int) (h : p_slices_Compare_byte_byte a0 a1 = some r) : PCalls Try.prog 64 [(PV.sl none 1 (List.map ofB a0)), (PV.sl none 1 (List.map ofB a1))] (PV.v (.int .i64 r)) := by
  unfold p_slices_Compare_byte_byte at h
  refine acalls_of Try.func64 rfl Try.ntmps64 Try.results64 rfl (aw_of_bw ?_)
  change BW _ _ _ ⟨[(0, (PV.sl none 1 (List.map ofB a0))), (1, (PV.sl none 1 (List.map ofB a1)))], [], _⟩ _
  refine bw_seq ?_
  refine bw_region ?_
  refine ao_step rfl rfl rfl (op1_assign rfl rfl) ?_
  refine ao_nil ?_
  change BW _ _ _ _ _
  refine bw_seq ?_
  refine bw_seq ?_
  refine bw_region ?_
  refine ao_step rfl rfl rfl (op1_move rfl rfl) ?_
  refine ao_step rfl rfl rfl (op1_lenM Try.underlying23 rfl rfl) ?_
  refine ao_step rfl rfl rfl (op1_move rfl rfl) ?_
  refine ao_nil ?_
  change BW _ _ _ _ _
  refine bw_block ?_
  change BW _ _ _ _ _
  unfold slices_Compare_byte_byte_l1 at h
  refine bw_loop (σ := Nat) (fun i => [(0, (PV.sl none 1 (List.map ofB a0))), (1, (PV.sl none 1 (List.map ofB a1))), (9, (PV.sl none 1 (List.map ofB a0))), (10, (PV.v (.int .i64 (((a0).length : Nat) : Int)))), (11, (PV.v (.int .i64 ((i : Nat) : Int))))]) (fun i => []) 0 h ?_ ?_ ?_
  · intro i; exact ⟨Nat.le_of_ble_eq_true rfl, ⟨(il_nil (ids_slM (fun _ => rfl) _)), ⟨(il_nil (ids_slM (fun _ => rfl) _)), ⟨(il_nil (ids_slM (fun _ => rfl) _)), ⟨(il_nil rfl), ⟨(il_nil rfl), trivial⟩⟩⟩⟩⟩, trivial⟩
  · exact ⟨.nil, (sub_consW rfl (fun _ _ h => h) (sub_consW rfl (fun _ _ h => h) (sub_consW rfl (fun _ _ h => h) (sub_consW rfl (fun _ _ h => h) (sub_consW rfl (fun _ _ h => h) sub_nil)))))⟩
  · rintro g1_f s1 h; replace h : slices_Compare_byte_byte_l1b a0 a1 (fun y0 => g1_f y0) s1 = some r := h; unfold slices_Compare_byte_byte_l1b at h
    change BW _ _ _ ⟨[(0, (PV.sl none 1 (List.map ofB a0))), (1, (PV.sl none 1 (List.map ofB a1))), (9, (PV.sl none 1 (List.map ofB a0))), (10, (PV.v (.int .i64 (((a0).length : Nat) : Int)))), (11, (PV.v (.int .i64 ((s1 : Nat) : Int))))], [], _⟩ _
    refine bw_seq ?_
    refine bw_region ?_
    refine ao_step rfl rfl rfl ((op1_cmp rfl rfl rfl rfl).cast (y := (PV.v (.bool (decide (((s1 : Nat) : Int) < (((a0).length : Nat) : Int)))))) rfl rfl) ?_
    refine ao_nil ?_
    change BW _ _ _ _ _
    refine bw_seq ?_
    refine bw_len (t := 9) rfl fun hb3 => ?_
    try rw [List.length_map] at hb3
    refine bw_cond rfl ?_ ?_
    · intro hc2; replace h := ocond_t hc2 h
      have hc2_ := of_decide_eq_true hc2
      refine bw_skip ?_
      change BW _ _ _ _ _
      refine bw_seq ?_
      refine bw_block ?_
      change BW _ _ _ _ _
      refine bw_seq ?_
      refine bw_region ?_
      refine ao_step rfl rfl rfl (op1_move rfl rfl) ?_
      obtain ⟨x4, hx4, h⟩ := obind h
      refine ao_step rfl rfl rfl (op1_idxN (i := s1) Try.underlying23 inf_5 rfl rfl rfl hx4 rfl) ?_
      refine ao_step rfl rfl rfl (op1_ldP (y := (ofB x4)) Try.underlying5 rfl rfl rfl rfl) ?_
      refine ao_step rfl rfl rfl (op1_assign rfl rfl) ?_
      refine ao_step rfl rfl rfl (op1_assign rfl rfl) ?_
      refine ao_nil ?_
      change BW _ _ _ _ _
      refine bw_seq ?_
      refine bw_seq ?_
      refine bw_region ?_
      refine ao_step rfl rfl rfl (op1_move rfl rfl) ?_
      refine ao_step rfl rfl rfl (op1_move rfl rfl) ?_
      refine ao_step rfl rfl rfl (op1_lenM Try.underlying23 rfl rfl) ?_
      refine ao_step rfl rfl rfl ((op1_cmp rfl rfl rfl rfl).cast (y := (PV.v (.bool (decide (((s1 : Nat) : Int) ≥ (((a1).length : Nat) : Int)))))) rfl rfl) ?_
      refine ao_nil ?_
      change BW _ _ _ _ _
      refine bw_cond rfl ?_ ?_
      · intro hc5; replace h := ocond_t hc5 h
        refine bw_seq ?_
        refine bw_region ?_
        refine ao_step rfl rfl rfl (op1_assign rfl rfl) ?_
        refine ao_nil ?_
        change BW _ _ _ _ _
        refine bw_ret ?_
        change ∃ xs, _ = some xs ∧ EndOk _ _ _ _
        obtain rfl := Option.some.inj h
        exact ⟨_, rfl, endOk0 (y := (PV.v (.int .i64 1))) (Wk.refl _) rfl ⟨rfl, rfl⟩⟩
      · intro hc5; replace h := ocond_f hc5 h
        refine bw_skip ?_
        change BW _ _ _ _ _
        refine bw_seq ?_
        refine bw_region ?_
        refine ao_step rfl rfl rfl (op1_move rfl rfl) ?_
        refine ao_step rfl rfl rfl (op1_move rfl rfl) ?_
        obtain ⟨x6, hx6, h⟩ := obind h
        refine ao_step rfl rfl rfl (op1_idxN (i := s1) Try.underlying23 inf_5 rfl rfl rfl hx6 rfl) ?_
        refine ao_step rfl rfl rfl (op1_ldP (y := (ofB x6)) Try.underlying5 rfl rfl rfl rfl) ?_
        refine ao_step rfl rfl rfl (op1_assign rfl rfl) ?_
        refine ao_nil ?_
        change BW _ _ _ _ _
        refine bw_seq ?_
        refine bw_region ?_
        refine ao_step rfl rfl rfl (op1_move rfl rfl) ?_
        refine ao_step rfl rfl rfl (op1_move rfl rfl) ?_
        obtain ⟨x7, hx7, h⟩ := obind h
        refine ao_step rfl rfl rfl (op1_pcall rfl en_78 rfl (.cons (Wk.refl _) (.cons (Wk.refl _) .nil)) ⟨rfl, ⟨rfl, trivial⟩⟩ (s_cmp_Compare_byte x4 x6 x7 hx7) rfl) ?_
        refine ao_step rfl rfl rfl (op1_assign rfl rfl) ?_
        refine ao_nil ?_
        change BW _ _ _ _ _
        refine bw_seq ?_
        refine bw_region ?_
        refine ao_step rfl rfl rfl (op1_move rfl rfl) ?_
        refine ao_step rfl rfl rfl ((op1_cmp rfl rfl rfl rfl).cast (y := (PV.v (.bool (x7 != 0)))) rfl rfl) ?_
        refine ao_nil ?_
        change BW _ _ _ _ _
        refine bw_cond rfl ?_ ?_
        · intro hc8; replace h := ocond_t hc8 h
          refine bw_seq ?_
          refine bw_region ?_
          refine ao_step rfl rfl rfl (op1_move rfl rfl) ?_
          refine ao_step rfl rfl rfl (op1_assign rfl rfl) ?_
          refine ao_nil ?_
          change BW _ _ _ _ _
          refine bw_ret ?_
          change ∃ xs, _ = some xs ∧ EndOk _ _ _ _
          obtain rfl := Option.some.inj h
          exact ⟨_, rfl, endOk0 (y := (PV.v (.int .i64 x7))) (Wk.refl _) rfl ⟨rfl, rfl⟩⟩
        · intro hc8; replace h := ocond_f hc8 h
          refine bw_skip ?_
          change BW _ _ _ _ _
          refine bw_region ?_
          refine ao_step rfl rfl rfl (op1_incN (k := s1) (c := 1) rfl rfl rfl (by omega)) ?_
          refine ao_step rfl rfl rfl (op1_move rfl rfl) ?_
          refine ao_nil ?_
          exact ⟨rfl, (s1 + 1), h, ⟨.nil, (sub_consW rfl (fun _ _ h => h) (sub_consW rfl (fun _ _ h => h) (sub_consW rfl (fun _ _ h => h) (sub_consW rfl (fun _ _ h => h) (sub_consW rfl (fun _ _ h => h) sub_nil)))))⟩⟩
    · intro hc2; replace h := ocond_f hc2 h
      refine bw_exit ?_
      change BW _ _ _ _ _
      refine bw_seq ?_
      refine bw_seq ?_
      refine bw_region ?_
      refine ao_step rfl rfl rfl (op1_move rfl rfl) ?_
      refine ao_step rfl rfl rfl (op1_lenM Try.underlying23 rfl rfl) ?_
      refine ao_step rfl rfl rfl (op1_move rfl rfl) ?_
      refine ao_step rfl rfl rfl (op1_lenM Try.underlying23 rfl rfl) ?_
      refine ao_step rfl rfl rfl ((op1_cmp rfl rfl rfl rfl).cast (y := (PV.v (.bool (decide ((((a0).length : Nat) : Int) < (((a1).length : Nat) : Int)))))) rfl rfl) ?_
      refine ao_nil ?_
      change BW _ _ _ _ _
      refine bw_cond rfl ?_ ?_
      · intro hc9; replace h := ocond_t hc9 h
        refine bw_seq ?_
        refine bw_region ?_
        refine ao_step rfl rfl rfl (op1_assign rfl rfl) ?_
        refine ao_nil ?_
        change BW _ _ _ _ _
        refine bw_ret ?_
        change ∃ xs, _ = some xs ∧ EndOk _ _ _ _
        obtain rfl := Option.some.inj h
        exact ⟨_, rfl, endOk0 (y := (PV.v (.int .i64 (-1)))) (Wk.refl _) rfl ⟨rfl, rfl⟩⟩
      · intro hc9; replace h := ocond_f hc9 h
        refine bw_skip ?_
        change BW _ _ _ _ _
        refine bw_seq ?_
        refine bw_region ?_
        refine ao_step rfl rfl rfl (op1_assign rfl rfl) ?_
        refine ao_nil ?_
        change BW _ _ _ _ _
        refine bw_ret ?_
        change ∃ xs, _ = some xs ∧ EndOk _ _ _ _
        obtain rfl := Option.some.inj h
        exact ⟨_, rfl, endOk0 (y := (PV.v (.int .i64 0))) (Wk.refl _) rfl ⟨rfl, rfl⟩⟩
noncomputable def p_value_cmp_api_Ref (a0 : Int) (a1 : Int) : Option Int :=
  bif (decide (a0 < a1)) then (
    some (-1)
  ) else (
    bif (decide (a0 > a1)) then (
      some 1
    ) else (
      some 0
    )
  )
theorem s_value_cmp_api_Ref (a0 : Int) (a1 : Int) (r : Int) (h : p_value_cmp_api_Ref a0 a1 = some r) : PCalls Try.prog 65 [(PV.v (.int .u64 a0)), (PV.v (.int .u64 a1))] (PV.v (.int .i64 r)) := by
  unfold p_value_cmp_api_Ref at h
  refine acalls_of Try.func65 rfl Try.ntmps65 Try.results65 rfl (aw_of_bw ?_)
  change BW _ _ _ ⟨[(0, (PV.v (.int .u64 a0))), (1, (PV.v (.int .u64 a1)))], [], _⟩ _
  refine bw_seq ?_
  refine bw_region ?_
  refine ao_step rfl rfl rfl (op1_assign rfl rfl) ?_
  refine ao_nil ?_
  change BW _ _ _ _ _
  refine bw_seq ?_
  refine bw_block ?_
  change BW _ _ _ _ _
  refine bw_seq ?_
  refine bw_region ?_
  refine ao_step rfl rfl rfl (op1_move rfl rfl) ?_
  refine ao_step rfl rfl rfl (op1_move rfl rfl) ?_
  refine ao_step rfl rfl rfl ((op1_cmp rfl rfl rfl rfl).cast (y := (PV.v (.bool (decide (a0 < a1))))) rfl rfl) ?_
  refine ao_step rfl rfl rfl (op1_assign rfl rfl) ?_
  refine ao_nil ?_
  change BW _ _ _ _ _
  refine bw_cond rfl ?_ ?_
  · intro hc1; replace h := ocond_t hc1 h
    refine bw_seq ?_
    refine bw_region ?_
    refine ao_step rfl rfl rfl (op1_assign rfl rfl) ?_
    refine ao_nil ?_
    change BW _ _ _ _ _
    refine bw_ret ?_
    change ∃ xs, _ = some xs ∧ EndOk _ _ _ _
    obtain rfl := Option.some.inj h
    exact ⟨_, rfl, endOk0 (y := (PV.v (.int .i64 (-1)))) (Wk.refl _) rfl ⟨rfl, rfl⟩⟩
  · intro hc1; replace h := ocond_f hc1 h
    refine bw_seq ?_
    refine bw_region ?_
    refine ao_step rfl rfl rfl (op1_move rfl rfl) ?_
    refine ao_step rfl rfl rfl (op1_move rfl rfl) ?_
    refine ao_step rfl rfl rfl ((op1_cmp rfl rfl rfl rfl).cast (y := (PV.v (.bool (decide (a0 > a1))))) rfl rfl) ?_
    refine ao_step rfl rfl rfl (op1_assign rfl rfl) ?_
    refine ao_nil ?_
    change BW _ _ _ _ _
    refine bw_cond rfl ?_ ?_
    · intro hc2; replace h := ocond_t hc2 h
      refine bw_seq ?_
      refine bw_region ?_
      refine ao_step rfl rfl rfl (op1_assign rfl rfl) ?_
      refine ao_nil ?_
      change BW _ _ _ _ _
      refine bw_ret ?_
      change ∃ xs, _ = some xs ∧ EndOk _ _ _ _
      obtain rfl := Option.some.inj h
      exact ⟨_, rfl, endOk0 (y := (PV.v (.int .i64 1))) (Wk.refl _) rfl ⟨rfl, rfl⟩⟩
    · intro hc2; replace h := ocond_f hc2 h
      refine bw_skip ?_
      change BW _ _ _ _ _
      refine bw_seq ?_
      refine bw_region ?_
      refine ao_step rfl rfl rfl (op1_assign rfl rfl) ?_
      refine ao_nil ?_
      change BW _ _ _ _ _
      refine bw_ret ?_
      change ∃ xs, _ = some xs ∧ EndOk _ _ _ _
      obtain rfl := Option.some.inj h
      exact ⟨_, rfl, endOk0 (y := (PV.v (.int .i64 0))) (Wk.refl _) rfl ⟨rfl, rfl⟩⟩
end Go.Proofs.Ythfdpaboekoncaa
