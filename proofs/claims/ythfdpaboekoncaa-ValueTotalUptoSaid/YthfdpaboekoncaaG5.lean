/- Pure functions, and that calls answer as they say. Written by gen.py. -/
import Derived.Test.YthfdpaboekoncaaG4
namespace Go.Proofs.Ythfdpaboekoncaa
open Go Aw
set_option linter.unusedVariables false
set_option linter.unusedSimpArgs false
set_option maxRecDepth 20000
set_option maxHeartbeats 2000000
noncomputable def law01_ValueTotal_j4 (s25 : Bool) : Option Bool :=
  bif s25 then (
    some false
  ) else (
    some true
  )
noncomputable def law01_ValueTotal_j3 (x4 : (Int × Int)) (x5 : (Int × Int)) (x6 : (Int × Int)) (s23 : Bool) : Option Bool :=
  bif s23 then (
    some false
  ) else (
    bif (decide (x4.1 ≤ 0)) then (
      bif (decide (x5.1 ≤ 0)) then (
        bif (decide (x6.1 > 0)) then (
          law01_ValueTotal_j4 true
        ) else (
          bif (decide (x4.1 < 0)) then (
            bif (decide (x5.1 ≤ 0)) then (
              bif (decide (x6.1 ≥ 0)) then (
                law01_ValueTotal_j4 true
              ) else (
                bif (decide (x4.1 ≤ 0)) then (
                  bif (decide (x5.1 < 0)) then (
                    law01_ValueTotal_j4 (decide (x6.1 ≥ 0))
                  ) else (
                    law01_ValueTotal_j4 false
                  )
                ) else (
                  law01_ValueTotal_j4 false
                )
              )
            ) else (
              bif (decide (x4.1 ≤ 0)) then (
                bif (decide (x5.1 < 0)) then (
                  law01_ValueTotal_j4 (decide (x6.1 ≥ 0))
                ) else (
                  law01_ValueTotal_j4 false
                )
              ) else (
                law01_ValueTotal_j4 false
              )
            )
          ) else (
            bif (decide (x4.1 ≤ 0)) then (
              bif (decide (x5.1 < 0)) then (
                law01_ValueTotal_j4 (decide (x6.1 ≥ 0))
              ) else (
                law01_ValueTotal_j4 false
              )
            ) else (
              law01_ValueTotal_j4 false
            )
          )
        )
      ) else (
        bif (decide (x4.1 < 0)) then (
          bif (decide (x5.1 ≤ 0)) then (
            bif (decide (x6.1 ≥ 0)) then (
              law01_ValueTotal_j4 true
            ) else (
              bif (decide (x4.1 ≤ 0)) then (
                bif (decide (x5.1 < 0)) then (
                  law01_ValueTotal_j4 (decide (x6.1 ≥ 0))
                ) else (
                  law01_ValueTotal_j4 false
                )
              ) else (
                law01_ValueTotal_j4 false
              )
            )
          ) else (
            bif (decide (x4.1 ≤ 0)) then (
              bif (decide (x5.1 < 0)) then (
                law01_ValueTotal_j4 (decide (x6.1 ≥ 0))
              ) else (
                law01_ValueTotal_j4 false
              )
            ) else (
              law01_ValueTotal_j4 false
            )
          )
        ) else (
          bif (decide (x4.1 ≤ 0)) then (
            bif (decide (x5.1 < 0)) then (
              law01_ValueTotal_j4 (decide (x6.1 ≥ 0))
            ) else (
              law01_ValueTotal_j4 false
            )
          ) else (
            law01_ValueTotal_j4 false
          )
        )
      )
    ) else (
      bif (decide (x4.1 < 0)) then (
        bif (decide (x5.1 ≤ 0)) then (
          bif (decide (x6.1 ≥ 0)) then (
            law01_ValueTotal_j4 true
          ) else (
            bif (decide (x4.1 ≤ 0)) then (
              bif (decide (x5.1 < 0)) then (
                law01_ValueTotal_j4 (decide (x6.1 ≥ 0))
              ) else (
                law01_ValueTotal_j4 false
              )
            ) else (
              law01_ValueTotal_j4 false
            )
          )
        ) else (
          bif (decide (x4.1 ≤ 0)) then (
            bif (decide (x5.1 < 0)) then (
              law01_ValueTotal_j4 (decide (x6.1 ≥ 0))
            ) else (
              law01_ValueTotal_j4 false
            )
          ) else (
            law01_ValueTotal_j4 false
          )
        )
      ) else (
        bif (decide (x4.1 ≤ 0)) then (
          bif (decide (x5.1 < 0)) then (
            law01_ValueTotal_j4 (decide (x6.1 ≥ 0))
          ) else (
            law01_ValueTotal_j4 false
          )
        ) else (
          law01_ValueTotal_j4 false
        )
      )
    )
  )
noncomputable def law01_ValueTotal_j2 (x1 : V) (x2 : V) (x4 : (Int × Int)) (x5 : (Int × Int)) (x6 : (Int × Int)) (x7 : (Int × Int)) (s11 : Bool) : Option Bool :=
  bif s11 then (
    bif (x4.1 == 0) then (
      bif (x4.2 != 0) then (
        some true
      ) else (
        bif (x5.1 == 0) then (
          bif (x5.2 != 0) then (
            some true
          ) else (
            bif (x6.1 == 0) then (
              some (x6.2 != 0)
            ) else (
              some false
            )
          )
        ) else (
          bif (x6.1 == 0) then (
            some (x6.2 != 0)
          ) else (
            some false
          )
        )
      )
    ) else (
      bif (x5.1 == 0) then (
        bif (x5.2 != 0) then (
          some true
        ) else (
          bif (x6.1 == 0) then (
            some (x6.2 != 0)
          ) else (
            some false
          )
        )
      ) else (
        bif (x6.1 == 0) then (
          some (x6.2 != 0)
        ) else (
          some false
        )
      )
    )
  ) else (
    bif (x4.1 != (IntKind.i64.wrap (0 - x7.1))) then (
      law01_ValueTotal_j3 x4 x5 x6 true
    ) else (
      Option.bind (p_value_Same x1 x2) fun x58 =>
      bif (!((x4.1 == 0) == x58)) then (
        law01_ValueTotal_j3 x4 x5 x6 true
      ) else (
        bif (decide (x4.1 < (-1))) then (
          law01_ValueTotal_j3 x4 x5 x6 true
        ) else (
          law01_ValueTotal_j3 x4 x5 x6 (decide (x4.1 > 1))
        )
      )
    )
  )
noncomputable def law01_ValueTotal_j1 (x1 : V) (x2 : V) (x4 : (Int × Int)) (x5 : (Int × Int)) (x6 : (Int × Int)) (x7 : (Int × Int)) (s9 : Bool) : Option Bool :=
  bif s9 then (
    some false
  ) else (
    bif (x4.2 != 0) then (
      law01_ValueTotal_j2 x1 x2 x4 x5 x6 x7 true
    ) else (
      bif (x5.2 != 0) then (
        law01_ValueTotal_j2 x1 x2 x4 x5 x6 x7 true
      ) else (
        law01_ValueTotal_j2 x1 x2 x4 x5 x6 x7 (x6.2 != 0)
      )
    )
  )
noncomputable def p_law01_ValueTotal (a0 : Term) (a1 : Term) (a2 : Term) : Option Bool :=
  Option.bind (p_mk_Built a0) fun x1 =>
  Option.bind (p_mk_Built a1) fun x2 =>
  Option.bind (p_mk_Built a2) fun x3 =>
  Option.bind (p_value_Order x1 x2) fun x4 =>
  Option.bind (p_value_Order x2 x3) fun x5 =>
  Option.bind (p_value_Order x1 x3) fun x6 =>
  Option.bind (p_value_Order x2 x1) fun x7 =>
  Option.bind (p_value_Order (V.int 1) (V.int 2)) fun x8 =>
  bif (x8.1 != (-1)) then (
    law01_ValueTotal_j1 x1 x2 x4 x5 x6 x7 true
  ) else (
    law01_ValueTotal_j1 x1 x2 x4 x5 x6 x7 (x8.2 != 0)
  )
theorem s_law01_ValueTotal (a0 : Term) (a1 : Term) (a2 : Term) (r : Bool) (h : p_law01_ValueTotal a0 a1 a2 = some r) : PCalls Try.prog 7 [(ofTermX a0), (ofTermX a1), (ofTermX a2)] (PV.v (.bool r)) := by
  unfold p_law01_ValueTotal at h
  refine acalls_of Try.func7 rfl Try.ntmps7 Try.results7 rfl (aw_of_bw ?_)
  change BW _ _ _ ⟨[(0, (ofTermX a0)), (1, (ofTermX a1)), (2, (ofTermX a2))], [], _⟩ _
  refine bw_seq ?_
  refine bw_region ?_
  refine ao_step rfl rfl rfl (op1_box rfl rfl rfl) ?_
  refine ao_step rfl rfl rfl (op1_box rfl rfl rfl) ?_
  refine ao_step rfl rfl rfl (op1_box rfl rfl rfl) ?_
  refine ao_step rfl rfl rfl (op1_assign rfl rfl) ?_
  refine ao_nil ?_
  change BW _ _ _ _ _
  refine bw_seq ?_
  refine bw_tail 5 [] [0, 1, 2] mo (by kernel_rfl) ?_
  refine ac_go rfl rfl rfl rfl (fun H hp => (op1_ldRA inf_29 Try.underlying29 rfl rfl rfl (hp.at rfl rfl) rfl rfl).cast (y := (PV.agg [(PV.v (.int .i64 a0.kind)), (PV.v (.bool a0.bool)), (PV.v (.int .i64 a0.int)), (PV.v (.float .f64 a0.float)), (ofStr a0.text), (PV.sl none 1 (List.map ofB a0.bytes)), (PV.v (.int .u64 a0.ref)), (PV.sl none 11 (List.map ofTerm a0.list)), (PV.sl none 12 (List.map ofEntry a0.fields)), (ofStr a0.cls), (PV.v (.int .i64 a0.ver))])) rfl rfl) ?_
  obtain ⟨x1, hx1, h⟩ := obind h
  refine ac_go rfl rfl rfl rfl (fun H hp => op1_pcall rfl en_11 rfl (.cons (Wk.refl _) .nil) ⟨(ids_TermX a0), trivial⟩ (s_mk_Built a0 x1 hx1) (ids_V x1)) ?_
  refine ac_go rfl rfl rfl rfl (fun H hp => (op1_ldRA inf_29 Try.underlying29 rfl rfl rfl (hp.at rfl rfl) rfl rfl).cast (y := (PV.agg [(PV.v (.int .i64 a1.kind)), (PV.v (.bool a1.bool)), (PV.v (.int .i64 a1.int)), (PV.v (.float .f64 a1.float)), (ofStr a1.text), (PV.sl none 1 (List.map ofB a1.bytes)), (PV.v (.int .u64 a1.ref)), (PV.sl none 11 (List.map ofTerm a1.list)), (PV.sl none 12 (List.map ofEntry a1.fields)), (ofStr a1.cls), (PV.v (.int .i64 a1.ver))])) rfl rfl) ?_
  obtain ⟨x2, hx2, h⟩ := obind h
  refine ac_go rfl rfl rfl rfl (fun H hp => op1_pcall rfl en_11 rfl (.cons (Wk.refl _) .nil) ⟨(ids_TermX a1), trivial⟩ (s_mk_Built a1 x2 hx2) (ids_V x2)) ?_
  refine ac_go rfl rfl rfl rfl (fun H hp => (op1_ldRA inf_29 Try.underlying29 rfl rfl rfl (hp.at rfl rfl) rfl rfl).cast (y := (PV.agg [(PV.v (.int .i64 a2.kind)), (PV.v (.bool a2.bool)), (PV.v (.int .i64 a2.int)), (PV.v (.float .f64 a2.float)), (ofStr a2.text), (PV.sl none 1 (List.map ofB a2.bytes)), (PV.v (.int .u64 a2.ref)), (PV.sl none 11 (List.map ofTerm a2.list)), (PV.sl none 12 (List.map ofEntry a2.fields)), (ofStr a2.cls), (PV.v (.int .i64 a2.ver))])) rfl rfl) ?_
  refine ac_nil ?_
  change AO _ _ _ _ _
  obtain ⟨x3, hx3, h⟩ := obind h
  refine ao_step rfl rfl rfl (op1_pcall rfl en_11 rfl (.cons (Wk.refl _) .nil) ⟨(ids_TermX a2), trivial⟩ (s_mk_Built a2 x3 hx3) (ids_V x3)) ?_
  refine ao_step rfl rfl rfl (op1_assign rfl rfl) ?_
  refine ao_step rfl rfl rfl (op1_assign rfl rfl) ?_
  refine ao_step rfl rfl rfl (op1_assign rfl rfl) ?_
  refine ao_nil ?_
  change BW _ _ _ _ _
  refine bw_seq ?_
  refine bw_region ?_
  refine ao_step rfl rfl rfl (op1_move rfl rfl) ?_
  refine ao_step rfl rfl rfl (op1_move rfl rfl) ?_
  obtain ⟨x4, hx4, h⟩ := obind h
  refine ao_step rfl rfl rfl (op1_pcall rfl en_26 rfl (.cons (Wk.refl _) (.cons (Wk.refl _) .nil)) ⟨(ids_V x1), ⟨(ids_V x2), trivial⟩⟩ (s_value_Order x1 x2 x4 hx4) (ids_tup_cons rfl (ids_tup_cons rfl ids_tup_nil))) ?_
  refine ao_step rfl rfl rfl (op1_move rfl rfl) ?_
  refine ao_step rfl rfl rfl (op1_ext rfl rfl rfl) ?_
  refine ao_step rfl rfl rfl (op1_ext rfl rfl rfl) ?_
  refine ao_step rfl rfl rfl (op1_assign rfl rfl) ?_
  refine ao_step rfl rfl rfl (op1_assign rfl rfl) ?_
  refine ao_nil ?_
  change BW _ _ _ _ _
  refine bw_seq ?_
  refine bw_region ?_
  refine ao_step rfl rfl rfl (op1_move rfl rfl) ?_
  refine ao_step rfl rfl rfl (op1_move rfl rfl) ?_
  obtain ⟨x5, hx5, h⟩ := obind h
  refine ao_step rfl rfl rfl (op1_pcall rfl en_26 rfl (.cons (Wk.refl _) (.cons (Wk.refl _) .nil)) ⟨(ids_V x2), ⟨(ids_V x3), trivial⟩⟩ (s_value_Order x2 x3 x5 hx5) (ids_tup_cons rfl (ids_tup_cons rfl ids_tup_nil))) ?_
  refine ao_step rfl rfl rfl (op1_move rfl rfl) ?_
  refine ao_step rfl rfl rfl (op1_ext rfl rfl rfl) ?_
  refine ao_step rfl rfl rfl (op1_ext rfl rfl rfl) ?_
  refine ao_step rfl rfl rfl (op1_assign rfl rfl) ?_
  refine ao_step rfl rfl rfl (op1_assign rfl rfl) ?_
  refine ao_nil ?_
  change BW _ _ _ _ _
  refine bw_seq ?_
  refine bw_region ?_
  refine ao_step rfl rfl rfl (op1_move rfl rfl) ?_
  refine ao_step rfl rfl rfl (op1_move rfl rfl) ?_
  obtain ⟨x6, hx6, h⟩ := obind h
  refine ao_step rfl rfl rfl (op1_pcall rfl en_26 rfl (.cons (Wk.refl _) (.cons (Wk.refl _) .nil)) ⟨(ids_V x1), ⟨(ids_V x3), trivial⟩⟩ (s_value_Order x1 x3 x6 hx6) (ids_tup_cons rfl (ids_tup_cons rfl ids_tup_nil))) ?_
  refine ao_step rfl rfl rfl (op1_move rfl rfl) ?_
  refine ao_step rfl rfl rfl (op1_ext rfl rfl rfl) ?_
  refine ao_step rfl rfl rfl (op1_ext rfl rfl rfl) ?_
  refine ao_step rfl rfl rfl (op1_assign rfl rfl) ?_
  refine ao_step rfl rfl rfl (op1_assign rfl rfl) ?_
  refine ao_nil ?_
  change BW _ _ _ _ _
  refine bw_seq ?_
  refine bw_region ?_
  refine ao_step rfl rfl rfl (op1_move rfl rfl) ?_
  refine ao_step rfl rfl rfl (op1_move rfl rfl) ?_
  obtain ⟨x7, hx7, h⟩ := obind h
  refine ao_step rfl rfl rfl (op1_pcall rfl en_26 rfl (.cons (Wk.refl _) (.cons (Wk.refl _) .nil)) ⟨(ids_V x2), ⟨(ids_V x1), trivial⟩⟩ (s_value_Order x2 x1 x7 hx7) (ids_tup_cons rfl (ids_tup_cons rfl ids_tup_nil))) ?_
  refine ao_step rfl rfl rfl (op1_move rfl rfl) ?_
  refine ao_step rfl rfl rfl (op1_ext rfl rfl rfl) ?_
  refine ao_step rfl rfl rfl (op1_ext rfl rfl rfl) ?_
  refine ao_step rfl rfl rfl (op1_assign rfl rfl) ?_
  refine ao_step rfl rfl rfl (op1_assign rfl rfl) ?_
  refine ao_nil ?_
  change BW _ _ _ _ _
  refine bw_seq ?_
  refine bw_region ?_
  refine ao_step rfl rfl rfl ((op1_mkI Try.underlying2 rfl rfl rfl).wk ((Wk.iface (Wk.refl _)).trans (Wk.eq (mk_int _).symm))) ?_
  refine ao_step rfl rfl rfl ((op1_mkI Try.underlying2 rfl rfl rfl).wk ((Wk.iface (Wk.refl _)).trans (Wk.eq (mk_int _).symm))) ?_
  obtain ⟨x8, hx8, h⟩ := obind h
  refine ao_step rfl rfl rfl (op1_pcall rfl en_26 rfl (.cons (Wk.refl _) (.cons (Wk.refl _) .nil)) ⟨(ids_V (V.int 1)), ⟨(ids_V (V.int 2)), trivial⟩⟩ (s_value_Order (V.int 1) (V.int 2) x8 hx8) (ids_tup_cons rfl (ids_tup_cons rfl ids_tup_nil))) ?_
  refine ao_step rfl rfl rfl (op1_move rfl rfl) ?_
  refine ao_step rfl rfl rfl (op1_ext rfl rfl rfl) ?_
  refine ao_step rfl rfl rfl (op1_ext rfl rfl rfl) ?_
  refine ao_step rfl rfl rfl (op1_assign rfl rfl) ?_
  refine ao_step rfl rfl rfl (op1_assign rfl rfl) ?_
  refine ao_nil ?_
  change BW _ _ _ _ _
  refine bw_seq ?_
  refine bw_seqJ (ι := Bool) (fun i => law01_ValueTotal_j1 x1 x2 x4 x5 x6 x7 i = some r) (fun i => [(7, (ofV x1)), (8, (ofV x2)), (10, (PV.v (.int .i64 x4.1))), (11, (PV.v (.int .i64 x4.2))), (12, (PV.v (.int .i64 x5.1))), (13, (PV.v (.int .i64 x5.2))), (14, (PV.v (.int .i64 x6.1))), (15, (PV.v (.int .i64 x6.2))), (16, (PV.v (.int .i64 x7.1))), (61, (PV.v (.bool i)))]) (fun i => []) ?_ ?_ ?_
  · intro i; exact ⟨Nat.le_of_ble_eq_true rfl, ⟨(il_nil (ids_V _)), ⟨(il_nil (ids_V _)), ⟨(il_nil rfl), ⟨(il_nil rfl), ⟨(il_nil rfl), ⟨(il_nil rfl), ⟨(il_nil rfl), ⟨(il_nil rfl), ⟨(il_nil rfl), ⟨(il_nil rfl), trivial⟩⟩⟩⟩⟩⟩⟩⟩⟩⟩, trivial⟩
  · rintro s9 h; replace h : law01_ValueTotal_j1 x1 x2 x4 x5 x6 x7 s9 = some r := h; unfold law01_ValueTotal_j1 at h
    change BW _ _ _ ⟨[(7, (ofV x1)), (8, (ofV x2)), (10, (PV.v (.int .i64 x4.1))), (11, (PV.v (.int .i64 x4.2))), (12, (PV.v (.int .i64 x5.1))), (13, (PV.v (.int .i64 x5.2))), (14, (PV.v (.int .i64 x6.1))), (15, (PV.v (.int .i64 x6.2))), (16, (PV.v (.int .i64 x7.1))), (61, (PV.v (.bool s9)))], [], _⟩ _
    refine bw_cond rfl ?_ ?_
    · intro hc10; replace h := ocond_t hc10 h
      refine bw_seq ?_
      refine bw_region ?_
      refine ao_step rfl rfl rfl (op1_assign rfl rfl) ?_
      refine ao_nil ?_
      change BW _ _ _ _ _
      refine bw_ret ?_
      change ∃ xs, _ = some xs ∧ EndOk _ _ _ _
      obtain rfl := Option.some.inj h
      exact ⟨_, rfl, endOk0 (y := (PV.v (.bool false))) (Wk.refl _) rfl ⟨rfl, rfl⟩⟩
    · intro hc10; replace h := ocond_f hc10 h
      refine bw_skip ?_
      change BW _ _ _ _ _
      refine bw_seq ?_
      refine bw_seqJ (ι := Bool) (fun i => law01_ValueTotal_j2 x1 x2 x4 x5 x6 x7 i = some r) (fun i => [(7, (ofV x1)), (8, (ofV x2)), (10, (PV.v (.int .i64 x4.1))), (11, (PV.v (.int .i64 x4.2))), (12, (PV.v (.int .i64 x5.1))), (13, (PV.v (.int .i64 x5.2))), (14, (PV.v (.int .i64 x6.1))), (15, (PV.v (.int .i64 x6.2))), (16, (PV.v (.int .i64 x7.1))), (71, (PV.v (.bool i)))]) (fun i => []) ?_ ?_ ?_
      · intro i; exact ⟨Nat.le_of_ble_eq_true rfl, ⟨(il_nil (ids_V _)), ⟨(il_nil (ids_V _)), ⟨(il_nil rfl), ⟨(il_nil rfl), ⟨(il_nil rfl), ⟨(il_nil rfl), ⟨(il_nil rfl), ⟨(il_nil rfl), ⟨(il_nil rfl), ⟨(il_nil rfl), trivial⟩⟩⟩⟩⟩⟩⟩⟩⟩⟩, trivial⟩
      · rintro s11 h; replace h : law01_ValueTotal_j2 x1 x2 x4 x5 x6 x7 s11 = some r := h; unfold law01_ValueTotal_j2 at h
        change BW _ _ _ ⟨[(7, (ofV x1)), (8, (ofV x2)), (10, (PV.v (.int .i64 x4.1))), (11, (PV.v (.int .i64 x4.2))), (12, (PV.v (.int .i64 x5.1))), (13, (PV.v (.int .i64 x5.2))), (14, (PV.v (.int .i64 x6.1))), (15, (PV.v (.int .i64 x6.2))), (16, (PV.v (.int .i64 x7.1))), (71, (PV.v (.bool s11)))], [], _⟩ _
        refine bw_cond rfl ?_ ?_
        · intro hc12; replace h := ocond_t hc12 h
          refine bw_seq ?_
          refine bw_region ?_
          refine ao_step rfl rfl rfl (op1_move rfl rfl) ?_
          refine ao_step rfl rfl rfl ((op1_cmp rfl rfl rfl rfl).cast (y := (PV.v (.bool (x4.1 == 0)))) rfl rfl) ?_
          refine ao_step rfl rfl rfl (op1_move rfl rfl) ?_
          refine ao_cases (t := 74) rfl ?_ ?_
          · intro hb13; replace h := ocond_t hb13 h
            refine ao_yes rfl rfl rfl rfl rfl rfl (op1_move rfl rfl) ?_
            refine ao_yes rfl rfl rfl rfl rfl rfl ((op1_cmp rfl rfl rfl rfl).cast (y := (PV.v (.bool (x4.2 != 0)))) rfl rfl) ?_
            refine ao_step rfl rfl rfl (op1_pickT rfl rfl rfl) ?_
            refine ao_step rfl rfl rfl (op1_move rfl rfl) ?_
            refine ao_cases (t := 78) rfl ?_ ?_
            · intro hb14; replace h := ocond_t hb14 h
              refine ao_no rfl rfl rfl rfl rfl rfl ?_
              refine ao_no rfl rfl rfl rfl rfl rfl ?_
              refine ao_no rfl rfl rfl rfl rfl rfl ?_
              refine ao_no rfl rfl rfl rfl rfl rfl ?_
              refine ao_no rfl rfl rfl rfl rfl rfl ?_
              refine ao_no rfl rfl rfl rfl rfl rfl ?_
              refine ao_step rfl rfl rfl (op1_pickT rfl rfl rfl) ?_
              refine ao_step rfl rfl rfl (op1_move rfl rfl) ?_
              refine ao_no rfl rfl rfl rfl rfl rfl ?_
              refine ao_no rfl rfl rfl rfl rfl rfl ?_
              refine ao_no rfl rfl rfl rfl rfl rfl ?_
              refine ao_no rfl rfl rfl rfl rfl rfl ?_
              refine ao_no rfl rfl rfl rfl rfl rfl ?_
              refine ao_no rfl rfl rfl rfl rfl rfl ?_
              refine ao_step rfl rfl rfl (op1_pickT rfl rfl rfl) ?_
              refine ao_step rfl rfl rfl (op1_assign rfl rfl) ?_
              refine ao_nil ?_
              change BW _ _ _ _ _
              refine bw_ret ?_
              change ∃ xs, _ = some xs ∧ EndOk _ _ _ _
              obtain rfl := Option.some.inj h
              exact ⟨_, rfl, endOk0 (y := (PV.v (.bool true))) (Wk.refl _) rfl ⟨rfl, rfl⟩⟩
            · intro hb14; replace h := ocond_f hb14 h
              refine ao_yes rfl rfl rfl rfl rfl rfl (op1_move rfl rfl) ?_
              refine ao_yes rfl rfl rfl rfl rfl rfl ((op1_cmp rfl rfl rfl rfl).cast (y := (PV.v (.bool (x5.1 == 0)))) rfl rfl) ?_
              refine ao_yes rfl rfl rfl rfl rfl rfl (op1_move rfl rfl) ?_
              refine ao_cases (t := 81) rfl ?_ ?_
              · intro hb15; replace h := ocond_t hb15 h
                refine ao_yes rfl rfl rfl rfl rfl rfl (op1_move rfl rfl) ?_
                refine ao_yes rfl rfl rfl rfl rfl rfl ((op1_cmp rfl rfl rfl rfl).cast (y := (PV.v (.bool (x5.2 != 0)))) rfl rfl) ?_
                refine ao_yes rfl rfl rfl rfl rfl rfl (op1_pickT rfl rfl rfl) ?_
                refine ao_step rfl rfl rfl (op1_pickF rfl rfl rfl) ?_
                refine ao_step rfl rfl rfl (op1_move rfl rfl) ?_
                refine ao_cases (t := 86) rfl ?_ ?_
                · intro hb16; replace h := ocond_t hb16 h
                  refine ao_no rfl rfl rfl rfl rfl rfl ?_
                  refine ao_no rfl rfl rfl rfl rfl rfl ?_
                  refine ao_no rfl rfl rfl rfl rfl rfl ?_
                  refine ao_no rfl rfl rfl rfl rfl rfl ?_
                  refine ao_no rfl rfl rfl rfl rfl rfl ?_
                  refine ao_no rfl rfl rfl rfl rfl rfl ?_
                  refine ao_step rfl rfl rfl (op1_pickT rfl rfl rfl) ?_
                  refine ao_step rfl rfl rfl (op1_assign rfl rfl) ?_
                  refine ao_nil ?_
                  change BW _ _ _ _ _
                  refine bw_ret ?_
                  change ∃ xs, _ = some xs ∧ EndOk _ _ _ _
                  obtain rfl := Option.some.inj h
                  exact ⟨_, rfl, endOk0 (y := (PV.v (.bool true))) (Wk.refl _) rfl ⟨rfl, rfl⟩⟩
                · intro hb16; replace h := ocond_f hb16 h
                  refine ao_yes rfl rfl rfl rfl rfl rfl (op1_move rfl rfl) ?_
                  refine ao_yes rfl rfl rfl rfl rfl rfl ((op1_cmp rfl rfl rfl rfl).cast (y := (PV.v (.bool (x6.1 == 0)))) rfl rfl) ?_
                  refine ao_yes rfl rfl rfl rfl rfl rfl (op1_move rfl rfl) ?_
                  refine ao_cases (t := 89) rfl ?_ ?_
                  · intro hb17; replace h := ocond_t hb17 h
                    refine ao_yes rfl rfl rfl rfl rfl rfl (op1_move rfl rfl) ?_
                    refine ao_yes rfl rfl rfl rfl rfl rfl ((op1_cmp rfl rfl rfl rfl).cast (y := (PV.v (.bool (x6.2 != 0)))) rfl rfl) ?_
                    refine ao_yes rfl rfl rfl rfl rfl rfl (op1_pickT rfl rfl rfl) ?_
                    refine ao_step rfl rfl rfl (op1_pickF rfl rfl rfl) ?_
                    refine ao_step rfl rfl rfl (op1_assign rfl rfl) ?_
                    refine ao_nil ?_
                    change BW _ _ _ _ _
                    refine bw_ret ?_
                    change ∃ xs, _ = some xs ∧ EndOk _ _ _ _
                    obtain rfl := Option.some.inj h
                    exact ⟨_, rfl, endOk0 (y := (PV.v (.bool (x6.2 != 0)))) (Wk.refl _) rfl ⟨rfl, rfl⟩⟩
                  · intro hb17; replace h := ocond_f hb17 h
                    refine ao_no rfl rfl rfl rfl rfl rfl ?_
                    refine ao_no rfl rfl rfl rfl rfl rfl ?_
                    refine ao_yes rfl rfl rfl rfl rfl rfl (op1_pickF rfl rfl rfl) ?_
                    refine ao_step rfl rfl rfl (op1_pickF rfl rfl rfl) ?_
                    refine ao_step rfl rfl rfl (op1_assign rfl rfl) ?_
                    refine ao_nil ?_
                    change BW _ _ _ _ _
                    refine bw_ret ?_
                    change ∃ xs, _ = some xs ∧ EndOk _ _ _ _
                    obtain rfl := Option.some.inj h
                    exact ⟨_, rfl, endOk0 (y := (PV.v (.bool false))) (Wk.refl _) rfl ⟨rfl, rfl⟩⟩
              · intro hb15; replace h := ocond_f hb15 h
                refine ao_no rfl rfl rfl rfl rfl rfl ?_
                refine ao_no rfl rfl rfl rfl rfl rfl ?_
                refine ao_yes rfl rfl rfl rfl rfl rfl (op1_pickF rfl rfl rfl) ?_
                refine ao_step rfl rfl rfl (op1_pickF rfl rfl rfl) ?_
                refine ao_step rfl rfl rfl (op1_move rfl rfl) ?_
                refine ao_yes rfl rfl rfl rfl rfl rfl (op1_move rfl rfl) ?_
                refine ao_yes rfl rfl rfl rfl rfl rfl ((op1_cmp rfl rfl rfl rfl).cast (y := (PV.v (.bool (x6.1 == 0)))) rfl rfl) ?_
                refine ao_yes rfl rfl rfl rfl rfl rfl (op1_move rfl rfl) ?_
                refine ao_cases (t := 89) rfl ?_ ?_
                · intro hb18; replace h := ocond_t hb18 h
                  refine ao_yes rfl rfl rfl rfl rfl rfl (op1_move rfl rfl) ?_
                  refine ao_yes rfl rfl rfl rfl rfl rfl ((op1_cmp rfl rfl rfl rfl).cast (y := (PV.v (.bool (x6.2 != 0)))) rfl rfl) ?_
                  refine ao_yes rfl rfl rfl rfl rfl rfl (op1_pickT rfl rfl rfl) ?_
                  refine ao_step rfl rfl rfl (op1_pickF rfl rfl rfl) ?_
                  refine ao_step rfl rfl rfl (op1_assign rfl rfl) ?_
                  refine ao_nil ?_
                  change BW _ _ _ _ _
                  refine bw_ret ?_
                  change ∃ xs, _ = some xs ∧ EndOk _ _ _ _
                  obtain rfl := Option.some.inj h
                  exact ⟨_, rfl, endOk0 (y := (PV.v (.bool (x6.2 != 0)))) (Wk.refl _) rfl ⟨rfl, rfl⟩⟩
                · intro hb18; replace h := ocond_f hb18 h
                  refine ao_no rfl rfl rfl rfl rfl rfl ?_
                  refine ao_no rfl rfl rfl rfl rfl rfl ?_
                  refine ao_yes rfl rfl rfl rfl rfl rfl (op1_pickF rfl rfl rfl) ?_
                  refine ao_step rfl rfl rfl (op1_pickF rfl rfl rfl) ?_
                  refine ao_step rfl rfl rfl (op1_assign rfl rfl) ?_
                  refine ao_nil ?_
                  change BW _ _ _ _ _
                  refine bw_ret ?_
                  change ∃ xs, _ = some xs ∧ EndOk _ _ _ _
                  obtain rfl := Option.some.inj h
                  exact ⟨_, rfl, endOk0 (y := (PV.v (.bool false))) (Wk.refl _) rfl ⟨rfl, rfl⟩⟩
          · intro hb13; replace h := ocond_f hb13 h
            refine ao_no rfl rfl rfl rfl rfl rfl ?_
            refine ao_no rfl rfl rfl rfl rfl rfl ?_
            refine ao_step rfl rfl rfl (op1_pickF rfl rfl rfl) ?_
            refine ao_step rfl rfl rfl (op1_move rfl rfl) ?_
            refine ao_yes rfl rfl rfl rfl rfl rfl (op1_move rfl rfl) ?_
            refine ao_yes rfl rfl rfl rfl rfl rfl ((op1_cmp rfl rfl rfl rfl).cast (y := (PV.v (.bool (x5.1 == 0)))) rfl rfl) ?_
            refine ao_yes rfl rfl rfl rfl rfl rfl (op1_move rfl rfl) ?_
            refine ao_cases (t := 81) rfl ?_ ?_
            · intro hb19; replace h := ocond_t hb19 h
              refine ao_yes rfl rfl rfl rfl rfl rfl (op1_move rfl rfl) ?_
              refine ao_yes rfl rfl rfl rfl rfl rfl ((op1_cmp rfl rfl rfl rfl).cast (y := (PV.v (.bool (x5.2 != 0)))) rfl rfl) ?_
              refine ao_yes rfl rfl rfl rfl rfl rfl (op1_pickT rfl rfl rfl) ?_
              refine ao_step rfl rfl rfl (op1_pickF rfl rfl rfl) ?_
              refine ao_step rfl rfl rfl (op1_move rfl rfl) ?_
              refine ao_cases (t := 86) rfl ?_ ?_
              · intro hb20; replace h := ocond_t hb20 h
                refine ao_no rfl rfl rfl rfl rfl rfl ?_
                refine ao_no rfl rfl rfl rfl rfl rfl ?_
                refine ao_no rfl rfl rfl rfl rfl rfl ?_
                refine ao_no rfl rfl rfl rfl rfl rfl ?_
                refine ao_no rfl rfl rfl rfl rfl rfl ?_
                refine ao_no rfl rfl rfl rfl rfl rfl ?_
                refine ao_step rfl rfl rfl (op1_pickT rfl rfl rfl) ?_
                refine ao_step rfl rfl rfl (op1_assign rfl rfl) ?_
                refine ao_nil ?_
                change BW _ _ _ _ _
                refine bw_ret ?_
                change ∃ xs, _ = some xs ∧ EndOk _ _ _ _
                obtain rfl := Option.some.inj h
                exact ⟨_, rfl, endOk0 (y := (PV.v (.bool true))) (Wk.refl _) rfl ⟨rfl, rfl⟩⟩
              · intro hb20; replace h := ocond_f hb20 h
                refine ao_yes rfl rfl rfl rfl rfl rfl (op1_move rfl rfl) ?_
                refine ao_yes rfl rfl rfl rfl rfl rfl ((op1_cmp rfl rfl rfl rfl).cast (y := (PV.v (.bool (x6.1 == 0)))) rfl rfl) ?_
                refine ao_yes rfl rfl rfl rfl rfl rfl (op1_move rfl rfl) ?_
                refine ao_cases (t := 89) rfl ?_ ?_
                · intro hb21; replace h := ocond_t hb21 h
                  refine ao_yes rfl rfl rfl rfl rfl rfl (op1_move rfl rfl) ?_
                  refine ao_yes rfl rfl rfl rfl rfl rfl ((op1_cmp rfl rfl rfl rfl).cast (y := (PV.v (.bool (x6.2 != 0)))) rfl rfl) ?_
                  refine ao_yes rfl rfl rfl rfl rfl rfl (op1_pickT rfl rfl rfl) ?_
                  refine ao_step rfl rfl rfl (op1_pickF rfl rfl rfl) ?_
                  refine ao_step rfl rfl rfl (op1_assign rfl rfl) ?_
                  refine ao_nil ?_
                  change BW _ _ _ _ _
                  refine bw_ret ?_
                  change ∃ xs, _ = some xs ∧ EndOk _ _ _ _
                  obtain rfl := Option.some.inj h
                  exact ⟨_, rfl, endOk0 (y := (PV.v (.bool (x6.2 != 0)))) (Wk.refl _) rfl ⟨rfl, rfl⟩⟩
                · intro hb21; replace h := ocond_f hb21 h
                  refine ao_no rfl rfl rfl rfl rfl rfl ?_
                  refine ao_no rfl rfl rfl rfl rfl rfl ?_
                  refine ao_yes rfl rfl rfl rfl rfl rfl (op1_pickF rfl rfl rfl) ?_
                  refine ao_step rfl rfl rfl (op1_pickF rfl rfl rfl) ?_
                  refine ao_step rfl rfl rfl (op1_assign rfl rfl) ?_
                  refine ao_nil ?_
                  change BW _ _ _ _ _
                  refine bw_ret ?_
                  change ∃ xs, _ = some xs ∧ EndOk _ _ _ _
                  obtain rfl := Option.some.inj h
                  exact ⟨_, rfl, endOk0 (y := (PV.v (.bool false))) (Wk.refl _) rfl ⟨rfl, rfl⟩⟩
            · intro hb19; replace h := ocond_f hb19 h
              refine ao_no rfl rfl rfl rfl rfl rfl ?_
              refine ao_no rfl rfl rfl rfl rfl rfl ?_
              refine ao_yes rfl rfl rfl rfl rfl rfl (op1_pickF rfl rfl rfl) ?_
              refine ao_step rfl rfl rfl (op1_pickF rfl rfl rfl) ?_
              refine ao_step rfl rfl rfl (op1_move rfl rfl) ?_
              refine ao_yes rfl rfl rfl rfl rfl rfl (op1_move rfl rfl) ?_
              refine ao_yes rfl rfl rfl rfl rfl rfl ((op1_cmp rfl rfl rfl rfl).cast (y := (PV.v (.bool (x6.1 == 0)))) rfl rfl) ?_
              refine ao_yes rfl rfl rfl rfl rfl rfl (op1_move rfl rfl) ?_
              refine ao_cases (t := 89) rfl ?_ ?_
              · intro hb22; replace h := ocond_t hb22 h
                refine ao_yes rfl rfl rfl rfl rfl rfl (op1_move rfl rfl) ?_
                refine ao_yes rfl rfl rfl rfl rfl rfl ((op1_cmp rfl rfl rfl rfl).cast (y := (PV.v (.bool (x6.2 != 0)))) rfl rfl) ?_
                refine ao_yes rfl rfl rfl rfl rfl rfl (op1_pickT rfl rfl rfl) ?_
                refine ao_step rfl rfl rfl (op1_pickF rfl rfl rfl) ?_
                refine ao_step rfl rfl rfl (op1_assign rfl rfl) ?_
                refine ao_nil ?_
                change BW _ _ _ _ _
                refine bw_ret ?_
                change ∃ xs, _ = some xs ∧ EndOk _ _ _ _
                obtain rfl := Option.some.inj h
                exact ⟨_, rfl, endOk0 (y := (PV.v (.bool (x6.2 != 0)))) (Wk.refl _) rfl ⟨rfl, rfl⟩⟩
              · intro hb22; replace h := ocond_f hb22 h
                refine ao_no rfl rfl rfl rfl rfl rfl ?_
                refine ao_no rfl rfl rfl rfl rfl rfl ?_
                refine ao_yes rfl rfl rfl rfl rfl rfl (op1_pickF rfl rfl rfl) ?_
                refine ao_step rfl rfl rfl (op1_pickF rfl rfl rfl) ?_
                refine ao_step rfl rfl rfl (op1_assign rfl rfl) ?_
                refine ao_nil ?_
                change BW _ _ _ _ _
                refine bw_ret ?_
                change ∃ xs, _ = some xs ∧ EndOk _ _ _ _
                obtain rfl := Option.some.inj h
                exact ⟨_, rfl, endOk0 (y := (PV.v (.bool false))) (Wk.refl _) rfl ⟨rfl, rfl⟩⟩
        · intro hc12; replace h := ocond_f hc12 h
          refine bw_skip ?_
          change BW _ _ _ _ _
          refine bw_seq ?_
          refine bw_seqJ (ι := Bool) (fun i => law01_ValueTotal_j3 x4 x5 x6 i = some r) (fun i => [(10, (PV.v (.int .i64 x4.1))), (12, (PV.v (.int .i64 x5.1))), (14, (PV.v (.int .i64 x6.1))), (113, (PV.v (.bool i)))]) (fun i => []) ?_ ?_ ?_
          · intro i; exact ⟨Nat.le_of_ble_eq_true rfl, ⟨(il_nil rfl), ⟨(il_nil rfl), ⟨(il_nil rfl), ⟨(il_nil rfl), trivial⟩⟩⟩⟩, trivial⟩
          · rintro s23 h; replace h : law01_ValueTotal_j3 x4 x5 x6 s23 = some r := h; unfold law01_ValueTotal_j3 at h
            change BW _ _ _ ⟨[(10, (PV.v (.int .i64 x4.1))), (12, (PV.v (.int .i64 x5.1))), (14, (PV.v (.int .i64 x6.1))), (113, (PV.v (.bool s23)))], [], _⟩ _
            refine bw_cond rfl ?_ ?_
            · intro hc24; replace h := ocond_t hc24 h
              refine bw_seq ?_
              refine bw_region ?_
              refine ao_step rfl rfl rfl (op1_assign rfl rfl) ?_
              refine ao_nil ?_
              change BW _ _ _ _ _
              refine bw_ret ?_
              change ∃ xs, _ = some xs ∧ EndOk _ _ _ _
              obtain rfl := Option.some.inj h
              exact ⟨_, rfl, endOk0 (y := (PV.v (.bool false))) (Wk.refl _) rfl ⟨rfl, rfl⟩⟩
            · intro hc24; replace h := ocond_f hc24 h
              refine bw_skip ?_
              change BW _ _ _ _ _
              refine bw_seq ?_
              refine bw_seqJ (ι := Bool) (fun i => law01_ValueTotal_j4 i = some r) (fun i => [(147, (PV.v (.bool i)))]) (fun i => []) ?_ ?_ ?_
              · intro i; exact ⟨Nat.le_of_ble_eq_true rfl, ⟨(il_nil rfl), trivial⟩, trivial⟩
              · rintro s25 h; replace h : law01_ValueTotal_j4 s25 = some r := h; unfold law01_ValueTotal_j4 at h
                change BW _ _ _ ⟨[(147, (PV.v (.bool s25)))], [], _⟩ _
                refine bw_cond rfl ?_ ?_
                · intro hc26; replace h := ocond_t hc26 h
                  refine bw_seq ?_
                  refine bw_region ?_
                  refine ao_step rfl rfl rfl (op1_assign rfl rfl) ?_
                  refine ao_nil ?_
                  change BW _ _ _ _ _
                  refine bw_ret ?_
                  change ∃ xs, _ = some xs ∧ EndOk _ _ _ _
                  obtain rfl := Option.some.inj h
                  exact ⟨_, rfl, endOk0 (y := (PV.v (.bool false))) (Wk.refl _) rfl ⟨rfl, rfl⟩⟩
                · intro hc26; replace h := ocond_f hc26 h
                  refine bw_skip ?_
                  change BW _ _ _ _ _
                  refine bw_seq ?_
                  refine bw_region ?_
                  refine ao_step rfl rfl rfl (op1_assign rfl rfl) ?_
                  refine ao_nil ?_
                  change BW _ _ _ _ _
                  refine bw_ret ?_
                  change ∃ xs, _ = some xs ∧ EndOk _ _ _ _
                  obtain rfl := Option.some.inj h
                  exact ⟨_, rfl, endOk0 (y := (PV.v (.bool true))) (Wk.refl _) rfl ⟨rfl, rfl⟩⟩
              · refine bw_region ?_
                refine ao_step rfl rfl rfl (op1_move rfl rfl) ?_
                refine ao_step rfl rfl rfl ((op1_cmp rfl rfl rfl rfl).cast (y := (PV.v (.bool (decide (x4.1 ≤ 0))))) rfl rfl) ?_
                refine ao_step rfl rfl rfl (op1_move rfl rfl) ?_
                refine ao_cases (t := 116) rfl ?_ ?_
                · intro hb27; replace h := ocond_t hb27 h
                  refine ao_yes rfl rfl rfl rfl rfl rfl (op1_move rfl rfl) ?_
                  refine ao_yes rfl rfl rfl rfl rfl rfl ((op1_cmp rfl rfl rfl rfl).cast (y := (PV.v (.bool (decide (x5.1 ≤ 0))))) rfl rfl) ?_
                  refine ao_step rfl rfl rfl (op1_pickT rfl rfl rfl) ?_
                  refine ao_step rfl rfl rfl (op1_move rfl rfl) ?_
                  refine ao_cases (t := 120) rfl ?_ ?_
                  · intro hb28; replace h := ocond_t hb28 h
                    refine ao_yes rfl rfl rfl rfl rfl rfl (op1_move rfl rfl) ?_
                    refine ao_yes rfl rfl rfl rfl rfl rfl ((op1_cmp rfl rfl rfl rfl).cast (y := (PV.v (.bool (decide (x6.1 > 0))))) rfl rfl) ?_
                    refine ao_step rfl rfl rfl (op1_pickT rfl rfl rfl) ?_
                    refine ao_step rfl rfl rfl (op1_move rfl rfl) ?_
                    refine ao_cases (t := 124) rfl ?_ ?_
                    · intro hb29; replace h := ocond_t hb29 h
                      refine ao_no rfl rfl rfl rfl rfl rfl ?_
                      refine ao_no rfl rfl rfl rfl rfl rfl ?_
                      refine ao_no rfl rfl rfl rfl rfl rfl ?_
                      refine ao_no rfl rfl rfl rfl rfl rfl ?_
                      refine ao_no rfl rfl rfl rfl rfl rfl ?_
                      refine ao_no rfl rfl rfl rfl rfl rfl ?_
                      refine ao_no rfl rfl rfl rfl rfl rfl ?_
                      refine ao_no rfl rfl rfl rfl rfl rfl ?_
                      refine ao_no rfl rfl rfl rfl rfl rfl ?_
                      refine ao_no rfl rfl rfl rfl rfl rfl ?_
                      refine ao_step rfl rfl rfl (op1_pickT rfl rfl rfl) ?_
                      refine ao_step rfl rfl rfl (op1_move rfl rfl) ?_
                      refine ao_no rfl rfl rfl rfl rfl rfl ?_
                      refine ao_no rfl rfl rfl rfl rfl rfl ?_
                      refine ao_no rfl rfl rfl rfl rfl rfl ?_
                      refine ao_no rfl rfl rfl rfl rfl rfl ?_
                      refine ao_no rfl rfl rfl rfl rfl rfl ?_
                      refine ao_no rfl rfl rfl rfl rfl rfl ?_
                      refine ao_no rfl rfl rfl rfl rfl rfl ?_
                      refine ao_no rfl rfl rfl rfl rfl rfl ?_
                      refine ao_no rfl rfl rfl rfl rfl rfl ?_
                      refine ao_no rfl rfl rfl rfl rfl rfl ?_
                      refine ao_step rfl rfl rfl (op1_pickT rfl rfl rfl) ?_
                      refine ao_nil ?_
                      exact ⟨rfl, true, h, ⟨.nil, (sub_consW rfl (fun _ _ h => h) sub_nil)⟩⟩
                    · intro hb29; replace h := ocond_f hb29 h
                      refine ao_yes rfl rfl rfl rfl rfl rfl (op1_move rfl rfl) ?_
                      refine ao_yes rfl rfl rfl rfl rfl rfl ((op1_cmp rfl rfl rfl rfl).cast (y := (PV.v (.bool (decide (x4.1 < 0))))) rfl rfl) ?_
                      refine ao_yes rfl rfl rfl rfl rfl rfl (op1_move rfl rfl) ?_
                      refine ao_cases (t := 127) rfl ?_ ?_
                      · intro hb30; replace h := ocond_t hb30 h
                        refine ao_yes rfl rfl rfl rfl rfl rfl (op1_move rfl rfl) ?_
                        refine ao_yes rfl rfl rfl rfl rfl rfl ((op1_cmp rfl rfl rfl rfl).cast (y := (PV.v (.bool (decide (x5.1 ≤ 0))))) rfl rfl) ?_
                        refine ao_yes rfl rfl rfl rfl rfl rfl (op1_pickT rfl rfl rfl) ?_
                        refine ao_yes rfl rfl rfl rfl rfl rfl (op1_move rfl rfl) ?_
                        refine ao_cases (t := 131) rfl ?_ ?_
                        · intro hb31; replace h := ocond_t hb31 h
                          refine ao_yes rfl rfl rfl rfl rfl rfl (op1_move rfl rfl) ?_
                          refine ao_yes rfl rfl rfl rfl rfl rfl ((op1_cmp rfl rfl rfl rfl).cast (y := (PV.v (.bool (decide (x6.1 ≥ 0))))) rfl rfl) ?_
                          refine ao_yes rfl rfl rfl rfl rfl rfl (op1_pickT rfl rfl rfl) ?_
                          refine ao_step rfl rfl rfl (op1_pickF rfl rfl rfl) ?_
                          refine ao_step rfl rfl rfl (op1_move rfl rfl) ?_
                          refine ao_cases (t := 136) rfl ?_ ?_
                          · intro hb32; replace h := ocond_t hb32 h
                            refine ao_no rfl rfl rfl rfl rfl rfl ?_
                            refine ao_no rfl rfl rfl rfl rfl rfl ?_
                            refine ao_no rfl rfl rfl rfl rfl rfl ?_
                            refine ao_no rfl rfl rfl rfl rfl rfl ?_
                            refine ao_no rfl rfl rfl rfl rfl rfl ?_
                            refine ao_no rfl rfl rfl rfl rfl rfl ?_
                            refine ao_no rfl rfl rfl rfl rfl rfl ?_
                            refine ao_no rfl rfl rfl rfl rfl rfl ?_
                            refine ao_no rfl rfl rfl rfl rfl rfl ?_
                            refine ao_no rfl rfl rfl rfl rfl rfl ?_
                            refine ao_step rfl rfl rfl (op1_pickT rfl rfl rfl) ?_
                            refine ao_nil ?_
                            exact ⟨rfl, true, h, ⟨.nil, (sub_consW rfl (fun _ _ h => h) sub_nil)⟩⟩
                          · intro hb32; replace h := ocond_f hb32 h
                            refine ao_yes rfl rfl rfl rfl rfl rfl (op1_move rfl rfl) ?_
                            refine ao_yes rfl rfl rfl rfl rfl rfl ((op1_cmp rfl rfl rfl rfl).cast (y := (PV.v (.bool (decide (x4.1 ≤ 0))))) rfl rfl) ?_
                            refine ao_yes rfl rfl rfl rfl rfl rfl (op1_move rfl rfl) ?_
                            refine ao_cases (t := 139) rfl ?_ ?_
                            · intro hb33; replace h := ocond_t hb33 h
                              refine ao_yes rfl rfl rfl rfl rfl rfl (op1_move rfl rfl) ?_
                              refine ao_yes rfl rfl rfl rfl rfl rfl ((op1_cmp rfl rfl rfl rfl).cast (y := (PV.v (.bool (decide (x5.1 < 0))))) rfl rfl) ?_
                              refine ao_yes rfl rfl rfl rfl rfl rfl (op1_pickT rfl rfl rfl) ?_
                              refine ao_yes rfl rfl rfl rfl rfl rfl (op1_move rfl rfl) ?_
                              refine ao_cases (t := 143) rfl ?_ ?_
                              · intro hb34; replace h := ocond_t hb34 h
                                refine ao_yes rfl rfl rfl rfl rfl rfl (op1_move rfl rfl) ?_
                                refine ao_yes rfl rfl rfl rfl rfl rfl ((op1_cmp rfl rfl rfl rfl).cast (y := (PV.v (.bool (decide (x6.1 ≥ 0))))) rfl rfl) ?_
                                refine ao_yes rfl rfl rfl rfl rfl rfl (op1_pickT rfl rfl rfl) ?_
                                refine ao_step rfl rfl rfl (op1_pickF rfl rfl rfl) ?_
                                refine ao_nil ?_
                                exact ⟨rfl, (decide (x6.1 ≥ 0)), h, ⟨.nil, (sub_consW rfl (fun _ _ h => h) sub_nil)⟩⟩
                              · intro hb34; replace h := ocond_f hb34 h
                                refine ao_no rfl rfl rfl rfl rfl rfl ?_
                                refine ao_no rfl rfl rfl rfl rfl rfl ?_
                                refine ao_yes rfl rfl rfl rfl rfl rfl (op1_pickF rfl rfl rfl) ?_
                                refine ao_step rfl rfl rfl (op1_pickF rfl rfl rfl) ?_
                                refine ao_nil ?_
                                exact ⟨rfl, false, h, ⟨.nil, (sub_consW rfl (fun _ _ h => h) sub_nil)⟩⟩
                            · intro hb33; replace h := ocond_f hb33 h
                              refine ao_no rfl rfl rfl rfl rfl rfl ?_
                              refine ao_no rfl rfl rfl rfl rfl rfl ?_
                              refine ao_yes rfl rfl rfl rfl rfl rfl (op1_pickF rfl rfl rfl) ?_
                              refine ao_yes rfl rfl rfl rfl rfl rfl (op1_move rfl rfl) ?_
                              refine ao_no rfl rfl rfl rfl rfl rfl ?_
                              refine ao_no rfl rfl rfl rfl rfl rfl ?_
                              refine ao_yes rfl rfl rfl rfl rfl rfl (op1_pickF rfl rfl rfl) ?_
                              refine ao_step rfl rfl rfl (op1_pickF rfl rfl rfl) ?_
                              refine ao_nil ?_
                              exact ⟨rfl, false, h, ⟨.nil, (sub_consW rfl (fun _ _ h => h) sub_nil)⟩⟩
                        · intro hb31; replace h := ocond_f hb31 h
                          refine ao_no rfl rfl rfl rfl rfl rfl ?_
                          refine ao_no rfl rfl rfl rfl rfl rfl ?_
                          refine ao_yes rfl rfl rfl rfl rfl rfl (op1_pickF rfl rfl rfl) ?_
                          refine ao_step rfl rfl rfl (op1_pickF rfl rfl rfl) ?_
                          refine ao_step rfl rfl rfl (op1_move rfl rfl) ?_
                          refine ao_yes rfl rfl rfl rfl rfl rfl (op1_move rfl rfl) ?_
                          refine ao_yes rfl rfl rfl rfl rfl rfl ((op1_cmp rfl rfl rfl rfl).cast (y := (PV.v (.bool (decide (x4.1 ≤ 0))))) rfl rfl) ?_
                          refine ao_yes rfl rfl rfl rfl rfl rfl (op1_move rfl rfl) ?_
                          refine ao_cases (t := 139) rfl ?_ ?_
                          · intro hb35; replace h := ocond_t hb35 h
                            refine ao_yes rfl rfl rfl rfl rfl rfl (op1_move rfl rfl) ?_
                            refine ao_yes rfl rfl rfl rfl rfl rfl ((op1_cmp rfl rfl rfl rfl).cast (y := (PV.v (.bool (decide (x5.1 < 0))))) rfl rfl) ?_
                            refine ao_yes rfl rfl rfl rfl rfl rfl (op1_pickT rfl rfl rfl) ?_
                            refine ao_yes rfl rfl rfl rfl rfl rfl (op1_move rfl rfl) ?_
                            refine ao_cases (t := 143) rfl ?_ ?_
                            · intro hb36; replace h := ocond_t hb36 h
                              refine ao_yes rfl rfl rfl rfl rfl rfl (op1_move rfl rfl) ?_
                              refine ao_yes rfl rfl rfl rfl rfl rfl ((op1_cmp rfl rfl rfl rfl).cast (y := (PV.v (.bool (decide (x6.1 ≥ 0))))) rfl rfl) ?_
                              refine ao_yes rfl rfl rfl rfl rfl rfl (op1_pickT rfl rfl rfl) ?_
                              refine ao_step rfl rfl rfl (op1_pickF rfl rfl rfl) ?_
                              refine ao_nil ?_
                              exact ⟨rfl, (decide (x6.1 ≥ 0)), h, ⟨.nil, (sub_consW rfl (fun _ _ h => h) sub_nil)⟩⟩
                            · intro hb36; replace h := ocond_f hb36 h
                              refine ao_no rfl rfl rfl rfl rfl rfl ?_
                              refine ao_no rfl rfl rfl rfl rfl rfl ?_
                              refine ao_yes rfl rfl rfl rfl rfl rfl (op1_pickF rfl rfl rfl) ?_
                              refine ao_step rfl rfl rfl (op1_pickF rfl rfl rfl) ?_
                              refine ao_nil ?_
                              exact ⟨rfl, false, h, ⟨.nil, (sub_consW rfl (fun _ _ h => h) sub_nil)⟩⟩
                          · intro hb35; replace h := ocond_f hb35 h
                            refine ao_no rfl rfl rfl rfl rfl rfl ?_
                            refine ao_no rfl rfl rfl rfl rfl rfl ?_
                            refine ao_yes rfl rfl rfl rfl rfl rfl (op1_pickF rfl rfl rfl) ?_
                            refine ao_yes rfl rfl rfl rfl rfl rfl (op1_move rfl rfl) ?_
                            refine ao_no rfl rfl rfl rfl rfl rfl ?_
                            refine ao_no rfl rfl rfl rfl rfl rfl ?_
                            refine ao_yes rfl rfl rfl rfl rfl rfl (op1_pickF rfl rfl rfl) ?_
                            refine ao_step rfl rfl rfl (op1_pickF rfl rfl rfl) ?_
                            refine ao_nil ?_
                            exact ⟨rfl, false, h, ⟨.nil, (sub_consW rfl (fun _ _ h => h) sub_nil)⟩⟩
                      · intro hb30; replace h := ocond_f hb30 h
                        refine ao_no rfl rfl rfl rfl rfl rfl ?_
                        refine ao_no rfl rfl rfl rfl rfl rfl ?_
                        refine ao_yes rfl rfl rfl rfl rfl rfl (op1_pickF rfl rfl rfl) ?_
                        refine ao_yes rfl rfl rfl rfl rfl rfl (op1_move rfl rfl) ?_
                        refine ao_no rfl rfl rfl rfl rfl rfl ?_
                        refine ao_no rfl rfl rfl rfl rfl rfl ?_
                        refine ao_yes rfl rfl rfl rfl rfl rfl (op1_pickF rfl rfl rfl) ?_
                        refine ao_step rfl rfl rfl (op1_pickF rfl rfl rfl) ?_
                        refine ao_step rfl rfl rfl (op1_move rfl rfl) ?_
                        refine ao_yes rfl rfl rfl rfl rfl rfl (op1_move rfl rfl) ?_
                        refine ao_yes rfl rfl rfl rfl rfl rfl ((op1_cmp rfl rfl rfl rfl).cast (y := (PV.v (.bool (decide (x4.1 ≤ 0))))) rfl rfl) ?_
                        refine ao_yes rfl rfl rfl rfl rfl rfl (op1_move rfl rfl) ?_
                        refine ao_cases (t := 139) rfl ?_ ?_
                        · intro hb37; replace h := ocond_t hb37 h
                          refine ao_yes rfl rfl rfl rfl rfl rfl (op1_move rfl rfl) ?_
                          refine ao_yes rfl rfl rfl rfl rfl rfl ((op1_cmp rfl rfl rfl rfl).cast (y := (PV.v (.bool (decide (x5.1 < 0))))) rfl rfl) ?_
                          refine ao_yes rfl rfl rfl rfl rfl rfl (op1_pickT rfl rfl rfl) ?_
                          refine ao_yes rfl rfl rfl rfl rfl rfl (op1_move rfl rfl) ?_
                          refine ao_cases (t := 143) rfl ?_ ?_
                          · intro hb38; replace h := ocond_t hb38 h
                            refine ao_yes rfl rfl rfl rfl rfl rfl (op1_move rfl rfl) ?_
                            refine ao_yes rfl rfl rfl rfl rfl rfl ((op1_cmp rfl rfl rfl rfl).cast (y := (PV.v (.bool (decide (x6.1 ≥ 0))))) rfl rfl) ?_
                            refine ao_yes rfl rfl rfl rfl rfl rfl (op1_pickT rfl rfl rfl) ?_
                            refine ao_step rfl rfl rfl (op1_pickF rfl rfl rfl) ?_
                            refine ao_nil ?_
                            exact ⟨rfl, (decide (x6.1 ≥ 0)), h, ⟨.nil, (sub_consW rfl (fun _ _ h => h) sub_nil)⟩⟩
                          · intro hb38; replace h := ocond_f hb38 h
                            refine ao_no rfl rfl rfl rfl rfl rfl ?_
                            refine ao_no rfl rfl rfl rfl rfl rfl ?_
                            refine ao_yes rfl rfl rfl rfl rfl rfl (op1_pickF rfl rfl rfl) ?_
                            refine ao_step rfl rfl rfl (op1_pickF rfl rfl rfl) ?_
                            refine ao_nil ?_
                            exact ⟨rfl, false, h, ⟨.nil, (sub_consW rfl (fun _ _ h => h) sub_nil)⟩⟩
                        · intro hb37; replace h := ocond_f hb37 h
                          refine ao_no rfl rfl rfl rfl rfl rfl ?_
                          refine ao_no rfl rfl rfl rfl rfl rfl ?_
                          refine ao_yes rfl rfl rfl rfl rfl rfl (op1_pickF rfl rfl rfl) ?_
                          refine ao_yes rfl rfl rfl rfl rfl rfl (op1_move rfl rfl) ?_
                          refine ao_no rfl rfl rfl rfl rfl rfl ?_
                          refine ao_no rfl rfl rfl rfl rfl rfl ?_
                          refine ao_yes rfl rfl rfl rfl rfl rfl (op1_pickF rfl rfl rfl) ?_
                          refine ao_step rfl rfl rfl (op1_pickF rfl rfl rfl) ?_
                          refine ao_nil ?_
                          exact ⟨rfl, false, h, ⟨.nil, (sub_consW rfl (fun _ _ h => h) sub_nil)⟩⟩
                  · intro hb28; replace h := ocond_f hb28 h
                    refine ao_no rfl rfl rfl rfl rfl rfl ?_
                    refine ao_no rfl rfl rfl rfl rfl rfl ?_
                    refine ao_step rfl rfl rfl (op1_pickF rfl rfl rfl) ?_
                    refine ao_step rfl rfl rfl (op1_move rfl rfl) ?_
                    refine ao_yes rfl rfl rfl rfl rfl rfl (op1_move rfl rfl) ?_
                    refine ao_yes rfl rfl rfl rfl rfl rfl ((op1_cmp rfl rfl rfl rfl).cast (y := (PV.v (.bool (decide (x4.1 < 0))))) rfl rfl) ?_
                    refine ao_yes rfl rfl rfl rfl rfl rfl (op1_move rfl rfl) ?_
                    refine ao_cases (t := 127) rfl ?_ ?_
                    · intro hb39; replace h := ocond_t hb39 h
                      refine ao_yes rfl rfl rfl rfl rfl rfl (op1_move rfl rfl) ?_
                      refine ao_yes rfl rfl rfl rfl rfl rfl ((op1_cmp rfl rfl rfl rfl).cast (y := (PV.v (.bool (decide (x5.1 ≤ 0))))) rfl rfl) ?_
                      refine ao_yes rfl rfl rfl rfl rfl rfl (op1_pickT rfl rfl rfl) ?_
                      refine ao_yes rfl rfl rfl rfl rfl rfl (op1_move rfl rfl) ?_
                      refine ao_cases (t := 131) rfl ?_ ?_
                      · intro hb40; replace h := ocond_t hb40 h
                        refine ao_yes rfl rfl rfl rfl rfl rfl (op1_move rfl rfl) ?_
                        refine ao_yes rfl rfl rfl rfl rfl rfl ((op1_cmp rfl rfl rfl rfl).cast (y := (PV.v (.bool (decide (x6.1 ≥ 0))))) rfl rfl) ?_
                        refine ao_yes rfl rfl rfl rfl rfl rfl (op1_pickT rfl rfl rfl) ?_
                        refine ao_step rfl rfl rfl (op1_pickF rfl rfl rfl) ?_
                        refine ao_step rfl rfl rfl (op1_move rfl rfl) ?_
                        refine ao_cases (t := 136) rfl ?_ ?_
                        · intro hb41; replace h := ocond_t hb41 h
                          refine ao_no rfl rfl rfl rfl rfl rfl ?_
                          refine ao_no rfl rfl rfl rfl rfl rfl ?_
                          refine ao_no rfl rfl rfl rfl rfl rfl ?_
                          refine ao_no rfl rfl rfl rfl rfl rfl ?_
                          refine ao_no rfl rfl rfl rfl rfl rfl ?_
                          refine ao_no rfl rfl rfl rfl rfl rfl ?_
                          refine ao_no rfl rfl rfl rfl rfl rfl ?_
                          refine ao_no rfl rfl rfl rfl rfl rfl ?_
                          refine ao_no rfl rfl rfl rfl rfl rfl ?_
                          refine ao_no rfl rfl rfl rfl rfl rfl ?_
                          refine ao_step rfl rfl rfl (op1_pickT rfl rfl rfl) ?_
                          refine ao_nil ?_
                          exact ⟨rfl, true, h, ⟨.nil, (sub_consW rfl (fun _ _ h => h) sub_nil)⟩⟩
                        · intro hb41; replace h := ocond_f hb41 h
                          refine ao_yes rfl rfl rfl rfl rfl rfl (op1_move rfl rfl) ?_
                          refine ao_yes rfl rfl rfl rfl rfl rfl ((op1_cmp rfl rfl rfl rfl).cast (y := (PV.v (.bool (decide (x4.1 ≤ 0))))) rfl rfl) ?_
                          refine ao_yes rfl rfl rfl rfl rfl rfl (op1_move rfl rfl) ?_
                          refine ao_cases (t := 139) rfl ?_ ?_
                          · intro hb42; replace h := ocond_t hb42 h
                            refine ao_yes rfl rfl rfl rfl rfl rfl (op1_move rfl rfl) ?_
                            refine ao_yes rfl rfl rfl rfl rfl rfl ((op1_cmp rfl rfl rfl rfl).cast (y := (PV.v (.bool (decide (x5.1 < 0))))) rfl rfl) ?_
                            refine ao_yes rfl rfl rfl rfl rfl rfl (op1_pickT rfl rfl rfl) ?_
                            refine ao_yes rfl rfl rfl rfl rfl rfl (op1_move rfl rfl) ?_
                            refine ao_cases (t := 143) rfl ?_ ?_
                            · intro hb43; replace h := ocond_t hb43 h
                              refine ao_yes rfl rfl rfl rfl rfl rfl (op1_move rfl rfl) ?_
                              refine ao_yes rfl rfl rfl rfl rfl rfl ((op1_cmp rfl rfl rfl rfl).cast (y := (PV.v (.bool (decide (x6.1 ≥ 0))))) rfl rfl) ?_
                              refine ao_yes rfl rfl rfl rfl rfl rfl (op1_pickT rfl rfl rfl) ?_
                              refine ao_step rfl rfl rfl (op1_pickF rfl rfl rfl) ?_
                              refine ao_nil ?_
                              exact ⟨rfl, (decide (x6.1 ≥ 0)), h, ⟨.nil, (sub_consW rfl (fun _ _ h => h) sub_nil)⟩⟩
                            · intro hb43; replace h := ocond_f hb43 h
                              refine ao_no rfl rfl rfl rfl rfl rfl ?_
                              refine ao_no rfl rfl rfl rfl rfl rfl ?_
                              refine ao_yes rfl rfl rfl rfl rfl rfl (op1_pickF rfl rfl rfl) ?_
                              refine ao_step rfl rfl rfl (op1_pickF rfl rfl rfl) ?_
                              refine ao_nil ?_
                              exact ⟨rfl, false, h, ⟨.nil, (sub_consW rfl (fun _ _ h => h) sub_nil)⟩⟩
                          · intro hb42; replace h := ocond_f hb42 h
                            refine ao_no rfl rfl rfl rfl rfl rfl ?_
                            refine ao_no rfl rfl rfl rfl rfl rfl ?_
                            refine ao_yes rfl rfl rfl rfl rfl rfl (op1_pickF rfl rfl rfl) ?_
                            refine ao_yes rfl rfl rfl rfl rfl rfl (op1_move rfl rfl) ?_
                            refine ao_no rfl rfl rfl rfl rfl rfl ?_
                            refine ao_no rfl rfl rfl rfl rfl rfl ?_
                            refine ao_yes rfl rfl rfl rfl rfl rfl (op1_pickF rfl rfl rfl) ?_
                            refine ao_step rfl rfl rfl (op1_pickF rfl rfl rfl) ?_
                            refine ao_nil ?_
                            exact ⟨rfl, false, h, ⟨.nil, (sub_consW rfl (fun _ _ h => h) sub_nil)⟩⟩
                      · intro hb40; replace h := ocond_f hb40 h
                        refine ao_no rfl rfl rfl rfl rfl rfl ?_
                        refine ao_no rfl rfl rfl rfl rfl rfl ?_
                        refine ao_yes rfl rfl rfl rfl rfl rfl (op1_pickF rfl rfl rfl) ?_
                        refine ao_step rfl rfl rfl (op1_pickF rfl rfl rfl) ?_
                        refine ao_step rfl rfl rfl (op1_move rfl rfl) ?_
                        refine ao_yes rfl rfl rfl rfl rfl rfl (op1_move rfl rfl) ?_
                        refine ao_yes rfl rfl rfl rfl rfl rfl ((op1_cmp rfl rfl rfl rfl).cast (y := (PV.v (.bool (decide (x4.1 ≤ 0))))) rfl rfl) ?_
                        refine ao_yes rfl rfl rfl rfl rfl rfl (op1_move rfl rfl) ?_
                        refine ao_cases (t := 139) rfl ?_ ?_
                        · intro hb44; replace h := ocond_t hb44 h
                          refine ao_yes rfl rfl rfl rfl rfl rfl (op1_move rfl rfl) ?_
                          refine ao_yes rfl rfl rfl rfl rfl rfl ((op1_cmp rfl rfl rfl rfl).cast (y := (PV.v (.bool (decide (x5.1 < 0))))) rfl rfl) ?_
                          refine ao_yes rfl rfl rfl rfl rfl rfl (op1_pickT rfl rfl rfl) ?_
                          refine ao_yes rfl rfl rfl rfl rfl rfl (op1_move rfl rfl) ?_
                          refine ao_cases (t := 143) rfl ?_ ?_
                          · intro hb45; replace h := ocond_t hb45 h
                            refine ao_yes rfl rfl rfl rfl rfl rfl (op1_move rfl rfl) ?_
                            refine ao_yes rfl rfl rfl rfl rfl rfl ((op1_cmp rfl rfl rfl rfl).cast (y := (PV.v (.bool (decide (x6.1 ≥ 0))))) rfl rfl) ?_
                            refine ao_yes rfl rfl rfl rfl rfl rfl (op1_pickT rfl rfl rfl) ?_
                            refine ao_step rfl rfl rfl (op1_pickF rfl rfl rfl) ?_
                            refine ao_nil ?_
                            exact ⟨rfl, (decide (x6.1 ≥ 0)), h, ⟨.nil, (sub_consW rfl (fun _ _ h => h) sub_nil)⟩⟩
                          · intro hb45; replace h := ocond_f hb45 h
                            refine ao_no rfl rfl rfl rfl rfl rfl ?_
                            refine ao_no rfl rfl rfl rfl rfl rfl ?_
                            refine ao_yes rfl rfl rfl rfl rfl rfl (op1_pickF rfl rfl rfl) ?_
                            refine ao_step rfl rfl rfl (op1_pickF rfl rfl rfl) ?_
                            refine ao_nil ?_
                            exact ⟨rfl, false, h, ⟨.nil, (sub_consW rfl (fun _ _ h => h) sub_nil)⟩⟩
                        · intro hb44; replace h := ocond_f hb44 h
                          refine ao_no rfl rfl rfl rfl rfl rfl ?_
                          refine ao_no rfl rfl rfl rfl rfl rfl ?_
                          refine ao_yes rfl rfl rfl rfl rfl rfl (op1_pickF rfl rfl rfl) ?_
                          refine ao_yes rfl rfl rfl rfl rfl rfl (op1_move rfl rfl) ?_
                          refine ao_no rfl rfl rfl rfl rfl rfl ?_
                          refine ao_no rfl rfl rfl rfl rfl rfl ?_
                          refine ao_yes rfl rfl rfl rfl rfl rfl (op1_pickF rfl rfl rfl) ?_
                          refine ao_step rfl rfl rfl (op1_pickF rfl rfl rfl) ?_
                          refine ao_nil ?_
                          exact ⟨rfl, false, h, ⟨.nil, (sub_consW rfl (fun _ _ h => h) sub_nil)⟩⟩
                    · intro hb39; replace h := ocond_f hb39 h
                      refine ao_no rfl rfl rfl rfl rfl rfl ?_
                      refine ao_no rfl rfl rfl rfl rfl rfl ?_
                      refine ao_yes rfl rfl rfl rfl rfl rfl (op1_pickF rfl rfl rfl) ?_
                      refine ao_yes rfl rfl rfl rfl rfl rfl (op1_move rfl rfl) ?_
                      refine ao_no rfl rfl rfl rfl rfl rfl ?_
                      refine ao_no rfl rfl rfl rfl rfl rfl ?_
                      refine ao_yes rfl rfl rfl rfl rfl rfl (op1_pickF rfl rfl rfl) ?_
                      refine ao_step rfl rfl rfl (op1_pickF rfl rfl rfl) ?_
                      refine ao_step rfl rfl rfl (op1_move rfl rfl) ?_
                      refine ao_yes rfl rfl rfl rfl rfl rfl (op1_move rfl rfl) ?_
                      refine ao_yes rfl rfl rfl rfl rfl rfl ((op1_cmp rfl rfl rfl rfl).cast (y := (PV.v (.bool (decide (x4.1 ≤ 0))))) rfl rfl) ?_
                      refine ao_yes rfl rfl rfl rfl rfl rfl (op1_move rfl rfl) ?_
                      refine ao_cases (t := 139) rfl ?_ ?_
                      · intro hb46; replace h := ocond_t hb46 h
                        refine ao_yes rfl rfl rfl rfl rfl rfl (op1_move rfl rfl) ?_
                        refine ao_yes rfl rfl rfl rfl rfl rfl ((op1_cmp rfl rfl rfl rfl).cast (y := (PV.v (.bool (decide (x5.1 < 0))))) rfl rfl) ?_
                        refine ao_yes rfl rfl rfl rfl rfl rfl (op1_pickT rfl rfl rfl) ?_
                        refine ao_yes rfl rfl rfl rfl rfl rfl (op1_move rfl rfl) ?_
                        refine ao_cases (t := 143) rfl ?_ ?_
                        · intro hb47; replace h := ocond_t hb47 h
                          refine ao_yes rfl rfl rfl rfl rfl rfl (op1_move rfl rfl) ?_
                          refine ao_yes rfl rfl rfl rfl rfl rfl ((op1_cmp rfl rfl rfl rfl).cast (y := (PV.v (.bool (decide (x6.1 ≥ 0))))) rfl rfl) ?_
                          refine ao_yes rfl rfl rfl rfl rfl rfl (op1_pickT rfl rfl rfl) ?_
                          refine ao_step rfl rfl rfl (op1_pickF rfl rfl rfl) ?_
                          refine ao_nil ?_
                          exact ⟨rfl, (decide (x6.1 ≥ 0)), h, ⟨.nil, (sub_consW rfl (fun _ _ h => h) sub_nil)⟩⟩
                        · intro hb47; replace h := ocond_f hb47 h
                          refine ao_no rfl rfl rfl rfl rfl rfl ?_
                          refine ao_no rfl rfl rfl rfl rfl rfl ?_
                          refine ao_yes rfl rfl rfl rfl rfl rfl (op1_pickF rfl rfl rfl) ?_
                          refine ao_step rfl rfl rfl (op1_pickF rfl rfl rfl) ?_
                          refine ao_nil ?_
                          exact ⟨rfl, false, h, ⟨.nil, (sub_consW rfl (fun _ _ h => h) sub_nil)⟩⟩
                      · intro hb46; replace h := ocond_f hb46 h
                        refine ao_no rfl rfl rfl rfl rfl rfl ?_
                        refine ao_no rfl rfl rfl rfl rfl rfl ?_
                        refine ao_yes rfl rfl rfl rfl rfl rfl (op1_pickF rfl rfl rfl) ?_
                        refine ao_yes rfl rfl rfl rfl rfl rfl (op1_move rfl rfl) ?_
                        refine ao_no rfl rfl rfl rfl rfl rfl ?_
                        refine ao_no rfl rfl rfl rfl rfl rfl ?_
                        refine ao_yes rfl rfl rfl rfl rfl rfl (op1_pickF rfl rfl rfl) ?_
                        refine ao_step rfl rfl rfl (op1_pickF rfl rfl rfl) ?_
                        refine ao_nil ?_
                        exact ⟨rfl, false, h, ⟨.nil, (sub_consW rfl (fun _ _ h => h) sub_nil)⟩⟩
                · intro hb27; replace h := ocond_f hb27 h
                  refine ao_no rfl rfl rfl rfl rfl rfl ?_
                  refine ao_no rfl rfl rfl rfl rfl rfl ?_
                  refine ao_step rfl rfl rfl (op1_pickF rfl rfl rfl) ?_
                  refine ao_step rfl rfl rfl (op1_move rfl rfl) ?_
                  refine ao_no rfl rfl rfl rfl rfl rfl ?_
                  refine ao_no rfl rfl rfl rfl rfl rfl ?_
                  refine ao_step rfl rfl rfl (op1_pickF rfl rfl rfl) ?_
                  refine ao_step rfl rfl rfl (op1_move rfl rfl) ?_
                  refine ao_yes rfl rfl rfl rfl rfl rfl (op1_move rfl rfl) ?_
                  refine ao_yes rfl rfl rfl rfl rfl rfl ((op1_cmp rfl rfl rfl rfl).cast (y := (PV.v (.bool (decide (x4.1 < 0))))) rfl rfl) ?_
                  refine ao_yes rfl rfl rfl rfl rfl rfl (op1_move rfl rfl) ?_
                  refine ao_cases (t := 127) rfl ?_ ?_
                  · intro hb48; replace h := ocond_t hb48 h
                    refine ao_yes rfl rfl rfl rfl rfl rfl (op1_move rfl rfl) ?_
                    refine ao_yes rfl rfl rfl rfl rfl rfl ((op1_cmp rfl rfl rfl rfl).cast (y := (PV.v (.bool (decide (x5.1 ≤ 0))))) rfl rfl) ?_
                    refine ao_yes rfl rfl rfl rfl rfl rfl (op1_pickT rfl rfl rfl) ?_
                    refine ao_yes rfl rfl rfl rfl rfl rfl (op1_move rfl rfl) ?_
                    refine ao_cases (t := 131) rfl ?_ ?_
                    · intro hb49; replace h := ocond_t hb49 h
                      refine ao_yes rfl rfl rfl rfl rfl rfl (op1_move rfl rfl) ?_
                      refine ao_yes rfl rfl rfl rfl rfl rfl ((op1_cmp rfl rfl rfl rfl).cast (y := (PV.v (.bool (decide (x6.1 ≥ 0))))) rfl rfl) ?_
                      refine ao_yes rfl rfl rfl rfl rfl rfl (op1_pickT rfl rfl rfl) ?_
                      refine ao_step rfl rfl rfl (op1_pickF rfl rfl rfl) ?_
                      refine ao_step rfl rfl rfl (op1_move rfl rfl) ?_
                      refine ao_cases (t := 136) rfl ?_ ?_
                      · intro hb50; replace h := ocond_t hb50 h
                        refine ao_no rfl rfl rfl rfl rfl rfl ?_
                        refine ao_no rfl rfl rfl rfl rfl rfl ?_
                        refine ao_no rfl rfl rfl rfl rfl rfl ?_
                        refine ao_no rfl rfl rfl rfl rfl rfl ?_
                        refine ao_no rfl rfl rfl rfl rfl rfl ?_
                        refine ao_no rfl rfl rfl rfl rfl rfl ?_
                        refine ao_no rfl rfl rfl rfl rfl rfl ?_
                        refine ao_no rfl rfl rfl rfl rfl rfl ?_
                        refine ao_no rfl rfl rfl rfl rfl rfl ?_
                        refine ao_no rfl rfl rfl rfl rfl rfl ?_
                        refine ao_step rfl rfl rfl (op1_pickT rfl rfl rfl) ?_
                        refine ao_nil ?_
                        exact ⟨rfl, true, h, ⟨.nil, (sub_consW rfl (fun _ _ h => h) sub_nil)⟩⟩
                      · intro hb50; replace h := ocond_f hb50 h
                        refine ao_yes rfl rfl rfl rfl rfl rfl (op1_move rfl rfl) ?_
                        refine ao_yes rfl rfl rfl rfl rfl rfl ((op1_cmp rfl rfl rfl rfl).cast (y := (PV.v (.bool (decide (x4.1 ≤ 0))))) rfl rfl) ?_
                        refine ao_yes rfl rfl rfl rfl rfl rfl (op1_move rfl rfl) ?_
                        refine ao_cases (t := 139) rfl ?_ ?_
                        · intro hb51; replace h := ocond_t hb51 h
                          refine ao_yes rfl rfl rfl rfl rfl rfl (op1_move rfl rfl) ?_
                          refine ao_yes rfl rfl rfl rfl rfl rfl ((op1_cmp rfl rfl rfl rfl).cast (y := (PV.v (.bool (decide (x5.1 < 0))))) rfl rfl) ?_
                          refine ao_yes rfl rfl rfl rfl rfl rfl (op1_pickT rfl rfl rfl) ?_
                          refine ao_yes rfl rfl rfl rfl rfl rfl (op1_move rfl rfl) ?_
                          refine ao_cases (t := 143) rfl ?_ ?_
                          · intro hb52; replace h := ocond_t hb52 h
                            refine ao_yes rfl rfl rfl rfl rfl rfl (op1_move rfl rfl) ?_
                            refine ao_yes rfl rfl rfl rfl rfl rfl ((op1_cmp rfl rfl rfl rfl).cast (y := (PV.v (.bool (decide (x6.1 ≥ 0))))) rfl rfl) ?_
                            refine ao_yes rfl rfl rfl rfl rfl rfl (op1_pickT rfl rfl rfl) ?_
                            refine ao_step rfl rfl rfl (op1_pickF rfl rfl rfl) ?_
                            refine ao_nil ?_
                            exact ⟨rfl, (decide (x6.1 ≥ 0)), h, ⟨.nil, (sub_consW rfl (fun _ _ h => h) sub_nil)⟩⟩
                          · intro hb52; replace h := ocond_f hb52 h
                            refine ao_no rfl rfl rfl rfl rfl rfl ?_
                            refine ao_no rfl rfl rfl rfl rfl rfl ?_
                            refine ao_yes rfl rfl rfl rfl rfl rfl (op1_pickF rfl rfl rfl) ?_
                            refine ao_step rfl rfl rfl (op1_pickF rfl rfl rfl) ?_
                            refine ao_nil ?_
                            exact ⟨rfl, false, h, ⟨.nil, (sub_consW rfl (fun _ _ h => h) sub_nil)⟩⟩
                        · intro hb51; replace h := ocond_f hb51 h
                          refine ao_no rfl rfl rfl rfl rfl rfl ?_
                          refine ao_no rfl rfl rfl rfl rfl rfl ?_
                          refine ao_yes rfl rfl rfl rfl rfl rfl (op1_pickF rfl rfl rfl) ?_
                          refine ao_yes rfl rfl rfl rfl rfl rfl (op1_move rfl rfl) ?_
                          refine ao_no rfl rfl rfl rfl rfl rfl ?_
                          refine ao_no rfl rfl rfl rfl rfl rfl ?_
                          refine ao_yes rfl rfl rfl rfl rfl rfl (op1_pickF rfl rfl rfl) ?_
                          refine ao_step rfl rfl rfl (op1_pickF rfl rfl rfl) ?_
                          refine ao_nil ?_
                          exact ⟨rfl, false, h, ⟨.nil, (sub_consW rfl (fun _ _ h => h) sub_nil)⟩⟩
                    · intro hb49; replace h := ocond_f hb49 h
                      refine ao_no rfl rfl rfl rfl rfl rfl ?_
                      refine ao_no rfl rfl rfl rfl rfl rfl ?_
                      refine ao_yes rfl rfl rfl rfl rfl rfl (op1_pickF rfl rfl rfl) ?_
                      refine ao_step rfl rfl rfl (op1_pickF rfl rfl rfl) ?_
                      refine ao_step rfl rfl rfl (op1_move rfl rfl) ?_
                      refine ao_yes rfl rfl rfl rfl rfl rfl (op1_move rfl rfl) ?_
                      refine ao_yes rfl rfl rfl rfl rfl rfl ((op1_cmp rfl rfl rfl rfl).cast (y := (PV.v (.bool (decide (x4.1 ≤ 0))))) rfl rfl) ?_
                      refine ao_yes rfl rfl rfl rfl rfl rfl (op1_move rfl rfl) ?_
                      refine ao_cases (t := 139) rfl ?_ ?_
                      · intro hb53; replace h := ocond_t hb53 h
                        refine ao_yes rfl rfl rfl rfl rfl rfl (op1_move rfl rfl) ?_
                        refine ao_yes rfl rfl rfl rfl rfl rfl ((op1_cmp rfl rfl rfl rfl).cast (y := (PV.v (.bool (decide (x5.1 < 0))))) rfl rfl) ?_
                        refine ao_yes rfl rfl rfl rfl rfl rfl (op1_pickT rfl rfl rfl) ?_
                        refine ao_yes rfl rfl rfl rfl rfl rfl (op1_move rfl rfl) ?_
                        refine ao_cases (t := 143) rfl ?_ ?_
                        · intro hb54; replace h := ocond_t hb54 h
                          refine ao_yes rfl rfl rfl rfl rfl rfl (op1_move rfl rfl) ?_
                          refine ao_yes rfl rfl rfl rfl rfl rfl ((op1_cmp rfl rfl rfl rfl).cast (y := (PV.v (.bool (decide (x6.1 ≥ 0))))) rfl rfl) ?_
                          refine ao_yes rfl rfl rfl rfl rfl rfl (op1_pickT rfl rfl rfl) ?_
                          refine ao_step rfl rfl rfl (op1_pickF rfl rfl rfl) ?_
                          refine ao_nil ?_
                          exact ⟨rfl, (decide (x6.1 ≥ 0)), h, ⟨.nil, (sub_consW rfl (fun _ _ h => h) sub_nil)⟩⟩
                        · intro hb54; replace h := ocond_f hb54 h
                          refine ao_no rfl rfl rfl rfl rfl rfl ?_
                          refine ao_no rfl rfl rfl rfl rfl rfl ?_
                          refine ao_yes rfl rfl rfl rfl rfl rfl (op1_pickF rfl rfl rfl) ?_
                          refine ao_step rfl rfl rfl (op1_pickF rfl rfl rfl) ?_
                          refine ao_nil ?_
                          exact ⟨rfl, false, h, ⟨.nil, (sub_consW rfl (fun _ _ h => h) sub_nil)⟩⟩
                      · intro hb53; replace h := ocond_f hb53 h
                        refine ao_no rfl rfl rfl rfl rfl rfl ?_
                        refine ao_no rfl rfl rfl rfl rfl rfl ?_
                        refine ao_yes rfl rfl rfl rfl rfl rfl (op1_pickF rfl rfl rfl) ?_
                        refine ao_yes rfl rfl rfl rfl rfl rfl (op1_move rfl rfl) ?_
                        refine ao_no rfl rfl rfl rfl rfl rfl ?_
                        refine ao_no rfl rfl rfl rfl rfl rfl ?_
                        refine ao_yes rfl rfl rfl rfl rfl rfl (op1_pickF rfl rfl rfl) ?_
                        refine ao_step rfl rfl rfl (op1_pickF rfl rfl rfl) ?_
                        refine ao_nil ?_
                        exact ⟨rfl, false, h, ⟨.nil, (sub_consW rfl (fun _ _ h => h) sub_nil)⟩⟩
                  · intro hb48; replace h := ocond_f hb48 h
                    refine ao_no rfl rfl rfl rfl rfl rfl ?_
                    refine ao_no rfl rfl rfl rfl rfl rfl ?_
                    refine ao_yes rfl rfl rfl rfl rfl rfl (op1_pickF rfl rfl rfl) ?_
                    refine ao_yes rfl rfl rfl rfl rfl rfl (op1_move rfl rfl) ?_
                    refine ao_no rfl rfl rfl rfl rfl rfl ?_
                    refine ao_no rfl rfl rfl rfl rfl rfl ?_
                    refine ao_yes rfl rfl rfl rfl rfl rfl (op1_pickF rfl rfl rfl) ?_
                    refine ao_step rfl rfl rfl (op1_pickF rfl rfl rfl) ?_
                    refine ao_step rfl rfl rfl (op1_move rfl rfl) ?_
                    refine ao_yes rfl rfl rfl rfl rfl rfl (op1_move rfl rfl) ?_
                    refine ao_yes rfl rfl rfl rfl rfl rfl ((op1_cmp rfl rfl rfl rfl).cast (y := (PV.v (.bool (decide (x4.1 ≤ 0))))) rfl rfl) ?_
                    refine ao_yes rfl rfl rfl rfl rfl rfl (op1_move rfl rfl) ?_
                    refine ao_cases (t := 139) rfl ?_ ?_
                    · intro hb55; replace h := ocond_t hb55 h
                      refine ao_yes rfl rfl rfl rfl rfl rfl (op1_move rfl rfl) ?_
                      refine ao_yes rfl rfl rfl rfl rfl rfl ((op1_cmp rfl rfl rfl rfl).cast (y := (PV.v (.bool (decide (x5.1 < 0))))) rfl rfl) ?_
                      refine ao_yes rfl rfl rfl rfl rfl rfl (op1_pickT rfl rfl rfl) ?_
                      refine ao_yes rfl rfl rfl rfl rfl rfl (op1_move rfl rfl) ?_
                      refine ao_cases (t := 143) rfl ?_ ?_
                      · intro hb56; replace h := ocond_t hb56 h
                        refine ao_yes rfl rfl rfl rfl rfl rfl (op1_move rfl rfl) ?_
                        refine ao_yes rfl rfl rfl rfl rfl rfl ((op1_cmp rfl rfl rfl rfl).cast (y := (PV.v (.bool (decide (x6.1 ≥ 0))))) rfl rfl) ?_
                        refine ao_yes rfl rfl rfl rfl rfl rfl (op1_pickT rfl rfl rfl) ?_
                        refine ao_step rfl rfl rfl (op1_pickF rfl rfl rfl) ?_
                        refine ao_nil ?_
                        exact ⟨rfl, (decide (x6.1 ≥ 0)), h, ⟨.nil, (sub_consW rfl (fun _ _ h => h) sub_nil)⟩⟩
                      · intro hb56; replace h := ocond_f hb56 h
                        refine ao_no rfl rfl rfl rfl rfl rfl ?_
                        refine ao_no rfl rfl rfl rfl rfl rfl ?_
                        refine ao_yes rfl rfl rfl rfl rfl rfl (op1_pickF rfl rfl rfl) ?_
                        refine ao_step rfl rfl rfl (op1_pickF rfl rfl rfl) ?_
                        refine ao_nil ?_
                        exact ⟨rfl, false, h, ⟨.nil, (sub_consW rfl (fun _ _ h => h) sub_nil)⟩⟩
                    · intro hb55; replace h := ocond_f hb55 h
                      refine ao_no rfl rfl rfl rfl rfl rfl ?_
                      refine ao_no rfl rfl rfl rfl rfl rfl ?_
                      refine ao_yes rfl rfl rfl rfl rfl rfl (op1_pickF rfl rfl rfl) ?_
                      refine ao_yes rfl rfl rfl rfl rfl rfl (op1_move rfl rfl) ?_
                      refine ao_no rfl rfl rfl rfl rfl rfl ?_
                      refine ao_no rfl rfl rfl rfl rfl rfl ?_
                      refine ao_yes rfl rfl rfl rfl rfl rfl (op1_pickF rfl rfl rfl) ?_
                      refine ao_step rfl rfl rfl (op1_pickF rfl rfl rfl) ?_
                      refine ao_nil ?_
                      exact ⟨rfl, false, h, ⟨.nil, (sub_consW rfl (fun _ _ h => h) sub_nil)⟩⟩
          · refine bw_region ?_
            refine ao_step rfl rfl rfl (op1_move rfl rfl) ?_
            refine ao_step rfl rfl rfl (op1_move rfl rfl) ?_
            refine ao_step rfl rfl rfl (op1_neg rfl rfl) ?_
            refine ao_step rfl rfl rfl ((op1_cmp rfl rfl rfl rfl).cast (y := (PV.v (.bool (x4.1 != (IntKind.i64.wrap (0 - x7.1)))))) rfl rfl) ?_
            refine ao_step rfl rfl rfl (op1_move rfl rfl) ?_
            refine ao_cases (t := 98) rfl ?_ ?_
            · intro hb57; replace h := ocond_t hb57 h
              refine ao_no rfl rfl rfl rfl rfl rfl ?_
              refine ao_no rfl rfl rfl rfl rfl rfl ?_
              refine ao_no rfl rfl rfl rfl rfl rfl ?_
              refine ao_no rfl rfl rfl rfl rfl rfl ?_
              refine ao_no rfl rfl rfl rfl rfl rfl ?_
              refine ao_no rfl rfl rfl rfl rfl rfl ?_
              refine ao_step rfl rfl rfl (op1_pickT rfl rfl rfl) ?_
              refine ao_step rfl rfl rfl (op1_move rfl rfl) ?_
              refine ao_no rfl rfl rfl rfl rfl rfl ?_
              refine ao_no rfl rfl rfl rfl rfl rfl ?_
              refine ao_step rfl rfl rfl (op1_pickT rfl rfl rfl) ?_
              refine ao_step rfl rfl rfl (op1_move rfl rfl) ?_
              refine ao_no rfl rfl rfl rfl rfl rfl ?_
              refine ao_no rfl rfl rfl rfl rfl rfl ?_
              refine ao_step rfl rfl rfl (op1_pickT rfl rfl rfl) ?_
              refine ao_nil ?_
              exact ⟨rfl, true, h, ⟨.nil, (sub_consW rfl (fun _ _ h => h) (sub_consW rfl (fun _ _ h => h) (sub_consW rfl (fun _ _ h => h) (sub_consW rfl (fun _ _ h => h) sub_nil))))⟩⟩
            · intro hb57; replace h := ocond_f hb57 h
              refine ao_yes rfl rfl rfl rfl rfl rfl (op1_move rfl rfl) ?_
              refine ao_yes rfl rfl rfl rfl rfl rfl ((op1_cmp rfl rfl rfl rfl).cast (y := (PV.v (.bool (x4.1 == 0)))) rfl rfl) ?_
              refine ao_yes rfl rfl rfl rfl rfl rfl (op1_move rfl rfl) ?_
              refine ao_yes rfl rfl rfl rfl rfl rfl (op1_move rfl rfl) ?_
              obtain ⟨x58, hx58, h⟩ := obind h
              refine ao_yes rfl rfl rfl rfl rfl rfl (op1_pcall rfl en_28 rfl (.cons (Wk.refl _) (.cons (Wk.refl _) .nil)) ⟨(ids_V x1), ⟨(ids_V x2), trivial⟩⟩ (s_value_Same x1 x2 x58 hx58) rfl) ?_
              refine ao_yes rfl rfl rfl rfl rfl rfl (op1_neB Try.underlying4 rfl rfl rfl) ?_
              refine ao_step rfl rfl rfl (op1_pickF rfl rfl rfl) ?_
              refine ao_step rfl rfl rfl (op1_move rfl rfl) ?_
              refine ao_cases (t := 106) rfl ?_ ?_
              · intro hb59; replace h := ocond_t hb59 h
                refine ao_no rfl rfl rfl rfl rfl rfl ?_
                refine ao_no rfl rfl rfl rfl rfl rfl ?_
                refine ao_step rfl rfl rfl (op1_pickT rfl rfl rfl) ?_
                refine ao_step rfl rfl rfl (op1_move rfl rfl) ?_
                refine ao_no rfl rfl rfl rfl rfl rfl ?_
                refine ao_no rfl rfl rfl rfl rfl rfl ?_
                refine ao_step rfl rfl rfl (op1_pickT rfl rfl rfl) ?_
                refine ao_nil ?_
                exact ⟨rfl, true, h, ⟨.nil, (sub_consW rfl (fun _ _ h => h) (sub_consW rfl (fun _ _ h => h) (sub_consW rfl (fun _ _ h => h) (sub_consW rfl (fun _ _ h => h) sub_nil))))⟩⟩
              · intro hb59; replace h := ocond_f hb59 h
                refine ao_yes rfl rfl rfl rfl rfl rfl (op1_move rfl rfl) ?_
                refine ao_yes rfl rfl rfl rfl rfl rfl ((op1_cmp rfl rfl rfl rfl).cast (y := (PV.v (.bool (decide (x4.1 < (-1)))))) rfl rfl) ?_
                refine ao_step rfl rfl rfl (op1_pickF rfl rfl rfl) ?_
                refine ao_step rfl rfl rfl (op1_move rfl rfl) ?_
                refine ao_cases (t := 110) rfl ?_ ?_
                · intro hb60; replace h := ocond_t hb60 h
                  refine ao_no rfl rfl rfl rfl rfl rfl ?_
                  refine ao_no rfl rfl rfl rfl rfl rfl ?_
                  refine ao_step rfl rfl rfl (op1_pickT rfl rfl rfl) ?_
                  refine ao_nil ?_
                  exact ⟨rfl, true, h, ⟨.nil, (sub_consW rfl (fun _ _ h => h) (sub_consW rfl (fun _ _ h => h) (sub_consW rfl (fun _ _ h => h) (sub_consW rfl (fun _ _ h => h) sub_nil))))⟩⟩
                · intro hb60; replace h := ocond_f hb60 h
                  refine ao_yes rfl rfl rfl rfl rfl rfl (op1_move rfl rfl) ?_
                  refine ao_yes rfl rfl rfl rfl rfl rfl ((op1_cmp rfl rfl rfl rfl).cast (y := (PV.v (.bool (decide (x4.1 > 1))))) rfl rfl) ?_
                  refine ao_step rfl rfl rfl (op1_pickF rfl rfl rfl) ?_
                  refine ao_nil ?_
                  exact ⟨rfl, (decide (x4.1 > 1)), h, ⟨.nil, (sub_consW rfl (fun _ _ h => h) (sub_consW rfl (fun _ _ h => h) (sub_consW rfl (fun _ _ h => h) (sub_consW rfl (fun _ _ h => h) sub_nil))))⟩⟩
      · refine bw_region ?_
        refine ao_step rfl rfl rfl (op1_move rfl rfl) ?_
        refine ao_step rfl rfl rfl ((op1_cmp rfl rfl rfl rfl).cast (y := (PV.v (.bool (x4.2 != 0)))) rfl rfl) ?_
        refine ao_step rfl rfl rfl (op1_move rfl rfl) ?_
        refine ao_cases (t := 64) rfl ?_ ?_
        · intro hb61; replace h := ocond_t hb61 h
          refine ao_no rfl rfl rfl rfl rfl rfl ?_
          refine ao_no rfl rfl rfl rfl rfl rfl ?_
          refine ao_step rfl rfl rfl (op1_pickT rfl rfl rfl) ?_
          refine ao_step rfl rfl rfl (op1_move rfl rfl) ?_
          refine ao_no rfl rfl rfl rfl rfl rfl ?_
          refine ao_no rfl rfl rfl rfl rfl rfl ?_
          refine ao_step rfl rfl rfl (op1_pickT rfl rfl rfl) ?_
          refine ao_nil ?_
          exact ⟨rfl, true, h, ⟨.nil, (sub_consW rfl (fun _ _ h => h) (sub_consW rfl (fun _ _ h => h) (sub_consW rfl (fun _ _ h => h) (sub_consW rfl (fun _ _ h => h) (sub_consW rfl (fun _ _ h => h) (sub_consW rfl (fun _ _ h => h) (sub_consW rfl (fun _ _ h => h) (sub_consW rfl (fun _ _ h => h) (sub_consW rfl (fun _ _ h => h) (sub_consW rfl (fun _ _ h => h) sub_nil))))))))))⟩⟩
        · intro hb61; replace h := ocond_f hb61 h
          refine ao_yes rfl rfl rfl rfl rfl rfl (op1_move rfl rfl) ?_
          refine ao_yes rfl rfl rfl rfl rfl rfl ((op1_cmp rfl rfl rfl rfl).cast (y := (PV.v (.bool (x5.2 != 0)))) rfl rfl) ?_
          refine ao_step rfl rfl rfl (op1_pickF rfl rfl rfl) ?_
          refine ao_step rfl rfl rfl (op1_move rfl rfl) ?_
          refine ao_cases (t := 68) rfl ?_ ?_
          · intro hb62; replace h := ocond_t hb62 h
            refine ao_no rfl rfl rfl rfl rfl rfl ?_
            refine ao_no rfl rfl rfl rfl rfl rfl ?_
            refine ao_step rfl rfl rfl (op1_pickT rfl rfl rfl) ?_
            refine ao_nil ?_
            exact ⟨rfl, true, h, ⟨.nil, (sub_consW rfl (fun _ _ h => h) (sub_consW rfl (fun _ _ h => h) (sub_consW rfl (fun _ _ h => h) (sub_consW rfl (fun _ _ h => h) (sub_consW rfl (fun _ _ h => h) (sub_consW rfl (fun _ _ h => h) (sub_consW rfl (fun _ _ h => h) (sub_consW rfl (fun _ _ h => h) (sub_consW rfl (fun _ _ h => h) (sub_consW rfl (fun _ _ h => h) sub_nil))))))))))⟩⟩
          · intro hb62; replace h := ocond_f hb62 h
            refine ao_yes rfl rfl rfl rfl rfl rfl (op1_move rfl rfl) ?_
            refine ao_yes rfl rfl rfl rfl rfl rfl ((op1_cmp rfl rfl rfl rfl).cast (y := (PV.v (.bool (x6.2 != 0)))) rfl rfl) ?_
            refine ao_step rfl rfl rfl (op1_pickF rfl rfl rfl) ?_
            refine ao_nil ?_
            exact ⟨rfl, (x6.2 != 0), h, ⟨.nil, (sub_consW rfl (fun _ _ h => h) (sub_consW rfl (fun _ _ h => h) (sub_consW rfl (fun _ _ h => h) (sub_consW rfl (fun _ _ h => h) (sub_consW rfl (fun _ _ h => h) (sub_consW rfl (fun _ _ h => h) (sub_consW rfl (fun _ _ h => h) (sub_consW rfl (fun _ _ h => h) (sub_consW rfl (fun _ _ h => h) (sub_consW rfl (fun _ _ h => h) sub_nil))))))))))⟩⟩
  · refine bw_region ?_
    refine ao_step rfl rfl rfl (op1_move rfl rfl) ?_
    refine ao_step rfl rfl rfl ((op1_cmp rfl rfl rfl rfl).cast (y := (PV.v (.bool (x8.1 != (-1))))) rfl rfl) ?_
    refine ao_step rfl rfl rfl (op1_move rfl rfl) ?_
    refine ao_cases (t := 58) rfl ?_ ?_
    · intro hb63; replace h := ocond_t hb63 h
      refine ao_no rfl rfl rfl rfl rfl rfl ?_
      refine ao_no rfl rfl rfl rfl rfl rfl ?_
      refine ao_step rfl rfl rfl (op1_pickT rfl rfl rfl) ?_
      refine ao_nil ?_
      exact ⟨rfl, true, h, ⟨.nil, (sub_consW rfl (fun _ _ h => h) (sub_consW rfl (fun _ _ h => h) (sub_consW rfl (fun _ _ h => h) (sub_consW rfl (fun _ _ h => h) (sub_consW rfl (fun _ _ h => h) (sub_consW rfl (fun _ _ h => h) (sub_consW rfl (fun _ _ h => h) (sub_consW rfl (fun _ _ h => h) (sub_consW rfl (fun _ _ h => h) (sub_consW rfl (fun _ _ h => h) sub_nil))))))))))⟩⟩
    · intro hb63; replace h := ocond_f hb63 h
      refine ao_yes rfl rfl rfl rfl rfl rfl (op1_move rfl rfl) ?_
      refine ao_yes rfl rfl rfl rfl rfl rfl ((op1_cmp rfl rfl rfl rfl).cast (y := (PV.v (.bool (x8.2 != 0)))) rfl rfl) ?_
      refine ao_step rfl rfl rfl (op1_pickF rfl rfl rfl) ?_
      refine ao_nil ?_
      exact ⟨rfl, (x8.2 != 0), h, ⟨.nil, (sub_consW rfl (fun _ _ h => h) (sub_consW rfl (fun _ _ h => h) (sub_consW rfl (fun _ _ h => h) (sub_consW rfl (fun _ _ h => h) (sub_consW rfl (fun _ _ h => h) (sub_consW rfl (fun _ _ h => h) (sub_consW rfl (fun _ _ h => h) (sub_consW rfl (fun _ _ h => h) (sub_consW rfl (fun _ _ h => h) (sub_consW rfl (fun _ _ h => h) sub_nil))))))))))⟩⟩
end Go.Proofs.Ythfdpaboekoncaa
