/- Pure functions, and that calls answer as they say. Written by gen.py. -/
import Derived.Test.YtigadhiciinicaaG0
namespace Go.Proofs.Ytigadhiciinicaa
open Go Aw
set_option linter.unusedVariables false
set_option linter.unusedSimpArgs false
set_option maxRecDepth 20000
set_option maxHeartbeats 2000000
noncomputable def p_mk_Is (a0 : V) (a1 : Term) : Option Bool :=
 Option.bind (p_mk_Plain a0) fun x1 =>
 Option.bind (p_mk_Same x1 a1) fun x2 =>
 some x2
theorem s_mk_Is (a0 : V) (a1 : Term) (r : Bool) (h : p_mk_Is a0 a1 = some r) : PCalls Try.prog 22 [(ofV a0), (ofTermX a1)] (BO r) := by
 unfold p_mk_Is at h
 refine acalls_of Try.func22 rfl Try.ntmps22 Try.results22 rfl (aw_of_bw ?_)
 change BW _ _ _ ⟨[(0, (ofV a0)), (1, (ofTermX a1))], [], _⟩ _
 refine bR ?_
 refine sS rfl rfl rfl (op1_box rfl rfl rfl) ?_
 refine sA rfl rfl rfl rfl rfl (ao_nil ?_)
 change BW _ _ _ _ _
 refine bw_seq (bw_tail 3 [] [0] mo (by kernel_rfl) ?_)
 refine ac_go rfl rfl rfl rfl (fun H hp => op1_move rfl rfl) ?_
 obtain ⟨x1, hx1, h⟩ := obind h
 refine ac_go rfl rfl rfl rfl (fun H hp => op1_pcall rfl en_15 rfl (.cons (Wk.refl _) .nil) ⟨(ids_V a0), trivial⟩ (s_mk_Plain a0 x1 hx1) (ids_TermX x1)) ?_
 refine ac_go rfl rfl rfl rfl (fun H hp => (op1_ldRA inf_29 Try.underlying29 rfl rfl rfl (hp.at rfl rfl) rfl rfl)) ?_
 refine ac_nil ?_
 change AO _ _ _ _ _
 obtain ⟨x2, hx2, h⟩ := obind h
 refine sS rfl rfl rfl (op1_pcall rfl en_14 rfl (.cons (Wk.refl _) (.cons (Wk.refl _) .nil)) ⟨(ids_TermX x1), ⟨(ids_TermX a1), trivial⟩⟩ (s_mk_Same x1 a1 x2 hx2) rfl) ?_
 refine sA rfl rfl rfl rfl rfl (ao_nil ?_)
 change BW _ _ _ _ _
 refine bw_ret ?_
 change ∃ xs, _ = some xs ∧ EndOk _ _ _ _
 obtain rfl := Option.some.inj h
 exact ⟨_, rfl, endOk0 (y := (BO x2)) (Wk.refl _) rfl ⟨rfl, rfl⟩⟩
noncomputable def p_mk_Alien (a0 : Int) : Option V :=
 bif ((Int.tmod a0 14) == 0) then (
  some (V.alien ⟨3, rfl⟩)
 ) else (
  bif ((Int.tmod a0 14) == 1) then (
   some (V.alien ⟨5, rfl⟩)
  ) else (
   bif ((Int.tmod a0 14) == 2) then (
    some (V.alien ⟨89, rfl⟩)
   ) else (
    bif ((Int.tmod a0 14) == 3) then (
     some (V.alien ⟨1, rfl⟩)
    ) else (
     bif ((Int.tmod a0 14) == 4) then (
      some (V.alien ⟨92, rfl⟩)
     ) else (
      bif ((Int.tmod a0 14) == 5) then (
       some (V.alien ⟨51, rfl⟩)
      ) else (
       bif ((Int.tmod a0 14) == 6) then (
        some (V.alien ⟨93, rfl⟩)
       ) else (
        bif ((Int.tmod a0 14) == 7) then (
         some (V.alien ⟨94, rfl⟩)
        ) else (
         bif ((Int.tmod a0 14) == 8) then (
          some (V.alien ⟨67, rfl⟩)
         ) else (
          bif ((Int.tmod a0 14) == 9) then (
           some (V.alien ⟨62, rfl⟩)
          ) else (
           bif ((Int.tmod a0 14) == 10) then (
            some (V.alien ⟨95, rfl⟩)
           ) else (
            bif ((Int.tmod a0 14) == 11) then (
             some (V.alien ⟨31, rfl⟩)
            ) else (
             bif ((Int.tmod a0 14) == 12) then (
              some (V.alien ⟨96, rfl⟩)
             ) else (
              some (V.alien ⟨97, rfl⟩)
             )
            )
           )
          )
         )
        )
       )
      )
     )
    )
   )
  )
 )
theorem s_mk_Alien (a0 : Int) (r : V) (h : p_mk_Alien a0 = some r) : PCalls Try.prog 28 [(I64 a0)] (ofV r) := by
 unfold p_mk_Alien at h
 refine acalls_of Try.func28 rfl Try.ntmps28 Try.results28 rfl (aw_of_bw ?_)
 change BW _ _ _ ⟨[(0, (I64 a0))], [], _⟩ _
 refine bR ?_
 refine sA rfl rfl rfl rfl rfl (ao_nil ?_)
 change BW _ _ _ _ _
 refine bw_seq ?_
 refine bR ?_
 refine sM rfl rfl rfl rfl rfl ?_
 refine sS rfl rfl rfl (op1_rem rfl rfl rfl (by decide)) (ao_nil ?_)
 change BW _ _ _ _ _
 refine bw_block ?_
 change BW _ _ _ _ _
 refine bR ?_
 refine sS rfl rfl rfl ((op1_cmp rfl rfl rfl rfl).cast (y := (BO (((Int.tmod a0 14) == 0)))) rfl rfl) ?_
 refine sA rfl rfl rfl rfl rfl (ao_nil ?_)
 change BW _ _ _ _ _
 refine bw_cond rfl ?_ ?_
 ·intro hc1; replace h := ocond_t hc1 h
  refine bR ?_
  refine sS rfl rfl rfl ((op1_mkI Try.underlying3 rfl rfl rfl).wk ((Wk.iface Wk.junk).trans (Wk.eq (mk_alien ⟨3, rfl⟩).symm))) ?_
  refine sA rfl rfl rfl rfl rfl (ao_nil ?_)
  change BW _ _ _ _ _
  refine bw_ret ?_
  change ∃ xs, _ = some xs ∧ EndOk _ _ _ _
  obtain rfl := Option.some.inj h
  exact ⟨_, rfl, endOk0 (y := (ofV (V.alien ⟨3, rfl⟩))) (Wk.refl _) (ids_V (V.alien ⟨3, rfl⟩)) ⟨rfl, rfl⟩⟩
 ·intro hc1; replace h := ocond_f hc1 h
  refine bR ?_
  refine sS rfl rfl rfl ((op1_cmp rfl rfl rfl rfl).cast (y := (BO (((Int.tmod a0 14) == 1)))) rfl rfl) ?_
  refine sA rfl rfl rfl rfl rfl (ao_nil ?_)
  change BW _ _ _ _ _
  refine bw_cond rfl ?_ ?_
  ·intro hc2; replace h := ocond_t hc2 h
   refine bR ?_
   refine sS rfl rfl rfl ((op1_mkI Try.underlying5 rfl rfl rfl).wk ((Wk.iface Wk.junk).trans (Wk.eq (mk_alien ⟨5, rfl⟩).symm))) ?_
   refine sA rfl rfl rfl rfl rfl (ao_nil ?_)
   change BW _ _ _ _ _
   refine bw_ret ?_
   change ∃ xs, _ = some xs ∧ EndOk _ _ _ _
   obtain rfl := Option.some.inj h
   exact ⟨_, rfl, endOk0 (y := (ofV (V.alien ⟨5, rfl⟩))) (Wk.refl _) (ids_V (V.alien ⟨5, rfl⟩)) ⟨rfl, rfl⟩⟩
  ·intro hc2; replace h := ocond_f hc2 h
   refine bR ?_
   refine sS rfl rfl rfl ((op1_cmp rfl rfl rfl rfl).cast (y := (BO (((Int.tmod a0 14) == 2)))) rfl rfl) ?_
   refine sA rfl rfl rfl rfl rfl (ao_nil ?_)
   change BW _ _ _ _ _
   refine bw_cond rfl ?_ ?_
   ·intro hc3; replace h := ocond_t hc3 h
    refine bR ?_
    refine ao_maplit rfl rfl rfl rfl rfl rfl rfl Try.underlying89 Try.underlying9 ?_
    refine sM rfl rfl rfl rfl rfl ?_
    refine sS rfl rfl rfl ((op1_mkI Try.underlying89 rfl rfl rfl).wk ((Wk.iface Wk.junk).trans (Wk.eq (mk_alien ⟨89, rfl⟩).symm))) ?_
    refine sA rfl rfl rfl rfl rfl (ao_nil ?_)
    change BW _ _ _ _ _
    refine bw_ret ?_
    change ∃ xs, _ = some xs ∧ EndOk _ _ _ _
    obtain rfl := Option.some.inj h
    exact ⟨_, rfl, endOk0 (y := (ofV (V.alien ⟨89, rfl⟩))) (Wk.refl _) (ids_V (V.alien ⟨89, rfl⟩)) ⟨rfl, rfl⟩⟩
   ·intro hc3; replace h := ocond_f hc3 h
    refine bR ?_
    refine sS rfl rfl rfl ((op1_cmp rfl rfl rfl rfl).cast (y := (BO (((Int.tmod a0 14) == 3)))) rfl rfl) ?_
    refine sA rfl rfl rfl rfl rfl (ao_nil ?_)
    change BW _ _ _ _ _
    refine bw_cond rfl ?_ ?_
    ·intro hc4; replace h := ocond_t hc4 h
     refine bR ?_
     refine sS rfl rfl rfl ((op1_mkI Try.underlying1 rfl rfl rfl).wk ((Wk.iface Wk.junk).trans (Wk.eq (mk_alien ⟨1, rfl⟩).symm))) ?_
     refine sA rfl rfl rfl rfl rfl (ao_nil ?_)
     change BW _ _ _ _ _
     refine bw_ret ?_
     change ∃ xs, _ = some xs ∧ EndOk _ _ _ _
     obtain rfl := Option.some.inj h
     exact ⟨_, rfl, endOk0 (y := (ofV (V.alien ⟨1, rfl⟩))) (Wk.refl _) (ids_V (V.alien ⟨1, rfl⟩)) ⟨rfl, rfl⟩⟩
    ·intro hc4; replace h := ocond_f hc4 h
     refine bR ?_
     refine sS rfl rfl rfl ((op1_cmp rfl rfl rfl rfl).cast (y := (BO (((Int.tmod a0 14) == 4)))) rfl rfl) ?_
     refine sA rfl rfl rfl rfl rfl (ao_nil ?_)
     change BW _ _ _ _ _
     refine bw_cond rfl ?_ ?_
     ·intro hc5; replace h := ocond_t hc5 h
      refine bR ?_
      refine sS rfl rfl rfl ((op1_bslice (xs := [(I64 1)]) Try.underlying90 inf_3 rfl rfl rfl rfl rfl rfl ⟨Nat.le_of_ble_eq_true rfl, Nat.le_of_ble_eq_true rfl⟩ rfl).cast (y := (PV.sl (some 0) 1 (List.map (ofI .i64) ([1] : (List Int))))) rfl rfl) ?_
      refine sS rfl rfl rfl (op1_build (cs := [(PV.sl (some 0) 1 (List.map (ofI .i64) ([1] : (List Int))))]) st_92 inf_92 rfl rfl rfl rfl) ?_
      refine sS rfl rfl rfl ((op1_mkI Try.underlying92 rfl rfl rfl).wk ((Wk.iface Wk.junk).trans (Wk.eq (mk_alien ⟨92, rfl⟩).symm))) ?_
      refine sA rfl rfl rfl rfl rfl (ao_nil ?_)
      change BW _ _ _ _ _
      refine bw_ret ?_
      change ∃ xs, _ = some xs ∧ EndOk _ _ _ _
      obtain rfl := Option.some.inj h
      exact ⟨_, rfl, endOk0 (y := (ofV (V.alien ⟨92, rfl⟩))) (Wk.refl _) (ids_V (V.alien ⟨92, rfl⟩)) ⟨rfl, rfl⟩⟩
     ·intro hc5; replace h := ocond_f hc5 h
      refine bR ?_
      refine sS rfl rfl rfl ((op1_cmp rfl rfl rfl rfl).cast (y := (BO (((Int.tmod a0 14) == 5)))) rfl rfl) ?_
      refine sA rfl rfl rfl rfl rfl (ao_nil ?_)
      change BW _ _ _ _ _
      refine bw_cond rfl ?_ ?_
      ·intro hc6; replace h := ocond_t hc6 h
       refine bR ?_
       refine sS rfl rfl rfl ((op1_mkI Try.underlying4 rfl rfl rfl).wk ((Wk.iface (Wk.refl _)).trans (Wk.eq (mk_bool _).symm))) ?_
       refine sS rfl rfl rfl ((op1_bslice (xs := [(ofV (V.bool true))]) Try.underlying51 inf_20 rfl rfl rfl (by simp only [List.all_cons, List.all_nil, cok_V, cok_RecP, Bool.and_true, Bool.true_and]; try rfl) (by simp only [List.all_cons, List.all_nil, csz_V, csz_RecP, cells_V, cells_RecP]; try rfl) rfl ⟨Nat.le_of_ble_eq_true rfl, Nat.le_of_ble_eq_true rfl⟩ (by simp only [zipN, afill, List.flatMap_cons, List.flatMap_nil, cells_V, cells_RecP]; try rfl)).cast (y := (PV.sl (some 0) 1 (List.map ofV ([(V.bool true)] : (List V))))) rfl rfl) ?_
       refine sS rfl rfl rfl ((op1_mkI Try.underlying51 rfl rfl rfl).wk ((Wk.iface Wk.junk).trans (Wk.eq (mk_alien ⟨51, rfl⟩).symm))) ?_
       refine sA rfl rfl rfl rfl rfl (ao_nil ?_)
       change BW _ _ _ _ _
       refine bw_ret ?_
       change ∃ xs, _ = some xs ∧ EndOk _ _ _ _
       obtain rfl := Option.some.inj h
       exact ⟨_, rfl, endOk0 (y := (ofV (V.alien ⟨51, rfl⟩))) (Wk.refl _) (ids_V (V.alien ⟨51, rfl⟩)) ⟨rfl, rfl⟩⟩
      ·intro hc6; replace h := ocond_f hc6 h
       refine bR ?_
       refine sS rfl rfl rfl ((op1_cmp rfl rfl rfl rfl).cast (y := (BO (((Int.tmod a0 14) == 6)))) rfl rfl) ?_
       refine sA rfl rfl rfl rfl rfl (ao_nil ?_)
       change BW _ _ _ _ _
       refine bw_cond rfl ?_ ?_
       ·intro hc7; replace h := ocond_t hc7 h
        refine bR ?_
        refine sS rfl rfl rfl ((op1_mkI Try.underlying93 rfl rfl rfl).wk ((Wk.iface Wk.junk).trans (Wk.eq (mk_alien ⟨93, rfl⟩).symm))) ?_
        refine sA rfl rfl rfl rfl rfl (ao_nil ?_)
        change BW _ _ _ _ _
        refine bw_ret ?_
        change ∃ xs, _ = some xs ∧ EndOk _ _ _ _
        obtain rfl := Option.some.inj h
        exact ⟨_, rfl, endOk0 (y := (ofV (V.alien ⟨93, rfl⟩))) (Wk.refl _) (ids_V (V.alien ⟨93, rfl⟩)) ⟨rfl, rfl⟩⟩
       ·intro hc7; replace h := ocond_f hc7 h
        refine bR ?_
        refine sS rfl rfl rfl ((op1_cmp rfl rfl rfl rfl).cast (y := (BO (((Int.tmod a0 14) == 7)))) rfl rfl) ?_
        refine sA rfl rfl rfl rfl rfl (ao_nil ?_)
        change BW _ _ _ _ _
        refine bw_cond rfl ?_ ?_
        ·intro hc8; replace h := ocond_t hc8 h
         refine bR ?_
         refine sS rfl rfl rfl ((op1_mkI Try.underlying94 rfl rfl rfl).wk ((Wk.iface Wk.junk).trans (Wk.eq (mk_alien ⟨94, rfl⟩).symm))) ?_
         refine sA rfl rfl rfl rfl rfl (ao_nil ?_)
         change BW _ _ _ _ _
         refine bw_ret ?_
         change ∃ xs, _ = some xs ∧ EndOk _ _ _ _
         obtain rfl := Option.some.inj h
         exact ⟨_, rfl, endOk0 (y := (ofV (V.alien ⟨94, rfl⟩))) (Wk.refl _) (ids_V (V.alien ⟨94, rfl⟩)) ⟨rfl, rfl⟩⟩
        ·intro hc8; replace h := ocond_f hc8 h
         refine bR ?_
         refine sS rfl rfl rfl ((op1_cmp rfl rfl rfl rfl).cast (y := (BO (((Int.tmod a0 14) == 8)))) rfl rfl) ?_
         refine sA rfl rfl rfl rfl rfl (ao_nil ?_)
         change BW _ _ _ _ _
         refine bw_cond rfl ?_ ?_
         ·intro hc9; replace h := ocond_t hc9 h
          refine bR ?_
          refine sS rfl rfl rfl (op1_build (cs := [(ofStr ([97] : Str)), (I64 1), (PV.v (.slice none 0 0))]) st_67 inf_67 rfl rfl rfl rfl) ?_
          refine sS rfl rfl rfl ((op1_mkI Try.underlying67 rfl rfl rfl).wk ((Wk.iface Wk.junk).trans (Wk.eq (mk_alien ⟨67, rfl⟩).symm))) ?_
          refine sA rfl rfl rfl rfl rfl (ao_nil ?_)
          change BW _ _ _ _ _
          refine bw_ret ?_
          change ∃ xs, _ = some xs ∧ EndOk _ _ _ _
          obtain rfl := Option.some.inj h
          exact ⟨_, rfl, endOk0 (y := (ofV (V.alien ⟨67, rfl⟩))) (Wk.refl _) (ids_V (V.alien ⟨67, rfl⟩)) ⟨rfl, rfl⟩⟩
         ·intro hc9; replace h := ocond_f hc9 h
          refine bR ?_
          refine sS rfl rfl rfl ((op1_cmp rfl rfl rfl rfl).cast (y := (BO (((Int.tmod a0 14) == 9)))) rfl rfl) ?_
          refine sA rfl rfl rfl rfl rfl (ao_nil ?_)
          change BW _ _ _ _ _
          refine bw_cond rfl ?_ ?_
          ·intro hc10; replace h := ocond_t hc10 h
           refine bR ?_
           refine sS rfl rfl rfl ((op1_bslice (xs := []) Try.underlying62 inf_88 rfl rfl rfl rfl rfl rfl ⟨Nat.le_of_ble_eq_true rfl, Nat.le_of_ble_eq_true rfl⟩ rfl).cast (y := (PV.sl (some 0) 2 (List.map ofFld ([] : (List (Str × V)))))) rfl rfl) ?_
           refine sS rfl rfl rfl ((op1_mkI Try.underlying62 rfl rfl rfl).wk ((Wk.iface Wk.junk).trans (Wk.eq (mk_alien ⟨62, rfl⟩).symm))) ?_
           refine sA rfl rfl rfl rfl rfl (ao_nil ?_)
           change BW _ _ _ _ _
           refine bw_ret ?_
           change ∃ xs, _ = some xs ∧ EndOk _ _ _ _
           obtain rfl := Option.some.inj h
           exact ⟨_, rfl, endOk0 (y := (ofV (V.alien ⟨62, rfl⟩))) (Wk.refl _) (ids_V (V.alien ⟨62, rfl⟩)) ⟨rfl, rfl⟩⟩
          ·intro hc10; replace h := ocond_f hc10 h
           refine bR ?_
           refine sS rfl rfl rfl ((op1_cmp rfl rfl rfl rfl).cast (y := (BO (((Int.tmod a0 14) == 10)))) rfl rfl) ?_
           refine sA rfl rfl rfl rfl rfl (ao_nil ?_)
           change BW _ _ _ _ _
           refine bw_cond rfl ?_ ?_
           ·intro hc11; replace h := ocond_t hc11 h
            refine bR ?_
            refine sA rfl rfl rfl rfl rfl (ao_nil ?_)
            change BW _ _ _ _ _
            refine bR ?_
            refine sM rfl rfl rfl rfl rfl ?_
            refine sS rfl rfl rfl ((op1_mkI Try.underlying95 rfl rfl rfl).wk ((Wk.iface Wk.junk).trans (Wk.eq (mk_alien ⟨95, rfl⟩).symm))) ?_
            refine sA rfl rfl rfl rfl rfl (ao_nil ?_)
            change BW _ _ _ _ _
            refine bw_ret ?_
            change ∃ xs, _ = some xs ∧ EndOk _ _ _ _
            obtain rfl := Option.some.inj h
            exact ⟨_, rfl, endOk0 (y := (ofV (V.alien ⟨95, rfl⟩))) (Wk.refl _) (ids_V (V.alien ⟨95, rfl⟩)) ⟨rfl, rfl⟩⟩
           ·intro hc11; replace h := ocond_f hc11 h
            refine bR ?_
            refine sS rfl rfl rfl ((op1_cmp rfl rfl rfl rfl).cast (y := (BO (((Int.tmod a0 14) == 11)))) rfl rfl) ?_
            refine sA rfl rfl rfl rfl rfl (ao_nil ?_)
            change BW _ _ _ _ _
            refine bw_cond rfl ?_ ?_
            ·intro hc12; replace h := ocond_t hc12 h
             refine bR ?_
             refine sS rfl rfl rfl ((op1_mkI Try.underlying31 rfl rfl rfl).wk ((Wk.iface Wk.junk).trans (Wk.eq (mk_alien ⟨31, rfl⟩).symm))) ?_
             refine sA rfl rfl rfl rfl rfl (ao_nil ?_)
             change BW _ _ _ _ _
             refine bw_ret ?_
             change ∃ xs, _ = some xs ∧ EndOk _ _ _ _
             obtain rfl := Option.some.inj h
             exact ⟨_, rfl, endOk0 (y := (ofV (V.alien ⟨31, rfl⟩))) (Wk.refl _) (ids_V (V.alien ⟨31, rfl⟩)) ⟨rfl, rfl⟩⟩
            ·intro hc12; replace h := ocond_f hc12 h
             refine bR ?_
             refine sS rfl rfl rfl ((op1_cmp rfl rfl rfl rfl).cast (y := (BO (((Int.tmod a0 14) == 12)))) rfl rfl) ?_
             refine sA rfl rfl rfl rfl rfl (ao_nil ?_)
             change BW _ _ _ _ _
             refine bw_cond rfl ?_ ?_
             ·intro hc13; replace h := ocond_t hc13 h
              refine bR ?_
              refine sA rfl rfl rfl rfl rfl (ao_nil ?_)
              change BW _ _ _ _ _
              refine bR ?_
              refine sM rfl rfl rfl rfl rfl ?_
              refine sS rfl rfl rfl ((op1_mkI Try.underlying96 rfl rfl rfl).wk ((Wk.iface Wk.junk).trans (Wk.eq (mk_alien ⟨96, rfl⟩).symm))) ?_
              refine sA rfl rfl rfl rfl rfl (ao_nil ?_)
              change BW _ _ _ _ _
              refine bw_ret ?_
              change ∃ xs, _ = some xs ∧ EndOk _ _ _ _
              obtain rfl := Option.some.inj h
              exact ⟨_, rfl, endOk0 (y := (ofV (V.alien ⟨96, rfl⟩))) (Wk.refl _) (ids_V (V.alien ⟨96, rfl⟩)) ⟨rfl, rfl⟩⟩
             ·intro hc13; replace h := ocond_f hc13 h
              refine bw_skip ?_
              change BW _ _ _ _ _
              refine bR ?_
              refine sS rfl rfl rfl (Op1.junk (op1_buildArr (cs := [(I64 1), (I64 2)]) Try.underlying97 inf_97 inf_3 rfl rfl rfl rfl)) ?_
              refine sS rfl rfl rfl ((op1_mkI Try.underlying97 rfl rfl rfl).wk ((Wk.iface Wk.junk).trans (Wk.eq (mk_alien ⟨97, rfl⟩).symm))) ?_
              refine sA rfl rfl rfl rfl rfl (ao_nil ?_)
              change BW _ _ _ _ _
              refine bw_ret ?_
              change ∃ xs, _ = some xs ∧ EndOk _ _ _ _
              obtain rfl := Option.some.inj h
              exact ⟨_, rfl, endOk0 (y := (ofV (V.alien ⟨97, rfl⟩))) (Wk.refl _) (ids_V (V.alien ⟨97, rfl⟩)) ⟨rfl, rfl⟩⟩
noncomputable def mk_Dict_l1b (r_mk_Built : Term → Option V) (a0 : (List (Str × Term))) (g1 : (List (Str × V)) → Nat → Option (List (Str × V))) (s1 : (List (Str × V))) (s2 : Nat) : Option (List (Str × V)) :=
 bif (decide (((s2 : Nat) : Int) < (((a0).length : Nat) : Int))) then (
  Option.bind ((a0)[s2]?) fun x5 =>
  Option.bind ((a0)[s2]?) fun x6 =>
  Option.bind (r_mk_Built (x6.2)) fun x7 =>
  Option.bind (appO 32 s1 ([(x5.1, x7)] : (List (Str × V)))) fun x8 =>
  g1 x8 (s2 + 1)
 ) else (
  some s1
 )
theorem mk_Dict_l1b_cm {ι : Type} {ρ : ι → Type} (r_mk_Built : (∀ i, Option (ρ i)) → Term → Option V) (h_r_mk_Built : ∀ y0, CM (fun G => r_mk_Built G y0)) (g1 : (∀ i, Option (ρ i)) → (List (Str × V)) → Nat → Option (List (Str × V))) (h_g1 : ∀ y0 y1, CM (fun G => g1 G y0 y1)) (a0 : (List (Str × Term))) (s1 : (List (Str × V))) (s2 : Nat) : CM (fun G : (∀ i, Option (ρ i)) => mk_Dict_l1b (r_mk_Built G) a0 (g1 G) s1 s2) := by
 simp only [mk_Dict_l1b]
 repeat (first | exact cm_const | exact h_r_mk_Built _ | exact h_g1 _ _ | refine cm_cond ?_ ?_ | refine cm_bind ?_ (fun _ => ?_))
noncomputable def mk_Dict_l1 (r_mk_Built : Term → Option V) (a0 : (List (Str × Term))) (s1 : (List (Str × V))) (s2 : Nat) : Option (List (Str × V)) :=
 fixO (ι := ((List (Str × V)) × Nat)) (ρ := fun _ => (List (Str × V))) (fun g i => mk_Dict_l1b r_mk_Built a0 (fun s1 s2 => g (s1, s2)) i.1 i.2) (s1, s2)
theorem mk_Dict_l1_eq (r_mk_Built : Term → Option V) (a0 : (List (Str × Term))) (s1 : (List (Str × V))) (s2 : Nat) : mk_Dict_l1 r_mk_Built a0 s1 s2 = mk_Dict_l1b r_mk_Built a0 (mk_Dict_l1 r_mk_Built a0) s1 s2 :=
 fixO_eq (ι := ((List (Str × V)) × Nat)) (ρ := fun _ => (List (Str × V))) (Φ := fun g i => mk_Dict_l1b r_mk_Built a0 (fun s1 s2 => g (s1, s2)) i.1 i.2) (fun i => mk_Dict_l1b_cm (ι := ((List (Str × V)) × Nat)) (ρ := fun _ => (List (Str × V))) (fun _ => r_mk_Built) (fun _ => cm_const) (fun g => (fun s1 s2 => g (s1, s2))) (fun _ _ => cm_app) a0 i.1 i.2) (s1, s2)
theorem mk_Dict_l1_cm {ι : Type} {ρ : ι → Type} (r_mk_Built : (∀ i, Option (ρ i)) → Term → Option V) (h_r_mk_Built : ∀ y0, CM (fun G => r_mk_Built G y0)) (a0 : (List (Str × Term))) (s1 : (List (Str × V))) (s2 : Nat) : CM (fun G : (∀ i, Option (ρ i)) => mk_Dict_l1 (r_mk_Built G) a0 s1 s2) :=
 cm_fix (κ := ((List (Str × V)) × Nat)) (τ := fun _ => (List (Str × V))) (Φ := fun G g i => mk_Dict_l1b (r_mk_Built G) a0 (fun s1 s2 => g (s1, s2)) i.1 i.2) (fun g i => mk_Dict_l1b_cm r_mk_Built h_r_mk_Built (fun _ => (fun s1 s2 => g (s1, s2))) (fun _ _ => cm_const) a0 i.1 i.2) (fun G i => mk_Dict_l1b_cm (ι := ((List (Str × V)) × Nat)) (ρ := fun _ => (List (Str × V))) (fun _ => r_mk_Built G) (fun _ => cm_const) (fun g => (fun s1 s2 => g (s1, s2))) (fun _ _ => cm_app) a0 i.1 i.2) (s1, s2)
noncomputable def b_mk_Dict (r_mk_Dict : (List (Str × Term)) → Option (List (Str × V))) (r_mk_Built : Term → Option V) (a0 : (List (Str × Term))) : Option (List (Str × V)) :=
 mk_Dict_l1 r_mk_Built a0 ([] : (List (Str × V))) 0
theorem b_mk_Dict_cm {ι : Type} {ρ : ι → Type} (r_mk_Dict : (∀ i, Option (ρ i)) → (List (Str × Term)) → Option (List (Str × V))) (h_r_mk_Dict : ∀ y0, CM (fun G => r_mk_Dict G y0)) (r_mk_Built : (∀ i, Option (ρ i)) → Term → Option V) (h_r_mk_Built : ∀ y0, CM (fun G => r_mk_Built G y0)) (a0 : (List (Str × Term))) : CM (fun G : (∀ i, Option (ρ i)) => b_mk_Dict (r_mk_Dict G) (r_mk_Built G) a0) := by
 simp only [b_mk_Dict]
 repeat (first | exact cm_const | exact h_r_mk_Dict _ | exact h_r_mk_Built _ | apply mk_Dict_l1_cm | refine cm_cond ?_ ?_ | refine cm_bind ?_ (fun _ => ?_) | intro _ | assumption)
noncomputable def mk_Built_l1b (r_mk_Built : Term → Option V) (a0 : Term) (g1 : (List V) → Nat → Option V) (s10 : (List V)) (s11 : Nat) : Option V :=
 bif (decide (((s11 : Nat) : Int) < (((a0.list).length : Nat) : Int))) then (
  Option.bind ((a0.list)[s11]?) fun x14 =>
  Option.bind (r_mk_Built x14) fun x15 =>
  Option.bind (appO 16 s10 ([x15] : (List V))) fun x16 =>
  g1 x16 (s11 + 1)
 ) else (
  some (V.list s10)
 )
theorem mk_Built_l1b_cm {ι : Type} {ρ : ι → Type} (r_mk_Built : (∀ i, Option (ρ i)) → Term → Option V) (h_r_mk_Built : ∀ y0, CM (fun G => r_mk_Built G y0)) (g1 : (∀ i, Option (ρ i)) → (List V) → Nat → Option V) (h_g1 : ∀ y0 y1, CM (fun G => g1 G y0 y1)) (a0 : Term) (s10 : (List V)) (s11 : Nat) : CM (fun G : (∀ i, Option (ρ i)) => mk_Built_l1b (r_mk_Built G) a0 (g1 G) s10 s11) := by
 simp only [mk_Built_l1b]
 repeat (first | exact cm_const | exact h_r_mk_Built _ | exact h_g1 _ _ | refine cm_cond ?_ ?_ | refine cm_bind ?_ (fun _ => ?_))
noncomputable def mk_Built_l1 (r_mk_Built : Term → Option V) (a0 : Term) (s10 : (List V)) (s11 : Nat) : Option V :=
 fixO (ι := ((List V) × Nat)) (ρ := fun _ => V) (fun g i => mk_Built_l1b r_mk_Built a0 (fun s10 s11 => g (s10, s11)) i.1 i.2) (s10, s11)
theorem mk_Built_l1_eq (r_mk_Built : Term → Option V) (a0 : Term) (s10 : (List V)) (s11 : Nat) : mk_Built_l1 r_mk_Built a0 s10 s11 = mk_Built_l1b r_mk_Built a0 (mk_Built_l1 r_mk_Built a0) s10 s11 :=
 fixO_eq (ι := ((List V) × Nat)) (ρ := fun _ => V) (Φ := fun g i => mk_Built_l1b r_mk_Built a0 (fun s10 s11 => g (s10, s11)) i.1 i.2) (fun i => mk_Built_l1b_cm (ι := ((List V) × Nat)) (ρ := fun _ => V) (fun _ => r_mk_Built) (fun _ => cm_const) (fun g => (fun s10 s11 => g (s10, s11))) (fun _ _ => cm_app) a0 i.1 i.2) (s10, s11)
theorem mk_Built_l1_cm {ι : Type} {ρ : ι → Type} (r_mk_Built : (∀ i, Option (ρ i)) → Term → Option V) (h_r_mk_Built : ∀ y0, CM (fun G => r_mk_Built G y0)) (a0 : Term) (s10 : (List V)) (s11 : Nat) : CM (fun G : (∀ i, Option (ρ i)) => mk_Built_l1 (r_mk_Built G) a0 s10 s11) :=
 cm_fix (κ := ((List V) × Nat)) (τ := fun _ => V) (Φ := fun G g i => mk_Built_l1b (r_mk_Built G) a0 (fun s10 s11 => g (s10, s11)) i.1 i.2) (fun g i => mk_Built_l1b_cm r_mk_Built h_r_mk_Built (fun _ => (fun s10 s11 => g (s10, s11))) (fun _ _ => cm_const) a0 i.1 i.2) (fun G i => mk_Built_l1b_cm (ι := ((List V) × Nat)) (ρ := fun _ => V) (fun _ => r_mk_Built G) (fun _ => cm_const) (fun g => (fun s10 s11 => g (s10, s11))) (fun _ _ => cm_app) a0 i.1 i.2) (s10, s11)
noncomputable def b_mk_Built (r_mk_Dict : (List (Str × Term)) → Option (List (Str × V))) (r_mk_Built : Term → Option V) (a0 : Term) : Option V :=
 bif (a0.kind == 1) then (
  some V.nil
 ) else (
  bif (a0.kind == 2) then (
   some (V.bool a0.bool)
  ) else (
   bif (a0.kind == 3) then (
    some (V.int a0.int)
   ) else (
    bif (a0.kind == 4) then (
     some (V.float a0.float)
    ) else (
     bif (a0.kind == 5) then (
      some (V.text a0.text)
     ) else (
      bif (a0.kind == 6) then (
       Option.bind (appO 1 ([] : Str) a0.bytes) fun x7 =>
       some (V.bytes x7)
      ) else (
       bif (a0.kind == 7) then (
        some (V.ref a0.ref)
       ) else (
        bif (a0.kind == 8) then (
         mk_Built_l1 r_mk_Built a0 ([] : (List V)) 0
        ) else (
         bif (a0.kind == 9) then (
          Option.bind (r_mk_Dict a0.fields) fun x18 =>
          some (V.dict x18)
         ) else (
          bif (a0.kind == 10) then (
           Option.bind (r_mk_Dict a0.fields) fun x20 =>
           some (V.record a0.cls a0.ver x20)
          ) else (
           bif (a0.kind == 11) then (
            some V.nothing
           ) else (
            Option.bind (p_mk_Alien a0.int) fun x22 =>
            some x22
           )
          )
         )
        )
       )
      )
     )
    )
   )
  )
 )
theorem b_mk_Built_cm {ι : Type} {ρ : ι → Type} (r_mk_Dict : (∀ i, Option (ρ i)) → (List (Str × Term)) → Option (List (Str × V))) (h_r_mk_Dict : ∀ y0, CM (fun G => r_mk_Dict G y0)) (r_mk_Built : (∀ i, Option (ρ i)) → Term → Option V) (h_r_mk_Built : ∀ y0, CM (fun G => r_mk_Built G y0)) (a0 : Term) : CM (fun G : (∀ i, Option (ρ i)) => b_mk_Built (r_mk_Dict G) (r_mk_Built G) a0) := by
 simp only [b_mk_Built]
 repeat (first | exact cm_const | exact h_r_mk_Dict _ | exact h_r_mk_Built _ | apply mk_Built_l1_cm | refine cm_cond ?_ ?_ | refine cm_bind ?_ (fun _ => ?_) | intro _ | assumption)
inductive C_mk_Dict where
 | k_mk_Dict (a0 : (List (Str × Term)))
 | k_mk_Built (a0 : Term)
def C_mk_Dict.R : C_mk_Dict → Type
 | .k_mk_Dict _ => (List (Str × V))
 | .k_mk_Built _ => V
noncomputable def C_mk_Dict.F (g : ∀ i : C_mk_Dict, Option i.R) : ∀ i : C_mk_Dict, Option i.R
 | .k_mk_Dict a0 => b_mk_Dict (fun a0 => g (.k_mk_Dict a0)) (fun a0 => g (.k_mk_Built a0)) a0
 | .k_mk_Built a0 => b_mk_Built (fun a0 => g (.k_mk_Dict a0)) (fun a0 => g (.k_mk_Built a0)) a0
noncomputable def p_mk_Dict (a0 : (List (Str × Term))) : Option (List (Str × V)) := fixO C_mk_Dict.F (.k_mk_Dict a0)
noncomputable def p_mk_Built (a0 : Term) : Option V := fixO C_mk_Dict.F (.k_mk_Built a0)
theorem C_mk_Dict.cm (i : C_mk_Dict) : CM (fun g : (∀ i : C_mk_Dict, Option i.R) => C_mk_Dict.F g i) := by
 cases i with
 | k_mk_Dict a0 => exact b_mk_Dict_cm (fun (g : ∀ i : C_mk_Dict, Option i.R) a0 => g (.k_mk_Dict a0)) (fun a0 => cm_app (i := C_mk_Dict.k_mk_Dict a0)) (fun (g : ∀ i : C_mk_Dict, Option i.R) a0 => g (.k_mk_Built a0)) (fun a0 => cm_app (i := C_mk_Dict.k_mk_Built a0)) a0
 | k_mk_Built a0 => exact b_mk_Built_cm (fun (g : ∀ i : C_mk_Dict, Option i.R) a0 => g (.k_mk_Dict a0)) (fun a0 => cm_app (i := C_mk_Dict.k_mk_Dict a0)) (fun (g : ∀ i : C_mk_Dict, Option i.R) a0 => g (.k_mk_Built a0)) (fun a0 => cm_app (i := C_mk_Dict.k_mk_Built a0)) a0
theorem e_mk_Dict (a0 : (List (Str × Term))) : p_mk_Dict a0 = b_mk_Dict p_mk_Dict p_mk_Built a0 := fixO_eq C_mk_Dict.cm (.k_mk_Dict a0)
theorem e_mk_Built (a0 : Term) : p_mk_Built a0 = b_mk_Built p_mk_Dict p_mk_Built a0 := fixO_eq C_mk_Dict.cm (.k_mk_Built a0)
def C_mk_Dict.Q : ∀ i : C_mk_Dict, i.R → Prop
 | .k_mk_Dict a0 => fun (r : (List (Str × V))) => PCalls Try.prog 27 [(PV.sl none 12 (List.map ofEntry a0))] (PV.sl none 2 (List.map ofFld r))
 | .k_mk_Built a0 => fun (r : V) => PCalls Try.prog 10 [(ofTermX a0)] (ofV r)
theorem t_mk_Dict (r_mk_Dict : (List (Str × Term)) → Option (List (Str × V))) (c_mk_Dict : ∀ (a0 : (List (Str × Term))) r, r_mk_Dict a0 = some r → PCalls Try.prog 27 [(PV.sl none 12 (List.map ofEntry a0))] (PV.sl none 2 (List.map ofFld r))) (r_mk_Built : Term → Option V) (c_mk_Built : ∀ (a0 : Term) r, r_mk_Built a0 = some r → PCalls Try.prog 10 [(ofTermX a0)] (ofV r)) (a0 : (List (Str × Term))) (r : (List (Str × V))) (h : b_mk_Dict r_mk_Dict r_mk_Built a0 = some r) : PCalls Try.prog 27 [(PV.sl none 12 (List.map ofEntry a0))] (PV.sl none 2 (List.map ofFld r)) := by
 unfold b_mk_Dict at h
 refine acalls_of Try.func27 rfl Try.ntmps27 Try.results27 rfl (aw_of_bw ?_)
 change BW _ _ _ ⟨[(0, (PV.sl none 12 (List.map ofEntry a0)))], [], _⟩ _
 refine bR ?_
 refine sA rfl rfl rfl rfl rfl (ao_nil ?_)
 change BW _ _ _ _ _
 refine bR ?_
 refine sS rfl rfl rfl ((op1_bslice (xs := []) Try.underlying63 inf_88 rfl rfl rfl rfl rfl rfl ⟨Nat.le_of_ble_eq_true rfl, Nat.le_of_ble_eq_true rfl⟩ rfl).cast (y := (PV.sl (some 0) 2 (List.map ofFld ([] : (List (Str × V)))))) rfl rfl) ?_
 refine sA rfl rfl rfl rfl rfl (ao_nil ?_)
 change BW _ _ _ _ _
 refine bw_seq ?_
 refine bR ?_
 refine sA rfl rfl rfl rfl rfl (ao_nil ?_)
 change BW _ _ _ _ _
 refine bw_block ?_
 change BW _ _ _ _ _
 unfold mk_Dict_l1 at h
 refine bw_loop (σ := ((List (Str × V)) × Nat)) (fun i => [(0, (PV.sl none 12 (List.map ofEntry a0))), (3, (PV.sl (some 0) 2 (List.map ofFld i.1))), (4, (I64 (((i.2 : Nat) : Int))))]) (fun i => [.arr 88 (i.1).length]) (([] : (List (Str × V))), 0) h ?_ ?_ ?_
 ·intro i; exact ⟨Nat.le_of_ble_eq_true rfl, ⟨(il_nil (ids_slM ids_Entry _)), ⟨(il_tok rfl (ids_map ids_Fld _)), ⟨(il_nil rfl), trivial⟩⟩⟩, trivial⟩
 ·exact ⟨(.cons .same .nil), (sC rfl (sC rfl (sC rfl sub_nil)))⟩
 ·rintro g1_f ⟨s1, s2⟩ h; replace h : mk_Dict_l1b r_mk_Built a0 (fun y0 y1 => g1_f (y0, y1)) s1 s2 = some r := h; unfold mk_Dict_l1b at h
  change BW _ _ _ ⟨[(0, (PV.sl none 12 (List.map ofEntry a0))), (3, (PV.sl (some 0) 2 (List.map ofFld s1))), (4, (I64 (((s2 : Nat) : Int))))], [.arr 88 (s1).length], _⟩ _
  refine bw_seq ?_
  refine bR ?_
  refine sM rfl rfl rfl rfl rfl ?_
  refine sM rfl rfl rfl rfl rfl ?_
  refine sS rfl rfl rfl (op1_lenM Try.underlying27 rfl rfl) ?_
  refine sS rfl rfl rfl ((op1_cmp rfl rfl rfl rfl).cast (y := (BO ((decide (((s2 : Nat) : Int) < (((a0).length : Nat) : Int)))))) rfl rfl) (ao_nil ?_)
  change BW _ _ _ _ _
  refine bw_len (t := 7) rfl fun hb4 => ?_
  try rw [List.length_map] at hb4
  refine bw_cond rfl ?_ ?_
  ·intro hc3; replace h := ocond_t hc3 h
   have hc3_ := of_decide_eq_true hc3
   refine bw_skip ?_
   change BW _ _ _ _ _
   refine bw_seq ?_
   refine bw_block ?_
   change BW _ _ _ _ _
   refine bw_tail 14 [13] [] mo (by kernel_rfl) ?_
   refine ac_go rfl rfl rfl rfl (fun H hp => op1_move rfl rfl) ?_
   refine ac_go rfl rfl rfl rfl (fun H hp => op1_move rfl rfl) ?_
   refine ac_go rfl rfl rfl rfl (fun H hp => op1_move rfl rfl) ?_
   obtain ⟨x5, hx5, h⟩ := obind h
   refine ac_go rfl rfl rfl rfl (fun H hp => op1_idxN (i := s2) Try.underlying27 inf_86 rfl rfl rfl hx5 (ofEntry_eq _)) ?_
   refine ac_go rfl rfl rfl rfl (fun H hp => op1_faP st_86 (i := 0) rfl rfl rfl) ?_
   refine ac_go rfl rfl rfl rfl (fun H hp => op1_ldP (y := (ofStr x5.1)) Try.underlying9 rfl rfl rfl rfl) ?_
   refine ac_go rfl rfl rfl rfl (fun H hp => op1_move rfl rfl) ?_
   refine ac_go rfl rfl rfl rfl (fun H hp => op1_move rfl rfl) ?_
   obtain ⟨x6, hx6, h⟩ := obind h
   refine ac_go rfl rfl rfl rfl (fun H hp => op1_idxN (i := s2) Try.underlying27 inf_86 rfl rfl rfl hx6 (ofEntry_eq _)) ?_
   refine ac_go rfl rfl rfl rfl (fun H hp => op1_faP st_86 (i := 1) rfl rfl rfl) ?_
   refine ac_go rfl rfl rfl rfl (fun H hp => (op1_ldPA inf_29 Try.underlying29 rfl rfl rfl rfl rfl)) ?_
   obtain ⟨x7, hx7, h⟩ := obind h
   refine ac_go rfl rfl rfl rfl (fun H hp => op1_pcall rfl en_10 rfl (.cons (Wk.refl _) .nil) ⟨(ids_TermX (x6.2)), trivial⟩ (c_mk_Built (x6.2) x7 hx7) (ids_V x7)) ?_
   refine ac_go rfl rfl rfl rfl (fun H hp => op1_build (cs := [(ofStr x5.1), (ofV x7)]) st_88 inf_88 rfl rfl (by simp only [List.all_cons, List.all_nil, cok_V, cok_RecP, Bool.and_true, Bool.true_and]; try rfl) (by simp only [afill, List.getElem?_cons_zero, List.getElem?_cons_succ, cells_V, cells_RecP]; rfl)) ?_
   refine ac_lgo rfl rfl rfl rfl ((op1_bslice (xs := [(PV.agg [(ofStr x5.1), (ofV x7)])]) Try.underlying63 inf_88 rfl rfl rfl (by simp only [List.all_cons, List.all_nil, cok_V, cok_RecP, Bool.and_true, Bool.true_and]; try rfl) (by simp only [List.all_cons, List.all_nil, csz_V, csz_RecP, cells_V, cells_RecP]; try rfl) rfl ⟨Nat.le_of_ble_eq_true rfl, Nat.le_of_ble_eq_true rfl⟩ (by simp only [zipN, afill, List.flatMap_cons, List.flatMap_nil, cells_V, cells_RecP]; try rfl)).cast (y := (PV.sl (some 1) 2 (List.map ofFld ([(x5.1, x7)] : (List (Str × V)))))) rfl rfl) trivial ?_
   refine ac_nil ?_
   change AO _ _ _ _ _
   obtain ⟨x8, hx8, h⟩ := obind h
   refine sS rfl rfl rfl (op1_appM Try.underlying63 inf_88 rfl Try.underlying63 rfl rfl rfl rfl csz_Fld call1_Fld hx8 rfl) ?_
   refine sA rfl rfl rfl rfl rfl (ao_nil ?_)
   change BW _ _ _ _ _
   refine bw_region ?_
   refine sM rfl rfl rfl rfl rfl ?_
   refine sS rfl rfl rfl (op1_incN (k := s2) (c := 1) rfl rfl rfl (by omega)) ?_
   refine sA rfl rfl rfl rfl rfl (ao_nil ?_)
   exact ⟨rfl, (x8, (s2 + 1)), h, ⟨(.cons .same .nil), (sC rfl (sC rfl (sC rfl sub_nil)))⟩⟩
  ·intro hc3; replace h := ocond_f hc3 h
   refine bw_exit ?_
   change BW _ _ _ _ _
   refine bR ?_
   refine sM rfl rfl rfl rfl rfl ?_
   refine sA rfl rfl rfl rfl rfl (ao_nil ?_)
   change BW _ _ _ _ _
   refine bw_ret ?_
   change ∃ xs, _ = some xs ∧ EndOk _ _ _ _
   obtain rfl := Option.some.inj h
   exact ⟨_, rfl, endOk0 (y := (PV.sl none 2 (List.map ofFld s1))) Wk.tok (ids_slM ids_Fld s1) ⟨rfl, rfl⟩⟩
theorem t_mk_Built (r_mk_Dict : (List (Str × Term)) → Option (List (Str × V))) (c_mk_Dict : ∀ (a0 : (List (Str × Term))) r, r_mk_Dict a0 = some r → PCalls Try.prog 27 [(PV.sl none 12 (List.map ofEntry a0))] (PV.sl none 2 (List.map ofFld r))) (r_mk_Built : Term → Option V) (c_mk_Built : ∀ (a0 : Term) r, r_mk_Built a0 = some r → PCalls Try.prog 10 [(ofTermX a0)] (ofV r)) (a0 : Term) (r : V) (h : b_mk_Built r_mk_Dict r_mk_Built a0 = some r) : PCalls Try.prog 10 [(ofTermX a0)] (ofV r) := by
 unfold b_mk_Built at h
 refine acalls_of Try.func10 rfl Try.ntmps10 Try.results10 rfl (aw_of_bw ?_)
 change BW _ _ _ ⟨[(0, (ofTermX a0))], [], _⟩ _
 refine bR ?_
 refine sS rfl rfl rfl (op1_box rfl rfl rfl) ?_
 refine sA rfl rfl rfl rfl rfl (ao_nil ?_)
 change BW _ _ _ _ _
 refine bw_seq ?_
 refine bR ?_
 refine sS rfl rfl rfl (op1_faR st_29 (i := 0) rfl rfl rfl) ?_
 refine sS rfl rfl rfl ((op1_ldR Try.underlying3 rfl rfl rfl rfl rfl)) (ao_nil ?_)
 change BW _ _ _ _ _
 refine bw_block ?_
 change BW _ _ _ _ _
 refine bR ?_
 refine sS rfl rfl rfl ((op1_cmp rfl rfl rfl rfl).cast (y := (BO ((a0.kind == 1)))) rfl rfl) ?_
 refine sA rfl rfl rfl rfl rfl (ao_nil ?_)
 change BW _ _ _ _ _
 refine bw_cond rfl ?_ ?_
 ·intro hc1; replace h := ocond_t hc1 h
  refine bR ?_
  refine sA rfl rfl rfl rfl rfl (ao_nil ?_)
  change BW _ _ _ _ _
  refine bw_ret ?_
  change ∃ xs, _ = some xs ∧ EndOk _ _ _ _
  obtain rfl := Option.some.inj h
  exact ⟨_, rfl, endOk0 (y := (ofV V.nil)) (Wk.eq mk_nil.symm) (ids_V V.nil) ⟨rfl, rfl⟩⟩
 ·intro hc1; replace h := ocond_f hc1 h
  refine bR ?_
  refine sS rfl rfl rfl ((op1_cmp rfl rfl rfl rfl).cast (y := (BO ((a0.kind == 2)))) rfl rfl) ?_
  refine sA rfl rfl rfl rfl rfl (ao_nil ?_)
  change BW _ _ _ _ _
  refine bw_cond rfl ?_ ?_
  ·intro hc2; replace h := ocond_t hc2 h
   refine bR ?_
   refine sS rfl rfl rfl (op1_faR st_29 (i := 1) rfl rfl rfl) ?_
   refine sS rfl rfl rfl ((op1_ldR Try.underlying4 rfl rfl rfl rfl rfl)) ?_
   refine sS rfl rfl rfl ((op1_mkI Try.underlying4 rfl rfl rfl).wk ((Wk.iface (Wk.refl _)).trans (Wk.eq (mk_bool _).symm))) ?_
   refine sA rfl rfl rfl rfl rfl (ao_nil ?_)
   change BW _ _ _ _ _
   refine bw_ret ?_
   change ∃ xs, _ = some xs ∧ EndOk _ _ _ _
   obtain rfl := Option.some.inj h
   exact ⟨_, rfl, endOk0 (y := (ofV (V.bool a0.bool))) (Wk.refl _) (ids_V (V.bool a0.bool)) ⟨rfl, rfl⟩⟩
  ·intro hc2; replace h := ocond_f hc2 h
   refine bR ?_
   refine sS rfl rfl rfl ((op1_cmp rfl rfl rfl rfl).cast (y := (BO ((a0.kind == 3)))) rfl rfl) ?_
   refine sA rfl rfl rfl rfl rfl (ao_nil ?_)
   change BW _ _ _ _ _
   refine bw_cond rfl ?_ ?_
   ·intro hc3; replace h := ocond_t hc3 h
    refine bR ?_
    refine sS rfl rfl rfl (op1_faR st_29 (i := 2) rfl rfl rfl) ?_
    refine sS rfl rfl rfl ((op1_ldR Try.underlying2 rfl rfl rfl rfl rfl)) ?_
    refine sS rfl rfl rfl ((op1_mkI Try.underlying2 rfl rfl rfl).wk ((Wk.iface (Wk.refl _)).trans (Wk.eq (mk_int _).symm))) ?_
    refine sA rfl rfl rfl rfl rfl (ao_nil ?_)
    change BW _ _ _ _ _
    refine bw_ret ?_
    change ∃ xs, _ = some xs ∧ EndOk _ _ _ _
    obtain rfl := Option.some.inj h
    exact ⟨_, rfl, endOk0 (y := (ofV (V.int a0.int))) (Wk.refl _) (ids_V (V.int a0.int)) ⟨rfl, rfl⟩⟩
   ·intro hc3; replace h := ocond_f hc3 h
    refine bR ?_
    refine sS rfl rfl rfl ((op1_cmp rfl rfl rfl rfl).cast (y := (BO ((a0.kind == 4)))) rfl rfl) ?_
    refine sA rfl rfl rfl rfl rfl (ao_nil ?_)
    change BW _ _ _ _ _
    refine bw_cond rfl ?_ ?_
    ·intro hc4; replace h := ocond_t hc4 h
     refine bR ?_
     refine sS rfl rfl rfl (op1_faR st_29 (i := 3) rfl rfl rfl) ?_
     refine sS rfl rfl rfl ((op1_ldR Try.underlying22 rfl rfl rfl rfl rfl)) ?_
     refine sS rfl rfl rfl ((op1_mkI Try.underlying22 rfl rfl rfl).wk ((Wk.iface (Wk.refl _)).trans (Wk.eq (mk_float _).symm))) ?_
     refine sA rfl rfl rfl rfl rfl (ao_nil ?_)
     change BW _ _ _ _ _
     refine bw_ret ?_
     change ∃ xs, _ = some xs ∧ EndOk _ _ _ _
     obtain rfl := Option.some.inj h
     exact ⟨_, rfl, endOk0 (y := (ofV (V.float a0.float))) (Wk.refl _) (ids_V (V.float a0.float)) ⟨rfl, rfl⟩⟩
    ·intro hc4; replace h := ocond_f hc4 h
     refine bR ?_
     refine sS rfl rfl rfl ((op1_cmp rfl rfl rfl rfl).cast (y := (BO ((a0.kind == 5)))) rfl rfl) ?_
     refine sA rfl rfl rfl rfl rfl (ao_nil ?_)
     change BW _ _ _ _ _
     refine bw_cond rfl ?_ ?_
     ·intro hc5; replace h := ocond_t hc5 h
      refine bR ?_
      refine sS rfl rfl rfl (op1_faR st_29 (i := 4) rfl rfl rfl) ?_
      refine sS rfl rfl rfl ((op1_ldR Try.underlying9 rfl rfl rfl rfl rfl)) ?_
      refine sS rfl rfl rfl ((op1_mkI Try.underlying9 rfl rfl rfl).wk ((Wk.iface (Wk.refl _)).trans (Wk.eq (mk_text _).symm))) ?_
      refine sA rfl rfl rfl rfl rfl (ao_nil ?_)
      change BW _ _ _ _ _
      refine bw_ret ?_
      change ∃ xs, _ = some xs ∧ EndOk _ _ _ _
      obtain rfl := Option.some.inj h
      exact ⟨_, rfl, endOk0 (y := (ofV (V.text a0.text))) (Wk.refl _) (ids_V (V.text a0.text)) ⟨rfl, rfl⟩⟩
     ·intro hc5; replace h := ocond_f hc5 h
      refine bR ?_
      refine sS rfl rfl rfl ((op1_cmp rfl rfl rfl rfl).cast (y := (BO ((a0.kind == 6)))) rfl rfl) ?_
      refine sA rfl rfl rfl rfl rfl (ao_nil ?_)
      change BW _ _ _ _ _
      refine bw_cond rfl ?_ ?_
      ·intro hc6; replace h := ocond_t hc6 h
       refine bR ?_
       refine sS rfl rfl rfl ((op1_bslice (xs := []) Try.underlying23 inf_5 rfl rfl rfl rfl rfl rfl ⟨Nat.le_of_ble_eq_true rfl, Nat.le_of_ble_eq_true rfl⟩ rfl).cast (y := (PV.sl (some 1) 1 (List.map ofB ([] : Str)))) rfl rfl) ?_
       refine sS rfl rfl rfl (op1_faR st_29 (i := 5) rfl rfl rfl) ?_
       refine sS rfl rfl rfl ((op1_ldR Try.underlying23 rfl rfl rfl rfl rfl)) ?_
       obtain ⟨x7, hx7, h⟩ := obind h
       refine sS rfl rfl rfl (op1_appM Try.underlying23 inf_5 rfl Try.underlying23 rfl rfl rfl rfl (fun _ => rfl) (fun _ => rfl) hx7 rfl) ?_
       refine sS rfl rfl rfl ((op1_mkI Try.underlying23 rfl rfl rfl).wk ((Wk.iface Wk.tok).trans (Wk.eq (mk_bytes _).symm))) ?_
       refine sA rfl rfl rfl rfl rfl (ao_nil ?_)
       change BW _ _ _ _ _
       refine bw_ret ?_
       change ∃ xs, _ = some xs ∧ EndOk _ _ _ _
       obtain rfl := Option.some.inj h
       exact ⟨_, rfl, endOk0 (y := (ofV (V.bytes x7))) (Wk.refl _) (ids_V (V.bytes x7)) ⟨rfl, rfl⟩⟩
      ·intro hc6; replace h := ocond_f hc6 h
       refine bR ?_
       refine sS rfl rfl rfl ((op1_cmp rfl rfl rfl rfl).cast (y := (BO ((a0.kind == 7)))) rfl rfl) ?_
       refine sA rfl rfl rfl rfl rfl (ao_nil ?_)
       change BW _ _ _ _ _
       refine bw_cond rfl ?_ ?_
       ·intro hc8; replace h := ocond_t hc8 h
        refine bR ?_
        refine sS rfl rfl rfl (op1_faR st_29 (i := 6) rfl rfl rfl) ?_
        refine sS rfl rfl rfl ((op1_ldR Try.underlying25 rfl rfl rfl rfl rfl)) ?_
        refine sS rfl rfl rfl ((op1_mkI Try.underlying25 rfl rfl rfl).wk ((Wk.iface (Wk.refl _)).trans (Wk.eq (mk_ref _).symm))) ?_
        refine sA rfl rfl rfl rfl rfl (ao_nil ?_)
        change BW _ _ _ _ _
        refine bw_ret ?_
        change ∃ xs, _ = some xs ∧ EndOk _ _ _ _
        obtain rfl := Option.some.inj h
        exact ⟨_, rfl, endOk0 (y := (ofV (V.ref a0.ref))) (Wk.refl _) (ids_V (V.ref a0.ref)) ⟨rfl, rfl⟩⟩
       ·intro hc8; replace h := ocond_f hc8 h
        refine bR ?_
        refine sS rfl rfl rfl ((op1_cmp rfl rfl rfl rfl).cast (y := (BO ((a0.kind == 8)))) rfl rfl) ?_
        refine sA rfl rfl rfl rfl rfl (ao_nil ?_)
        change BW _ _ _ _ _
        refine bw_cond rfl ?_ ?_
        ·intro hc9; replace h := ocond_t hc9 h
         refine bR ?_
         refine sS rfl rfl rfl ((op1_bslice (xs := []) Try.underlying61 inf_20 rfl rfl rfl rfl rfl rfl ⟨Nat.le_of_ble_eq_true rfl, Nat.le_of_ble_eq_true rfl⟩ rfl).cast (y := (PV.sl (some 1) 1 (List.map ofV ([] : (List V))))) rfl rfl) ?_
         refine sA rfl rfl rfl rfl rfl (ao_nil ?_)
         change BW _ _ _ _ _
         refine bw_seq ?_
         refine bR ?_
         refine sA rfl rfl rfl rfl rfl (ao_nil ?_)
         change BW _ _ _ _ _
         refine bw_block ?_
         change BW _ _ _ _ _
         unfold mk_Built_l1 at h
         refine bw_loop (σ := ((List V) × Nat)) (fun i => [(1, (PV.rf 0 0)), (3, (PV.sl (some 1) 1 (List.map ofV i.1))), (4, (I64 (((i.2 : Nat) : Int))))]) (fun i => [.box 29 [(I64 a0.kind), (BO a0.bool), (I64 a0.int), (PV.v (.float .f64 a0.float)), (ofStr a0.text), (PV.sl none 1 (List.map ofB a0.bytes)), (PV.v (.int .u64 a0.ref)), (PV.sl none 11 (List.map ofTerm a0.list)), (PV.sl none 12 (List.map ofEntry a0.fields)), (ofStr a0.cls), (I64 a0.ver)], .arr 20 (i.1).length]) (([] : (List V)), 0) h ?_ ?_ ?_
         ·intro i; exact ⟨Nat.le_of_ble_eq_true rfl, ⟨(il_rf rfl), ⟨(il_tok rfl (ids_map ids_V _)), ⟨(il_nil rfl), trivial⟩⟩⟩, ⟨⟨(il_nil rfl), ⟨(il_nil rfl), ⟨(il_nil rfl), ⟨(il_nil rfl), ⟨(il_nil rfl), ⟨(il_nil (ids_slM (fun _ => rfl) _)), ⟨(il_nil rfl), ⟨(il_nil (ids_slM ids_Term _)), ⟨(il_nil (ids_slM ids_Entry _)), ⟨(il_nil rfl), ⟨(il_nil rfl), trivial⟩⟩⟩⟩⟩⟩⟩⟩⟩⟩⟩, trivial⟩⟩
         ·exact ⟨(.cons .same (.cons .same .nil)), (sC rfl (sC rfl (sC rfl sub_nil)))⟩
         ·rintro g1_f ⟨s10, s11⟩ h; replace h : mk_Built_l1b r_mk_Built a0 (fun y0 y1 => g1_f (y0, y1)) s10 s11 = some r := h; unfold mk_Built_l1b at h
          change BW _ _ _ ⟨[(1, (PV.rf 0 0)), (3, (PV.sl (some 1) 1 (List.map ofV s10))), (4, (I64 (((s11 : Nat) : Int))))], [.box 29 [(I64 a0.kind), (BO a0.bool), (I64 a0.int), (PV.v (.float .f64 a0.float)), (ofStr a0.text), (PV.sl none 1 (List.map ofB a0.bytes)), (PV.v (.int .u64 a0.ref)), (PV.sl none 11 (List.map ofTerm a0.list)), (PV.sl none 12 (List.map ofEntry a0.fields)), (ofStr a0.cls), (I64 a0.ver)], .arr 20 (s10).length], _⟩ _
          refine bw_seq ?_
          refine bR ?_
          refine sM rfl rfl rfl rfl rfl ?_
          refine sS rfl rfl rfl (op1_faR st_29 (i := 7) rfl rfl rfl) ?_
          refine sS rfl rfl rfl ((op1_ldR Try.underlying26 rfl rfl rfl rfl rfl)) ?_
          refine sS rfl rfl rfl (op1_lenM Try.underlying26 rfl rfl) ?_
          refine sS rfl rfl rfl ((op1_cmp rfl rfl rfl rfl).cast (y := (BO ((decide (((s11 : Nat) : Int) < (((a0.list).length : Nat) : Int)))))) rfl rfl) (ao_nil ?_)
          change BW _ _ _ _ _
          refine bw_len (t := 47) rfl fun hb13 => ?_
          try rw [List.length_map] at hb13
          refine bw_cond rfl ?_ ?_
          ·intro hc12; replace h := ocond_t hc12 h
           have hc12_ := of_decide_eq_true hc12
           refine bw_skip ?_
           change BW _ _ _ _ _
           refine bw_seq ?_
           refine bw_block ?_
           change BW _ _ _ _ _
           refine bw_region ?_
           refine sM rfl rfl rfl rfl rfl ?_
           refine sS rfl rfl rfl (op1_faR st_29 (i := 7) rfl rfl rfl) ?_
           refine sS rfl rfl rfl ((op1_ldR Try.underlying26 rfl rfl rfl rfl rfl)) ?_
           refine sM rfl rfl rfl rfl rfl ?_
           obtain ⟨x14, hx14, h⟩ := obind h
           refine sS rfl rfl rfl (op1_idxN (i := s11) Try.underlying26 inf_29 rfl rfl rfl hx14 (ofTerm_eq _)) ?_
           refine sS rfl rfl rfl (op1_ldPW inf_29 Try.underlying29 rfl rfl rfl rfl rfl) ?_
           obtain ⟨x15, hx15, h⟩ := obind h
           refine sS rfl rfl rfl (op1_pcall rfl en_10 rfl (.cons (Wk.refl _) .nil) ⟨(ids_TermX x14), trivial⟩ (c_mk_Built x14 x15 hx15) (ids_V x15)) ?_
           refine sS rfl rfl rfl ((op1_bslice (xs := [(ofV x15)]) Try.underlying61 inf_20 rfl rfl rfl (by simp only [List.all_cons, List.all_nil, cok_V, cok_RecP, Bool.and_true, Bool.true_and]; try rfl) (by simp only [List.all_cons, List.all_nil, csz_V, csz_RecP, cells_V, cells_RecP]; try rfl) rfl ⟨Nat.le_of_ble_eq_true rfl, Nat.le_of_ble_eq_true rfl⟩ (by simp only [zipN, afill, List.flatMap_cons, List.flatMap_nil, cells_V, cells_RecP]; try rfl)).cast (y := (PV.sl (some 2) 1 (List.map ofV ([x15] : (List V))))) rfl rfl) ?_
           obtain ⟨x16, hx16, h⟩ := obind h
           refine sS rfl rfl rfl (op1_appM Try.underlying61 inf_20 rfl Try.underlying61 rfl rfl rfl rfl csz_V call1_V hx16 rfl) ?_
           refine sA rfl rfl rfl rfl rfl (ao_nil ?_)
           change BW _ _ _ _ _
           refine bw_region ?_
           refine sM rfl rfl rfl rfl rfl ?_
           refine sS rfl rfl rfl (op1_incN (k := s11) (c := 1) rfl rfl rfl (by omega)) ?_
           refine sA rfl rfl rfl rfl rfl (ao_nil ?_)
           exact ⟨rfl, (x16, (s11 + 1)), h, ⟨(.cons .same (.cons .same .nil)), (sC rfl (sC rfl (sC rfl sub_nil)))⟩⟩
          ·intro hc12; replace h := ocond_f hc12 h
           refine bw_exit ?_
           change BW _ _ _ _ _
           refine bR ?_
           refine sM rfl rfl rfl rfl rfl ?_
           refine sS rfl rfl rfl ((op1_mkI Try.underlying61 rfl rfl rfl).wk ((Wk.iface Wk.tok).trans (Wk.eq (mk_list _).symm))) ?_
           refine sA rfl rfl rfl rfl rfl (ao_nil ?_)
           change BW _ _ _ _ _
           refine bw_ret ?_
           change ∃ xs, _ = some xs ∧ EndOk _ _ _ _
           obtain rfl := Option.some.inj h
           exact ⟨_, rfl, endOk0 (y := (ofV (V.list s10))) (Wk.refl _) (ids_V (V.list s10)) ⟨rfl, rfl⟩⟩
        ·intro hc9; replace h := ocond_f hc9 h
         refine bR ?_
         refine sS rfl rfl rfl ((op1_cmp rfl rfl rfl rfl).cast (y := (BO ((a0.kind == 9)))) rfl rfl) ?_
         refine sA rfl rfl rfl rfl rfl (ao_nil ?_)
         change BW _ _ _ _ _
         refine bw_cond rfl ?_ ?_
         ·intro hc17; replace h := ocond_t hc17 h
          refine bR ?_
          refine sS rfl rfl rfl (op1_faR st_29 (i := 8) rfl rfl rfl) ?_
          refine sS rfl rfl rfl ((op1_ldR Try.underlying27 rfl rfl rfl rfl rfl)) ?_
          obtain ⟨x18, hx18, h⟩ := obind h
          refine sS rfl rfl rfl (op1_pcall rfl en_27 rfl (.cons (Wk.refl _) .nil) ⟨(ids_slM ids_Entry a0.fields), trivial⟩ (c_mk_Dict a0.fields x18 hx18) (ids_slM ids_Fld x18)) ?_
          refine sS rfl rfl rfl ((op1_mkI Try.underlying63 rfl rfl rfl).wk ((Wk.iface (Wk.refl _)).trans (Wk.eq (mk_dict _).symm))) ?_
          refine sA rfl rfl rfl rfl rfl (ao_nil ?_)
          change BW _ _ _ _ _
          refine bw_ret ?_
          change ∃ xs, _ = some xs ∧ EndOk _ _ _ _
          obtain rfl := Option.some.inj h
          exact ⟨_, rfl, endOk0 (y := (ofV (V.dict x18))) (Wk.refl _) (ids_V (V.dict x18)) ⟨rfl, rfl⟩⟩
         ·intro hc17; replace h := ocond_f hc17 h
          refine bR ?_
          refine sS rfl rfl rfl ((op1_cmp rfl rfl rfl rfl).cast (y := (BO ((a0.kind == 10)))) rfl rfl) ?_
          refine sA rfl rfl rfl rfl rfl (ao_nil ?_)
          change BW _ _ _ _ _
          refine bw_cond rfl ?_ ?_
          ·intro hc19; replace h := ocond_t hc19 h
           refine bw_seq (bw_tail 7 [] [0] mo (by kernel_rfl) ?_)
           refine ac_go rfl rfl rfl rfl (fun H hp => op1_faR st_29 (i := 9) rfl rfl rfl) ?_
           refine ac_go rfl rfl rfl rfl (fun H hp => (op1_ldR Try.underlying9 rfl rfl rfl (hp.at rfl rfl) rfl)) ?_
           refine ac_go rfl rfl rfl rfl (fun H hp => op1_faR st_29 (i := 10) rfl rfl rfl) ?_
           refine ac_go rfl rfl rfl rfl (fun H hp => (op1_ldR Try.underlying3 rfl rfl rfl (hp.at rfl rfl) rfl)) ?_
           refine ac_go rfl rfl rfl rfl (fun H hp => op1_faR st_29 (i := 8) rfl rfl rfl) ?_
           refine ac_go rfl rfl rfl rfl (fun H hp => (op1_ldR Try.underlying27 rfl rfl rfl (hp.at rfl rfl) rfl)) ?_
           obtain ⟨x20, hx20, h⟩ := obind h
           refine ac_go rfl rfl rfl rfl (fun H hp => op1_pcall rfl en_27 rfl (.cons (Wk.refl _) .nil) ⟨(ids_slM ids_Entry a0.fields), trivial⟩ (c_mk_Dict a0.fields x20 hx20) (ids_slM ids_Fld x20)) ?_
           refine ac_nil ?_
           change AO _ _ _ _ _
           refine sS rfl rfl rfl (op1_build (cs := [(ofStr a0.cls), (I64 a0.ver), (PV.sl none 2 (List.map ofFld x20))]) st_67 inf_67 rfl rfl rfl rfl) ?_
           refine sS rfl rfl rfl (op1_box rfl rfl rfl) ?_
           refine sS rfl rfl rfl (op1_mkI Try.underlying65 rfl rfl rfl) ?_
           refine sA rfl rfl rfl rfl rfl (ao_nil ?_)
           change BW _ _ _ _ _
           refine bw_thaw 1 2 (y := (ofV (V.record a0.cls a0.ver x20))) rfl rfl ((Wk.iface (Wk.pt (x := .agg [(ofStr a0.cls), (I64 a0.ver), (PV.sl none 2 (List.map ofFld x20))]) (y := ofRec (Rec.mk a0.cls a0.ver x20)) (.cons (Wk.refl _) (.cons (Wk.refl _) (.cons (Wk.refl _) .nil))))).trans (Wk.eq (mk_rec (some (Rec.mk a0.cls a0.ver x20))).symm)) ?_
           refine bw_ret ?_
           change ∃ xs, _ = some xs ∧ EndOk _ _ _ _
           obtain rfl := Option.some.inj h
           exact ⟨_, rfl, endOk0 (y := (ofV (V.record a0.cls a0.ver x20))) (Wk.refl _) (ids_V (V.record a0.cls a0.ver x20)) ⟨rfl, rfl⟩⟩
          ·intro hc19; replace h := ocond_f hc19 h
           refine bR ?_
           refine sS rfl rfl rfl ((op1_cmp rfl rfl rfl rfl).cast (y := (BO ((a0.kind == 11)))) rfl rfl) ?_
           refine sA rfl rfl rfl rfl rfl (ao_nil ?_)
           change BW _ _ _ _ _
           refine bw_cond rfl ?_ ?_
           ·intro hc21; replace h := ocond_t hc21 h
            refine bR ?_
            refine sA rfl rfl rfl rfl rfl (ao_nil ?_)
            change BW _ _ _ _ _
            refine bR ?_
            refine sM rfl rfl rfl rfl rfl ?_
            refine sS rfl rfl rfl ((op1_mkI Try.underlying65 rfl rfl rfl).wk (Wk.eq (mk_rec none).symm)) ?_
            refine sA rfl rfl rfl rfl rfl (ao_nil ?_)
            change BW _ _ _ _ _
            refine bw_ret ?_
            change ∃ xs, _ = some xs ∧ EndOk _ _ _ _
            obtain rfl := Option.some.inj h
            exact ⟨_, rfl, endOk0 (y := (ofV V.nothing)) (Wk.refl _) (ids_V V.nothing) ⟨rfl, rfl⟩⟩
           ·intro hc21; replace h := ocond_f hc21 h
            refine bw_skip ?_
            change BW _ _ _ _ _
            refine bR ?_
            refine sS rfl rfl rfl (op1_faR st_29 (i := 2) rfl rfl rfl) ?_
            refine sS rfl rfl rfl ((op1_ldR Try.underlying2 rfl rfl rfl rfl rfl)) ?_
            obtain ⟨x22, hx22, h⟩ := obind h
            refine sS rfl rfl rfl (op1_pcall rfl en_28 rfl (.cons (Wk.refl _) .nil) ⟨rfl, trivial⟩ (s_mk_Alien a0.int x22 hx22) (ids_V x22)) ?_
            refine sA rfl rfl rfl rfl rfl (ao_nil ?_)
            change BW _ _ _ _ _
            refine bw_ret ?_
            change ∃ xs, _ = some xs ∧ EndOk _ _ _ _
            obtain rfl := Option.some.inj h
            exact ⟨_, rfl, endOk0 (y := (ofV x22)) (Wk.refl _) (ids_V x22) ⟨rfl, rfl⟩⟩
theorem C_mk_Dict.sound : ∀ (i : C_mk_Dict) (r : i.R), fixO C_mk_Dict.F i = some r → C_mk_Dict.Q i r := by
 refine fixO_ind (Φ := C_mk_Dict.F) (Q := C_mk_Dict.Q) ?_
 intro g hg i r h
 cases i with
 | k_mk_Dict a0 => exact t_mk_Dict (fun a0 => g (.k_mk_Dict a0)) (fun a0 r hr => hg (.k_mk_Dict a0) r hr) (fun a0 => g (.k_mk_Built a0)) (fun a0 r hr => hg (.k_mk_Built a0) r hr) a0 r h
 | k_mk_Built a0 => exact t_mk_Built (fun a0 => g (.k_mk_Dict a0)) (fun a0 r hr => hg (.k_mk_Dict a0) r hr) (fun a0 => g (.k_mk_Built a0)) (fun a0 r hr => hg (.k_mk_Built a0) r hr) a0 r h
theorem s_mk_Dict (a0 : (List (Str × Term))) (r : (List (Str × V))) (h : p_mk_Dict a0 = some r) : PCalls Try.prog 27 [(PV.sl none 12 (List.map ofEntry a0))] (PV.sl none 2 (List.map ofFld r)) := C_mk_Dict.sound (.k_mk_Dict a0) r h
theorem s_mk_Built (a0 : Term) (r : V) (h : p_mk_Built a0 = some r) : PCalls Try.prog 10 [(ofTermX a0)] (ofV r) := C_mk_Dict.sound (.k_mk_Built a0) r h
noncomputable def p_value_kind (a0 : V) : Option Int :=
 bif (a0).isNil then (
  some 1
 ) else (
  bif (a0).isBool then (
   some 2
  ) else (
   bif (a0).isInt then (
    some 3
   ) else (
    bif (a0).isFloat then (
     some 4
    ) else (
     bif (a0).isText then (
      some 5
     ) else (
      bif (a0).isBytes then (
       some 6
      ) else (
       bif (a0).isRef then (
        some 7
       ) else (
        bif (a0).isList then (
         some 8
        ) else (
         bif (a0).isDict then (
          some 9
         ) else (
          bif (a0).isRec then (
           bif ((a0).asRec).isNone then (
            some 11
           ) else (
            some 10
           )
          ) else (
           some 0
          )
         )
        )
       )
      )
     )
    )
   )
  )
 )
theorem s_value_kind (a0 : V) (r : Int) (h : p_value_kind a0 = some r) : PCalls Try.prog 59 [(ofV a0)] (I64 r) := by
 unfold p_value_kind at h
 refine acalls_of Try.func59 rfl Try.ntmps59 Try.results59 rfl (aw_of_bw ?_)
 change BW _ _ _ ⟨[(0, (ofV a0))], [], _⟩ _
 refine bR ?_
 refine sA rfl rfl rfl rfl rfl (ao_nil ?_)
 change BW _ _ _ _ _
 refine bw_seq ?_
 refine bR ?_
 refine sM rfl rfl rfl rfl rfl (ao_nil ?_)
 change BW _ _ _ _ _
 refine bw_block ?_
 change BW _ _ _ _ _
 refine bR ?_
 refine sS rfl rfl rfl (op1_vEqNil Try.underlying20 rfl rfl) (ao_nil ?_)
 change BW _ _ _ _ _
 refine bw_cond rfl ?_ ?_
 ·intro hc1; replace h := ocond_t hc1 h
  refine bR ?_
  refine sA rfl rfl rfl rfl rfl (ao_nil ?_)
  change BW _ _ _ _ _
  refine bR ?_
  refine sA rfl rfl rfl rfl rfl (ao_nil ?_)
  change BW _ _ _ _ _
  refine bw_ret ?_
  change ∃ xs, _ = some xs ∧ EndOk _ _ _ _
  obtain rfl := Option.some.inj h
  exact ⟨_, rfl, endOk0 (y := (I64 1)) (Wk.refl _) rfl ⟨rfl, rfl⟩⟩
 ·intro hc1; replace h := ocond_f hc1 h
  refine bR ?_
  refine sS rfl rfl rfl (op1_taBool rfl rfl) ?_
  refine sS rfl rfl rfl (op1_ext rfl rfl rfl) ?_
  refine sS rfl rfl rfl (op1_ext rfl rfl rfl) (ao_nil ?_)
  change BW _ _ _ _ _
  refine bw_cond rfl ?_ ?_
  ·intro hc2; replace h := ocond_t hc2 h
   refine bR ?_
   refine sA rfl rfl rfl rfl rfl (ao_nil ?_)
   change BW _ _ _ _ _
   refine bR ?_
   refine sA rfl rfl rfl rfl rfl (ao_nil ?_)
   change BW _ _ _ _ _
   refine bw_ret ?_
   change ∃ xs, _ = some xs ∧ EndOk _ _ _ _
   obtain rfl := Option.some.inj h
   exact ⟨_, rfl, endOk0 (y := (I64 2)) (Wk.refl _) rfl ⟨rfl, rfl⟩⟩
  ·intro hc2; replace h := ocond_f hc2 h
   refine bR ?_
   refine sS rfl rfl rfl (op1_taInt rfl rfl) ?_
   refine sS rfl rfl rfl (op1_ext rfl rfl rfl) ?_
   refine sS rfl rfl rfl (op1_ext rfl rfl rfl) (ao_nil ?_)
   change BW _ _ _ _ _
   refine bw_cond rfl ?_ ?_
   ·intro hc3; replace h := ocond_t hc3 h
    refine bR ?_
    refine sA rfl rfl rfl rfl rfl (ao_nil ?_)
    change BW _ _ _ _ _
    refine bR ?_
    refine sA rfl rfl rfl rfl rfl (ao_nil ?_)
    change BW _ _ _ _ _
    refine bw_ret ?_
    change ∃ xs, _ = some xs ∧ EndOk _ _ _ _
    obtain rfl := Option.some.inj h
    exact ⟨_, rfl, endOk0 (y := (I64 3)) (Wk.refl _) rfl ⟨rfl, rfl⟩⟩
   ·intro hc3; replace h := ocond_f hc3 h
    refine bR ?_
    refine sS rfl rfl rfl (op1_taFloat rfl rfl) ?_
    refine sS rfl rfl rfl (op1_ext rfl rfl rfl) ?_
    refine sS rfl rfl rfl (op1_ext rfl rfl rfl) (ao_nil ?_)
    change BW _ _ _ _ _
    refine bw_cond rfl ?_ ?_
    ·intro hc4; replace h := ocond_t hc4 h
     refine bR ?_
     refine sA rfl rfl rfl rfl rfl (ao_nil ?_)
     change BW _ _ _ _ _
     refine bR ?_
     refine sA rfl rfl rfl rfl rfl (ao_nil ?_)
     change BW _ _ _ _ _
     refine bw_ret ?_
     change ∃ xs, _ = some xs ∧ EndOk _ _ _ _
     obtain rfl := Option.some.inj h
     exact ⟨_, rfl, endOk0 (y := (I64 4)) (Wk.refl _) rfl ⟨rfl, rfl⟩⟩
    ·intro hc4; replace h := ocond_f hc4 h
     refine bR ?_
     refine sS rfl rfl rfl (op1_taText rfl rfl) ?_
     refine sS rfl rfl rfl (op1_ext rfl rfl rfl) ?_
     refine sS rfl rfl rfl (op1_ext rfl rfl rfl) (ao_nil ?_)
     change BW _ _ _ _ _
     refine bw_cond rfl ?_ ?_
     ·intro hc5; replace h := ocond_t hc5 h
      refine bR ?_
      refine sA rfl rfl rfl rfl rfl (ao_nil ?_)
      change BW _ _ _ _ _
      refine bR ?_
      refine sA rfl rfl rfl rfl rfl (ao_nil ?_)
      change BW _ _ _ _ _
      refine bw_ret ?_
      change ∃ xs, _ = some xs ∧ EndOk _ _ _ _
      obtain rfl := Option.some.inj h
      exact ⟨_, rfl, endOk0 (y := (I64 5)) (Wk.refl _) rfl ⟨rfl, rfl⟩⟩
     ·intro hc5; replace h := ocond_f hc5 h
      refine bR ?_
      refine sS rfl rfl rfl (op1_taBytes rfl rfl) ?_
      refine sS rfl rfl rfl (op1_ext rfl rfl rfl) ?_
      refine sS rfl rfl rfl (op1_ext rfl rfl rfl) (ao_nil ?_)
      change BW _ _ _ _ _
      refine bw_cond rfl ?_ ?_
      ·intro hc6; replace h := ocond_t hc6 h
       refine bR ?_
       refine sA rfl rfl rfl rfl rfl (ao_nil ?_)
       change BW _ _ _ _ _
       refine bR ?_
       refine sA rfl rfl rfl rfl rfl (ao_nil ?_)
       change BW _ _ _ _ _
       refine bw_ret ?_
       change ∃ xs, _ = some xs ∧ EndOk _ _ _ _
       obtain rfl := Option.some.inj h
       exact ⟨_, rfl, endOk0 (y := (I64 6)) (Wk.refl _) rfl ⟨rfl, rfl⟩⟩
      ·intro hc6; replace h := ocond_f hc6 h
       refine bR ?_
       refine sS rfl rfl rfl (op1_taRef rfl rfl) ?_
       refine sS rfl rfl rfl (op1_ext rfl rfl rfl) ?_
       refine sS rfl rfl rfl (op1_ext rfl rfl rfl) (ao_nil ?_)
       change BW _ _ _ _ _
       refine bw_cond rfl ?_ ?_
       ·intro hc7; replace h := ocond_t hc7 h
        refine bR ?_
        refine sA rfl rfl rfl rfl rfl (ao_nil ?_)
        change BW _ _ _ _ _
        refine bR ?_
        refine sA rfl rfl rfl rfl rfl (ao_nil ?_)
        change BW _ _ _ _ _
        refine bw_ret ?_
        change ∃ xs, _ = some xs ∧ EndOk _ _ _ _
        obtain rfl := Option.some.inj h
        exact ⟨_, rfl, endOk0 (y := (I64 7)) (Wk.refl _) rfl ⟨rfl, rfl⟩⟩
       ·intro hc7; replace h := ocond_f hc7 h
        refine bR ?_
        refine sS rfl rfl rfl (op1_taList rfl rfl) ?_
        refine sS rfl rfl rfl (op1_ext rfl rfl rfl) ?_
        refine sS rfl rfl rfl (op1_ext rfl rfl rfl) (ao_nil ?_)
        change BW _ _ _ _ _
        refine bw_cond rfl ?_ ?_
        ·intro hc8; replace h := ocond_t hc8 h
         refine bR ?_
         refine sA rfl rfl rfl rfl rfl (ao_nil ?_)
         change BW _ _ _ _ _
         refine bR ?_
         refine sA rfl rfl rfl rfl rfl (ao_nil ?_)
         change BW _ _ _ _ _
         refine bw_ret ?_
         change ∃ xs, _ = some xs ∧ EndOk _ _ _ _
         obtain rfl := Option.some.inj h
         exact ⟨_, rfl, endOk0 (y := (I64 8)) (Wk.refl _) rfl ⟨rfl, rfl⟩⟩
        ·intro hc8; replace h := ocond_f hc8 h
         refine bR ?_
         refine sS rfl rfl rfl (op1_taDict rfl rfl) ?_
         refine sS rfl rfl rfl (op1_ext rfl rfl rfl) ?_
         refine sS rfl rfl rfl (op1_ext rfl rfl rfl) (ao_nil ?_)
         change BW _ _ _ _ _
         refine bw_cond rfl ?_ ?_
         ·intro hc9; replace h := ocond_t hc9 h
          refine bR ?_
          refine sA rfl rfl rfl rfl rfl (ao_nil ?_)
          change BW _ _ _ _ _
          refine bR ?_
          refine sA rfl rfl rfl rfl rfl (ao_nil ?_)
          change BW _ _ _ _ _
          refine bw_ret ?_
          change ∃ xs, _ = some xs ∧ EndOk _ _ _ _
          obtain rfl := Option.some.inj h
          exact ⟨_, rfl, endOk0 (y := (I64 9)) (Wk.refl _) rfl ⟨rfl, rfl⟩⟩
         ·intro hc9; replace h := ocond_f hc9 h
          refine bR ?_
          refine sS rfl rfl rfl (op1_taRec rfl rfl) ?_
          refine sS rfl rfl rfl (op1_ext rfl rfl rfl) ?_
          refine sS rfl rfl rfl (op1_ext rfl rfl rfl) (ao_nil ?_)
          change BW _ _ _ _ _
          refine bw_cond rfl ?_ ?_
          ·intro hc10; replace h := ocond_t hc10 h
           refine bR ?_
           refine sA rfl rfl rfl rfl rfl (ao_nil ?_)
           change BW _ _ _ _ _
           refine bw_seq ?_
           refine bR ?_
           refine sM rfl rfl rfl rfl rfl ?_
           refine sS rfl rfl rfl (op1_pEqNil Try.underlying65 rfl rfl) (ao_nil ?_)
           change BW _ _ _ _ _
           refine bw_cond rfl ?_ ?_
           ·intro hc11; replace h := ocond_t hc11 h
            refine bR ?_
            refine sA rfl rfl rfl rfl rfl (ao_nil ?_)
            change BW _ _ _ _ _
            refine bw_ret ?_
            change ∃ xs, _ = some xs ∧ EndOk _ _ _ _
            obtain rfl := Option.some.inj h
            exact ⟨_, rfl, endOk0 (y := (I64 11)) (Wk.refl _) rfl ⟨rfl, rfl⟩⟩
           ·intro hc11; replace h := ocond_f hc11 h
            refine bw_skip ?_
            change BW _ _ _ _ _
            refine bR ?_
            refine sA rfl rfl rfl rfl rfl (ao_nil ?_)
            change BW _ _ _ _ _
            refine bw_ret ?_
            change ∃ xs, _ = some xs ∧ EndOk _ _ _ _
            obtain rfl := Option.some.inj h
            exact ⟨_, rfl, endOk0 (y := (I64 10)) (Wk.refl _) rfl ⟨rfl, rfl⟩⟩
          ·intro hc10; replace h := ocond_f hc10 h
           refine bw_skip ?_
           change BW _ _ _ _ _
           refine bR ?_
           refine sA rfl rfl rfl rfl rfl (ao_nil ?_)
           change BW _ _ _ _ _
           refine bw_ret ?_
           change ∃ xs, _ = some xs ∧ EndOk _ _ _ _
           obtain rfl := Option.some.inj h
           exact ⟨_, rfl, endOk0 (y := (I64 0)) (Wk.refl _) rfl ⟨rfl, rfl⟩⟩
noncomputable def value_name_j2 (g1 : Nat → Option Bool) (s4 : Nat) (s8 : Bool) : Option Bool :=
 bif s8 then (
  some false
 ) else (
  g1 (s4 + 1)
 )
theorem value_name_j2_cm {ι : Type} {ρ : ι → Type} (g1 : (∀ i, Option (ρ i)) → Nat → Option Bool) (h_g1 : ∀ y0, CM (fun G => g1 G y0)) (s4 : Nat) (s8 : Bool) : CM (fun G : (∀ i, Option (ρ i)) => value_name_j2 (g1 G) s4 s8) := by
 simp only [value_name_j2]
 repeat (first | exact cm_const | exact h_g1 _ | refine cm_cond ?_ ?_ | refine cm_bind ?_ (fun _ => ?_))
noncomputable def value_name_l1b (a0 : Str) (g1 : Nat → Option Bool) (s4 : Nat) : Option Bool :=
 bif (decide (((s4 : Nat) : Int) < (((a0).length : Nat) : Int))) then (
  Option.bind ((a0)[s4]?) fun x7 =>
  bif (decide (((x7).toNat : Int) < (((97 : UInt8)).toNat : Int))) then (
   bif (decide (((x7).toNat : Int) < (((48 : UInt8)).toNat : Int))) then (
    value_name_j2 g1 s4 (((x7).toNat : Int) != (((95 : UInt8)).toNat : Int))
   ) else (
    bif (decide (((x7).toNat : Int) > (((57 : UInt8)).toNat : Int))) then (
     value_name_j2 g1 s4 (((x7).toNat : Int) != (((95 : UInt8)).toNat : Int))
    ) else (
     value_name_j2 g1 s4 false
    )
   )
  ) else (
   bif (decide (((x7).toNat : Int) > (((122 : UInt8)).toNat : Int))) then (
    bif (decide (((x7).toNat : Int) < (((48 : UInt8)).toNat : Int))) then (
     value_name_j2 g1 s4 (((x7).toNat : Int) != (((95 : UInt8)).toNat : Int))
    ) else (
     bif (decide (((x7).toNat : Int) > (((57 : UInt8)).toNat : Int))) then (
      value_name_j2 g1 s4 (((x7).toNat : Int) != (((95 : UInt8)).toNat : Int))
     ) else (
      value_name_j2 g1 s4 false
     )
    )
   ) else (
    value_name_j2 g1 s4 false
   )
  )
 ) else (
  some true
 )
theorem value_name_l1b_cm {ι : Type} {ρ : ι → Type} (g1 : (∀ i, Option (ρ i)) → Nat → Option Bool) (h_g1 : ∀ y0, CM (fun G => g1 G y0)) (a0 : Str) (s4 : Nat) : CM (fun G : (∀ i, Option (ρ i)) => value_name_l1b a0 (g1 G) s4) := by
 simp only [value_name_l1b]
 repeat (first | exact cm_const | exact h_g1 _ | apply value_name_j2_cm | refine cm_cond ?_ ?_ | refine cm_bind ?_ (fun _ => ?_) | intro _ | assumption)
noncomputable def value_name_l1 (a0 : Str) (s4 : Nat) : Option Bool :=
 fixO (ι := Nat) (ρ := fun _ => Bool) (fun g i => value_name_l1b a0 (fun s4 => g s4) i) s4
theorem value_name_l1_eq (a0 : Str) (s4 : Nat) : value_name_l1 a0 s4 = value_name_l1b a0 (value_name_l1 a0) s4 :=
 fixO_eq (ι := Nat) (ρ := fun _ => Bool) (Φ := fun g i => value_name_l1b a0 (fun s4 => g s4) i) (fun i => value_name_l1b_cm (ι := Nat) (ρ := fun _ => Bool) (fun g => (fun s4 => g s4)) (fun _ => cm_app) a0 i) s4
noncomputable def value_name_j1 (a0 : Str) (s1 : Bool) : Option Bool :=
 bif s1 then (
  some false
 ) else (
  Option.bind (smallO (a0).length) fun x3 =>
  value_name_l1 a0 0
 )
noncomputable def p_value_name (a0 : Str) : Option Bool :=
 bif (a0 == ([] : Str)) then (
  value_name_j1 a0 true
 ) else (
  bif (decide ((((a0).length : Nat) : Int) > 32)) then (
   value_name_j1 a0 true
  ) else (
   Option.bind ((a0)[0]?) fun x18 =>
   bif (decide (((x18).toNat : Int) < (((97 : UInt8)).toNat : Int))) then (
    value_name_j1 a0 true
   ) else (
    Option.bind ((a0)[0]?) fun x20 =>
    value_name_j1 a0 (decide (((x20).toNat : Int) > (((122 : UInt8)).toNat : Int)))
   )
  )
 )
theorem s_value_name (a0 : Str) (r : Bool) (h : p_value_name a0 = some r) : PCalls Try.prog 79 [(ofStr a0)] (BO r) := by
 unfold p_value_name at h
 refine acalls_of Try.func79 rfl Try.ntmps79 Try.results79 rfl (aw_of_bw ?_)
 change BW _ _ _ ⟨[(0, (ofStr a0))], [], _⟩ _
 refine bR ?_
 refine sA rfl rfl rfl rfl rfl (ao_nil ?_)
 change BW _ _ _ _ _
 refine bw_seq ?_
 refine bw_seqJ (ι := Bool) (fun i => value_name_j1 a0 i = some r) (fun i => [(0, (ofStr a0)), (21, (BO i))]) (fun i => []) ?_ ?_ ?_
 ·intro i; exact ⟨Nat.le_of_ble_eq_true rfl, ⟨(il_nil rfl), ⟨(il_nil rfl), trivial⟩⟩, trivial⟩
 ·rintro s1 h; replace h : value_name_j1 a0 s1 = some r := h; unfold value_name_j1 at h
  change BW _ _ _ ⟨[(0, (ofStr a0)), (21, (BO s1))], [], _⟩ _
  refine bw_cond rfl ?_ ?_
  ·intro hc2; replace h := ocond_t hc2 h
   refine bR ?_
   refine sA rfl rfl rfl rfl rfl (ao_nil ?_)
   change BW _ _ _ _ _
   refine bw_ret ?_
   change ∃ xs, _ = some xs ∧ EndOk _ _ _ _
   obtain rfl := Option.some.inj h
   exact ⟨_, rfl, endOk0 (y := (BO false)) (Wk.refl _) rfl ⟨rfl, rfl⟩⟩
  ·intro hc2; replace h := ocond_f hc2 h
   refine bw_skip ?_
   change BW _ _ _ _ _
   refine bw_seq ?_
   refine bR ?_
   refine sM rfl rfl rfl rfl rfl ?_
   obtain ⟨x3, hx3, h⟩ := obind h
   refine sS rfl rfl rfl (op1_fromT Try.underlying9 Try.underlying23 Try.underlying5 rfl rfl hx3) ?_
   refine sS rfl rfl rfl (op1_lenM Try.underlying23 rfl rfl) ?_
   refine sM rfl rfl rfl rfl rfl (ao_nil ?_)
   change BW _ _ _ _ _
   refine bw_block ?_
   change BW _ _ _ _ _
   unfold value_name_l1 at h
   refine bw_loop (σ := Nat) (fun i => [(23, (PV.sl none 1 (List.map ofB a0))), (24, (I64 ((((a0).length : Nat) : Int)))), (25, (I64 (((i : Nat) : Int))))]) (fun i => []) 0 h ?_ ?_ ?_
   ·intro i; exact ⟨Nat.le_of_ble_eq_true rfl, ⟨(il_nil (ids_slM (fun _ => rfl) _)), ⟨(il_nil rfl), ⟨(il_nil rfl), trivial⟩⟩⟩, trivial⟩
   ·exact ⟨.nil, (sC rfl (sC rfl (sC rfl sub_nil)))⟩
   ·rintro g1_f s4 h; replace h : value_name_l1b a0 (fun y0 => g1_f y0) s4 = some r := h; unfold value_name_l1b at h
    change BW _ _ _ ⟨[(23, (PV.sl none 1 (List.map ofB a0))), (24, (I64 ((((a0).length : Nat) : Int)))), (25, (I64 (((s4 : Nat) : Int))))], [], _⟩ _
    refine bR ?_
    refine sS rfl rfl rfl ((op1_cmp rfl rfl rfl rfl).cast (y := (BO ((decide (((s4 : Nat) : Int) < (((a0).length : Nat) : Int)))))) rfl rfl) (ao_nil ?_)
    change BW _ _ _ _ _
    refine bw_seq ?_
    refine bw_len (t := 23) rfl fun hb6 => ?_
    try rw [List.length_map] at hb6
    refine bw_cond rfl ?_ ?_
    ·intro hc5; replace h := ocond_t hc5 h
     have hc5_ := of_decide_eq_true hc5
     refine bw_skip ?_
     change BW _ _ _ _ _
     refine bw_seq ?_
     refine bw_block ?_
     change BW _ _ _ _ _
     refine bR ?_
     obtain ⟨x7, hx7, h⟩ := obind h
     refine sS rfl rfl rfl (op1_idxN (i := s4) Try.underlying23 inf_5 rfl rfl rfl hx7 rfl) ?_
     refine sS rfl rfl rfl (op1_ldP (y := (ofB x7)) Try.underlying5 rfl rfl rfl rfl) ?_
     refine sA rfl rfl rfl rfl rfl (ao_nil ?_)
     change BW _ _ _ _ _
     refine bw_seqJ (ι := Bool) (fun i => value_name_j2 (fun y0 => g1_f y0) s4 i = some r) (fun i => [(23, (PV.sl none 1 (List.map ofB a0))), (24, (I64 ((((a0).length : Nat) : Int)))), (25, (I64 (((s4 : Nat) : Int)))), (46, (BO i))]) (fun i => []) ?_ ?_ ?_
     ·intro i; exact ⟨Nat.le_of_ble_eq_true rfl, ⟨(il_nil (ids_slM (fun _ => rfl) _)), ⟨(il_nil rfl), ⟨(il_nil rfl), ⟨(il_nil rfl), trivial⟩⟩⟩⟩, trivial⟩
     ·rintro s8 h; replace h : value_name_j2 (fun y0 => g1_f y0) s4 s8 = some r := h; unfold value_name_j2 at h
      change BW _ _ _ ⟨[(23, (PV.sl none 1 (List.map ofB a0))), (24, (I64 ((((a0).length : Nat) : Int)))), (25, (I64 (((s4 : Nat) : Int)))), (46, (BO s8))], [], _⟩ _
      refine bw_cond rfl ?_ ?_
      ·intro hc9; replace h := ocond_t hc9 h
       refine bR ?_
       refine sA rfl rfl rfl rfl rfl (ao_nil ?_)
       change BW _ _ _ _ _
       refine bw_ret ?_
       change ∃ xs, _ = some xs ∧ EndOk _ _ _ _
       obtain rfl := Option.some.inj h
       exact ⟨_, rfl, endOk0 (y := (BO false)) (Wk.refl _) rfl ⟨rfl, rfl⟩⟩
      ·intro hc9; replace h := ocond_f hc9 h
       refine bw_skip ?_
       change BW _ _ _ _ _
       refine bw_region ?_
       refine sS rfl rfl rfl (op1_incN (k := s4) (c := 1) rfl rfl rfl (by omega)) ?_
       refine sM rfl rfl rfl rfl rfl (ao_nil ?_)
       exact ⟨rfl, (s4 + 1), h, ⟨.nil, (sC rfl (sC rfl (sC rfl sub_nil)))⟩⟩
     ·refine bw_region ?_
      refine sM rfl rfl rfl rfl rfl ?_
      refine sS rfl rfl rfl ((op1_cmp rfl rfl rfl rfl).cast (y := (BO ((decide (((x7).toNat : Int) < (((97 : UInt8)).toNat : Int)))))) rfl rfl) ?_
      refine sM rfl rfl rfl rfl rfl ?_
      refine ao_cases (t := 31) rfl ?_ ?_
      ·intro hb10; replace h := ocond_t hb10 h
       refine ao_no rfl rfl rfl rfl rfl rfl ?_
       refine ao_no rfl rfl rfl rfl rfl rfl ?_
       refine sS rfl rfl rfl (op1_pickT rfl rfl rfl) ?_
       refine sM rfl rfl rfl rfl rfl ?_
       refine ao_yes rfl rfl rfl rfl rfl rfl (op1_move rfl rfl) ?_
       refine ao_yes rfl rfl rfl rfl rfl rfl ((op1_cmp rfl rfl rfl rfl).cast (y := (BO ((decide (((x7).toNat : Int) < (((48 : UInt8)).toNat : Int)))))) rfl rfl) ?_
       refine ao_yes rfl rfl rfl rfl rfl rfl (op1_move rfl rfl) ?_
       refine ao_cases (t := 38) rfl ?_ ?_
       ·intro hb11; replace h := ocond_t hb11 h
        refine ao_no rfl rfl rfl rfl rfl rfl ?_
        refine ao_no rfl rfl rfl rfl rfl rfl ?_
        refine ao_yes rfl rfl rfl rfl rfl rfl (op1_pickT rfl rfl rfl) ?_
        refine sS rfl rfl rfl (op1_pickT rfl rfl rfl) ?_
        refine sM rfl rfl rfl rfl rfl ?_
        refine ao_yes rfl rfl rfl rfl rfl rfl (op1_move rfl rfl) ?_
        refine ao_yes rfl rfl rfl rfl rfl rfl ((op1_cmp rfl rfl rfl rfl).cast (y := (BO ((((x7).toNat : Int) != (((95 : UInt8)).toNat : Int))))) rfl rfl) ?_
        refine sS rfl rfl rfl (op1_pickT rfl rfl rfl) (ao_nil ?_)
        exact ⟨rfl, (((x7).toNat : Int) != (((95 : UInt8)).toNat : Int)), h, ⟨.nil, (sC rfl (sC rfl (sC rfl (sC rfl sub_nil))))⟩⟩
       ·intro hb11; replace h := ocond_f hb11 h
        refine ao_yes rfl rfl rfl rfl rfl rfl (op1_move rfl rfl) ?_
        refine ao_yes rfl rfl rfl rfl rfl rfl ((op1_cmp rfl rfl rfl rfl).cast (y := (BO ((decide (((x7).toNat : Int) > (((57 : UInt8)).toNat : Int)))))) rfl rfl) ?_
        refine ao_yes rfl rfl rfl rfl rfl rfl (op1_pickF rfl rfl rfl) ?_
        refine sS rfl rfl rfl (op1_pickT rfl rfl rfl) ?_
        refine sM rfl rfl rfl rfl rfl ?_
        refine ao_cases (t := 43) rfl ?_ ?_
        ·intro hb12; replace h := ocond_t hb12 h
         refine ao_yes rfl rfl rfl rfl rfl rfl (op1_move rfl rfl) ?_
         refine ao_yes rfl rfl rfl rfl rfl rfl ((op1_cmp rfl rfl rfl rfl).cast (y := (BO ((((x7).toNat : Int) != (((95 : UInt8)).toNat : Int))))) rfl rfl) ?_
         refine sS rfl rfl rfl (op1_pickT rfl rfl rfl) (ao_nil ?_)
         exact ⟨rfl, (((x7).toNat : Int) != (((95 : UInt8)).toNat : Int)), h, ⟨.nil, (sC rfl (sC rfl (sC rfl (sC rfl sub_nil))))⟩⟩
        ·intro hb12; replace h := ocond_f hb12 h
         refine ao_no rfl rfl rfl rfl rfl rfl ?_
         refine ao_no rfl rfl rfl rfl rfl rfl ?_
         refine sS rfl rfl rfl (op1_pickF rfl rfl rfl) (ao_nil ?_)
         exact ⟨rfl, false, h, ⟨.nil, (sC rfl (sC rfl (sC rfl (sC rfl sub_nil))))⟩⟩
      ·intro hb10; replace h := ocond_f hb10 h
       refine ao_yes rfl rfl rfl rfl rfl rfl (op1_move rfl rfl) ?_
       refine ao_yes rfl rfl rfl rfl rfl rfl ((op1_cmp rfl rfl rfl rfl).cast (y := (BO ((decide (((x7).toNat : Int) > (((122 : UInt8)).toNat : Int)))))) rfl rfl) ?_
       refine sS rfl rfl rfl (op1_pickF rfl rfl rfl) ?_
       refine sM rfl rfl rfl rfl rfl ?_
       refine ao_cases (t := 35) rfl ?_ ?_
       ·intro hb13; replace h := ocond_t hb13 h
        refine ao_yes rfl rfl rfl rfl rfl rfl (op1_move rfl rfl) ?_
        refine ao_yes rfl rfl rfl rfl rfl rfl ((op1_cmp rfl rfl rfl rfl).cast (y := (BO ((decide (((x7).toNat : Int) < (((48 : UInt8)).toNat : Int)))))) rfl rfl) ?_
        refine ao_yes rfl rfl rfl rfl rfl rfl (op1_move rfl rfl) ?_
        refine ao_cases (t := 38) rfl ?_ ?_
        ·intro hb14; replace h := ocond_t hb14 h
         refine ao_no rfl rfl rfl rfl rfl rfl ?_
         refine ao_no rfl rfl rfl rfl rfl rfl ?_
         refine ao_yes rfl rfl rfl rfl rfl rfl (op1_pickT rfl rfl rfl) ?_
         refine sS rfl rfl rfl (op1_pickT rfl rfl rfl) ?_
         refine sM rfl rfl rfl rfl rfl ?_
         refine ao_yes rfl rfl rfl rfl rfl rfl (op1_move rfl rfl) ?_
         refine ao_yes rfl rfl rfl rfl rfl rfl ((op1_cmp rfl rfl rfl rfl).cast (y := (BO ((((x7).toNat : Int) != (((95 : UInt8)).toNat : Int))))) rfl rfl) ?_
         refine sS rfl rfl rfl (op1_pickT rfl rfl rfl) (ao_nil ?_)
         exact ⟨rfl, (((x7).toNat : Int) != (((95 : UInt8)).toNat : Int)), h, ⟨.nil, (sC rfl (sC rfl (sC rfl (sC rfl sub_nil))))⟩⟩
        ·intro hb14; replace h := ocond_f hb14 h
         refine ao_yes rfl rfl rfl rfl rfl rfl (op1_move rfl rfl) ?_
         refine ao_yes rfl rfl rfl rfl rfl rfl ((op1_cmp rfl rfl rfl rfl).cast (y := (BO ((decide (((x7).toNat : Int) > (((57 : UInt8)).toNat : Int)))))) rfl rfl) ?_
         refine ao_yes rfl rfl rfl rfl rfl rfl (op1_pickF rfl rfl rfl) ?_
         refine sS rfl rfl rfl (op1_pickT rfl rfl rfl) ?_
         refine sM rfl rfl rfl rfl rfl ?_
         refine ao_cases (t := 43) rfl ?_ ?_
         ·intro hb15; replace h := ocond_t hb15 h
          refine ao_yes rfl rfl rfl rfl rfl rfl (op1_move rfl rfl) ?_
          refine ao_yes rfl rfl rfl rfl rfl rfl ((op1_cmp rfl rfl rfl rfl).cast (y := (BO ((((x7).toNat : Int) != (((95 : UInt8)).toNat : Int))))) rfl rfl) ?_
          refine sS rfl rfl rfl (op1_pickT rfl rfl rfl) (ao_nil ?_)
          exact ⟨rfl, (((x7).toNat : Int) != (((95 : UInt8)).toNat : Int)), h, ⟨.nil, (sC rfl (sC rfl (sC rfl (sC rfl sub_nil))))⟩⟩
         ·intro hb15; replace h := ocond_f hb15 h
          refine ao_no rfl rfl rfl rfl rfl rfl ?_
          refine ao_no rfl rfl rfl rfl rfl rfl ?_
          refine sS rfl rfl rfl (op1_pickF rfl rfl rfl) (ao_nil ?_)
          exact ⟨rfl, false, h, ⟨.nil, (sC rfl (sC rfl (sC rfl (sC rfl sub_nil))))⟩⟩
       ·intro hb13; replace h := ocond_f hb13 h
        refine ao_no rfl rfl rfl rfl rfl rfl ?_
        refine ao_no rfl rfl rfl rfl rfl rfl ?_
        refine ao_no rfl rfl rfl rfl rfl rfl ?_
        refine ao_no rfl rfl rfl rfl rfl rfl ?_
        refine ao_no rfl rfl rfl rfl rfl rfl ?_
        refine ao_no rfl rfl rfl rfl rfl rfl ?_
        refine sS rfl rfl rfl (op1_pickF rfl rfl rfl) ?_
        refine sM rfl rfl rfl rfl rfl ?_
        refine ao_no rfl rfl rfl rfl rfl rfl ?_
        refine ao_no rfl rfl rfl rfl rfl rfl ?_
        refine sS rfl rfl rfl (op1_pickF rfl rfl rfl) (ao_nil ?_)
        exact ⟨rfl, false, h, ⟨.nil, (sC rfl (sC rfl (sC rfl (sC rfl sub_nil))))⟩⟩
    ·intro hc5; replace h := ocond_f hc5 h
     refine bw_exit ?_
     change BW _ _ _ _ _
     refine bR ?_
     refine sA rfl rfl rfl rfl rfl (ao_nil ?_)
     change BW _ _ _ _ _
     refine bw_ret ?_
     change ∃ xs, _ = some xs ∧ EndOk _ _ _ _
     obtain rfl := Option.some.inj h
     exact ⟨_, rfl, endOk0 (y := (BO true)) (Wk.refl _) rfl ⟨rfl, rfl⟩⟩
 ·refine bw_region ?_
  refine sM rfl rfl rfl rfl rfl ?_
  refine sS rfl rfl rfl ((op1_cmpT (a := a0) (b := ([] : Str)) rfl rfl rfl rfl).cast (y := (BO ((a0 == ([] : Str))))) rfl rfl) ?_
  refine sM rfl rfl rfl rfl rfl ?_
  refine ao_cases (t := 7) rfl ?_ ?_
  ·intro hb16; replace h := ocond_t hb16 h
   refine ao_no rfl rfl rfl rfl rfl rfl ?_
   refine ao_no rfl rfl rfl rfl rfl rfl ?_
   refine ao_no rfl rfl rfl rfl rfl rfl ?_
   refine sS rfl rfl rfl (op1_pickT rfl rfl rfl) ?_
   refine sM rfl rfl rfl rfl rfl ?_
   refine ao_no rfl rfl rfl rfl rfl rfl ?_
   refine ao_no rfl rfl rfl rfl rfl rfl ?_
   refine ao_no rfl rfl rfl rfl rfl rfl ?_
   refine sS rfl rfl rfl (op1_pickT rfl rfl rfl) ?_
   refine sM rfl rfl rfl rfl rfl ?_
   refine ao_no rfl rfl rfl rfl rfl rfl ?_
   refine ao_no rfl rfl rfl rfl rfl rfl ?_
   refine ao_no rfl rfl rfl rfl rfl rfl ?_
   refine sS rfl rfl rfl (op1_pickT rfl rfl rfl) (ao_nil ?_)
   exact ⟨rfl, true, h, ⟨.nil, (sC rfl (sC rfl sub_nil))⟩⟩
  ·intro hb16; replace h := ocond_f hb16 h
   refine ao_yes rfl rfl rfl rfl rfl rfl (op1_move rfl rfl) ?_
   refine ao_yes rfl rfl rfl rfl rfl rfl (op1_lenT (s := a0) Try.underlying9 rfl rfl) ?_
   refine ao_yes rfl rfl rfl rfl rfl rfl ((op1_cmp rfl rfl rfl rfl).cast (y := (BO ((decide ((((a0).length : Nat) : Int) > 32))))) rfl rfl) ?_
   refine sS rfl rfl rfl (op1_pickF rfl rfl rfl) ?_
   refine sM rfl rfl rfl rfl rfl ?_
   refine ao_cases (t := 12) rfl ?_ ?_
   ·intro hb17; replace h := ocond_t hb17 h
    refine ao_no rfl rfl rfl rfl rfl rfl ?_
    refine ao_no rfl rfl rfl rfl rfl rfl ?_
    refine ao_no rfl rfl rfl rfl rfl rfl ?_
    refine sS rfl rfl rfl (op1_pickT rfl rfl rfl) ?_
    refine sM rfl rfl rfl rfl rfl ?_
    refine ao_no rfl rfl rfl rfl rfl rfl ?_
    refine ao_no rfl rfl rfl rfl rfl rfl ?_
    refine ao_no rfl rfl rfl rfl rfl rfl ?_
    refine sS rfl rfl rfl (op1_pickT rfl rfl rfl) (ao_nil ?_)
    exact ⟨rfl, true, h, ⟨.nil, (sC rfl (sC rfl sub_nil))⟩⟩
   ·intro hb17; replace h := ocond_f hb17 h
    refine ao_yes rfl rfl rfl rfl rfl rfl (op1_move rfl rfl) ?_
    obtain ⟨x18, hx18, h⟩ := obind h
    refine ao_yes rfl rfl rfl rfl rfl rfl (op1_idxTN (s := a0) (i := 0) Try.underlying9 rfl rfl rfl hx18) ?_
    refine ao_yes rfl rfl rfl rfl rfl rfl ((op1_cmp rfl rfl rfl rfl).cast (y := (BO ((decide (((x18).toNat : Int) < (((97 : UInt8)).toNat : Int)))))) rfl rfl) ?_
    refine sS rfl rfl rfl (op1_pickF rfl rfl rfl) ?_
    refine sM rfl rfl rfl rfl rfl ?_
    refine ao_cases (t := 17) rfl ?_ ?_
    ·intro hb19; replace h := ocond_t hb19 h
     refine ao_no rfl rfl rfl rfl rfl rfl ?_
     refine ao_no rfl rfl rfl rfl rfl rfl ?_
     refine ao_no rfl rfl rfl rfl rfl rfl ?_
     refine sS rfl rfl rfl (op1_pickT rfl rfl rfl) (ao_nil ?_)
     exact ⟨rfl, true, h, ⟨.nil, (sC rfl (sC rfl sub_nil))⟩⟩
    ·intro hb19; replace h := ocond_f hb19 h
     refine ao_yes rfl rfl rfl rfl rfl rfl (op1_move rfl rfl) ?_
     obtain ⟨x20, hx20, h⟩ := obind h
     refine ao_yes rfl rfl rfl rfl rfl rfl (op1_idxTN (s := a0) (i := 0) Try.underlying9 rfl rfl rfl hx20) ?_
     refine ao_yes rfl rfl rfl rfl rfl rfl ((op1_cmp rfl rfl rfl rfl).cast (y := (BO ((decide (((x20).toNat : Int) > (((122 : UInt8)).toNat : Int)))))) rfl rfl) ?_
     refine sS rfl rfl rfl (op1_pickF rfl rfl rfl) (ao_nil ?_)
     exact ⟨rfl, (decide (((x20).toNat : Int) > (((122 : UInt8)).toNat : Int))), h, ⟨.nil, (sC rfl (sC rfl sub_nil))⟩⟩
noncomputable def value_fields_j1 (g1 : Nat → Option Int) (s2 : Nat) (s6 : Bool) : Option Int :=
 bif s6 then (
  some 8
 ) else (
  g1 (s2 + 1)
 )
theorem value_fields_j1_cm {ι : Type} {ρ : ι → Type} (g1 : (∀ i, Option (ρ i)) → Nat → Option Int) (h_g1 : ∀ y0, CM (fun G => g1 G y0)) (s2 : Nat) (s6 : Bool) : CM (fun G : (∀ i, Option (ρ i)) => value_fields_j1 (g1 G) s2 s6) := by
 simp only [value_fields_j1]
 repeat (first | exact cm_const | exact h_g1 _ | refine cm_cond ?_ ?_ | refine cm_bind ?_ (fun _ => ?_))
noncomputable def value_fields_l1b (a0 : (List (Str × V))) (g1 : Nat → Option Int) (s2 : Nat) : Option Int :=
 bif (decide (((s2 : Nat) : Int) < (((a0).length : Nat) : Int))) then (
  Option.bind ((a0)[s2]?) fun x5 =>
  Option.bind (p_value_name x5.1) fun x8 =>
  bif (!x8) then (
   value_fields_j1 g1 s2 true
  ) else (
   bif (decide (((s2 : Nat) : Int) > 0)) then (
    Option.bind (idxI a0 (IntKind.i64.wrap (((s2 : Nat) : Int) - 1))) fun x11 =>
    value_fields_j1 g1 s2 (Op.bytesLess x5.1 x11.1 || x5.1 == x11.1)
   ) else (
    value_fields_j1 g1 s2 false
   )
  )
 ) else (
  some 0
 )
theorem value_fields_l1b_cm {ι : Type} {ρ : ι → Type} (g1 : (∀ i, Option (ρ i)) → Nat → Option Int) (h_g1 : ∀ y0, CM (fun G => g1 G y0)) (a0 : (List (Str × V))) (s2 : Nat) : CM (fun G : (∀ i, Option (ρ i)) => value_fields_l1b a0 (g1 G) s2) := by
 simp only [value_fields_l1b]
 repeat (first | exact cm_const | exact h_g1 _ | apply value_fields_j1_cm | refine cm_cond ?_ ?_ | refine cm_bind ?_ (fun _ => ?_) | intro _ | assumption)
noncomputable def value_fields_l1 (a0 : (List (Str × V))) (s2 : Nat) : Option Int :=
 fixO (ι := Nat) (ρ := fun _ => Int) (fun g i => value_fields_l1b a0 (fun s2 => g s2) i) s2
theorem value_fields_l1_eq (a0 : (List (Str × V))) (s2 : Nat) : value_fields_l1 a0 s2 = value_fields_l1b a0 (value_fields_l1 a0) s2 :=
 fixO_eq (ι := Nat) (ρ := fun _ => Int) (Φ := fun g i => value_fields_l1b a0 (fun s2 => g s2) i) (fun i => value_fields_l1b_cm (ι := Nat) (ρ := fun _ => Int) (fun g => (fun s2 => g s2)) (fun _ => cm_app) a0 i) s2
noncomputable def p_value_fields (a0 : (List (Str × V))) : Option Int :=
 bif (decide ((((a0).length : Nat) : Int) > 4096)) then (
  some 2
 ) else (
  value_fields_l1 a0 0
 )
theorem s_value_fields (a0 : (List (Str × V))) (r : Int) (h : p_value_fields a0 = some r) : PCalls Try.prog 78 [(PV.sl none 2 (List.map ofFld a0))] (I64 r) := by
 unfold p_value_fields at h
 refine acalls_of Try.func78 rfl Try.ntmps78 Try.results78 rfl (aw_of_bw ?_)
 change BW _ _ _ ⟨[(0, (PV.sl none 2 (List.map ofFld a0)))], [], _⟩ _
 refine bR ?_
 refine sA rfl rfl rfl rfl rfl (ao_nil ?_)
 change BW _ _ _ _ _
 refine bw_seq ?_
 refine bR ?_
 refine sM rfl rfl rfl rfl rfl ?_
 refine sS rfl rfl rfl (op1_lenM Try.underlying63 rfl rfl) ?_
 refine sS rfl rfl rfl ((op1_cmp rfl rfl rfl rfl).cast (y := (BO ((decide ((((a0).length : Nat) : Int) > 4096))))) rfl rfl) (ao_nil ?_)
 change BW _ _ _ _ _
 refine bw_cond rfl ?_ ?_
 ·intro hc1; replace h := ocond_t hc1 h
  refine bR ?_
  refine sA rfl rfl rfl rfl rfl (ao_nil ?_)
  change BW _ _ _ _ _
  refine bw_ret ?_
  change ∃ xs, _ = some xs ∧ EndOk _ _ _ _
  obtain rfl := Option.some.inj h
  exact ⟨_, rfl, endOk0 (y := (I64 2)) (Wk.refl _) rfl ⟨rfl, rfl⟩⟩
 ·intro hc1; replace h := ocond_f hc1 h
  refine bw_skip ?_
  change BW _ _ _ _ _
  refine bw_seq ?_
  refine bR ?_
  refine sM rfl rfl rfl rfl rfl ?_
  refine sS rfl rfl rfl (op1_lenM Try.underlying63 rfl rfl) ?_
  refine sM rfl rfl rfl rfl rfl (ao_nil ?_)
  change BW _ _ _ _ _
  refine bw_block ?_
  change BW _ _ _ _ _
  unfold value_fields_l1 at h
  refine bw_loop (σ := Nat) (fun i => [(0, (PV.sl none 2 (List.map ofFld a0))), (8, (PV.sl none 2 (List.map ofFld a0))), (9, (I64 ((((a0).length : Nat) : Int)))), (10, (I64 (((i : Nat) : Int))))]) (fun i => []) 0 h ?_ ?_ ?_
  ·intro i; exact ⟨Nat.le_of_ble_eq_true rfl, ⟨(il_nil (ids_slM ids_Fld _)), ⟨(il_nil (ids_slM ids_Fld _)), ⟨(il_nil rfl), ⟨(il_nil rfl), trivial⟩⟩⟩⟩, trivial⟩
  ·exact ⟨.nil, (sC rfl (sC rfl (sC rfl (sC rfl sub_nil))))⟩
  ·rintro g1_f s2 h; replace h : value_fields_l1b a0 (fun y0 => g1_f y0) s2 = some r := h; unfold value_fields_l1b at h
   change BW _ _ _ ⟨[(0, (PV.sl none 2 (List.map ofFld a0))), (8, (PV.sl none 2 (List.map ofFld a0))), (9, (I64 ((((a0).length : Nat) : Int)))), (10, (I64 (((s2 : Nat) : Int))))], [], _⟩ _
   refine bR ?_
   refine sS rfl rfl rfl ((op1_cmp rfl rfl rfl rfl).cast (y := (BO ((decide (((s2 : Nat) : Int) < (((a0).length : Nat) : Int)))))) rfl rfl) (ao_nil ?_)
   change BW _ _ _ _ _
   refine bw_seq ?_
   refine bw_len (t := 8) rfl fun hb4 => ?_
   try rw [List.length_map] at hb4
   refine bw_cond rfl ?_ ?_
   ·intro hc3; replace h := ocond_t hc3 h
    have hc3_ := of_decide_eq_true hc3
    refine bw_skip ?_
    change BW _ _ _ _ _
    refine bw_seq ?_
    refine bw_block ?_
    change BW _ _ _ _ _
    refine bR ?_
    refine sM rfl rfl rfl rfl rfl ?_
    obtain ⟨x5, hx5, h⟩ := obind h
    refine sS rfl rfl rfl (op1_idxN (i := s2) Try.underlying63 inf_88 rfl rfl rfl hx5 rfl) ?_
    refine sS rfl rfl rfl (op1_ldPW inf_88 Try.underlying88 rfl rfl rfl rfl rfl) ?_
    refine sS rfl rfl rfl ((op1_alloc inf_88 rfl).cast (H'' := [.box 88 [(ofStr []), (ofV V.nil)]]) rfl (by simp only [mk_nil]; rfl)) ?_
    refine sA rfl rfl rfl rfl rfl ?_
    refine ao_step0 rfl rfl (op1_store inf_88 rfl rfl rfl rfl rfl rfl (Nat.le_of_ble_eq_true rfl) (by show List.all [(ofStr x5.1), (ofV x5.2)] one1 = true; simp only [List.all_cons, List.all_nil, one_V, one_RecP, Bool.and_true, Bool.true_and]; try rfl)) ?_
    refine ao_nil ?_
    change BW _ _ _ _ _
    refine bw_seqJ (ι := Bool) (fun i => value_fields_j1 (fun y0 => g1_f y0) s2 i = some r) (fun i => [(0, (PV.sl none 2 (List.map ofFld a0))), (8, (PV.sl none 2 (List.map ofFld a0))), (9, (I64 ((((a0).length : Nat) : Int)))), (10, (I64 (((s2 : Nat) : Int)))), (33, (BO i))]) (fun i => []) ?_ ?_ ?_
    ·intro i; exact ⟨Nat.le_of_ble_eq_true rfl, ⟨(il_nil (ids_slM ids_Fld _)), ⟨(il_nil (ids_slM ids_Fld _)), ⟨(il_nil rfl), ⟨(il_nil rfl), ⟨(il_nil rfl), trivial⟩⟩⟩⟩⟩, trivial⟩
    ·rintro s6 h; replace h : value_fields_j1 (fun y0 => g1_f y0) s2 s6 = some r := h; unfold value_fields_j1 at h
     change BW _ _ _ ⟨[(0, (PV.sl none 2 (List.map ofFld a0))), (8, (PV.sl none 2 (List.map ofFld a0))), (9, (I64 ((((a0).length : Nat) : Int)))), (10, (I64 (((s2 : Nat) : Int)))), (33, (BO s6))], [], _⟩ _
     refine bw_cond rfl ?_ ?_
     ·intro hc7; replace h := ocond_t hc7 h
      refine bR ?_
      refine sA rfl rfl rfl rfl rfl (ao_nil ?_)
      change BW _ _ _ _ _
      refine bw_ret ?_
      change ∃ xs, _ = some xs ∧ EndOk _ _ _ _
      obtain rfl := Option.some.inj h
      exact ⟨_, rfl, endOk0 (y := (I64 8)) (Wk.refl _) rfl ⟨rfl, rfl⟩⟩
     ·intro hc7; replace h := ocond_f hc7 h
      refine bw_skip ?_
      change BW _ _ _ _ _
      refine bw_region ?_
      refine sS rfl rfl rfl (op1_incN (k := s2) (c := 1) rfl rfl rfl (by omega)) ?_
      refine sM rfl rfl rfl rfl rfl (ao_nil ?_)
      exact ⟨rfl, (s2 + 1), h, ⟨.nil, (sC rfl (sC rfl (sC rfl (sC rfl sub_nil))))⟩⟩
    ·refine bw_tail 16 [] [0] mo (by kernel_rfl) ?_
     refine ac_go rfl rfl rfl rfl (fun H hp => op1_faR st_88 (i := 0) rfl rfl rfl) ?_
     refine ac_go rfl rfl rfl rfl (fun H hp => (op1_ldR Try.underlying9 rfl rfl rfl (hp.at rfl rfl) rfl)) ?_
     obtain ⟨x8, hx8, h⟩ := obind h
     refine ac_go rfl rfl rfl rfl (fun H hp => op1_pcall rfl en_79 rfl (.cons (Wk.refl _) .nil) ⟨rfl, trivial⟩ (s_value_name x5.1 x8 hx8) rfl) ?_
     refine ac_go rfl rfl rfl rfl (fun H hp => op1_not rfl rfl) ?_
     refine ac_go rfl rfl rfl rfl (fun H hp => op1_move rfl rfl) ?_
     refine ac_cases 19 rfl ?_ ?_
     ·intro hb9; replace h := ocond_t hb9 h
      refine ac_no rfl rfl rfl rfl rfl rfl rfl ?_
      refine ac_no rfl rfl rfl rfl rfl rfl rfl ?_
      refine ac_no rfl rfl rfl rfl rfl rfl rfl ?_
      refine ac_no rfl rfl rfl rfl rfl rfl rfl ?_
      refine ac_no rfl rfl rfl rfl rfl rfl rfl ?_
      refine ac_no rfl rfl rfl rfl rfl rfl rfl ?_
      refine ac_no rfl rfl rfl rfl rfl rfl rfl ?_
      refine ac_no rfl rfl rfl rfl rfl rfl rfl ?_
      refine ac_no rfl rfl rfl rfl rfl rfl rfl ?_
      refine ac_no rfl rfl rfl rfl rfl rfl rfl ?_
      refine ac_no rfl rfl rfl rfl rfl rfl rfl ?_
      refine ac_nil ?_
      change AO _ _ _ _ _
      refine ao_no rfl rfl rfl rfl rfl rfl ?_
      refine ao_no rfl rfl rfl rfl rfl rfl ?_
      refine sS rfl rfl rfl (op1_pickT rfl rfl rfl) (ao_nil ?_)
      exact ⟨rfl, true, h, ⟨.nil, (sC rfl (sC rfl (sC rfl (sC rfl (sC rfl sub_nil)))))⟩⟩
     ·intro hb9; replace h := ocond_f hb9 h
      refine ac_yes rfl rfl rfl rfl rfl rfl rfl (fun H hp => op1_move rfl rfl) ?_
      refine ac_yes rfl rfl rfl rfl rfl rfl rfl (fun H hp => (op1_cmp rfl rfl rfl rfl).cast (y := (BO ((decide (((s2 : Nat) : Int) > 0))))) rfl rfl) ?_
      refine ac_yes rfl rfl rfl rfl rfl rfl rfl (fun H hp => op1_move rfl rfl) ?_
      refine ac_cases 22 rfl ?_ ?_
      ·intro hb10; replace h := ocond_t hb10 h
       refine ac_yes rfl rfl rfl rfl rfl rfl rfl (fun H hp => op1_faR st_88 (i := 0) rfl rfl rfl) ?_
       refine ac_yes rfl rfl rfl rfl rfl rfl rfl (fun H hp => (op1_ldR Try.underlying9 rfl rfl rfl (hp.at rfl rfl) rfl)) ?_
       refine ac_yes rfl rfl rfl rfl rfl rfl rfl (fun H hp => op1_move rfl rfl) ?_
       refine ac_yes rfl rfl rfl rfl rfl rfl rfl (fun H hp => op1_move rfl rfl) ?_
       refine ac_yes rfl rfl rfl rfl rfl rfl rfl (fun H hp => op1_subW rfl rfl rfl) ?_
       obtain ⟨x11, hx11, h⟩ := obind h
       refine ac_yes rfl rfl rfl rfl rfl rfl rfl (fun H hp => op1_idxM Try.underlying63 inf_88 rfl rfl rfl hx11 rfl) ?_
       refine ac_yes rfl rfl rfl rfl rfl rfl rfl (fun H hp => op1_faP st_88 (i := 0) rfl rfl rfl) ?_
       refine ac_yes rfl rfl rfl rfl rfl rfl rfl (fun H hp => op1_ldP (y := (ofStr x11.1)) Try.underlying9 rfl rfl rfl rfl) ?_
       refine ac_nil ?_
       change AO _ _ _ _ _
       refine ao_yes rfl rfl rfl rfl rfl rfl ((op1_cmpT (a := x5.1) (b := x11.1) rfl rfl rfl rfl).cast (y := (BO ((Op.bytesLess x5.1 x11.1 || x5.1 == x11.1)))) rfl rfl) ?_
       refine ao_yes rfl rfl rfl rfl rfl rfl (op1_pickT rfl rfl rfl) ?_
       refine sS rfl rfl rfl (op1_pickF rfl rfl rfl) (ao_nil ?_)
       exact ⟨rfl, (Op.bytesLess x5.1 x11.1 || x5.1 == x11.1), h, ⟨.nil, (sC rfl (sC rfl (sC rfl (sC rfl (sC rfl sub_nil)))))⟩⟩
      ·intro hb10; replace h := ocond_f hb10 h
       refine ac_no rfl rfl rfl rfl rfl rfl rfl ?_
       refine ac_no rfl rfl rfl rfl rfl rfl rfl ?_
       refine ac_no rfl rfl rfl rfl rfl rfl rfl ?_
       refine ac_no rfl rfl rfl rfl rfl rfl rfl ?_
       refine ac_no rfl rfl rfl rfl rfl rfl rfl ?_
       refine ac_no rfl rfl rfl rfl rfl rfl rfl ?_
       refine ac_no rfl rfl rfl rfl rfl rfl rfl ?_
       refine ac_no rfl rfl rfl rfl rfl rfl rfl ?_
       refine ac_nil ?_
       change AO _ _ _ _ _
       refine ao_no rfl rfl rfl rfl rfl rfl ?_
       refine ao_yes rfl rfl rfl rfl rfl rfl (op1_pickF rfl rfl rfl) ?_
       refine sS rfl rfl rfl (op1_pickF rfl rfl rfl) (ao_nil ?_)
       exact ⟨rfl, false, h, ⟨.nil, (sC rfl (sC rfl (sC rfl (sC rfl (sC rfl sub_nil)))))⟩⟩
   ·intro hc3; replace h := ocond_f hc3 h
    refine bw_exit ?_
    change BW _ _ _ _ _
    refine bR ?_
    refine sA rfl rfl rfl rfl rfl (ao_nil ?_)
    change BW _ _ _ _ _
    refine bw_ret ?_
    change ∃ xs, _ = some xs ∧ EndOk _ _ _ _
    obtain rfl := Option.some.inj h
    exact ⟨_, rfl, endOk0 (y := (I64 0)) (Wk.refl _) rfl ⟨rfl, rfl⟩⟩
end Go.Proofs.Ytigadhiciinicaa
