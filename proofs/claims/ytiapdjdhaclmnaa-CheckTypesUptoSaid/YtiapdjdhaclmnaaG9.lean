/- Pure functions, and that calls answer as they say. Written by gen.py. -/
import Derived.Test.YtiapdjdhaclmnaaG8
namespace Go.Proofs.Ytiapdjdhaclmnaa
open Go Aw
set_option linter.unusedVariables false
set_option linter.unusedSimpArgs false
set_option maxRecDepth 20000
set_option maxHeartbeats 2000000
noncomputable def p_ref07_Is (a0 : Term) (a1 : Typ) : Option (Bool × Int × Int) :=
 Option.bind (p_ref01_Check a0) fun x1 =>
 bif (x1.2 != 0) then (
  some (false, 0, x1.2)
 ) else (
  Option.bind (p_ref07_Valid (Typ.mk a1.kind a1.of (a1.only) a1.parts a1.names a1.lacks a1.opn a1.cls)) fun x3 =>
  bif (!x3) then (
   some (false, 0, 70)
  ) else (
   Option.bind (p_ref07_is a0 (Typ.mk a1.kind a1.of (a1.only) a1.parts a1.names a1.lacks a1.opn a1.cls) 0) fun x5 =>
   some (x5.1, x5.2, 0)
  )
 )
theorem s_ref07_Is (a0 : Term) (a1 : Typ) (r : (Bool × Int × Int)) (h : p_ref07_Is a0 a1 = some r) : PCalls Try.prog 11 [(ofTermX a0), (ofTypX a1)] (PV.tup [(BO r.1), (I64 r.2.1), (I64 r.2.2)]) := by
 unfold p_ref07_Is at h
 refine acalls_of Try.func11 rfl Try.ntmps11 Try.results11 rfl (aw_of_bw ?_)
 change BW _ _ _ ⟨[(0, (ofTermX a0)), (1, (ofTypX a1))], [], _⟩ _
 refine bR ?_
 refine sS rfl rfl rfl (op1_box rfl rfl rfl) ?_
 refine sS rfl rfl rfl (op1_box rfl rfl rfl) ?_
 refine sA rfl rfl rfl rfl rfl ?_
 refine sA rfl rfl rfl rfl rfl ?_
 refine sA rfl rfl rfl rfl rfl (ao_nil ?_)
 change BW _ _ _ _ _
 refine bw_seq ?_
 refine bR ?_
 refine sS rfl rfl rfl ((op1_ldRA inf_29 Try.underlying29 rfl rfl rfl rfl rfl rfl)) ?_
 obtain ⟨x1, hx1, h⟩ := obind h
 refine sS rfl rfl rfl (op1_pcall rfl en_27 rfl (.cons (Wk.refl _) .nil) ⟨(ids_TermX a0), trivial⟩ (s_ref01_Check a0 x1 hx1) (ids_tup_cons rfl (ids_tup_cons rfl ids_tup_nil))) ?_
 refine sM rfl rfl rfl rfl rfl ?_
 refine sS rfl rfl rfl (op1_ext rfl rfl rfl) ?_
 refine sS rfl rfl rfl (op1_ext rfl rfl rfl) ?_
 refine sA rfl rfl rfl rfl rfl ?_
 refine sA rfl rfl rfl rfl rfl (ao_nil ?_)
 change BW _ _ _ _ _
 refine bR ?_
 refine sM rfl rfl rfl rfl rfl ?_
 refine sS rfl rfl rfl ((op1_cmp rfl rfl rfl rfl).cast (y := (BO ((x1.2 != 0)))) rfl rfl) (ao_nil ?_)
 change BW _ _ _ _ _
 refine bw_cond rfl ?_ ?_
 ·intro hc2; replace h := ocond_t hc2 h
  refine bR ?_
  refine sM rfl rfl rfl rfl rfl ?_
  refine sA rfl rfl rfl rfl rfl ?_
  refine sA rfl rfl rfl rfl rfl ?_
  refine sA rfl rfl rfl rfl rfl (ao_nil ?_)
  change BW _ _ _ _ _
  refine bw_ret ?_
  change ∃ xs, _ = some xs ∧ EndOk _ _ _ _
  obtain rfl := Option.some.inj h
  exact ⟨_, rfl, endOk0 (y := (PV.tup [(BO false), (I64 0), (I64 x1.2)])) (Wk.refl _) (ids_tup_cons rfl (ids_tup_cons rfl (ids_tup_cons rfl ids_tup_nil))) ⟨rfl, rfl⟩⟩
 ·intro hc2; replace h := ocond_f hc2 h
  refine bw_skip ?_
  change BW _ _ _ _ _
  refine bw_seq ?_
  refine bR ?_
  refine sS rfl rfl rfl ((op1_ldRA inf_34 Try.underlying34 rfl rfl rfl rfl rfl rfl)) ?_
  obtain ⟨x3, hx3, h⟩ := obind h
  refine sS rfl rfl rfl (op1_pcall rfl en_13 rfl (.cons (Wk.refl _) .nil) ⟨(ids_TypX (Typ.mk a1.kind a1.of (a1.only) a1.parts a1.names a1.lacks a1.opn a1.cls)), trivial⟩ (s_ref07_Valid (Typ.mk a1.kind a1.of (a1.only) a1.parts a1.names a1.lacks a1.opn a1.cls) x3 hx3) rfl) ?_
  refine sS rfl rfl rfl (op1_not rfl rfl) (ao_nil ?_)
  change BW _ _ _ _ _
  refine bw_cond rfl ?_ ?_
  ·intro hc4; replace h := ocond_t hc4 h
   refine bR ?_
   refine sA rfl rfl rfl rfl rfl ?_
   refine sA rfl rfl rfl rfl rfl ?_
   refine sA rfl rfl rfl rfl rfl (ao_nil ?_)
   change BW _ _ _ _ _
   refine bw_ret ?_
   change ∃ xs, _ = some xs ∧ EndOk _ _ _ _
   obtain rfl := Option.some.inj h
   exact ⟨_, rfl, endOk0 (y := (PV.tup [(BO false), (I64 0), (I64 70)])) (Wk.refl _) (ids_tup_cons rfl (ids_tup_cons rfl (ids_tup_cons rfl ids_tup_nil))) ⟨rfl, rfl⟩⟩
  ·intro hc4; replace h := ocond_f hc4 h
   refine bw_skip ?_
   change BW _ _ _ _ _
   refine bR ?_
   refine sS rfl rfl rfl ((op1_ldRA inf_29 Try.underlying29 rfl rfl rfl rfl rfl rfl)) ?_
   refine sS rfl rfl rfl ((op1_ldRA inf_34 Try.underlying34 rfl rfl rfl rfl rfl rfl)) ?_
   obtain ⟨x5, hx5, h⟩ := obind h
   refine sS rfl rfl rfl (op1_pcall rfl en_32 rfl (.cons (Wk.refl _) (.cons (Wk.refl _) (.cons (Wk.refl _) .nil))) ⟨(ids_TermX a0), ⟨(ids_TypX (Typ.mk a1.kind a1.of (a1.only) a1.parts a1.names a1.lacks a1.opn a1.cls)), ⟨rfl, trivial⟩⟩⟩ (s_ref07_is a0 (Typ.mk a1.kind a1.of (a1.only) a1.parts a1.names a1.lacks a1.opn a1.cls) 0 x5 hx5) (ids_tup_cons rfl (ids_tup_cons rfl ids_tup_nil))) ?_
   refine sM rfl rfl rfl rfl rfl ?_
   refine sS rfl rfl rfl (op1_ext rfl rfl rfl) ?_
   refine sS rfl rfl rfl (op1_ext rfl rfl rfl) ?_
   refine sA rfl rfl rfl rfl rfl ?_
   refine sA rfl rfl rfl rfl rfl (ao_nil ?_)
   change BW _ _ _ _ _
   refine bR ?_
   refine sM rfl rfl rfl rfl rfl ?_
   refine sM rfl rfl rfl rfl rfl ?_
   refine sA rfl rfl rfl rfl rfl ?_
   refine sA rfl rfl rfl rfl rfl ?_
   refine sA rfl rfl rfl rfl rfl (ao_nil ?_)
   change BW _ _ _ _ _
   refine bw_ret ?_
   change ∃ xs, _ = some xs ∧ EndOk _ _ _ _
   obtain rfl := Option.some.inj h
   exact ⟨_, rfl, endOk0 (y := (PV.tup [(BO x5.1), (I64 x5.2), (I64 0)])) (Wk.refl _) (ids_tup_cons rfl (ids_tup_cons rfl (ids_tup_cons rfl ids_tup_nil))) ⟨rfl, rfl⟩⟩
noncomputable def p_check_Valid (a0 : Typ) : Option Bool :=
 Option.bind (p_check_valid (Typ.mk a0.kind a0.of (a0.only) a0.parts a0.names a0.lacks a0.opn a0.cls)) fun x1 =>
 some x1
theorem s_check_Valid (a0 : Typ) (r : Bool) (h : p_check_Valid a0 = some r) : PCalls Try.prog 12 [(ofTypX a0)] (BO r) := by
 unfold p_check_Valid at h
 refine acalls_of Try.func12 rfl Try.ntmps12 Try.results12 rfl (aw_of_bw ?_)
 change BW _ _ _ ⟨[(0, (ofTypX a0))], [], _⟩ _
 refine bR ?_
 refine sS rfl rfl rfl (op1_box rfl rfl rfl) ?_
 refine sA rfl rfl rfl rfl rfl (ao_nil ?_)
 change BW _ _ _ _ _
 refine bR ?_
 refine sS rfl rfl rfl ((op1_ldRA inf_34 Try.underlying34 rfl rfl rfl rfl rfl rfl)) ?_
 obtain ⟨x1, hx1, h⟩ := obind h
 refine sS rfl rfl rfl (op1_pcall rfl en_33 rfl (.cons (Wk.refl _) .nil) ⟨(ids_TypX (Typ.mk a0.kind a0.of (a0.only) a0.parts a0.names a0.lacks a0.opn a0.cls)), trivial⟩ (s_check_valid (Typ.mk a0.kind a0.of (a0.only) a0.parts a0.names a0.lacks a0.opn a0.cls) x1 hx1) rfl) ?_
 refine sA rfl rfl rfl rfl rfl (ao_nil ?_)
 change BW _ _ _ _ _
 refine bw_ret ?_
 change ∃ xs, _ = some xs ∧ EndOk _ _ _ _
 obtain rfl := Option.some.inj h
 exact ⟨_, rfl, endOk0 (y := (BO x1)) (Wk.refl _) rfl ⟨rfl, rfl⟩⟩
noncomputable def p_law07_CheckTypes (a0 : Term) (a1 : Typ) : Option Bool :=
 Option.bind (p_mk_Built a0) fun x1 =>
 Option.bind (p_check_Is x1 (Typ.mk a1.kind a1.of (a1.only) a1.parts a1.names a1.lacks a1.opn a1.cls)) fun x2 =>
 Option.bind (p_ref07_Is a0 (Typ.mk a1.kind a1.of (a1.only) a1.parts a1.names a1.lacks a1.opn a1.cls)) fun x3 =>
 Option.bind (p_check_Is (V.int 1) (Typ.mk 3 3 (Term.mk 0 false 0 0 [] [] 0 [] [] [] 0) [] [] [] false [])) fun x4 =>
 Option.bind (p_check_Valid (Typ.mk a1.kind a1.of (a1.only) a1.parts a1.names a1.lacks a1.opn a1.cls)) fun x5 =>
 Option.bind (p_ref07_Valid (Typ.mk a1.kind a1.of (a1.only) a1.parts a1.names a1.lacks a1.opn a1.cls)) fun x6 =>
 bif (x5 == x6) then (
  bif (x2.1 == x3.1) then (
   bif (x2.2.1 == x3.2.1) then (
    bif (x2.2.2 == x3.2.2) then (
     bif x4.1 then (
      some (x4.2.2 == 0)
     ) else (
      some false
     )
    ) else (
     some false
    )
   ) else (
    some false
   )
  ) else (
   some false
  )
 ) else (
  some false
 )
theorem s_law07_CheckTypes (a0 : Term) (a1 : Typ) (r : Bool) (h : p_law07_CheckTypes a0 a1 = some r) : PCalls Try.prog 4 [(ofTermX a0), (ofTypX a1)] (BO r) := by
 unfold p_law07_CheckTypes at h
 refine acalls_of Try.func4 rfl Try.ntmps4 Try.results4 rfl (aw_of_bw ?_)
 change BW _ _ _ ⟨[(0, (ofTermX a0)), (1, (ofTypX a1))], [], _⟩ _
 refine bR ?_
 refine sS rfl rfl rfl (op1_box rfl rfl rfl) ?_
 refine sS rfl rfl rfl (op1_box rfl rfl rfl) ?_
 refine sA rfl rfl rfl rfl rfl (ao_nil ?_)
 change BW _ _ _ _ _
 refine bR ?_
 refine sS rfl rfl rfl ((op1_ldRA inf_29 Try.underlying29 rfl rfl rfl rfl rfl rfl)) ?_
 obtain ⟨x1, hx1, h⟩ := obind h
 refine sS rfl rfl rfl (op1_pcall rfl en_9 rfl (.cons (Wk.refl _) .nil) ⟨(ids_TermX a0), trivial⟩ (s_mk_Built a0 x1 hx1) (ids_V x1)) ?_
 refine sA rfl rfl rfl rfl rfl (ao_nil ?_)
 change BW _ _ _ _ _
 refine bR ?_
 refine sM rfl rfl rfl rfl rfl ?_
 refine sS rfl rfl rfl ((op1_ldRA inf_34 Try.underlying34 rfl rfl rfl rfl rfl rfl)) ?_
 obtain ⟨x2, hx2, h⟩ := obind h
 refine sS rfl rfl rfl (op1_pcall rfl en_10 rfl (.cons (Wk.refl _) (.cons (Wk.refl _) .nil)) ⟨(ids_V x1), ⟨(ids_TypX (Typ.mk a1.kind a1.of (a1.only) a1.parts a1.names a1.lacks a1.opn a1.cls)), trivial⟩⟩ (s_check_Is x1 (Typ.mk a1.kind a1.of (a1.only) a1.parts a1.names a1.lacks a1.opn a1.cls) x2 hx2) (ids_tup_cons rfl (ids_tup_cons rfl (ids_tup_cons rfl ids_tup_nil)))) ?_
 refine sM rfl rfl rfl rfl rfl ?_
 refine sS rfl rfl rfl (op1_ext rfl rfl rfl) ?_
 refine sS rfl rfl rfl (op1_ext rfl rfl rfl) ?_
 refine sS rfl rfl rfl (op1_ext rfl rfl rfl) ?_
 refine sA rfl rfl rfl rfl rfl ?_
 refine sA rfl rfl rfl rfl rfl ?_
 refine sA rfl rfl rfl rfl rfl (ao_nil ?_)
 change BW _ _ _ _ _
 refine bR ?_
 refine sS rfl rfl rfl ((op1_ldRA inf_29 Try.underlying29 rfl rfl rfl rfl rfl rfl)) ?_
 refine sS rfl rfl rfl ((op1_ldRA inf_34 Try.underlying34 rfl rfl rfl rfl rfl rfl)) ?_
 obtain ⟨x3, hx3, h⟩ := obind h
 refine sS rfl rfl rfl (op1_pcall rfl en_11 rfl (.cons (Wk.refl _) (.cons (Wk.refl _) .nil)) ⟨(ids_TermX a0), ⟨(ids_TypX (Typ.mk a1.kind a1.of (a1.only) a1.parts a1.names a1.lacks a1.opn a1.cls)), trivial⟩⟩ (s_ref07_Is a0 (Typ.mk a1.kind a1.of (a1.only) a1.parts a1.names a1.lacks a1.opn a1.cls) x3 hx3) (ids_tup_cons rfl (ids_tup_cons rfl (ids_tup_cons rfl ids_tup_nil)))) ?_
 refine sM rfl rfl rfl rfl rfl ?_
 refine sS rfl rfl rfl (op1_ext rfl rfl rfl) ?_
 refine sS rfl rfl rfl (op1_ext rfl rfl rfl) ?_
 refine sS rfl rfl rfl (op1_ext rfl rfl rfl) ?_
 refine sA rfl rfl rfl rfl rfl ?_
 refine sA rfl rfl rfl rfl rfl ?_
 refine sA rfl rfl rfl rfl rfl (ao_nil ?_)
 change BW _ _ _ _ _
 refine bR ?_
 refine sS rfl rfl rfl ((op1_mkI Try.underlying2 rfl rfl rfl).wk ((Wk.iface (Wk.refl _)).trans (Wk.eq (mk_int _).symm))) ?_
 refine sS rfl rfl rfl (op1_build (cs := [(I64 3), (I64 3), (I64 0), (BO false), (I64 0), (PV.v (.float .f64 0)), (ofStr []), (PV.v (.slice none 0 0)), (PV.v (.int .u64 0)), (PV.v (.slice none 0 0)), (PV.v (.slice none 0 0)), (ofStr []), (I64 0), (PV.v (.slice none 0 0)), (PV.v (.slice none 0 0)), (PV.v (.slice none 0 0)), (BO false), (ofStr [])]) st_34 inf_34 rfl rfl rfl rfl) ?_
 obtain ⟨x4, hx4, h⟩ := obind h
 refine sS rfl rfl rfl (op1_pcall rfl en_10 rfl (.cons (Wk.refl _) (.cons (Wk.agg (.cons (Wk.refl _) (.cons (Wk.refl _) (.cons (Wk.refl _) (.cons (Wk.refl _) (.cons (Wk.refl _) (.cons (Wk.refl _) (.cons (Wk.refl _) (.cons Wk.nil (.cons (Wk.refl _) (.cons Wk.nil (.cons Wk.nil (.cons (Wk.refl _) (.cons (Wk.refl _) (.cons Wk.nil (.cons Wk.nil (.cons Wk.nil (.cons (Wk.refl _) (.cons (Wk.refl _) .nil))))))))))))))))))) .nil)) ⟨(ids_V (V.int 1)), ⟨(ids_TypX (Typ.mk 3 3 (Term.mk 0 false 0 0 [] [] 0 [] [] [] 0) [] [] [] false [])), trivial⟩⟩ (s_check_Is (V.int 1) (Typ.mk 3 3 (Term.mk 0 false 0 0 [] [] 0 [] [] [] 0) [] [] [] false []) x4 hx4) (ids_tup_cons rfl (ids_tup_cons rfl (ids_tup_cons rfl ids_tup_nil)))) ?_
 refine sM rfl rfl rfl rfl rfl ?_
 refine sS rfl rfl rfl (op1_ext rfl rfl rfl) ?_
 refine sS rfl rfl rfl (op1_ext rfl rfl rfl) ?_
 refine sS rfl rfl rfl (op1_ext rfl rfl rfl) ?_
 refine sA rfl rfl rfl rfl rfl ?_
 refine sA rfl rfl rfl rfl rfl ?_
 refine sA rfl rfl rfl rfl rfl (ao_nil ?_)
 change BW _ _ _ _ _
 refine bw_seq (bw_tail 18 [] [1] mo (by kernel_rfl) ?_)
 refine ac_go rfl rfl rfl rfl (fun H hp => (op1_ldRA inf_34 Try.underlying34 rfl rfl rfl (hp.at rfl rfl) rfl rfl)) ?_
 obtain ⟨x5, hx5, h⟩ := obind h
 refine ac_go rfl rfl rfl rfl (fun H hp => op1_pcall rfl en_12 rfl (.cons (Wk.refl _) .nil) ⟨(ids_TypX (Typ.mk a1.kind a1.of (a1.only) a1.parts a1.names a1.lacks a1.opn a1.cls)), trivial⟩ (s_check_Valid (Typ.mk a1.kind a1.of (a1.only) a1.parts a1.names a1.lacks a1.opn a1.cls) x5 hx5) rfl) ?_
 refine ac_go rfl rfl rfl rfl (fun H hp => (op1_ldRA inf_34 Try.underlying34 rfl rfl rfl (hp.at rfl rfl) rfl rfl)) ?_
 obtain ⟨x6, hx6, h⟩ := obind h
 refine ac_go rfl rfl rfl rfl (fun H hp => op1_pcall rfl en_13 rfl (.cons (Wk.refl _) .nil) ⟨(ids_TypX (Typ.mk a1.kind a1.of (a1.only) a1.parts a1.names a1.lacks a1.opn a1.cls)), trivial⟩ (s_ref07_Valid (Typ.mk a1.kind a1.of (a1.only) a1.parts a1.names a1.lacks a1.opn a1.cls) x6 hx6) rfl) ?_
 refine ac_go rfl rfl rfl rfl (fun H hp => op1_eqB Try.underlying4 rfl rfl rfl) ?_
 refine ac_go rfl rfl rfl rfl (fun H hp => op1_move rfl rfl) ?_
 refine ac_cases 43 rfl ?_ ?_
 ·intro hb7; replace h := ocond_t hb7 h
  refine ac_yes rfl rfl rfl rfl rfl rfl rfl (fun H hp => op1_move rfl rfl) ?_
  refine ac_yes rfl rfl rfl rfl rfl rfl rfl (fun H hp => op1_move rfl rfl) ?_
  refine ac_yes rfl rfl rfl rfl rfl rfl rfl (fun H hp => op1_eqB Try.underlying4 rfl rfl rfl) ?_
  refine ac_go rfl rfl rfl rfl (fun H hp => op1_pickT rfl rfl rfl) ?_
  refine ac_go rfl rfl rfl rfl (fun H hp => op1_move rfl rfl) ?_
  refine ac_cases 48 rfl ?_ ?_
  ·intro hb8; replace h := ocond_t hb8 h
   refine ac_yes rfl rfl rfl rfl rfl rfl rfl (fun H hp => op1_move rfl rfl) ?_
   refine ac_yes rfl rfl rfl rfl rfl rfl rfl (fun H hp => op1_move rfl rfl) ?_
   refine ac_yes rfl rfl rfl rfl rfl rfl rfl (fun H hp => (op1_cmp rfl rfl rfl rfl).cast (y := (BO ((x2.2.1 == x3.2.1)))) rfl rfl) ?_
   refine ac_go rfl rfl rfl rfl (fun H hp => op1_pickT rfl rfl rfl) ?_
   refine ac_go rfl rfl rfl rfl (fun H hp => op1_move rfl rfl) ?_
   refine ac_cases 53 rfl ?_ ?_
   ·intro hb9; replace h := ocond_t hb9 h
    refine ac_yes rfl rfl rfl rfl rfl rfl rfl (fun H hp => op1_move rfl rfl) ?_
    refine ac_yes rfl rfl rfl rfl rfl rfl rfl (fun H hp => op1_move rfl rfl) ?_
    refine ac_nil ?_
    change AO _ _ _ _ _
    refine ao_yes rfl rfl rfl rfl rfl rfl ((op1_cmp rfl rfl rfl rfl).cast (y := (BO ((x2.2.2 == x3.2.2)))) rfl rfl) ?_
    refine sS rfl rfl rfl (op1_pickT rfl rfl rfl) ?_
    refine sM rfl rfl rfl rfl rfl ?_
    refine ao_cases (t := 58) rfl ?_ ?_
    ·intro hb10; replace h := ocond_t hb10 h
     refine ao_yes rfl rfl rfl rfl rfl rfl (op1_move rfl rfl) ?_
     refine sS rfl rfl rfl (op1_pickT rfl rfl rfl) ?_
     refine sM rfl rfl rfl rfl rfl ?_
     refine ao_cases (t := 61) rfl ?_ ?_
     ·intro hb11; replace h := ocond_t hb11 h
      refine ao_yes rfl rfl rfl rfl rfl rfl (op1_move rfl rfl) ?_
      refine ao_yes rfl rfl rfl rfl rfl rfl ((op1_cmp rfl rfl rfl rfl).cast (y := (BO ((x4.2.2 == 0)))) rfl rfl) ?_
      refine sS rfl rfl rfl (op1_pickT rfl rfl rfl) ?_
      refine sA rfl rfl rfl rfl rfl (ao_nil ?_)
      change BW _ _ _ _ _
      refine bw_ret ?_
      change ∃ xs, _ = some xs ∧ EndOk _ _ _ _
      obtain rfl := Option.some.inj h
      exact ⟨_, rfl, endOk0 (y := (BO ((x4.2.2 == 0)))) (Wk.refl _) rfl ⟨rfl, rfl⟩⟩
     ·intro hb11; replace h := ocond_f hb11 h
      refine ao_no rfl rfl rfl rfl rfl rfl ?_
      refine ao_no rfl rfl rfl rfl rfl rfl ?_
      refine sS rfl rfl rfl (op1_pickF rfl rfl rfl) ?_
      refine sA rfl rfl rfl rfl rfl (ao_nil ?_)
      change BW _ _ _ _ _
      refine bw_ret ?_
      change ∃ xs, _ = some xs ∧ EndOk _ _ _ _
      obtain rfl := Option.some.inj h
      exact ⟨_, rfl, endOk0 (y := (BO false)) (Wk.refl _) rfl ⟨rfl, rfl⟩⟩
    ·intro hb10; replace h := ocond_f hb10 h
     refine ao_no rfl rfl rfl rfl rfl rfl ?_
     refine sS rfl rfl rfl (op1_pickF rfl rfl rfl) ?_
     refine sM rfl rfl rfl rfl rfl ?_
     refine ao_no rfl rfl rfl rfl rfl rfl ?_
     refine ao_no rfl rfl rfl rfl rfl rfl ?_
     refine sS rfl rfl rfl (op1_pickF rfl rfl rfl) ?_
     refine sA rfl rfl rfl rfl rfl (ao_nil ?_)
     change BW _ _ _ _ _
     refine bw_ret ?_
     change ∃ xs, _ = some xs ∧ EndOk _ _ _ _
     obtain rfl := Option.some.inj h
     exact ⟨_, rfl, endOk0 (y := (BO false)) (Wk.refl _) rfl ⟨rfl, rfl⟩⟩
   ·intro hb9; replace h := ocond_f hb9 h
    refine ac_no rfl rfl rfl rfl rfl rfl rfl ?_
    refine ac_no rfl rfl rfl rfl rfl rfl rfl ?_
    refine ac_nil ?_
    change AO _ _ _ _ _
    refine ao_no rfl rfl rfl rfl rfl rfl ?_
    refine sS rfl rfl rfl (op1_pickF rfl rfl rfl) ?_
    refine sM rfl rfl rfl rfl rfl ?_
    refine ao_no rfl rfl rfl rfl rfl rfl ?_
    refine sS rfl rfl rfl (op1_pickF rfl rfl rfl) ?_
    refine sM rfl rfl rfl rfl rfl ?_
    refine ao_no rfl rfl rfl rfl rfl rfl ?_
    refine ao_no rfl rfl rfl rfl rfl rfl ?_
    refine sS rfl rfl rfl (op1_pickF rfl rfl rfl) ?_
    refine sA rfl rfl rfl rfl rfl (ao_nil ?_)
    change BW _ _ _ _ _
    refine bw_ret ?_
    change ∃ xs, _ = some xs ∧ EndOk _ _ _ _
    obtain rfl := Option.some.inj h
    exact ⟨_, rfl, endOk0 (y := (BO false)) (Wk.refl _) rfl ⟨rfl, rfl⟩⟩
  ·intro hb8; replace h := ocond_f hb8 h
   refine ac_no rfl rfl rfl rfl rfl rfl rfl ?_
   refine ac_no rfl rfl rfl rfl rfl rfl rfl ?_
   refine ac_no rfl rfl rfl rfl rfl rfl rfl ?_
   refine ac_go rfl rfl rfl rfl (fun H hp => op1_pickF rfl rfl rfl) ?_
   refine ac_go rfl rfl rfl rfl (fun H hp => op1_move rfl rfl) ?_
   refine ac_no rfl rfl rfl rfl rfl rfl rfl ?_
   refine ac_no rfl rfl rfl rfl rfl rfl rfl ?_
   refine ac_nil ?_
   change AO _ _ _ _ _
   refine ao_no rfl rfl rfl rfl rfl rfl ?_
   refine sS rfl rfl rfl (op1_pickF rfl rfl rfl) ?_
   refine sM rfl rfl rfl rfl rfl ?_
   refine ao_no rfl rfl rfl rfl rfl rfl ?_
   refine sS rfl rfl rfl (op1_pickF rfl rfl rfl) ?_
   refine sM rfl rfl rfl rfl rfl ?_
   refine ao_no rfl rfl rfl rfl rfl rfl ?_
   refine ao_no rfl rfl rfl rfl rfl rfl ?_
   refine sS rfl rfl rfl (op1_pickF rfl rfl rfl) ?_
   refine sA rfl rfl rfl rfl rfl (ao_nil ?_)
   change BW _ _ _ _ _
   refine bw_ret ?_
   change ∃ xs, _ = some xs ∧ EndOk _ _ _ _
   obtain rfl := Option.some.inj h
   exact ⟨_, rfl, endOk0 (y := (BO false)) (Wk.refl _) rfl ⟨rfl, rfl⟩⟩
 ·intro hb7; replace h := ocond_f hb7 h
  refine ac_no rfl rfl rfl rfl rfl rfl rfl ?_
  refine ac_no rfl rfl rfl rfl rfl rfl rfl ?_
  refine ac_no rfl rfl rfl rfl rfl rfl rfl ?_
  refine ac_go rfl rfl rfl rfl (fun H hp => op1_pickF rfl rfl rfl) ?_
  refine ac_go rfl rfl rfl rfl (fun H hp => op1_move rfl rfl) ?_
  refine ac_no rfl rfl rfl rfl rfl rfl rfl ?_
  refine ac_no rfl rfl rfl rfl rfl rfl rfl ?_
  refine ac_no rfl rfl rfl rfl rfl rfl rfl ?_
  refine ac_go rfl rfl rfl rfl (fun H hp => op1_pickF rfl rfl rfl) ?_
  refine ac_go rfl rfl rfl rfl (fun H hp => op1_move rfl rfl) ?_
  refine ac_no rfl rfl rfl rfl rfl rfl rfl ?_
  refine ac_no rfl rfl rfl rfl rfl rfl rfl ?_
  refine ac_nil ?_
  change AO _ _ _ _ _
  refine ao_no rfl rfl rfl rfl rfl rfl ?_
  refine sS rfl rfl rfl (op1_pickF rfl rfl rfl) ?_
  refine sM rfl rfl rfl rfl rfl ?_
  refine ao_no rfl rfl rfl rfl rfl rfl ?_
  refine sS rfl rfl rfl (op1_pickF rfl rfl rfl) ?_
  refine sM rfl rfl rfl rfl rfl ?_
  refine ao_no rfl rfl rfl rfl rfl rfl ?_
  refine ao_no rfl rfl rfl rfl rfl rfl ?_
  refine sS rfl rfl rfl (op1_pickF rfl rfl rfl) ?_
  refine sA rfl rfl rfl rfl rfl (ao_nil ?_)
  change BW _ _ _ _ _
  refine bw_ret ?_
  change ∃ xs, _ = some xs ∧ EndOk _ _ _ _
  obtain rfl := Option.some.inj h
  exact ⟨_, rfl, endOk0 (y := (BO false)) (Wk.refl _) rfl ⟨rfl, rfl⟩⟩
end Go.Proofs.Ytiapdjdhaclmnaa
