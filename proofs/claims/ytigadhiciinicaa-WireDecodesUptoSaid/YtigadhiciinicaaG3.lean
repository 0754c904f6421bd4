/- Pure functions, and that calls answer as they say. Written by gen.py. -/
import Derived.Test.YtigadhiciinicaaG2
namespace Go.Proofs.Ytigadhiciinicaa
open Go Aw
set_option linter.unusedVariables false
set_option linter.unusedSimpArgs false
set_option maxRecDepth 20000
set_option maxHeartbeats 2000000
noncomputable def p_wire_read_1_pan (a0 : V) (a1 : Int) (a2 : Int) (e : S_wire_fault) : Option (V × Int × Int) :=
 some (V.nil, e.f_at, e.f_why)
theorem s_wire_read_1_pan (a0 : V) (a1 : Int) (a2 : Int) (e : S_wire_fault) (r : (V × Int × Int)) (h : p_wire_read_1_pan a0 a1 a2 e = some r) : DCalls Try.prog 51 [(PV.rf 0 0), (PV.rf 1 0), (PV.rf 2 0)] [.box 20 [(ofV a0)], .box 3 [(I64 a1)], .box 31 [(I64 a2)]] (.pan (PV.iface 112 (of_wire_fault e))) (fun H' => H' = [.box 20 [(ofV r.1)], .box 3 [(I64 r.2.1)], .box 31 [(I64 r.2.2)]]) := by
 unfold p_wire_read_1_pan at h
 refine dcalls_rec Try.func51 rfl Try.ntmps51 rfl rfl rfl rfl rfl rfl (aw_of_bw ?_)
 change BW _ _ _ ⟨[(6, (PV.iface 112 (of_wire_fault e))), (0, (PV.rf 0 0)), (1, (PV.rf 1 0)), (2, (PV.rf 2 0))], [.box 20 [(ofV a0)], .box 3 [(I64 a1)], .box 31 [(I64 a2)]], _⟩ _
 refine bw_block ?_
 change BW _ _ _ _ _
 refine bR ?_
 refine sS rfl rfl rfl (op1_eqN1 Try.underlying20 rfl rfl) (ao_nil ?_)
 change BW _ _ _ _ _
 refine bw_condF rfl ?_
 refine bR ?_
 refine sS rfl rfl rfl (op1_taT Try.underlying112 rfl inf_112 rfl rfl) ?_
 refine sS rfl rfl rfl (op1_ext rfl rfl rfl) ?_
 refine sS rfl rfl rfl (op1_ext rfl rfl rfl) (ao_nil ?_)
 change BW _ _ _ _ _
 refine bw_condT rfl ?_
 refine bR ?_
 refine sS rfl rfl rfl (op1_alloc inf_112 rfl) ?_
 refine ao_step0 rfl rfl (op1_store inf_112 rfl rfl rfl rfl rfl rfl (Nat.le_of_ble_eq_true rfl) rfl) ?_
 refine ao_nil ?_
 change BW _ _ _ _ _
 refine bw_tail 6 [4, 5] [3] mo (by kernel_rfl) ?_
 refine ac_go rfl rfl rfl rfl (fun H hp => op1_faR st_112 (i := 0) rfl rfl rfl) ?_
 refine ac_go rfl rfl rfl rfl (fun H hp => (op1_ldR Try.underlying3 rfl rfl rfl (hp.at rfl rfl) rfl)) ?_
 refine ac_go rfl rfl rfl rfl (fun H hp => op1_faR st_112 (i := 1) rfl rfl rfl) ?_
 refine ac_go rfl rfl rfl rfl (fun H hp => (op1_ldR Try.underlying31 rfl rfl rfl (hp.at rfl rfl) rfl)) ?_
 refine ac_lgo0 rfl rfl rfl ((op1_store inf_20 rfl rfl rfl rfl rfl rfl (Nat.le_of_ble_eq_true rfl) rfl).cast (H'' := [.box 20 [(ofV V.nil)], .box 3 [(I64 a1)], .box 31 [(I64 a2)], .box 112 [(I64 e.f_at), (I64 e.f_why)]]) rfl (by simp only [mk_nil]; rfl)) ⟨rfl, trivial⟩ ?_
 refine ac_lgo0 rfl rfl rfl (op1_store inf_3 rfl rfl rfl rfl rfl rfl (Nat.le_of_ble_eq_true rfl) rfl) ⟨rfl, trivial⟩ ?_
 refine ac_nil ?_
 change AO _ _ _ _ _
 refine ao_step0 rfl rfl (op1_store inf_31 rfl rfl rfl rfl rfl rfl (Nat.le_of_ble_eq_true rfl) rfl) ?_
 refine ao_nil ?_
 change ∃ xs, _ = some xs ∧ EndOk _ _ _ _
 obtain rfl := Option.some.inj h
 exact ⟨_, rfl, endR (y := (PV.tup [])) 3 (Wk.refl _) rfl rfl (.tup .nil) (.cons (.box (.cons (.same (ids_V V.nil)) .nil)) (.cons (.box (.cons (.same rfl) .nil)) (.cons (.box (.cons (.same rfl) .nil)) .nil))) ⟨rfl, rfl⟩⟩
noncomputable def p_wire_read_1_ret (a0 : V) (a1 : Int) (a2 : Int) : Option (V × Int × Int) :=
 some (a0, a1, a2)
theorem s_wire_read_1_ret (a0 : V) (a1 : Int) (a2 : Int) (r : (V × Int × Int)) (h : p_wire_read_1_ret a0 a1 a2 = some r) : DCalls Try.prog 51 [(PV.rf 0 0), (PV.rf 1 0), (PV.rf 2 0)] [.box 20 [(ofV a0)], .box 3 [(I64 a1)], .box 31 [(I64 a2)]] .ret (fun H' => H' = [.box 20 [(ofV r.1)], .box 3 [(I64 r.2.1)], .box 31 [(I64 r.2.2)]]) := by
 unfold p_wire_read_1_ret at h
 refine dcalls_rec Try.func51 rfl Try.ntmps51 rfl rfl rfl rfl rfl rfl (aw_of_bw ?_)
 change BW _ _ _ ⟨[(6, (PV.v .nilIface)), (0, (PV.rf 0 0)), (1, (PV.rf 1 0)), (2, (PV.rf 2 0))], [.box 20 [(ofV a0)], .box 3 [(I64 a1)], .box 31 [(I64 a2)]], _⟩ _
 refine bw_block ?_
 change BW _ _ _ _ _
 refine bR ?_
 refine sS rfl rfl rfl (op1_eqN0 Try.underlying20 rfl rfl) (ao_nil ?_)
 change BW _ _ _ _ _
 refine bw_condT rfl ?_
 refine bw_region ?_
 refine sA rfl rfl rfl rfl rfl (ao_nil ?_)
 change ∃ xs, _ = some xs ∧ EndOk _ _ _ _
 obtain rfl := Option.some.inj h
 exact ⟨_, rfl, endR (y := (PV.tup [])) 3 (Wk.refl _) rfl rfl (.tup .nil) (.cons (.box (.cons (.same (ids_V a0)) .nil)) (.cons (.box (.cons (.same rfl) .nil)) (.cons (.box (.cons (.same rfl) .nil)) .nil))) ⟨rfl, rfl⟩⟩
noncomputable def p_wire_read (a0 : Str) (a1 : Int) (a2 : Bool) : Option (V × Int × Int) :=
 xcase (p_wire_reader_value (S_wire_reader.mk a0 a1 0 a2) 1) (fun x2 =>
  Option.bind (p_wire_read_1_pan V.nil 0 0 x2.1) fun x3 =>
  some (x3.1, x3.2.1, x3.2.2)
 ) fun x1 =>
 Option.bind (p_wire_read_1_ret x1.1 ((x1.2).f_at) 0) fun x4 =>
 some (x4.1, x4.2.1, x4.2.2)
theorem s_wire_read (a0 : Str) (a1 : Int) (a2 : Bool) (r : (V × Int × Int)) (h : p_wire_read a0 a1 a2 = some r) : PCalls Try.prog 36 [(PV.old (PV.sl none 5 1 (List.map ofB a0))), (I64 a1), (BO a2)] (PV.tup [(ofV r.1), (I64 r.2.1), (I64 r.2.2)]) := by
 unfold p_wire_read at h
 refine acalls_of_dw Try.func36 rfl Try.ntmps36 rfl ?_
 change DW _ _ _ _ _ ⟨[(0, (PV.old (PV.sl none 5 1 (List.map ofB a0)))), (1, (I64 a1)), (2, (BO a2))], [], _⟩ _
 refine dw_seq ?_
 change BW _ _ _ _ _
 refine bw_region ?_
 refine sS rfl rfl rfl ((op1_alloc inf_20 rfl).cast (H'' := [.box 20 [(ofV V.nil)]]) rfl (by simp only [mk_nil]; rfl)) ?_
 refine sS rfl rfl rfl (op1_alloc inf_3 rfl) ?_
 refine sS rfl rfl rfl (op1_alloc inf_31 rfl) (ao_nil ?_)
 change DW _ _ _ _ _ _ _
 refine dw_seq ?_
 change BW _ _ _ _ _
 refine bw_region ?_
 refine sM rfl rfl rfl rfl rfl ?_
 refine sM rfl rfl rfl rfl rfl ?_
 refine sM rfl rfl rfl rfl rfl ?_
 refine sS rfl rfl rfl (op1_build (cs := [(PV.old (PV.sl none 5 1 (List.map ofB a0))), (I64 a1), (I64 0), (BO a2)]) st_110 inf_110 rfl rfl rfl rfl) ?_
 refine sS rfl rfl rfl (op1_box rfl rfl rfl) ?_
 refine sA rfl rfl rfl rfl rfl (ao_nil ?_)
 change DW _ _ _ _ _ _ _
 refine dw_defer (caps := [.tmp 6, .tmp 7, .tmp 8]) rfl rfl rfl rfl rfl rfl rfl rfl ?_
 refine dw_end en_51 Try.results36 ?_
 change BW _ _ _ _ _
 refine bR ?_
 refine sM rfl rfl rfl rfl rfl ?_
 obtain ⟨x2, hx2, h⟩ | ⟨x1, hx1, h⟩ := xcase_some h
 ·refine ao_ncall [3] (.func rfl) rfl en_52 rfl (.cons (Wk.refl _) (.cons (Wk.refl _) .nil)) rfl (.cons rfl (.box (.cons (.same (ids_old (ids_slM (fun _ => rfl) (((S_wire_reader.mk a0 a1 0 a2)).f_b)))) (.cons (.same rfl) (.cons (.same rfl) (.cons (.same rfl) .nil))))) .nil) (.cons (.rf rfl) (.cons (.same rfl) .nil)) (s_wire_reader_value (S_wire_reader.mk a0 a1 0 a2) 1 (.pan x2) hx2) (.same rfl) (.cons (.box (.cons (.same (ids_old (ids_slM (fun _ => rfl) ((x2.2).f_b)))) (.cons (.same rfl) (.cons (.same rfl) (.cons (.same rfl) .nil))))) .nil) rfl ?_
  repeat (first | refine seqB_pan ?_ | refine blockK_pan ?_ | refine jumpK_pan ?_)
  refine endKD_pan ?_
  obtain ⟨x3, hx3, h⟩ := obind h
  obtain rfl := Option.some.inj h
  refine endD_of [0, 1, 2] rfl (.cons rfl (.box (.cons (.same (ids_V V.nil)) .nil)) (.cons rfl (.box (.cons (.same rfl) .nil)) (.cons rfl (.box (.cons (.same rfl) .nil)) .nil))) (.cons (.rf rfl) (.cons (.rf rfl) (.cons (.rf rfl) .nil))) (fun p hp => by cases hp; rfl) (s_wire_read_1_pan V.nil 0 0 x2.1 x3 hx3) (.cons (.box (.cons (.same (ids_V x3.1)) .nil)) (.cons (.box (.cons (.same rfl) .nil)) (.cons (.box (.cons (.same rfl) .nil)) .nil))) rfl rfl ?_
  exact endOk0 (y := (PV.tup [(ofV x3.1), (I64 x3.2.1), (I64 x3.2.2)])) (Wk.refl _) (ids_tup_cons (ids_V x3.1) (ids_tup_cons rfl (ids_tup_cons rfl ids_tup_nil))) ⟨rfl, rfl⟩
 refine sS rfl rfl rfl (op1_mcall [3] (.func rfl) en_52 rfl (.cons (Wk.refl _) (.cons (Wk.refl _) .nil)) rfl (.cons rfl (.box (.cons (.same (ids_old (ids_slM (fun _ => rfl) (((S_wire_reader.mk a0 a1 0 a2)).f_b)))) (.cons (.same rfl) (.cons (.same rfl) (.cons (.same rfl) .nil))))) .nil) (.cons (.rf rfl) (.cons (.same rfl) .nil)) (s_wire_reader_value (S_wire_reader.mk a0 a1 0 a2) 1 (.ret x1) hx1) (.same (ids_V x1.1)) (.cons (.box (.cons (.same (ids_old (ids_slM (fun _ => rfl) ((x1.2).f_b)))) (.cons (.same rfl) (.cons (.same rfl) (.cons (.same rfl) .nil))))) .nil) rfl) ?_
 refine ao_step0 rfl rfl ((op1_store inf_20 rfl rfl rfl rfl (cok_V _) (csz_V _) (Nat.le_of_ble_eq_true rfl) (call1_V _)).cast (H'' := [.box 20 [(ofV x1.1)], .box 3 [(I64 0)], .box 31 [(I64 0)], .box 110 [(PV.old (PV.sl none 5 1 (List.map ofB (x1.2).f_b))), (I64 ((x1.2).f_at)), (I64 ((x1.2).f_n)), (BO ((x1.2).f_making))]]) rfl (by rw [cells_V]; rfl)) ?_
 refine ao_nil ?_
 change BW _ _ _ _ _
 refine bw_seq (bw_tail 6 [0, 5] [3] mo (by kernel_rfl) ?_)
 refine ac_lgo rfl rfl rfl rfl ((op1_ldR Try.underlying20 rfl rfl rfl rfl rfl)) ⟨rfl, trivial⟩ ?_
 refine ac_go rfl rfl rfl rfl (fun H hp => op1_move rfl rfl) ?_
 refine ac_go rfl rfl rfl rfl (fun H hp => op1_nilR rfl rfl) ?_
 refine ac_go rfl rfl rfl rfl (fun H hp => op1_faR st_110 (i := 1) rfl rfl rfl) ?_
 refine ac_go rfl rfl rfl rfl (fun H hp => (op1_ldR Try.underlying3 rfl rfl rfl (hp.at rfl rfl) rfl)) ?_
 refine ac_lgo0 rfl rfl rfl ((op1_store inf_20 rfl rfl rfl rfl (cok_V _) (csz_V _) (Nat.le_of_ble_eq_true rfl) (call1_V _)).cast (H'' := [.box 20 [(ofV x1.1)], .box 3 [(I64 0)], .box 31 [(I64 0)], .box 110 [(PV.old (PV.sl none 5 1 (List.map ofB (x1.2).f_b))), (I64 ((x1.2).f_at)), (I64 ((x1.2).f_n)), (BO ((x1.2).f_making))]]) rfl (by rw [cells_V]; rfl)) ⟨rfl, trivial⟩ ?_
 refine ac_nil ?_
 change AO _ _ _ _ _
 refine ao_step0 rfl rfl (op1_store inf_3 rfl rfl rfl rfl rfl rfl (Nat.le_of_ble_eq_true rfl) rfl) ?_
 refine ao_step0 rfl rfl (op1_store inf_31 rfl rfl rfl rfl rfl rfl (Nat.le_of_ble_eq_true rfl) rfl) ?_
 refine ao_nil ?_
 change BW _ _ _ _ _
 refine bw_ret ?_
 refine endKD_ret ?_
 obtain ⟨x4, hx4, h⟩ := obind h
 obtain rfl := Option.some.inj h
 refine endD_of [0, 1, 2] rfl (.cons rfl (.box (.cons (.same (ids_V x1.1)) .nil)) (.cons rfl (.box (.cons (.same rfl) .nil)) (.cons rfl (.box (.cons (.same rfl) .nil)) .nil))) (.cons (.rf rfl) (.cons (.rf rfl) (.cons (.rf rfl) .nil))) (fun p hp => by cases hp) (s_wire_read_1_ret x1.1 ((x1.2).f_at) 0 x4 hx4) (.cons (.box (.cons (.same (ids_V x4.1)) .nil)) (.cons (.box (.cons (.same rfl) .nil)) (.cons (.box (.cons (.same rfl) .nil)) .nil))) rfl rfl ?_
 exact endOk0 (y := (PV.tup [(ofV x4.1), (I64 x4.2.1), (I64 x4.2.2)])) (Wk.refl _) (ids_tup_cons (ids_V x4.1) (ids_tup_cons rfl (ids_tup_cons rfl ids_tup_nil))) ⟨rfl, rfl⟩
noncomputable def p_wire_Decode (a0 : Str) : Option (V × Int × Int) :=
 Option.bind (p_wire_read a0 0 true) fun x1 =>
 some (x1.1, x1.2.1, x1.2.2)
theorem s_wire_Decode (a0 : Str) (r : (V × Int × Int)) (h : p_wire_Decode a0 = some r) : PCalls Try.prog 18 [(PV.old (PV.sl none 5 1 (List.map ofB a0)))] (PV.tup [(ofV r.1), (I64 r.2.1), (I64 r.2.2)]) := by
 unfold p_wire_Decode at h
 refine acalls_of Try.func18 rfl Try.ntmps18 Try.results18 rfl (aw_of_bw ?_)
 change BW _ _ _ ⟨[(0, (PV.old (PV.sl none 5 1 (List.map ofB a0))))], [], _⟩ _
 refine bR ?_
 refine sA rfl rfl rfl rfl rfl ?_
 refine sA rfl rfl rfl rfl rfl ?_
 refine sA rfl rfl rfl rfl rfl (ao_nil ?_)
 change BW _ _ _ _ _
 refine bR ?_
 refine sM rfl rfl rfl rfl rfl ?_
 obtain ⟨x1, hx1, h⟩ := obind h
 refine sS rfl rfl rfl (op1_pcall rfl en_36 rfl (.cons (Wk.refl _) (.cons (Wk.refl _) (.cons (Wk.refl _) .nil))) ⟨(ids_old (ids_slM (fun _ => rfl) a0)), ⟨rfl, ⟨rfl, trivial⟩⟩⟩ (s_wire_read a0 0 true x1 hx1) (ids_tup_cons (ids_V x1.1) (ids_tup_cons rfl (ids_tup_cons rfl ids_tup_nil)))) ?_
 refine sS rfl rfl rfl (op1_ext rfl rfl rfl) ?_
 refine sS rfl rfl rfl (op1_ext rfl rfl rfl) ?_
 refine sS rfl rfl rfl (op1_ext rfl rfl rfl) ?_
 refine sA rfl rfl rfl rfl rfl ?_
 refine sA rfl rfl rfl rfl rfl ?_
 refine sA rfl rfl rfl rfl rfl (ao_nil ?_)
 change BW _ _ _ _ _
 refine bw_ret ?_
 change ∃ xs, _ = some xs ∧ EndOk _ _ _ _
 obtain rfl := Option.some.inj h
 exact ⟨_, rfl, endOk0 (y := (PV.tup [(ofV x1.1), (I64 x1.2.1), (I64 x1.2.2)])) (Wk.refl _) (ids_tup_cons (ids_V x1.1) (ids_tup_cons rfl (ids_tup_cons rfl ids_tup_nil))) ⟨rfl, rfl⟩⟩
noncomputable def p_wire_Skip (a0 : Str) : Option (Int × Int) :=
 Option.bind (p_wire_read a0 0 false) fun x1 =>
 bif (x1.2.2 != 0) then (
  some (0, x1.2.2)
 ) else (
  some (x1.2.1, 0)
 )
theorem s_wire_Skip (a0 : Str) (r : (Int × Int)) (h : p_wire_Skip a0 = some r) : PCalls Try.prog 19 [(PV.sl none 5 1 (List.map ofB a0))] (PV.tup [(I64 r.1), (I64 r.2)]) := by
 unfold p_wire_Skip at h
 refine acalls_of Try.func19 rfl Try.ntmps19 Try.results19 rfl (aw_of_bw ?_)
 change BW _ _ _ ⟨[(0, (PV.sl none 5 1 (List.map ofB a0)))], [], _⟩ _
 refine bR ?_
 refine sA rfl rfl rfl rfl rfl ?_
 refine sA rfl rfl rfl rfl rfl (ao_nil ?_)
 change BW _ _ _ _ _
 refine bR ?_
 refine sM rfl rfl rfl rfl rfl ?_
 obtain ⟨x1, hx1, h⟩ := obind h
 refine sS rfl rfl rfl (op1_pcall rfl en_36 rfl (.cons (Wk.toOld (pl_sl (fun _ => Pl.v) a0)) (.cons (Wk.refl _) (.cons (Wk.refl _) .nil))) ⟨(ids_old (ids_slM (fun _ => rfl) a0)), ⟨rfl, ⟨rfl, trivial⟩⟩⟩ (s_wire_read a0 0 false x1 hx1) (ids_tup_cons (ids_V x1.1) (ids_tup_cons rfl (ids_tup_cons rfl ids_tup_nil)))) ?_
 refine sM rfl rfl rfl rfl rfl ?_
 refine sS rfl rfl rfl (op1_ext rfl rfl rfl) ?_
 refine sS rfl rfl rfl (op1_ext rfl rfl rfl) ?_
 refine sS rfl rfl rfl (op1_ext rfl rfl rfl) ?_
 refine sA rfl rfl rfl rfl rfl ?_
 refine sA rfl rfl rfl rfl rfl ?_
 refine sA rfl rfl rfl rfl rfl (ao_nil ?_)
 change BW _ _ _ _ _
 refine bw_seq ?_
 refine bR ?_
 refine sM rfl rfl rfl rfl rfl ?_
 refine sS rfl rfl rfl ((op1_cmp rfl rfl rfl rfl).cast (y := (BO ((x1.2.2 != 0)))) rfl rfl) (ao_nil ?_)
 change BW _ _ _ _ _
 refine bw_cond rfl ?_ ?_
 ·intro hc2; replace h := ocond_t hc2 h
  refine bR ?_
  refine sM rfl rfl rfl rfl rfl ?_
  refine sA rfl rfl rfl rfl rfl ?_
  refine sA rfl rfl rfl rfl rfl (ao_nil ?_)
  change BW _ _ _ _ _
  refine bw_ret ?_
  change ∃ xs, _ = some xs ∧ EndOk _ _ _ _
  obtain rfl := Option.some.inj h
  exact ⟨_, rfl, endOk0 (y := (PV.tup [(I64 0), (I64 x1.2.2)])) (Wk.refl _) (ids_tup_cons rfl (ids_tup_cons rfl ids_tup_nil)) ⟨rfl, rfl⟩⟩
 ·intro hc2; replace h := ocond_f hc2 h
  refine bw_skip ?_
  change BW _ _ _ _ _
  refine bR ?_
  refine sM rfl rfl rfl rfl rfl ?_
  refine sA rfl rfl rfl rfl rfl ?_
  refine sA rfl rfl rfl rfl rfl (ao_nil ?_)
  change BW _ _ _ _ _
  refine bw_ret ?_
  change ∃ xs, _ = some xs ∧ EndOk _ _ _ _
  obtain rfl := Option.some.inj h
  exact ⟨_, rfl, endOk0 (y := (PV.tup [(I64 x1.2.1), (I64 0)])) (Wk.refl _) (ids_tup_cons rfl (ids_tup_cons rfl ids_tup_nil)) ⟨rfl, rfl⟩⟩
noncomputable def ref03_reading_bad_j1 (a0 : S_ref03_reading) (s1 : Int) (s2 : Int) : Option S_ref03_reading :=
 some (S_ref03_reading.mk a0.f_b a0.f_at a0.f_n s1 s2)
noncomputable def p_ref03_reading_bad (a0 : S_ref03_reading) (a1 : Int) (a2 : Int) : Option S_ref03_reading :=
 bif (a0.f_why == 0) then (
  ref03_reading_bad_j1 a0 a1 a2
 ) else (
  ref03_reading_bad_j1 a0 a0.f_place a0.f_why
 )
theorem s_ref03_reading_bad (a0 : S_ref03_reading) (a1 : Int) (a2 : Int) (r : S_ref03_reading) (h : p_ref03_reading_bad a0 a1 a2 = some r) : PCalls Try.prog 53 [(of_ref03_reading a0), (I64 a1), (I64 a2)] (of_ref03_reading r) := by
 unfold p_ref03_reading_bad at h
 refine acalls_of Try.func53 rfl Try.ntmps53 Try.results53 rfl (aw_of_bw ?_)
 change BW _ _ _ ⟨[(0, (of_ref03_reading a0)), (1, (I64 a1)), (2, (I64 a2))], [], _⟩ _
 refine bR ?_
 refine sS rfl rfl rfl (op1_box rfl rfl rfl) ?_
 refine sS rfl rfl rfl (op1_alloc inf_78 rfl) (ao_nil ?_)
 change BW _ _ _ _ _
 refine bw_seqJ (ι := (Int × Int)) (fun i => ref03_reading_bad_j1 a0 i.1 i.2 = some r) (fun i => [(3, (PV.rf 0 0)), (6, (PV.rf 1 0))]) (fun i => [.box 78 [(PV.sl none 5 1 (List.map ofB a0.f_b)), (I64 a0.f_at), (I64 a0.f_n), (I64 i.1), (I64 i.2)], .box 78 [(PV.v (.slice none 0 0)), (I64 0), (I64 0), (I64 0), (I64 0)]]) ?_ ?_ ?_
 ·intro i; exact ⟨Nat.le_of_ble_eq_true rfl, ⟨(il_rf rfl), ⟨(il_rf rfl), trivial⟩⟩, ⟨⟨(il_nil (ids_slM (fun _ => rfl) _)), ⟨(il_nil rfl), ⟨(il_nil rfl), ⟨(il_nil rfl), ⟨(il_nil rfl), trivial⟩⟩⟩⟩⟩, ⟨⟨(il_nil rfl), ⟨(il_nil rfl), ⟨(il_nil rfl), ⟨(il_nil rfl), ⟨(il_nil rfl), trivial⟩⟩⟩⟩⟩, trivial⟩⟩⟩
 ·rintro ⟨s1, s2⟩ h; replace h : ref03_reading_bad_j1 a0 s1 s2 = some r := h; unfold ref03_reading_bad_j1 at h
  change BW _ _ _ ⟨[(3, (PV.rf 0 0)), (6, (PV.rf 1 0))], [.box 78 [(PV.sl none 5 1 (List.map ofB a0.f_b)), (I64 a0.f_at), (I64 a0.f_n), (I64 s1), (I64 s2)], .box 78 [(PV.v (.slice none 0 0)), (I64 0), (I64 0), (I64 0), (I64 0)]], _⟩ _
  refine bR ?_
  refine sS rfl rfl rfl ((op1_ldRA inf_78 Try.underlying78 rfl rfl rfl rfl rfl rfl)) ?_
  refine ao_step0 rfl rfl (op1_store inf_78 rfl rfl rfl rfl rfl rfl (Nat.le_of_ble_eq_true rfl) rfl) ?_
  refine ao_nil ?_
  change BW _ _ _ _ _
  refine bw_ret ?_
  change ∃ xs, _ = some xs ∧ EndOk _ _ _ _
  obtain rfl := Option.some.inj h
  exact ⟨_, rfl, endOk0 (y := (of_ref03_reading (S_ref03_reading.mk a0.f_b a0.f_at a0.f_n s1 s2))) (Wk.refl _) (ids_S_ref03_reading (S_ref03_reading.mk a0.f_b a0.f_at a0.f_n s1 s2)) ⟨rfl, rfl⟩⟩
 ·refine bR ?_
  refine sS rfl rfl rfl (op1_faR st_78 (i := 4) rfl rfl rfl) ?_
  refine sS rfl rfl rfl ((op1_ldR Try.underlying31 rfl rfl rfl rfl rfl)) ?_
  refine sS rfl rfl rfl ((op1_cmp rfl rfl rfl rfl).cast (y := (BO ((a0.f_why == 0)))) rfl rfl) (ao_nil ?_)
  change BW _ _ _ _ _
  refine bw_cond rfl ?_ ?_
  ·intro hc3; replace h := ocond_t hc3 h
   refine bw_region ?_
   refine sM rfl rfl rfl rfl rfl ?_
   refine sM rfl rfl rfl rfl rfl ?_
   refine sS rfl rfl rfl (op1_faR st_78 (i := 3) rfl rfl rfl) ?_
   refine ao_step0 rfl rfl (op1_store inf_3 rfl rfl rfl rfl rfl rfl (Nat.le_of_ble_eq_true rfl) rfl) ?_
   refine sS rfl rfl rfl (op1_faR st_78 (i := 4) rfl rfl rfl) ?_
   refine ao_step0 rfl rfl (op1_store inf_31 rfl rfl rfl rfl rfl rfl (Nat.le_of_ble_eq_true rfl) rfl) ?_
   refine ao_nil ?_
   exact ⟨rfl, (a1, a2), h, ⟨(.cons .same (.cons .same .nil)), (sC rfl (sC rfl sub_nil))⟩⟩
  ·intro hc3; replace h := ocond_f hc3 h
   refine bw_skip ?_
   exact ⟨rfl, (a0.f_place, a0.f_why), h, ⟨(.cons .same (.cons .same .nil)), (sC rfl (sC rfl sub_nil))⟩⟩
noncomputable def p_ref03_reading_one (a0 : S_ref03_reading) : Option (S_ref03_reading × UInt8) :=
 bif (a0.f_why != 0) then (
  some (a0, (0 : UInt8))
 ) else (
  bif (a0.f_at == (((a0.f_b).length : Nat) : Int)) then (
   Option.bind (p_ref03_reading_bad a0 (((a0.f_b).length : Nat) : Int) 4) fun x3 =>
   some (x3, (0 : UInt8))
  ) else (
   Option.bind (idxI a0.f_b (IntKind.i64.wrap ((IntKind.i64.wrap (a0.f_at + 1)) - 1))) fun x4 =>
   some ((S_ref03_reading.mk a0.f_b (IntKind.i64.wrap (a0.f_at + 1)) a0.f_n a0.f_place a0.f_why), x4)
  )
 )
theorem s_ref03_reading_one (a0 : S_ref03_reading) (r : (S_ref03_reading × UInt8)) (h : p_ref03_reading_one a0 = some r) : PCalls Try.prog 54 [(of_ref03_reading a0)] (PV.tup [(of_ref03_reading r.1), (ofB r.2)]) := by
 unfold p_ref03_reading_one at h
 refine acalls_of Try.func54 rfl Try.ntmps54 Try.results54 rfl (aw_of_bw ?_)
 change BW _ _ _ ⟨[(0, (of_ref03_reading a0))], [], _⟩ _
 refine bR ?_
 refine sS rfl rfl rfl (op1_box rfl rfl rfl) ?_
 refine sS rfl rfl rfl (op1_alloc inf_78 rfl) ?_
 refine sA rfl rfl rfl rfl rfl (ao_nil ?_)
 change BW _ _ _ _ _
 refine bw_seq ?_
 refine bR ?_
 refine sS rfl rfl rfl (op1_faR st_78 (i := 4) rfl rfl rfl) ?_
 refine sS rfl rfl rfl ((op1_ldR Try.underlying31 rfl rfl rfl rfl rfl)) ?_
 refine sS rfl rfl rfl ((op1_cmp rfl rfl rfl rfl).cast (y := (BO ((a0.f_why != 0)))) rfl rfl) (ao_nil ?_)
 change BW _ _ _ _ _
 refine bw_cond rfl ?_ ?_
 ·intro hc1; replace h := ocond_t hc1 h
  refine bR ?_
  refine sS rfl rfl rfl ((op1_ldRA inf_78 Try.underlying78 rfl rfl rfl rfl rfl rfl)) ?_
  refine ao_step0 rfl rfl (op1_store inf_78 rfl rfl rfl rfl rfl rfl (Nat.le_of_ble_eq_true rfl) rfl) ?_
  refine sA rfl rfl rfl rfl rfl (ao_nil ?_)
  change BW _ _ _ _ _
  refine bw_ret ?_
  change ∃ xs, _ = some xs ∧ EndOk _ _ _ _
  obtain rfl := Option.some.inj h
  exact ⟨_, rfl, endOk0 (y := (PV.tup [(of_ref03_reading a0), (ofB (0 : UInt8))])) (Wk.refl _) (ids_tup_cons (ids_S_ref03_reading a0) (ids_tup_cons rfl ids_tup_nil)) ⟨rfl, rfl⟩⟩
 ·intro hc1; replace h := ocond_f hc1 h
  refine bw_skip ?_
  change BW _ _ _ _ _
  refine bw_seq ?_
  refine bR ?_
  refine sS rfl rfl rfl (op1_faR st_78 (i := 1) rfl rfl rfl) ?_
  refine sS rfl rfl rfl ((op1_ldR Try.underlying3 rfl rfl rfl rfl rfl)) ?_
  refine sS rfl rfl rfl (op1_faR st_78 (i := 0) rfl rfl rfl) ?_
  refine sS rfl rfl rfl ((op1_ldR Try.underlying23 rfl rfl rfl rfl rfl)) ?_
  refine sS rfl rfl rfl (op1_lenM Try.underlying23 rfl rfl) ?_
  refine sS rfl rfl rfl ((op1_cmp rfl rfl rfl rfl).cast (y := (BO ((a0.f_at == (((a0.f_b).length : Nat) : Int))))) rfl rfl) (ao_nil ?_)
  change BW _ _ _ _ _
  refine bw_cond rfl ?_ ?_
  ·intro hc2; replace h := ocond_t hc2 h
   refine bR ?_
   refine sS rfl rfl rfl ((op1_ldRA inf_78 Try.underlying78 rfl rfl rfl rfl rfl rfl)) ?_
   refine sS rfl rfl rfl (op1_faR st_78 (i := 0) rfl rfl rfl) ?_
   refine sS rfl rfl rfl ((op1_ldR Try.underlying23 rfl rfl rfl rfl rfl)) ?_
   refine sS rfl rfl rfl (op1_lenM Try.underlying23 rfl rfl) ?_
   obtain ⟨x3, hx3, h⟩ := obind h
   refine sS rfl rfl rfl (op1_pcall rfl en_53 rfl (.cons (Wk.refl _) (.cons (Wk.refl _) (.cons (Wk.refl _) .nil))) ⟨(ids_S_ref03_reading a0), ⟨rfl, ⟨rfl, trivial⟩⟩⟩ (s_ref03_reading_bad a0 (((a0.f_b).length : Nat) : Int) 4 x3 hx3) (ids_S_ref03_reading x3)) ?_
   refine ao_step0 rfl rfl (op1_store inf_78 rfl rfl rfl rfl rfl rfl (Nat.le_of_ble_eq_true rfl) rfl) ?_
   refine sA rfl rfl rfl rfl rfl (ao_nil ?_)
   change BW _ _ _ _ _
   refine bw_ret ?_
   change ∃ xs, _ = some xs ∧ EndOk _ _ _ _
   obtain rfl := Option.some.inj h
   exact ⟨_, rfl, endOk0 (y := (PV.tup [(of_ref03_reading x3), (ofB (0 : UInt8))])) (Wk.refl _) (ids_tup_cons (ids_S_ref03_reading x3) (ids_tup_cons rfl ids_tup_nil)) ⟨rfl, rfl⟩⟩
  ·intro hc2; replace h := ocond_f hc2 h
   refine bw_skip ?_
   change BW _ _ _ _ _
   refine bR ?_
   refine sS rfl rfl rfl (op1_faR st_78 (i := 1) rfl rfl rfl) ?_
   refine sS rfl rfl rfl ((op1_ldR Try.underlying3 rfl rfl rfl rfl rfl)) ?_
   refine sS rfl rfl rfl (op1_addW rfl rfl rfl) ?_
   refine sS rfl rfl rfl (op1_faR st_78 (i := 1) rfl rfl rfl) ?_
   refine ao_step0 rfl rfl (op1_store inf_3 rfl rfl rfl rfl rfl rfl (Nat.le_of_ble_eq_true rfl) rfl) ?_
   refine ao_nil ?_
   change BW _ _ _ _ _
   refine bw_seq (bw_tail 9 [8] [0] mo (by kernel_rfl) ?_)
   refine ac_go rfl rfl rfl rfl (fun H hp => (op1_ldRA inf_78 Try.underlying78 rfl rfl rfl (hp.at rfl rfl) rfl rfl)) ?_
   refine ac_go rfl rfl rfl rfl (fun H hp => op1_faR st_78 (i := 0) rfl rfl rfl) ?_
   refine ac_go rfl rfl rfl rfl (fun H hp => (op1_ldR Try.underlying23 rfl rfl rfl (hp.at rfl rfl) rfl)) ?_
   refine ac_go rfl rfl rfl rfl (fun H hp => op1_faR st_78 (i := 1) rfl rfl rfl) ?_
   refine ac_go rfl rfl rfl rfl (fun H hp => (op1_ldR Try.underlying3 rfl rfl rfl (hp.at rfl rfl) rfl)) ?_
   refine ac_go rfl rfl rfl rfl (fun H hp => op1_subW rfl rfl rfl) ?_
   obtain ⟨x4, hx4, h⟩ := obind h
   refine ac_go rfl rfl rfl rfl (fun H hp => op1_idxM Try.underlying23 inf_5 rfl rfl rfl hx4 rfl) ?_
   refine ac_go rfl rfl rfl rfl (fun H hp => op1_ldP (y := (ofB x4)) Try.underlying5 rfl rfl rfl rfl) ?_
   refine ac_lgo0 rfl rfl rfl (op1_store inf_78 rfl rfl rfl rfl rfl rfl (Nat.le_of_ble_eq_true rfl) rfl) ⟨rfl, trivial⟩ ?_
   refine ac_nil ?_
   change AO _ _ _ _ _
   refine sA rfl rfl rfl rfl rfl (ao_nil ?_)
   change BW _ _ _ _ _
   refine bw_ret ?_
   change ∃ xs, _ = some xs ∧ EndOk _ _ _ _
   obtain rfl := Option.some.inj h
   exact ⟨_, rfl, endOk0 (y := (PV.tup [(of_ref03_reading (S_ref03_reading.mk a0.f_b (IntKind.i64.wrap (a0.f_at + 1)) a0.f_n a0.f_place a0.f_why)), (ofB x4)])) (Wk.refl _) (ids_tup_cons (ids_S_ref03_reading (S_ref03_reading.mk a0.f_b (IntKind.i64.wrap (a0.f_at + 1)) a0.f_n a0.f_place a0.f_why)) (ids_tup_cons rfl ids_tup_nil)) ⟨rfl, rfl⟩⟩
noncomputable def ref03_reading_number_j1 (g1 : Int → Int → Str → Int → Int → Int → Int → Option (S_ref03_reading × Int)) (a0 : S_ref03_reading) (s1 : Int) (s2 : Int) (x9 : (S_ref03_reading × UInt8)) (s11 : Bool) : Option (S_ref03_reading × Int) :=
 bif s11 then (
  Option.bind (p_ref03_reading_bad (x9.1) a0.f_at 31) fun x13 =>
  some (x13, 0)
 ) else (
  Option.bind (nzO (((128 : UInt8)).toNat : Int)) fun x14 =>
  Option.bind (negO (IntKind.u64.wrap (IntKind.i64.wrap (7 * s2)))) fun x15 =>
  bif (decide (((x9.2).toNat : Int) < (((128 : UInt8)).toNat : Int))) then (
   some ((x9.1), (IntKind.u64.wrap (s1 + (shlK .u64 (((UInt8.ofInt (Int.tmod ((x9.2).toNat : Int) (((128 : UInt8)).toNat : Int)))).toNat : Int) (IntKind.u64.wrap (IntKind.i64.wrap (7 * s2)))))))
  ) else (
   g1 (IntKind.u64.wrap (s1 + (shlK .u64 (((UInt8.ofInt (Int.tmod ((x9.2).toNat : Int) (((128 : UInt8)).toNat : Int)))).toNat : Int) (IntKind.u64.wrap (IntKind.i64.wrap (7 * s2)))))) (IntKind.i64.wrap (s2 + 1)) ((x9.1).f_b) ((x9.1).f_at) ((x9.1).f_n) ((x9.1).f_place) ((x9.1).f_why)
  )
 )
theorem ref03_reading_number_j1_cm {ι : Type} {ρ : ι → Type} (g1 : (∀ i, Option (ρ i)) → Int → Int → Str → Int → Int → Int → Int → Option (S_ref03_reading × Int)) (h_g1 : ∀ y0 y1 y2 y3 y4 y5 y6, CM (fun G => g1 G y0 y1 y2 y3 y4 y5 y6)) (a0 : S_ref03_reading) (s1 : Int) (s2 : Int) (x9 : (S_ref03_reading × UInt8)) (s11 : Bool) : CM (fun G : (∀ i, Option (ρ i)) => ref03_reading_number_j1 (g1 G) a0 s1 s2 x9 s11) := by
 simp only [ref03_reading_number_j1]
 repeat (first | exact cm_const | exact h_g1 _ _ _ _ _ _ _ | refine cm_cond ?_ ?_ | refine cm_bind ?_ (fun _ => ?_))
noncomputable def ref03_reading_number_l1b (a0 : S_ref03_reading) (g1 : Int → Int → Str → Int → Int → Int → Int → Option (S_ref03_reading × Int)) (s1 : Int) (s2 : Int) (s3 : Str) (s4 : Int) (s5 : Int) (s6 : Int) (s7 : Int) : Option (S_ref03_reading × Int) :=
 bif (decide (s2 < 10)) then (
  Option.bind (p_ref03_reading_one (S_ref03_reading.mk s3 s4 s5 s6 s7)) fun x9 =>
  bif ((x9.1).f_why != 0) then (
   some ((x9.1), 0)
  ) else (
   bif (s2 == 9) then (
    bif (decide (((x9.2).toNat : Int) > (((1 : UInt8)).toNat : Int))) then (
     ref03_reading_number_j1 g1 a0 s1 s2 x9 true
    ) else (
     bif (decide (s2 > 0)) then (
      ref03_reading_number_j1 g1 a0 s1 s2 x9 (((x9.2).toNat : Int) == (((0 : UInt8)).toNat : Int))
     ) else (
      ref03_reading_number_j1 g1 a0 s1 s2 x9 false
     )
    )
   ) else (
    bif (decide (s2 > 0)) then (
     ref03_reading_number_j1 g1 a0 s1 s2 x9 (((x9.2).toNat : Int) == (((0 : UInt8)).toNat : Int))
    ) else (
     ref03_reading_number_j1 g1 a0 s1 s2 x9 false
    )
   )
  )
 ) else (
  some ((S_ref03_reading.mk s3 s4 s5 s6 s7), s1)
 )
theorem ref03_reading_number_l1b_cm {ι : Type} {ρ : ι → Type} (g1 : (∀ i, Option (ρ i)) → Int → Int → Str → Int → Int → Int → Int → Option (S_ref03_reading × Int)) (h_g1 : ∀ y0 y1 y2 y3 y4 y5 y6, CM (fun G => g1 G y0 y1 y2 y3 y4 y5 y6)) (a0 : S_ref03_reading) (s1 : Int) (s2 : Int) (s3 : Str) (s4 : Int) (s5 : Int) (s6 : Int) (s7 : Int) : CM (fun G : (∀ i, Option (ρ i)) => ref03_reading_number_l1b a0 (g1 G) s1 s2 s3 s4 s5 s6 s7) := by
 simp only [ref03_reading_number_l1b]
 repeat (first | exact cm_const | exact h_g1 _ _ _ _ _ _ _ | apply ref03_reading_number_j1_cm | refine cm_cond ?_ ?_ | refine cm_bind ?_ (fun _ => ?_) | intro _ | assumption)
noncomputable def ref03_reading_number_l1 (a0 : S_ref03_reading) (s1 : Int) (s2 : Int) (s3 : Str) (s4 : Int) (s5 : Int) (s6 : Int) (s7 : Int) : Option (S_ref03_reading × Int) :=
 fixO (ι := (Int × Int × Str × Int × Int × Int × Int)) (ρ := fun _ => (S_ref03_reading × Int)) (fun g i => ref03_reading_number_l1b a0 (fun s1 s2 s3 s4 s5 s6 s7 => g (s1, s2, s3, s4, s5, s6, s7)) i.1 i.2.1 i.2.2.1 i.2.2.2.1 i.2.2.2.2.1 i.2.2.2.2.2.1 i.2.2.2.2.2.2) (s1, s2, s3, s4, s5, s6, s7)
theorem ref03_reading_number_l1_eq (a0 : S_ref03_reading) (s1 : Int) (s2 : Int) (s3 : Str) (s4 : Int) (s5 : Int) (s6 : Int) (s7 : Int) : ref03_reading_number_l1 a0 s1 s2 s3 s4 s5 s6 s7 = ref03_reading_number_l1b a0 (ref03_reading_number_l1 a0) s1 s2 s3 s4 s5 s6 s7 :=
 fixO_eq (ι := (Int × Int × Str × Int × Int × Int × Int)) (ρ := fun _ => (S_ref03_reading × Int)) (Φ := fun g i => ref03_reading_number_l1b a0 (fun s1 s2 s3 s4 s5 s6 s7 => g (s1, s2, s3, s4, s5, s6, s7)) i.1 i.2.1 i.2.2.1 i.2.2.2.1 i.2.2.2.2.1 i.2.2.2.2.2.1 i.2.2.2.2.2.2) (fun i => ref03_reading_number_l1b_cm (ι := (Int × Int × Str × Int × Int × Int × Int)) (ρ := fun _ => (S_ref03_reading × Int)) (fun g => (fun s1 s2 s3 s4 s5 s6 s7 => g (s1, s2, s3, s4, s5, s6, s7))) (fun _ _ _ _ _ _ _ => cm_app) a0 i.1 i.2.1 i.2.2.1 i.2.2.2.1 i.2.2.2.2.1 i.2.2.2.2.2.1 i.2.2.2.2.2.2) (s1, s2, s3, s4, s5, s6, s7)
noncomputable def p_ref03_reading_number (a0 : S_ref03_reading) : Option (S_ref03_reading × Int) :=
 ref03_reading_number_l1 a0 0 0 a0.f_b a0.f_at a0.f_n a0.f_place a0.f_why
theorem s_ref03_reading_number (a0 : S_ref03_reading) (r : (S_ref03_reading × Int)) (h : p_ref03_reading_number a0 = some r) : PCalls Try.prog 69 [(of_ref03_reading a0)] (PV.tup [(of_ref03_reading r.1), (PV.v (.int .u64 r.2))]) := by
 unfold p_ref03_reading_number at h
 refine acalls_of Try.func69 rfl Try.ntmps69 Try.results69 rfl (aw_of_bw ?_)
 change BW _ _ _ ⟨[(0, (of_ref03_reading a0))], [], _⟩ _
 refine bR ?_
 refine sS rfl rfl rfl (op1_box rfl rfl rfl) ?_
 refine sS rfl rfl rfl (op1_alloc inf_78 rfl) ?_
 refine sA rfl rfl rfl rfl rfl (ao_nil ?_)
 change BW _ _ _ _ _
 refine bR ?_
 refine sS rfl rfl rfl (op1_faR st_78 (i := 1) rfl rfl rfl) ?_
 refine sS rfl rfl rfl ((op1_ldR Try.underlying3 rfl rfl rfl rfl rfl)) ?_
 refine sA rfl rfl rfl rfl rfl ?_
 refine sA rfl rfl rfl rfl rfl (ao_nil ?_)
 change BW _ _ _ _ _
 refine bw_seq ?_
 refine bR ?_
 refine sA rfl rfl rfl rfl rfl (ao_nil ?_)
 change BW _ _ _ _ _
 refine bw_block ?_
 change BW _ _ _ _ _
 unfold ref03_reading_number_l1 at h
 refine bw_loop (σ := (Int × Int × Str × Int × Int × Int × Int)) (fun i => [(1, (PV.rf 0 0)), (2, (PV.rf 1 0)), (4, (I64 a0.f_at)), (5, (PV.v (.int .u64 i.1))), (6, (I64 i.2.1))]) (fun i => [.box 78 [(PV.sl none 5 1 (List.map ofB i.2.2.1)), (I64 i.2.2.2.1), (I64 i.2.2.2.2.1), (I64 i.2.2.2.2.2.1), (I64 i.2.2.2.2.2.2)], .box 78 [(PV.v (.slice none 0 0)), (I64 0), (I64 0), (I64 0), (I64 0)]]) (0, 0, a0.f_b, a0.f_at, a0.f_n, a0.f_place, a0.f_why) h ?_ ?_ ?_
 ·intro i; exact ⟨Nat.le_of_ble_eq_true rfl, ⟨(il_rf rfl), ⟨(il_rf rfl), ⟨(il_nil rfl), ⟨(il_nil rfl), ⟨(il_nil rfl), trivial⟩⟩⟩⟩⟩, ⟨⟨(il_nil (ids_slM (fun _ => rfl) _)), ⟨(il_nil rfl), ⟨(il_nil rfl), ⟨(il_nil rfl), ⟨(il_nil rfl), trivial⟩⟩⟩⟩⟩, ⟨⟨(il_nil rfl), ⟨(il_nil rfl), ⟨(il_nil rfl), ⟨(il_nil rfl), ⟨(il_nil rfl), trivial⟩⟩⟩⟩⟩, trivial⟩⟩⟩
 ·exact ⟨(.cons .same (.cons .same .nil)), (sC rfl (sC rfl (sC rfl (sC rfl (sC rfl sub_nil)))))⟩
 ·rintro g1_f ⟨s1, s2, s3, s4, s5, s6, s7⟩ h; replace h : ref03_reading_number_l1b a0 (fun y0 y1 y2 y3 y4 y5 y6 => g1_f (y0, y1, y2, y3, y4, y5, y6)) s1 s2 s3 s4 s5 s6 s7 = some r := h; unfold ref03_reading_number_l1b at h
  change BW _ _ _ ⟨[(1, (PV.rf 0 0)), (2, (PV.rf 1 0)), (4, (I64 a0.f_at)), (5, (PV.v (.int .u64 s1))), (6, (I64 s2))], [.box 78 [(PV.sl none 5 1 (List.map ofB s3)), (I64 s4), (I64 s5), (I64 s6), (I64 s7)], .box 78 [(PV.v (.slice none 0 0)), (I64 0), (I64 0), (I64 0), (I64 0)]], _⟩ _
  refine bw_seq ?_
  refine bR ?_
  refine sM rfl rfl rfl rfl rfl ?_
  refine sS rfl rfl rfl ((op1_cmp rfl rfl rfl rfl).cast (y := (BO ((decide (s2 < 10))))) rfl rfl) (ao_nil ?_)
  change BW _ _ _ _ _
  refine bw_cond rfl ?_ ?_
  ·intro hc8; replace h := ocond_t hc8 h
   refine bw_skip ?_
   change BW _ _ _ _ _
   refine bw_seq ?_
   refine bw_block ?_
   change BW _ _ _ _ _
   refine bR ?_
   refine sA rfl rfl rfl rfl rfl (ao_nil ?_)
   change BW _ _ _ _ _
   refine bR ?_
   refine sS rfl rfl rfl ((op1_ldRA inf_78 Try.underlying78 rfl rfl rfl rfl rfl rfl)) ?_
   obtain ⟨x9, hx9, h⟩ := obind h
   refine sS rfl rfl rfl (op1_pcall rfl en_54 rfl (.cons (Wk.refl _) .nil) ⟨(ids_S_ref03_reading (S_ref03_reading.mk s3 s4 s5 s6 s7)), trivial⟩ (s_ref03_reading_one (S_ref03_reading.mk s3 s4 s5 s6 s7) x9 hx9) (ids_tup_cons (ids_S_ref03_reading x9.1) (ids_tup_cons rfl ids_tup_nil))) ?_
   refine sM rfl rfl rfl rfl rfl ?_
   refine sS rfl rfl rfl (op1_ext rfl rfl rfl) ?_
   refine sS rfl rfl rfl (op1_ext rfl rfl rfl) ?_
   refine ao_step0 rfl rfl (op1_store inf_78 rfl rfl rfl rfl rfl rfl (Nat.le_of_ble_eq_true rfl) rfl) ?_
   refine sA rfl rfl rfl rfl rfl (ao_nil ?_)
   change BW _ _ _ _ _
   refine bw_seq ?_
   refine bR ?_
   refine sS rfl rfl rfl (op1_faR st_78 (i := 4) rfl rfl rfl) ?_
   refine sS rfl rfl rfl ((op1_ldR Try.underlying31 rfl rfl rfl rfl rfl)) ?_
   refine sS rfl rfl rfl ((op1_cmp rfl rfl rfl rfl).cast (y := (BO (((x9.1).f_why != 0)))) rfl rfl) (ao_nil ?_)
   change BW _ _ _ _ _
   refine bw_cond rfl ?_ ?_
   ·intro hc10; replace h := ocond_t hc10 h
    refine bR ?_
    refine sS rfl rfl rfl ((op1_ldRA inf_78 Try.underlying78 rfl rfl rfl rfl rfl rfl)) ?_
    refine ao_step0 rfl rfl (op1_store inf_78 rfl rfl rfl rfl rfl rfl (Nat.le_of_ble_eq_true rfl) rfl) ?_
    refine sA rfl rfl rfl rfl rfl (ao_nil ?_)
    change BW _ _ _ _ _
    refine bw_ret ?_
    change ∃ xs, _ = some xs ∧ EndOk _ _ _ _
    obtain rfl := Option.some.inj h
    exact ⟨_, rfl, endOk0 (y := (PV.tup [(of_ref03_reading (x9.1)), (PV.v (.int .u64 0))])) (Wk.refl _) (ids_tup_cons (ids_S_ref03_reading (x9.1)) (ids_tup_cons rfl ids_tup_nil)) ⟨rfl, rfl⟩⟩
   ·intro hc10; replace h := ocond_f hc10 h
    refine bw_skip ?_
    change BW _ _ _ _ _
    refine bw_seq ?_
    refine bw_seqJ (ι := Bool) (fun i => ref03_reading_number_j1 (fun y0 y1 y2 y3 y4 y5 y6 => g1_f (y0, y1, y2, y3, y4, y5, y6)) a0 s1 s2 x9 i = some r) (fun i => [(1, (PV.rf 0 0)), (2, (PV.rf 1 0)), (4, (I64 a0.f_at)), (5, (PV.v (.int .u64 s1))), (6, (I64 s2)), (7, (ofB x9.2)), (36, (BO i))]) (fun i => [.box 78 [(PV.sl none 5 1 (List.map ofB (x9.1).f_b)), (I64 ((x9.1).f_at)), (I64 ((x9.1).f_n)), (I64 ((x9.1).f_place)), (I64 ((x9.1).f_why))], .box 78 [(PV.v (.slice none 0 0)), (I64 0), (I64 0), (I64 0), (I64 0)]]) ?_ ?_ ?_
    ·intro i; exact ⟨Nat.le_of_ble_eq_true rfl, ⟨(il_rf rfl), ⟨(il_rf rfl), ⟨(il_nil rfl), ⟨(il_nil rfl), ⟨(il_nil rfl), ⟨(il_nil rfl), ⟨(il_nil rfl), trivial⟩⟩⟩⟩⟩⟩⟩, ⟨⟨(il_nil (ids_slM (fun _ => rfl) _)), ⟨(il_nil rfl), ⟨(il_nil rfl), ⟨(il_nil rfl), ⟨(il_nil rfl), trivial⟩⟩⟩⟩⟩, ⟨⟨(il_nil rfl), ⟨(il_nil rfl), ⟨(il_nil rfl), ⟨(il_nil rfl), ⟨(il_nil rfl), trivial⟩⟩⟩⟩⟩, trivial⟩⟩⟩
    ·rintro s11 h; replace h : ref03_reading_number_j1 (fun y0 y1 y2 y3 y4 y5 y6 => g1_f (y0, y1, y2, y3, y4, y5, y6)) a0 s1 s2 x9 s11 = some r := h; unfold ref03_reading_number_j1 at h
     change BW _ _ _ ⟨[(1, (PV.rf 0 0)), (2, (PV.rf 1 0)), (4, (I64 a0.f_at)), (5, (PV.v (.int .u64 s1))), (6, (I64 s2)), (7, (ofB x9.2)), (36, (BO s11))], [.box 78 [(PV.sl none 5 1 (List.map ofB (x9.1).f_b)), (I64 ((x9.1).f_at)), (I64 ((x9.1).f_n)), (I64 ((x9.1).f_place)), (I64 ((x9.1).f_why))], .box 78 [(PV.v (.slice none 0 0)), (I64 0), (I64 0), (I64 0), (I64 0)]], _⟩ _
     refine bw_cond rfl ?_ ?_
     ·intro hc12; replace h := ocond_t hc12 h
      refine bR ?_
      refine sS rfl rfl rfl ((op1_ldRA inf_78 Try.underlying78 rfl rfl rfl rfl rfl rfl)) ?_
      refine sM rfl rfl rfl rfl rfl ?_
      obtain ⟨x13, hx13, h⟩ := obind h
      refine sS rfl rfl rfl (op1_pcall rfl en_53 rfl (.cons (Wk.refl _) (.cons (Wk.refl _) (.cons (Wk.refl _) .nil))) ⟨(ids_S_ref03_reading (x9.1)), ⟨rfl, ⟨rfl, trivial⟩⟩⟩ (s_ref03_reading_bad (x9.1) a0.f_at 31 x13 hx13) (ids_S_ref03_reading x13)) ?_
      refine ao_step0 rfl rfl (op1_store inf_78 rfl rfl rfl rfl rfl rfl (Nat.le_of_ble_eq_true rfl) rfl) ?_
      refine sA rfl rfl rfl rfl rfl (ao_nil ?_)
      change BW _ _ _ _ _
      refine bw_ret ?_
      change ∃ xs, _ = some xs ∧ EndOk _ _ _ _
      obtain rfl := Option.some.inj h
      exact ⟨_, rfl, endOk0 (y := (PV.tup [(of_ref03_reading x13), (PV.v (.int .u64 0))])) (Wk.refl _) (ids_tup_cons (ids_S_ref03_reading x13) (ids_tup_cons rfl ids_tup_nil)) ⟨rfl, rfl⟩⟩
     ·intro hc12; replace h := ocond_f hc12 h
      refine bw_skip ?_
      change BW _ _ _ _ _
      refine bR ?_
      refine sM rfl rfl rfl rfl rfl ?_
      refine sM rfl rfl rfl rfl rfl ?_
      obtain ⟨x14, hx14, h⟩ := obind h
      refine sS rfl rfl rfl ((op1_rem rfl rfl rfl (nzO_some hx14)).cast (y := (ofB (UInt8.ofInt (Int.tmod ((x9.2).toNat : Int) (((128 : UInt8)).toNat : Int))))) (congrArg (fun i => PV.v (.int .u8 i)) (remB _ _)) rfl) ?_
      refine sS rfl rfl rfl ((op1_convI Try.underlying5 Try.underlying24 rfl rfl).cast (y := (PV.v (.int .u64 (((UInt8.ofInt (Int.tmod ((x9.2).toNat : Int) (((128 : UInt8)).toNat : Int)))).toNat : Int)))) (by rw [wrapB_u64]) rfl) ?_
      refine sM rfl rfl rfl rfl rfl ?_
      refine sS rfl rfl rfl (op1_mulW rfl rfl rfl) ?_
      refine sS rfl rfl rfl (op1_convI Try.underlying3 Try.underlying104 rfl rfl) ?_
      obtain ⟨x15, hx15, h⟩ := obind h
      refine sS rfl rfl rfl ((op1_shl rfl rfl rfl (negO_some hx15)).cast (y := (PV.v (.int .u64 (shlK .u64 (((UInt8.ofInt (Int.tmod ((x9.2).toNat : Int) (((128 : UInt8)).toNat : Int)))).toNat : Int) (IntKind.u64.wrap (IntKind.i64.wrap (7 * s2))))))) rfl rfl) ?_
      refine sS rfl rfl rfl (op1_addW rfl rfl rfl) ?_
      refine sA rfl rfl rfl rfl rfl (ao_nil ?_)
      change BW _ _ _ _ _
      refine bR ?_
      refine sM rfl rfl rfl rfl rfl ?_
      refine sS rfl rfl rfl ((op1_cmp rfl rfl rfl rfl).cast (y := (BO ((decide (((x9.2).toNat : Int) < (((128 : UInt8)).toNat : Int)))))) rfl rfl) (ao_nil ?_)
      change BW _ _ _ _ _
      refine bw_cond rfl ?_ ?_
      ·intro hc16; replace h := ocond_t hc16 h
       refine bR ?_
       refine sS rfl rfl rfl ((op1_ldRA inf_78 Try.underlying78 rfl rfl rfl rfl rfl rfl)) ?_
       refine sM rfl rfl rfl rfl rfl ?_
       refine ao_step0 rfl rfl (op1_store inf_78 rfl rfl rfl rfl rfl rfl (Nat.le_of_ble_eq_true rfl) rfl) ?_
       refine sA rfl rfl rfl rfl rfl (ao_nil ?_)
       change BW _ _ _ _ _
       refine bw_ret ?_
       change ∃ xs, _ = some xs ∧ EndOk _ _ _ _
       obtain rfl := Option.some.inj h
       exact ⟨_, rfl, endOk0 (y := (PV.tup [(of_ref03_reading (x9.1)), (PV.v (.int .u64 (IntKind.u64.wrap (s1 + (shlK .u64 (((UInt8.ofInt (Int.tmod ((x9.2).toNat : Int) (((128 : UInt8)).toNat : Int)))).toNat : Int) (IntKind.u64.wrap (IntKind.i64.wrap (7 * s2))))))))])) (Wk.refl _) (ids_tup_cons (ids_S_ref03_reading (x9.1)) (ids_tup_cons rfl ids_tup_nil)) ⟨rfl, rfl⟩⟩
      ·intro hc16; replace h := ocond_f hc16 h
       refine bw_skip ?_
       change BW _ _ _ _ _
       refine bw_region ?_
       refine sM rfl rfl rfl rfl rfl ?_
       refine sS rfl rfl rfl (op1_addW rfl rfl rfl) ?_
       refine sA rfl rfl rfl rfl rfl (ao_nil ?_)
       exact ⟨rfl, ((IntKind.u64.wrap (s1 + (shlK .u64 (((UInt8.ofInt (Int.tmod ((x9.2).toNat : Int) (((128 : UInt8)).toNat : Int)))).toNat : Int) (IntKind.u64.wrap (IntKind.i64.wrap (7 * s2)))))), (IntKind.i64.wrap (s2 + 1)), (x9.1).f_b, (x9.1).f_at, (x9.1).f_n, (x9.1).f_place, (x9.1).f_why), h, ⟨(.cons .same (.cons .same .nil)), (sC rfl (sC rfl (sC rfl (sC rfl (sC rfl sub_nil)))))⟩⟩
    ·refine bw_region ?_
     refine sM rfl rfl rfl rfl rfl ?_
     refine sS rfl rfl rfl ((op1_cmp rfl rfl rfl rfl).cast (y := (BO ((s2 == 9)))) rfl rfl) ?_
     refine sM rfl rfl rfl rfl rfl ?_
     refine ao_cases (t := 25) rfl ?_ ?_
     ·intro hb17; replace h := ocond_t hb17 h
      refine ao_yes rfl rfl rfl rfl rfl rfl (op1_move rfl rfl) ?_
      refine ao_yes rfl rfl rfl rfl rfl rfl ((op1_cmp rfl rfl rfl rfl).cast (y := (BO ((decide (((x9.2).toNat : Int) > (((1 : UInt8)).toNat : Int)))))) rfl rfl) ?_
      refine sS rfl rfl rfl (op1_pickT rfl rfl rfl) ?_
      refine sM rfl rfl rfl rfl rfl ?_
      refine ao_cases (t := 29) rfl ?_ ?_
      ·intro hb18; replace h := ocond_t hb18 h
       refine ao_no rfl rfl rfl rfl rfl rfl ?_
       refine ao_no rfl rfl rfl rfl rfl rfl ?_
       refine ao_no rfl rfl rfl rfl rfl rfl ?_
       refine ao_no rfl rfl rfl rfl rfl rfl ?_
       refine ao_no rfl rfl rfl rfl rfl rfl ?_
       refine ao_no rfl rfl rfl rfl rfl rfl ?_
       refine sS rfl rfl rfl (op1_pickT rfl rfl rfl) (ao_nil ?_)
       exact ⟨rfl, true, h, ⟨(.cons .same (.cons .same .nil)), (sC rfl (sC rfl (sC rfl (sC rfl (sC rfl (sC rfl (sC rfl sub_nil)))))))⟩⟩
      ·intro hb18; replace h := ocond_f hb18 h
       refine ao_yes rfl rfl rfl rfl rfl rfl (op1_move rfl rfl) ?_
       refine ao_yes rfl rfl rfl rfl rfl rfl ((op1_cmp rfl rfl rfl rfl).cast (y := (BO ((decide (s2 > 0))))) rfl rfl) ?_
       refine ao_yes rfl rfl rfl rfl rfl rfl (op1_move rfl rfl) ?_
       refine ao_cases (t := 32) rfl ?_ ?_
       ·intro hb19; replace h := ocond_t hb19 h
        refine ao_yes rfl rfl rfl rfl rfl rfl (op1_move rfl rfl) ?_
        refine ao_yes rfl rfl rfl rfl rfl rfl ((op1_cmp rfl rfl rfl rfl).cast (y := (BO ((((x9.2).toNat : Int) == (((0 : UInt8)).toNat : Int))))) rfl rfl) ?_
        refine ao_yes rfl rfl rfl rfl rfl rfl (op1_pickT rfl rfl rfl) ?_
        refine sS rfl rfl rfl (op1_pickF rfl rfl rfl) (ao_nil ?_)
        exact ⟨rfl, (((x9.2).toNat : Int) == (((0 : UInt8)).toNat : Int)), h, ⟨(.cons .same (.cons .same .nil)), (sC rfl (sC rfl (sC rfl (sC rfl (sC rfl (sC rfl (sC rfl sub_nil)))))))⟩⟩
       ·intro hb19; replace h := ocond_f hb19 h
        refine ao_no rfl rfl rfl rfl rfl rfl ?_
        refine ao_no rfl rfl rfl rfl rfl rfl ?_
        refine ao_yes rfl rfl rfl rfl rfl rfl (op1_pickF rfl rfl rfl) ?_
        refine sS rfl rfl rfl (op1_pickF rfl rfl rfl) (ao_nil ?_)
        exact ⟨rfl, false, h, ⟨(.cons .same (.cons .same .nil)), (sC rfl (sC rfl (sC rfl (sC rfl (sC rfl (sC rfl (sC rfl sub_nil)))))))⟩⟩
     ·intro hb17; replace h := ocond_f hb17 h
      refine ao_no rfl rfl rfl rfl rfl rfl ?_
      refine ao_no rfl rfl rfl rfl rfl rfl ?_
      refine sS rfl rfl rfl (op1_pickF rfl rfl rfl) ?_
      refine sM rfl rfl rfl rfl rfl ?_
      refine ao_yes rfl rfl rfl rfl rfl rfl (op1_move rfl rfl) ?_
      refine ao_yes rfl rfl rfl rfl rfl rfl ((op1_cmp rfl rfl rfl rfl).cast (y := (BO ((decide (s2 > 0))))) rfl rfl) ?_
      refine ao_yes rfl rfl rfl rfl rfl rfl (op1_move rfl rfl) ?_
      refine ao_cases (t := 32) rfl ?_ ?_
      ·intro hb20; replace h := ocond_t hb20 h
       refine ao_yes rfl rfl rfl rfl rfl rfl (op1_move rfl rfl) ?_
       refine ao_yes rfl rfl rfl rfl rfl rfl ((op1_cmp rfl rfl rfl rfl).cast (y := (BO ((((x9.2).toNat : Int) == (((0 : UInt8)).toNat : Int))))) rfl rfl) ?_
       refine ao_yes rfl rfl rfl rfl rfl rfl (op1_pickT rfl rfl rfl) ?_
       refine sS rfl rfl rfl (op1_pickF rfl rfl rfl) (ao_nil ?_)
       exact ⟨rfl, (((x9.2).toNat : Int) == (((0 : UInt8)).toNat : Int)), h, ⟨(.cons .same (.cons .same .nil)), (sC rfl (sC rfl (sC rfl (sC rfl (sC rfl (sC rfl (sC rfl sub_nil)))))))⟩⟩
      ·intro hb20; replace h := ocond_f hb20 h
       refine ao_no rfl rfl rfl rfl rfl rfl ?_
       refine ao_no rfl rfl rfl rfl rfl rfl ?_
       refine ao_yes rfl rfl rfl rfl rfl rfl (op1_pickF rfl rfl rfl) ?_
       refine sS rfl rfl rfl (op1_pickF rfl rfl rfl) (ao_nil ?_)
       exact ⟨rfl, false, h, ⟨(.cons .same (.cons .same .nil)), (sC rfl (sC rfl (sC rfl (sC rfl (sC rfl (sC rfl (sC rfl sub_nil)))))))⟩⟩
  ·intro hc8; replace h := ocond_f hc8 h
   refine bw_exit ?_
   change BW _ _ _ _ _
   refine bR ?_
   refine sS rfl rfl rfl ((op1_ldRA inf_78 Try.underlying78 rfl rfl rfl rfl rfl rfl)) ?_
   refine sM rfl rfl rfl rfl rfl ?_
   refine ao_step0 rfl rfl (op1_store inf_78 rfl rfl rfl rfl rfl rfl (Nat.le_of_ble_eq_true rfl) rfl) ?_
   refine sA rfl rfl rfl rfl rfl (ao_nil ?_)
   change BW _ _ _ _ _
   refine bw_ret ?_
   change ∃ xs, _ = some xs ∧ EndOk _ _ _ _
   obtain rfl := Option.some.inj h
   exact ⟨_, rfl, endOk0 (y := (PV.tup [(of_ref03_reading (S_ref03_reading.mk s3 s4 s5 s6 s7)), (PV.v (.int .u64 s1))])) (Wk.refl _) (ids_tup_cons (ids_S_ref03_reading (S_ref03_reading.mk s3 s4 s5 s6 s7)) (ids_tup_cons rfl ids_tup_nil)) ⟨rfl, rfl⟩⟩
noncomputable def ref03_reading_long_j1 (x1 : (S_ref03_reading × Int)) (s2 : Str) (s3 : Int) (s4 : Int) (s5 : Int) (s6 : Int) : Option (S_ref03_reading × Int) :=
 some ((S_ref03_reading.mk s2 s3 s4 s5 s6), x1.2)
noncomputable def ref03_reading_long_j2 (a2 : Int) (a3 : Int) (x1 : (S_ref03_reading × Int)) (s7 : Bool) : Option (S_ref03_reading × Int) :=
 bif s7 then (
  Option.bind (p_ref03_reading_bad (x1.1) a2 a3) fun x9 =>
  ref03_reading_long_j1 x1 x9.f_b x9.f_at x9.f_n x9.f_place x9.f_why
 ) else (
  ref03_reading_long_j1 x1 ((x1.1).f_b) ((x1.1).f_at) ((x1.1).f_n) ((x1.1).f_place) ((x1.1).f_why)
 )
noncomputable def p_ref03_reading_long (a0 : S_ref03_reading) (a1 : Int) (a2 : Int) (a3 : Int) : Option (S_ref03_reading × Int) :=
 Option.bind (p_ref03_reading_number a0) fun x1 =>
 bif ((x1.1).f_why == 0) then (
  ref03_reading_long_j2 a2 a3 x1 (decide (x1.2 > a1))
 ) else (
  ref03_reading_long_j2 a2 a3 x1 false
 )
theorem s_ref03_reading_long (a0 : S_ref03_reading) (a1 : Int) (a2 : Int) (a3 : Int) (r : (S_ref03_reading × Int)) (h : p_ref03_reading_long a0 a1 a2 a3 = some r) : PCalls Try.prog 70 [(of_ref03_reading a0), (PV.v (.int .u64 a1)), (I64 a2), (I64 a3)] (PV.tup [(of_ref03_reading r.1), (PV.v (.int .u64 r.2))]) := by
 unfold p_ref03_reading_long at h
 refine acalls_of Try.func70 rfl Try.ntmps70 Try.results70 rfl (aw_of_bw ?_)
 change BW _ _ _ ⟨[(0, (of_ref03_reading a0)), (1, (PV.v (.int .u64 a1))), (2, (I64 a2)), (3, (I64 a3))], [], _⟩ _
 refine bR ?_
 refine sS rfl rfl rfl (op1_box rfl rfl rfl) ?_
 refine sS rfl rfl rfl (op1_alloc inf_78 rfl) ?_
 refine sA rfl rfl rfl rfl rfl (ao_nil ?_)
 change BW _ _ _ _ _
 refine bR ?_
 refine sS rfl rfl rfl ((op1_ldRA inf_78 Try.underlying78 rfl rfl rfl rfl rfl rfl)) ?_
 obtain ⟨x1, hx1, h⟩ := obind h
 refine sS rfl rfl rfl (op1_pcall rfl en_69 rfl (.cons (Wk.refl _) .nil) ⟨(ids_S_ref03_reading a0), trivial⟩ (s_ref03_reading_number a0 x1 hx1) (ids_tup_cons (ids_S_ref03_reading x1.1) (ids_tup_cons rfl ids_tup_nil))) ?_
 refine sM rfl rfl rfl rfl rfl ?_
 refine sS rfl rfl rfl (op1_ext rfl rfl rfl) ?_
 refine sS rfl rfl rfl (op1_ext rfl rfl rfl) ?_
 refine ao_step0 rfl rfl (op1_store inf_78 rfl rfl rfl rfl rfl rfl (Nat.le_of_ble_eq_true rfl) rfl) ?_
 refine sA rfl rfl rfl rfl rfl (ao_nil ?_)
 change BW _ _ _ _ _
 refine bw_seqJ (ι := (Str × Int × Int × Int × Int)) (fun i => ref03_reading_long_j1 x1 i.1 i.2.1 i.2.2.1 i.2.2.2.1 i.2.2.2.2 = some r) (fun i => [(4, (PV.rf 0 0)), (8, (PV.rf 1 0)), (10, (PV.v (.int .u64 x1.2)))]) (fun i => [.box 78 [(PV.sl none 5 1 (List.map ofB i.1)), (I64 i.2.1), (I64 i.2.2.1), (I64 i.2.2.2.1), (I64 i.2.2.2.2)], .box 78 [(PV.v (.slice none 0 0)), (I64 0), (I64 0), (I64 0), (I64 0)]]) ?_ ?_ ?_
 ·intro i; exact ⟨Nat.le_of_ble_eq_true rfl, ⟨(il_rf rfl), ⟨(il_rf rfl), ⟨(il_nil rfl), trivial⟩⟩⟩, ⟨⟨(il_nil (ids_slM (fun _ => rfl) _)), ⟨(il_nil rfl), ⟨(il_nil rfl), ⟨(il_nil rfl), ⟨(il_nil rfl), trivial⟩⟩⟩⟩⟩, ⟨⟨(il_nil rfl), ⟨(il_nil rfl), ⟨(il_nil rfl), ⟨(il_nil rfl), ⟨(il_nil rfl), trivial⟩⟩⟩⟩⟩, trivial⟩⟩⟩
 ·rintro ⟨s2, s3, s4, s5, s6⟩ h; replace h : ref03_reading_long_j1 x1 s2 s3 s4 s5 s6 = some r := h; unfold ref03_reading_long_j1 at h
  change BW _ _ _ ⟨[(4, (PV.rf 0 0)), (8, (PV.rf 1 0)), (10, (PV.v (.int .u64 x1.2)))], [.box 78 [(PV.sl none 5 1 (List.map ofB s2)), (I64 s3), (I64 s4), (I64 s5), (I64 s6)], .box 78 [(PV.v (.slice none 0 0)), (I64 0), (I64 0), (I64 0), (I64 0)]], _⟩ _
  refine bR ?_
  refine sS rfl rfl rfl ((op1_ldRA inf_78 Try.underlying78 rfl rfl rfl rfl rfl rfl)) ?_
  refine sM rfl rfl rfl rfl rfl ?_
  refine ao_step0 rfl rfl (op1_store inf_78 rfl rfl rfl rfl rfl rfl (Nat.le_of_ble_eq_true rfl) rfl) ?_
  refine sA rfl rfl rfl rfl rfl (ao_nil ?_)
  change BW _ _ _ _ _
  refine bw_ret ?_
  change ∃ xs, _ = some xs ∧ EndOk _ _ _ _
  obtain rfl := Option.some.inj h
  exact ⟨_, rfl, endOk0 (y := (PV.tup [(of_ref03_reading (S_ref03_reading.mk s2 s3 s4 s5 s6)), (PV.v (.int .u64 x1.2))])) (Wk.refl _) (ids_tup_cons (ids_S_ref03_reading (S_ref03_reading.mk s2 s3 s4 s5 s6)) (ids_tup_cons rfl ids_tup_nil)) ⟨rfl, rfl⟩⟩
 ·refine bw_seqJ (ι := Bool) (fun i => ref03_reading_long_j2 a2 a3 x1 i = some r) (fun i => [(2, (I64 a2)), (3, (I64 a3)), (4, (PV.rf 0 0)), (8, (PV.rf 1 0)), (10, (PV.v (.int .u64 x1.2))), (23, (BO i))]) (fun i => [.box 78 [(PV.sl none 5 1 (List.map ofB (x1.1).f_b)), (I64 ((x1.1).f_at)), (I64 ((x1.1).f_n)), (I64 ((x1.1).f_place)), (I64 ((x1.1).f_why))], .box 78 [(PV.v (.slice none 0 0)), (I64 0), (I64 0), (I64 0), (I64 0)]]) ?_ ?_ ?_
  ·intro i; exact ⟨Nat.le_of_ble_eq_true rfl, ⟨(il_nil rfl), ⟨(il_nil rfl), ⟨(il_rf rfl), ⟨(il_rf rfl), ⟨(il_nil rfl), ⟨(il_nil rfl), trivial⟩⟩⟩⟩⟩⟩, ⟨⟨(il_nil (ids_slM (fun _ => rfl) _)), ⟨(il_nil rfl), ⟨(il_nil rfl), ⟨(il_nil rfl), ⟨(il_nil rfl), trivial⟩⟩⟩⟩⟩, ⟨⟨(il_nil rfl), ⟨(il_nil rfl), ⟨(il_nil rfl), ⟨(il_nil rfl), ⟨(il_nil rfl), trivial⟩⟩⟩⟩⟩, trivial⟩⟩⟩
  ·rintro s7 h; replace h : ref03_reading_long_j2 a2 a3 x1 s7 = some r := h; unfold ref03_reading_long_j2 at h
   change BW _ _ _ ⟨[(2, (I64 a2)), (3, (I64 a3)), (4, (PV.rf 0 0)), (8, (PV.rf 1 0)), (10, (PV.v (.int .u64 x1.2))), (23, (BO s7))], [.box 78 [(PV.sl none 5 1 (List.map ofB (x1.1).f_b)), (I64 ((x1.1).f_at)), (I64 ((x1.1).f_n)), (I64 ((x1.1).f_place)), (I64 ((x1.1).f_why))], .box 78 [(PV.v (.slice none 0 0)), (I64 0), (I64 0), (I64 0), (I64 0)]], _⟩ _
   refine bw_cond rfl ?_ ?_
   ·intro hc8; replace h := ocond_t hc8 h
    refine bw_region ?_
    refine sS rfl rfl rfl ((op1_ldRA inf_78 Try.underlying78 rfl rfl rfl rfl rfl rfl)) ?_
    refine sM rfl rfl rfl rfl rfl ?_
    refine sM rfl rfl rfl rfl rfl ?_
    obtain ⟨x9, hx9, h⟩ := obind h
    refine sS rfl rfl rfl (op1_pcall rfl en_53 rfl (.cons (Wk.refl _) (.cons (Wk.refl _) (.cons (Wk.refl _) .nil))) ⟨(ids_S_ref03_reading (x1.1)), ⟨rfl, ⟨rfl, trivial⟩⟩⟩ (s_ref03_reading_bad (x1.1) a2 a3 x9 hx9) (ids_S_ref03_reading x9)) ?_
    refine ao_step0 rfl rfl (op1_store inf_78 rfl rfl rfl rfl rfl rfl (Nat.le_of_ble_eq_true rfl) rfl) ?_
    refine ao_nil ?_
    exact ⟨rfl, (x9.f_b, x9.f_at, x9.f_n, x9.f_place, x9.f_why), h, ⟨(.cons .same (.cons .same .nil)), (sC rfl (sC rfl (sC rfl sub_nil)))⟩⟩
   ·intro hc8; replace h := ocond_f hc8 h
    refine bw_skip ?_
    exact ⟨rfl, ((x1.1).f_b, (x1.1).f_at, (x1.1).f_n, (x1.1).f_place, (x1.1).f_why), h, ⟨(.cons .same (.cons .same .nil)), (sC rfl (sC rfl (sC rfl sub_nil)))⟩⟩
  ·refine bw_region ?_
   refine sS rfl rfl rfl (op1_faR st_78 (i := 4) rfl rfl rfl) ?_
   refine sS rfl rfl rfl ((op1_ldR Try.underlying31 rfl rfl rfl rfl rfl)) ?_
   refine sS rfl rfl rfl ((op1_cmp rfl rfl rfl rfl).cast (y := (BO (((x1.1).f_why == 0)))) rfl rfl) ?_
   refine sM rfl rfl rfl rfl rfl ?_
   refine ao_cases (t := 19) rfl ?_ ?_
   ·intro hb10; replace h := ocond_t hb10 h
    refine ao_yes rfl rfl rfl rfl rfl rfl (op1_move rfl rfl) ?_
    refine ao_yes rfl rfl rfl rfl rfl rfl (op1_move rfl rfl) ?_
    refine ao_yes rfl rfl rfl rfl rfl rfl ((op1_cmp rfl rfl rfl rfl).cast (y := (BO ((decide (x1.2 > a1))))) rfl rfl) ?_
    refine sS rfl rfl rfl (op1_pickT rfl rfl rfl) (ao_nil ?_)
    exact ⟨rfl, (decide (x1.2 > a1)), h, ⟨(.cons .same (.cons .same .nil)), (sC rfl (sC rfl (sC rfl (sC rfl (sC rfl (sC rfl sub_nil))))))⟩⟩
   ·intro hb10; replace h := ocond_f hb10 h
    refine ao_no rfl rfl rfl rfl rfl rfl ?_
    refine ao_no rfl rfl rfl rfl rfl rfl ?_
    refine ao_no rfl rfl rfl rfl rfl rfl ?_
    refine sS rfl rfl rfl (op1_pickF rfl rfl rfl) (ao_nil ?_)
    exact ⟨rfl, false, h, ⟨(.cons .same (.cons .same .nil)), (sC rfl (sC rfl (sC rfl (sC rfl (sC rfl (sC rfl sub_nil))))))⟩⟩
noncomputable def p_ref03_reading_some (a0 : S_ref03_reading) (a1 : Int) : Option (S_ref03_reading × Str) :=
 bif (a0.f_why != 0) then (
  some (a0, ([] : Str))
 ) else (
  bif (decide (a1 > (IntKind.u64.wrap (IntKind.i64.wrap ((((a0.f_b).length : Nat) : Int) - a0.f_at))))) then (
   Option.bind (p_ref03_reading_bad a0 (((a0.f_b).length : Nat) : Int) 4) fun x3 =>
   some (x3, ([] : Str))
  ) else (
   Option.bind (cutO a0.f_b (IntKind.i64.wrap ((IntKind.i64.wrap (a0.f_at + (IntKind.i64.wrap a1))) - (IntKind.i64.wrap a1))) (IntKind.i64.wrap (a0.f_at + (IntKind.i64.wrap a1)))) fun x4 =>
   some ((S_ref03_reading.mk a0.f_b (IntKind.i64.wrap (a0.f_at + (IntKind.i64.wrap a1))) a0.f_n a0.f_place a0.f_why), x4)
  )
 )
theorem s_ref03_reading_some (a0 : S_ref03_reading) (a1 : Int) (r : (S_ref03_reading × Str)) (h : p_ref03_reading_some a0 a1 = some r) : PCalls Try.prog 71 [(of_ref03_reading a0), (PV.v (.int .u64 a1))] (PV.tup [(of_ref03_reading r.1), (ofStr r.2)]) := by
 unfold p_ref03_reading_some at h
 refine acalls_of Try.func71 rfl Try.ntmps71 Try.results71 rfl (aw_of_bw ?_)
 change BW _ _ _ ⟨[(0, (of_ref03_reading a0)), (1, (PV.v (.int .u64 a1)))], [], _⟩ _
 refine bR ?_
 refine sS rfl rfl rfl (op1_box rfl rfl rfl) ?_
 refine sS rfl rfl rfl (op1_alloc inf_78 rfl) ?_
 refine sA rfl rfl rfl rfl rfl (ao_nil ?_)
 change BW _ _ _ _ _
 refine bw_seq ?_
 refine bR ?_
 refine sS rfl rfl rfl (op1_faR st_78 (i := 4) rfl rfl rfl) ?_
 refine sS rfl rfl rfl ((op1_ldR Try.underlying31 rfl rfl rfl rfl rfl)) ?_
 refine sS rfl rfl rfl ((op1_cmp rfl rfl rfl rfl).cast (y := (BO ((a0.f_why != 0)))) rfl rfl) (ao_nil ?_)
 change BW _ _ _ _ _
 refine bw_cond rfl ?_ ?_
 ·intro hc1; replace h := ocond_t hc1 h
  refine bR ?_
  refine sS rfl rfl rfl ((op1_ldRA inf_78 Try.underlying78 rfl rfl rfl rfl rfl rfl)) ?_
  refine ao_step0 rfl rfl (op1_store inf_78 rfl rfl rfl rfl rfl rfl (Nat.le_of_ble_eq_true rfl) rfl) ?_
  refine sA rfl rfl rfl rfl rfl (ao_nil ?_)
  change BW _ _ _ _ _
  refine bw_ret ?_
  change ∃ xs, _ = some xs ∧ EndOk _ _ _ _
  obtain rfl := Option.some.inj h
  exact ⟨_, rfl, endOk0 (y := (PV.tup [(of_ref03_reading a0), (ofStr ([] : Str))])) (Wk.refl _) (ids_tup_cons (ids_S_ref03_reading a0) (ids_tup_cons rfl ids_tup_nil)) ⟨rfl, rfl⟩⟩
 ·intro hc1; replace h := ocond_f hc1 h
  refine bw_skip ?_
  change BW _ _ _ _ _
  refine bw_seq ?_
  refine bR ?_
  refine sM rfl rfl rfl rfl rfl ?_
  refine sS rfl rfl rfl (op1_faR st_78 (i := 0) rfl rfl rfl) ?_
  refine sS rfl rfl rfl ((op1_ldR Try.underlying23 rfl rfl rfl rfl rfl)) ?_
  refine sS rfl rfl rfl (op1_lenM Try.underlying23 rfl rfl) ?_
  refine sS rfl rfl rfl (op1_faR st_78 (i := 1) rfl rfl rfl) ?_
  refine sS rfl rfl rfl ((op1_ldR Try.underlying3 rfl rfl rfl rfl rfl)) ?_
  refine sS rfl rfl rfl (op1_subW rfl rfl rfl) ?_
  refine sS rfl rfl rfl (op1_convI Try.underlying3 Try.underlying24 rfl rfl) ?_
  refine sS rfl rfl rfl ((op1_cmp rfl rfl rfl rfl).cast (y := (BO ((decide (a1 > (IntKind.u64.wrap (IntKind.i64.wrap ((((a0.f_b).length : Nat) : Int) - a0.f_at)))))))) rfl rfl) (ao_nil ?_)
  change BW _ _ _ _ _
  refine bw_cond rfl ?_ ?_
  ·intro hc2; replace h := ocond_t hc2 h
   refine bR ?_
   refine sS rfl rfl rfl ((op1_ldRA inf_78 Try.underlying78 rfl rfl rfl rfl rfl rfl)) ?_
   refine sS rfl rfl rfl (op1_faR st_78 (i := 0) rfl rfl rfl) ?_
   refine sS rfl rfl rfl ((op1_ldR Try.underlying23 rfl rfl rfl rfl rfl)) ?_
   refine sS rfl rfl rfl (op1_lenM Try.underlying23 rfl rfl) ?_
   obtain ⟨x3, hx3, h⟩ := obind h
   refine sS rfl rfl rfl (op1_pcall rfl en_53 rfl (.cons (Wk.refl _) (.cons (Wk.refl _) (.cons (Wk.refl _) .nil))) ⟨(ids_S_ref03_reading a0), ⟨rfl, ⟨rfl, trivial⟩⟩⟩ (s_ref03_reading_bad a0 (((a0.f_b).length : Nat) : Int) 4 x3 hx3) (ids_S_ref03_reading x3)) ?_
   refine ao_step0 rfl rfl (op1_store inf_78 rfl rfl rfl rfl rfl rfl (Nat.le_of_ble_eq_true rfl) rfl) ?_
   refine sA rfl rfl rfl rfl rfl (ao_nil ?_)
   change BW _ _ _ _ _
   refine bw_ret ?_
   change ∃ xs, _ = some xs ∧ EndOk _ _ _ _
   obtain rfl := Option.some.inj h
   exact ⟨_, rfl, endOk0 (y := (PV.tup [(of_ref03_reading x3), (ofStr ([] : Str))])) (Wk.refl _) (ids_tup_cons (ids_S_ref03_reading x3) (ids_tup_cons rfl ids_tup_nil)) ⟨rfl, rfl⟩⟩
  ·intro hc2; replace h := ocond_f hc2 h
   refine bw_skip ?_
   change BW _ _ _ _ _
   refine bR ?_
   refine sS rfl rfl rfl (op1_faR st_78 (i := 1) rfl rfl rfl) ?_
   refine sS rfl rfl rfl ((op1_ldR Try.underlying3 rfl rfl rfl rfl rfl)) ?_
   refine sM rfl rfl rfl rfl rfl ?_
   refine sS rfl rfl rfl (op1_convI Try.underlying24 Try.underlying3 rfl rfl) ?_
   refine sS rfl rfl rfl (op1_addW rfl rfl rfl) ?_
   refine sS rfl rfl rfl (op1_faR st_78 (i := 1) rfl rfl rfl) ?_
   refine ao_step0 rfl rfl (op1_store inf_3 rfl rfl rfl rfl rfl rfl (Nat.le_of_ble_eq_true rfl) rfl) ?_
   refine ao_nil ?_
   change BW _ _ _ _ _
   refine bw_seq (bw_tail 13 [12] [0] mo (by kernel_rfl) ?_)
   refine ac_go rfl rfl rfl rfl (fun H hp => (op1_ldRA inf_78 Try.underlying78 rfl rfl rfl (hp.at rfl rfl) rfl rfl)) ?_
   refine ac_go rfl rfl rfl rfl (fun H hp => op1_faR st_78 (i := 0) rfl rfl rfl) ?_
   refine ac_go rfl rfl rfl rfl (fun H hp => (op1_ldR Try.underlying23 rfl rfl rfl (hp.at rfl rfl) rfl)) ?_
   refine ac_go rfl rfl rfl rfl (fun H hp => op1_faR st_78 (i := 1) rfl rfl rfl) ?_
   refine ac_go rfl rfl rfl rfl (fun H hp => (op1_ldR Try.underlying3 rfl rfl rfl (hp.at rfl rfl) rfl)) ?_
   refine ac_go rfl rfl rfl rfl (fun H hp => op1_move rfl rfl) ?_
   refine ac_go rfl rfl rfl rfl (fun H hp => op1_convI Try.underlying24 Try.underlying3 rfl rfl) ?_
   refine ac_go rfl rfl rfl rfl (fun H hp => op1_subW rfl rfl rfl) ?_
   refine ac_go rfl rfl rfl rfl (fun H hp => op1_faR st_78 (i := 1) rfl rfl rfl) ?_
   refine ac_go rfl rfl rfl rfl (fun H hp => (op1_ldR Try.underlying3 rfl rfl rfl (hp.at rfl rfl) rfl)) ?_
   obtain ⟨x4, hx4, h⟩ := obind h
   refine ac_go rfl rfl rfl rfl (fun H hp => op1_cutM (a := (IntKind.i64.wrap ((IntKind.i64.wrap (a0.f_at + (IntKind.i64.wrap a1))) - (IntKind.i64.wrap a1)))) (b := (IntKind.i64.wrap (a0.f_at + (IntKind.i64.wrap a1)))) Try.underlying23 inf_5 rfl rfl rfl rfl rfl rfl hx4) ?_
   refine ac_go rfl rfl rfl rfl (fun H hp => op1_toT Try.underlying23 Try.underlying9 Try.underlying5 rfl rfl) ?_
   refine ac_lgo0 rfl rfl rfl (op1_store inf_78 rfl rfl rfl rfl rfl rfl (Nat.le_of_ble_eq_true rfl) rfl) ⟨rfl, trivial⟩ ?_
   refine ac_nil ?_
   change AO _ _ _ _ _
   refine sA rfl rfl rfl rfl rfl (ao_nil ?_)
   change BW _ _ _ _ _
   refine bw_ret ?_
   change ∃ xs, _ = some xs ∧ EndOk _ _ _ _
   obtain rfl := Option.some.inj h
   exact ⟨_, rfl, endOk0 (y := (PV.tup [(of_ref03_reading (S_ref03_reading.mk a0.f_b (IntKind.i64.wrap (a0.f_at + (IntKind.i64.wrap a1))) a0.f_n a0.f_place a0.f_why)), (ofStr x4)])) (Wk.refl _) (ids_tup_cons (ids_S_ref03_reading (S_ref03_reading.mk a0.f_b (IntKind.i64.wrap (a0.f_at + (IntKind.i64.wrap a1))) a0.f_n a0.f_place a0.f_why)) (ids_tup_cons rfl ids_tup_nil)) ⟨rfl, rfl⟩⟩
noncomputable def ref01_Name_j3 (g1 : Int → Option Bool) (s3 : Int) (s6 : Bool) : Option Bool :=
 bif s6 then (
  some false
 ) else (
  g1 (IntKind.i64.wrap (s3 + 1))
 )
theorem ref01_Name_j3_cm {ι : Type} {ρ : ι → Type} (g1 : (∀ i, Option (ρ i)) → Int → Option Bool) (h_g1 : ∀ y0, CM (fun G => g1 G y0)) (s3 : Int) (s6 : Bool) : CM (fun G : (∀ i, Option (ρ i)) => ref01_Name_j3 (g1 G) s3 s6) := by
 simp only [ref01_Name_j3]
 repeat (first | exact cm_const | exact h_g1 _ | refine cm_cond ?_ ?_ | refine cm_bind ?_ (fun _ => ?_))
noncomputable def ref01_Name_j2 (g1 : Int → Option Bool) (a0 : Str) (s3 : Int) (s5 : Bool) : Option Bool :=
 bif (!s5) then (
  bif (s3 == 0) then (
   ref01_Name_j3 g1 s3 true
  ) else (
   Option.bind (idxI a0 s3) fun x10 =>
   bif (((x10).toNat : Int) != (((95 : UInt8)).toNat : Int)) then (
    Option.bind (idxI a0 s3) fun x12 =>
    bif (decide (((x12).toNat : Int) < (((48 : UInt8)).toNat : Int))) then (
     ref01_Name_j3 g1 s3 true
    ) else (
     Option.bind (idxI a0 s3) fun x14 =>
     ref01_Name_j3 g1 s3 (decide (((x14).toNat : Int) > (((57 : UInt8)).toNat : Int)))
    )
   ) else (
    ref01_Name_j3 g1 s3 false
   )
  )
 ) else (
  ref01_Name_j3 g1 s3 false
 )
theorem ref01_Name_j2_cm {ι : Type} {ρ : ι → Type} (g1 : (∀ i, Option (ρ i)) → Int → Option Bool) (h_g1 : ∀ y0, CM (fun G => g1 G y0)) (a0 : Str) (s3 : Int) (s5 : Bool) : CM (fun G : (∀ i, Option (ρ i)) => ref01_Name_j2 (g1 G) a0 s3 s5) := by
 simp only [ref01_Name_j2]
 repeat (first | exact cm_const | exact h_g1 _ | apply ref01_Name_j3_cm | refine cm_cond ?_ ?_ | refine cm_bind ?_ (fun _ => ?_) | intro _ | assumption)
noncomputable def ref01_Name_l1b (a0 : Str) (g1 : Int → Option Bool) (s3 : Int) : Option Bool :=
 bif (decide (s3 < (((a0).length : Nat) : Int))) then (
  Option.bind (idxI a0 s3) fun x15 =>
  bif (decide (((x15).toNat : Int) ≥ (((97 : UInt8)).toNat : Int))) then (
   Option.bind (idxI a0 s3) fun x17 =>
   ref01_Name_j2 g1 a0 s3 (decide (((x17).toNat : Int) ≤ (((122 : UInt8)).toNat : Int)))
  ) else (
   ref01_Name_j2 g1 a0 s3 false
  )
 ) else (
  some true
 )
theorem ref01_Name_l1b_cm {ι : Type} {ρ : ι → Type} (g1 : (∀ i, Option (ρ i)) → Int → Option Bool) (h_g1 : ∀ y0, CM (fun G => g1 G y0)) (a0 : Str) (s3 : Int) : CM (fun G : (∀ i, Option (ρ i)) => ref01_Name_l1b a0 (g1 G) s3) := by
 simp only [ref01_Name_l1b]
 repeat (first | exact cm_const | exact h_g1 _ | apply ref01_Name_j2_cm | refine cm_cond ?_ ?_ | refine cm_bind ?_ (fun _ => ?_) | intro _ | assumption)
noncomputable def ref01_Name_l1 (a0 : Str) (s3 : Int) : Option Bool :=
 fixO (ι := Int) (ρ := fun _ => Bool) (fun g i => ref01_Name_l1b a0 (fun s3 => g s3) i) s3
theorem ref01_Name_l1_eq (a0 : Str) (s3 : Int) : ref01_Name_l1 a0 s3 = ref01_Name_l1b a0 (ref01_Name_l1 a0) s3 :=
 fixO_eq (ι := Int) (ρ := fun _ => Bool) (Φ := fun g i => ref01_Name_l1b a0 (fun s3 => g s3) i) (fun i => ref01_Name_l1b_cm (ι := Int) (ρ := fun _ => Bool) (fun g => (fun s3 => g s3)) (fun _ => cm_app) a0 i) s3
noncomputable def ref01_Name_j1 (a0 : Str) (s1 : Bool) : Option Bool :=
 bif s1 then (
  some false
 ) else (
  ref01_Name_l1 a0 0
 )
noncomputable def p_ref01_Name (a0 : Str) : Option Bool :=
 bif (decide ((((a0).length : Nat) : Int) < 1)) then (
  ref01_Name_j1 a0 true
 ) else (
  ref01_Name_j1 a0 (decide ((((a0).length : Nat) : Int) > 32))
 )
theorem s_ref01_Name (a0 : Str) (r : Bool) (h : p_ref01_Name a0 = some r) : PCalls Try.prog 74 [(ofStr a0)] (BO r) := by
 unfold p_ref01_Name at h
 refine acalls_of Try.func74 rfl Try.ntmps74 Try.results74 rfl (aw_of_bw ?_)
 change BW _ _ _ ⟨[(0, (ofStr a0))], [], _⟩ _
 refine bR ?_
 refine sA rfl rfl rfl rfl rfl (ao_nil ?_)
 change BW _ _ _ _ _
 refine bw_seq ?_
 refine bw_seqJ (ι := Bool) (fun i => ref01_Name_j1 a0 i = some r) (fun i => [(0, (ofStr a0)), (12, (BO i))]) (fun i => []) ?_ ?_ ?_
 ·intro i; exact ⟨Nat.le_of_ble_eq_true rfl, ⟨(il_nil rfl), ⟨(il_nil rfl), trivial⟩⟩, trivial⟩
 ·rintro s1 h; replace h : ref01_Name_j1 a0 s1 = some r := h; unfold ref01_Name_j1 at h
  change BW _ _ _ ⟨[(0, (ofStr a0)), (12, (BO s1))], [], _⟩ _
  refine bw_cond rfl ?_ ?_
  ·intro hc2; replace h := ocond_t hc2 h
   refine bR ?_
   refine sA rfl rfl rfl rfl rfl (ao_nil ?_)
   change BW _ _ _ _ _
   refine bw_ret ?_
   change ∃ xs, _ = some xs ∧ EndOk _ _ _ _
   obtain rfl := Option.some.inj h
   exact ⟨_, rfl, endOk0 (y := (BO false)) (Wk.refl _) rfl ⟨rfl, rfl⟩⟩
  ·intro hc2; replace h := ocond_f hc2 h
   refine bw_skip ?_
   change BW _ _ _ _ _
   refine bw_seq ?_
   refine bR ?_
   refine sA rfl rfl rfl rfl rfl (ao_nil ?_)
   change BW _ _ _ _ _
   refine bw_block ?_
   change BW _ _ _ _ _
   unfold ref01_Name_l1 at h
   refine bw_loop (σ := Int) (fun i => [(0, (ofStr a0)), (3, (I64 i))]) (fun i => []) 0 h ?_ ?_ ?_
   ·intro i; exact ⟨Nat.le_of_ble_eq_true rfl, ⟨(il_nil rfl), ⟨(il_nil rfl), trivial⟩⟩, trivial⟩
   ·exact ⟨.nil, (sC rfl (sC rfl sub_nil))⟩
   ·rintro g1_f s3 h; replace h : ref01_Name_l1b a0 (fun y0 => g1_f y0) s3 = some r := h; unfold ref01_Name_l1b at h
    change BW _ _ _ ⟨[(0, (ofStr a0)), (3, (I64 s3))], [], _⟩ _
    refine bw_seq ?_
    refine bR ?_
    refine sM rfl rfl rfl rfl rfl ?_
    refine sM rfl rfl rfl rfl rfl ?_
    refine sS rfl rfl rfl (op1_lenT (s := a0) Try.underlying9 rfl rfl) ?_
    refine sS rfl rfl rfl ((op1_cmp rfl rfl rfl rfl).cast (y := (BO ((decide (s3 < (((a0).length : Nat) : Int)))))) rfl rfl) (ao_nil ?_)
    change BW _ _ _ _ _
    refine bw_cond rfl ?_ ?_
    ·intro hc4; replace h := ocond_t hc4 h
     refine bw_skip ?_
     change BW _ _ _ _ _
     refine bw_seq ?_
     refine bw_block ?_
     change BW _ _ _ _ _
     refine bw_seqJ (ι := Bool) (fun i => ref01_Name_j2 (fun y0 => g1_f y0) a0 s3 i = some r) (fun i => [(0, (ofStr a0)), (3, (I64 s3)), (4, (BO i))]) (fun i => []) ?_ ?_ ?_
     ·intro i; exact ⟨Nat.le_of_ble_eq_true rfl, ⟨(il_nil rfl), ⟨(il_nil rfl), ⟨(il_nil rfl), trivial⟩⟩⟩, trivial⟩
     ·rintro s5 h; replace h : ref01_Name_j2 (fun y0 => g1_f y0) a0 s3 s5 = some r := h; unfold ref01_Name_j2 at h
      change BW _ _ _ ⟨[(0, (ofStr a0)), (3, (I64 s3)), (4, (BO s5))], [], _⟩ _
      refine bw_seqJ (ι := Bool) (fun i => ref01_Name_j3 (fun y0 => g1_f y0) s3 i = some r) (fun i => [(0, (ofStr a0)), (3, (I64 s3)), (52, (BO i))]) (fun i => []) ?_ ?_ ?_
      ·intro i; exact ⟨Nat.le_of_ble_eq_true rfl, ⟨(il_nil rfl), ⟨(il_nil rfl), ⟨(il_nil rfl), trivial⟩⟩⟩, trivial⟩
      ·rintro s6 h; replace h : ref01_Name_j3 (fun y0 => g1_f y0) s3 s6 = some r := h; unfold ref01_Name_j3 at h
       change BW _ _ _ ⟨[(0, (ofStr a0)), (3, (I64 s3)), (52, (BO s6))], [], _⟩ _
       refine bw_cond rfl ?_ ?_
       ·intro hc7; replace h := ocond_t hc7 h
        refine bR ?_
        refine sA rfl rfl rfl rfl rfl (ao_nil ?_)
        change BW _ _ _ _ _
        refine bw_ret ?_
        change ∃ xs, _ = some xs ∧ EndOk _ _ _ _
        obtain rfl := Option.some.inj h
        exact ⟨_, rfl, endOk0 (y := (BO false)) (Wk.refl _) rfl ⟨rfl, rfl⟩⟩
       ·intro hc7; replace h := ocond_f hc7 h
        refine bw_skip ?_
        change BW _ _ _ _ _
        refine bw_region ?_
        refine sM rfl rfl rfl rfl rfl ?_
        refine sS rfl rfl rfl (op1_addW rfl rfl rfl) ?_
        refine sA rfl rfl rfl rfl rfl (ao_nil ?_)
        exact ⟨rfl, (IntKind.i64.wrap (s3 + 1)), h, ⟨.nil, (sC rfl (sC rfl sub_nil))⟩⟩
      ·refine bw_region ?_
       refine sM rfl rfl rfl rfl rfl ?_
       refine sS rfl rfl rfl (op1_not rfl rfl) ?_
       refine sM rfl rfl rfl rfl rfl ?_
       refine ao_cases (t := 31) rfl ?_ ?_
       ·intro hb8; replace h := ocond_t hb8 h
        refine ao_yes rfl rfl rfl rfl rfl rfl (op1_move rfl rfl) ?_
        refine ao_yes rfl rfl rfl rfl rfl rfl ((op1_cmp rfl rfl rfl rfl).cast (y := (BO ((s3 == 0)))) rfl rfl) ?_
        refine ao_yes rfl rfl rfl rfl rfl rfl (op1_move rfl rfl) ?_
        refine ao_cases (t := 34) rfl ?_ ?_
        ·intro hb9; replace h := ocond_t hb9 h
         refine ao_no rfl rfl rfl rfl rfl rfl ?_
         refine ao_no rfl rfl rfl rfl rfl rfl ?_
         refine ao_no rfl rfl rfl rfl rfl rfl ?_
         refine ao_no rfl rfl rfl rfl rfl rfl ?_
         refine ao_no rfl rfl rfl rfl rfl rfl ?_
         refine ao_no rfl rfl rfl rfl rfl rfl ?_
         refine ao_no rfl rfl rfl rfl rfl rfl ?_
         refine ao_no rfl rfl rfl rfl rfl rfl ?_
         refine ao_no rfl rfl rfl rfl rfl rfl ?_
         refine ao_no rfl rfl rfl rfl rfl rfl ?_
         refine ao_no rfl rfl rfl rfl rfl rfl ?_
         refine ao_no rfl rfl rfl rfl rfl rfl ?_
         refine ao_no rfl rfl rfl rfl rfl rfl ?_
         refine ao_no rfl rfl rfl rfl rfl rfl ?_
         refine ao_no rfl rfl rfl rfl rfl rfl ?_
         refine ao_no rfl rfl rfl rfl rfl rfl ?_
         refine ao_yes rfl rfl rfl rfl rfl rfl (op1_pickT rfl rfl rfl) ?_
         refine sS rfl rfl rfl (op1_pickT rfl rfl rfl) (ao_nil ?_)
         exact ⟨rfl, true, h, ⟨.nil, (sC rfl (sC rfl (sC rfl sub_nil)))⟩⟩
        ·intro hb9; replace h := ocond_f hb9 h
         refine ao_yes rfl rfl rfl rfl rfl rfl (op1_move rfl rfl) ?_
         refine ao_yes rfl rfl rfl rfl rfl rfl (op1_move rfl rfl) ?_
         obtain ⟨x10, hx10, h⟩ := obind h
         refine ao_yes rfl rfl rfl rfl rfl rfl (op1_idxT (s := a0) Try.underlying9 rfl rfl rfl hx10) ?_
         refine ao_yes rfl rfl rfl rfl rfl rfl ((op1_cmp rfl rfl rfl rfl).cast (y := (BO ((((x10).toNat : Int) != (((95 : UInt8)).toNat : Int))))) rfl rfl) ?_
         refine ao_yes rfl rfl rfl rfl rfl rfl (op1_move rfl rfl) ?_
         refine ao_cases (t := 39) rfl ?_ ?_
         ·intro hb11; replace h := ocond_t hb11 h
          refine ao_yes rfl rfl rfl rfl rfl rfl (op1_move rfl rfl) ?_
          refine ao_yes rfl rfl rfl rfl rfl rfl (op1_move rfl rfl) ?_
          obtain ⟨x12, hx12, h⟩ := obind h
          refine ao_yes rfl rfl rfl rfl rfl rfl (op1_idxT (s := a0) Try.underlying9 rfl rfl rfl hx12) ?_
          refine ao_yes rfl rfl rfl rfl rfl rfl ((op1_cmp rfl rfl rfl rfl).cast (y := (BO ((decide (((x12).toNat : Int) < (((48 : UInt8)).toNat : Int)))))) rfl rfl) ?_
          refine ao_yes rfl rfl rfl rfl rfl rfl (op1_move rfl rfl) ?_
          refine ao_cases (t := 44) rfl ?_ ?_
          ·intro hb13; replace h := ocond_t hb13 h
           refine ao_no rfl rfl rfl rfl rfl rfl ?_
           refine ao_no rfl rfl rfl rfl rfl rfl ?_
           refine ao_no rfl rfl rfl rfl rfl rfl ?_
           refine ao_no rfl rfl rfl rfl rfl rfl ?_
           refine ao_yes rfl rfl rfl rfl rfl rfl (op1_pickT rfl rfl rfl) ?_
           refine ao_yes rfl rfl rfl rfl rfl rfl (op1_pickT rfl rfl rfl) ?_
           refine ao_yes rfl rfl rfl rfl rfl rfl (op1_pickF rfl rfl rfl) ?_
           refine sS rfl rfl rfl (op1_pickT rfl rfl rfl) (ao_nil ?_)
           exact ⟨rfl, true, h, ⟨.nil, (sC rfl (sC rfl (sC rfl sub_nil)))⟩⟩
          ·intro hb13; replace h := ocond_f hb13 h
           refine ao_yes rfl rfl rfl rfl rfl rfl (op1_move rfl rfl) ?_
           refine ao_yes rfl rfl rfl rfl rfl rfl (op1_move rfl rfl) ?_
           obtain ⟨x14, hx14, h⟩ := obind h
           refine ao_yes rfl rfl rfl rfl rfl rfl (op1_idxT (s := a0) Try.underlying9 rfl rfl rfl hx14) ?_
           refine ao_yes rfl rfl rfl rfl rfl rfl ((op1_cmp rfl rfl rfl rfl).cast (y := (BO ((decide (((x14).toNat : Int) > (((57 : UInt8)).toNat : Int)))))) rfl rfl) ?_
           refine ao_yes rfl rfl rfl rfl rfl rfl (op1_pickF rfl rfl rfl) ?_
           refine ao_yes rfl rfl rfl rfl rfl rfl (op1_pickT rfl rfl rfl) ?_
           refine ao_yes rfl rfl rfl rfl rfl rfl (op1_pickF rfl rfl rfl) ?_
           refine sS rfl rfl rfl (op1_pickT rfl rfl rfl) (ao_nil ?_)
           exact ⟨rfl, (decide (((x14).toNat : Int) > (((57 : UInt8)).toNat : Int))), h, ⟨.nil, (sC rfl (sC rfl (sC rfl sub_nil)))⟩⟩
         ·intro hb11; replace h := ocond_f hb11 h
          refine ao_no rfl rfl rfl rfl rfl rfl ?_
          refine ao_no rfl rfl rfl rfl rfl rfl ?_
          refine ao_no rfl rfl rfl rfl rfl rfl ?_
          refine ao_no rfl rfl rfl rfl rfl rfl ?_
          refine ao_no rfl rfl rfl rfl rfl rfl ?_
          refine ao_no rfl rfl rfl rfl rfl rfl ?_
          refine ao_no rfl rfl rfl rfl rfl rfl ?_
          refine ao_no rfl rfl rfl rfl rfl rfl ?_
          refine ao_no rfl rfl rfl rfl rfl rfl ?_
          refine ao_no rfl rfl rfl rfl rfl rfl ?_
          refine ao_yes rfl rfl rfl rfl rfl rfl (op1_pickF rfl rfl rfl) ?_
          refine ao_yes rfl rfl rfl rfl rfl rfl (op1_pickF rfl rfl rfl) ?_
          refine sS rfl rfl rfl (op1_pickT rfl rfl rfl) (ao_nil ?_)
          exact ⟨rfl, false, h, ⟨.nil, (sC rfl (sC rfl (sC rfl sub_nil)))⟩⟩
       ·intro hb8; replace h := ocond_f hb8 h
        refine ao_no rfl rfl rfl rfl rfl rfl ?_
        refine ao_no rfl rfl rfl rfl rfl rfl ?_
        refine ao_no rfl rfl rfl rfl rfl rfl ?_
        refine ao_no rfl rfl rfl rfl rfl rfl ?_
        refine ao_no rfl rfl rfl rfl rfl rfl ?_
        refine ao_no rfl rfl rfl rfl rfl rfl ?_
        refine ao_no rfl rfl rfl rfl rfl rfl ?_
        refine ao_no rfl rfl rfl rfl rfl rfl ?_
        refine ao_no rfl rfl rfl rfl rfl rfl ?_
        refine ao_no rfl rfl rfl rfl rfl rfl ?_
        refine ao_no rfl rfl rfl rfl rfl rfl ?_
        refine ao_no rfl rfl rfl rfl rfl rfl ?_
        refine ao_no rfl rfl rfl rfl rfl rfl ?_
        refine ao_no rfl rfl rfl rfl rfl rfl ?_
        refine ao_no rfl rfl rfl rfl rfl rfl ?_
        refine ao_no rfl rfl rfl rfl rfl rfl ?_
        refine ao_no rfl rfl rfl rfl rfl rfl ?_
        refine ao_no rfl rfl rfl rfl rfl rfl ?_
        refine ao_no rfl rfl rfl rfl rfl rfl ?_
        refine ao_no rfl rfl rfl rfl rfl rfl ?_
        refine sS rfl rfl rfl (op1_pickF rfl rfl rfl) (ao_nil ?_)
        exact ⟨rfl, false, h, ⟨.nil, (sC rfl (sC rfl (sC rfl sub_nil)))⟩⟩
     ·refine bw_region ?_
      refine sM rfl rfl rfl rfl rfl ?_
      refine sM rfl rfl rfl rfl rfl ?_
      obtain ⟨x15, hx15, h⟩ := obind h
      refine sS rfl rfl rfl (op1_idxT (s := a0) Try.underlying9 rfl rfl rfl hx15) ?_
      refine sS rfl rfl rfl ((op1_cmp rfl rfl rfl rfl).cast (y := (BO ((decide (((x15).toNat : Int) ≥ (((97 : UInt8)).toNat : Int)))))) rfl rfl) ?_
      refine sM rfl rfl rfl rfl rfl ?_
      refine ao_cases (t := 23) rfl ?_ ?_
      ·intro hb16; replace h := ocond_t hb16 h
       refine ao_yes rfl rfl rfl rfl rfl rfl (op1_move rfl rfl) ?_
       refine ao_yes rfl rfl rfl rfl rfl rfl (op1_move rfl rfl) ?_
       obtain ⟨x17, hx17, h⟩ := obind h
       refine ao_yes rfl rfl rfl rfl rfl rfl (op1_idxT (s := a0) Try.underlying9 rfl rfl rfl hx17) ?_
       refine ao_yes rfl rfl rfl rfl rfl rfl ((op1_cmp rfl rfl rfl rfl).cast (y := (BO ((decide (((x17).toNat : Int) ≤ (((122 : UInt8)).toNat : Int)))))) rfl rfl) ?_
       refine sS rfl rfl rfl (op1_pickT rfl rfl rfl) ?_
       refine sA rfl rfl rfl rfl rfl (ao_nil ?_)
       exact ⟨rfl, (decide (((x17).toNat : Int) ≤ (((122 : UInt8)).toNat : Int))), h, ⟨.nil, (sC rfl (sC rfl (sC rfl sub_nil)))⟩⟩
      ·intro hb16; replace h := ocond_f hb16 h
       refine ao_no rfl rfl rfl rfl rfl rfl ?_
       refine ao_no rfl rfl rfl rfl rfl rfl ?_
       refine ao_no rfl rfl rfl rfl rfl rfl ?_
       refine ao_no rfl rfl rfl rfl rfl rfl ?_
       refine sS rfl rfl rfl (op1_pickF rfl rfl rfl) ?_
       refine sA rfl rfl rfl rfl rfl (ao_nil ?_)
       exact ⟨rfl, false, h, ⟨.nil, (sC rfl (sC rfl (sC rfl sub_nil)))⟩⟩
    ·intro hc4; replace h := ocond_f hc4 h
     refine bw_exit ?_
     change BW _ _ _ _ _
     refine bR ?_
     refine sA rfl rfl rfl rfl rfl (ao_nil ?_)
     change BW _ _ _ _ _
     refine bw_ret ?_
     change ∃ xs, _ = some xs ∧ EndOk _ _ _ _
     obtain rfl := Option.some.inj h
     exact ⟨_, rfl, endOk0 (y := (BO true)) (Wk.refl _) rfl ⟨rfl, rfl⟩⟩
 ·refine bw_region ?_
  refine sM rfl rfl rfl rfl rfl ?_
  refine sS rfl rfl rfl (op1_lenT (s := a0) Try.underlying9 rfl rfl) ?_
  refine sS rfl rfl rfl ((op1_cmp rfl rfl rfl rfl).cast (y := (BO ((decide ((((a0).length : Nat) : Int) < 1))))) rfl rfl) ?_
  refine sM rfl rfl rfl rfl rfl ?_
  refine ao_cases (t := 8) rfl ?_ ?_
  ·intro hb18; replace h := ocond_t hb18 h
   refine ao_no rfl rfl rfl rfl rfl rfl ?_
   refine ao_no rfl rfl rfl rfl rfl rfl ?_
   refine ao_no rfl rfl rfl rfl rfl rfl ?_
   refine sS rfl rfl rfl (op1_pickT rfl rfl rfl) (ao_nil ?_)
   exact ⟨rfl, true, h, ⟨.nil, (sC rfl (sC rfl sub_nil))⟩⟩
  ·intro hb18; replace h := ocond_f hb18 h
   refine ao_yes rfl rfl rfl rfl rfl rfl (op1_move rfl rfl) ?_
   refine ao_yes rfl rfl rfl rfl rfl rfl (op1_lenT (s := a0) Try.underlying9 rfl rfl) ?_
   refine ao_yes rfl rfl rfl rfl rfl rfl ((op1_cmp rfl rfl rfl rfl).cast (y := (BO ((decide ((((a0).length : Nat) : Int) > 32))))) rfl rfl) ?_
   refine sS rfl rfl rfl (op1_pickF rfl rfl rfl) (ao_nil ?_)
   exact ⟨rfl, (decide ((((a0).length : Nat) : Int) > 32)), h, ⟨.nil, (sC rfl (sC rfl sub_nil))⟩⟩
noncomputable def ref03_reading_name_j2 (x7 : (S_ref03_reading × Str)) (s8 : Str) (s9 : Int) (s10 : Int) (s11 : Int) (s12 : Int) : Option (S_ref03_reading × Str) :=
 some ((S_ref03_reading.mk s8 s9 s10 s11 s12), x7.2)
noncomputable def ref03_reading_name_j3 (a1 : Int) (x7 : (S_ref03_reading × Str)) (s13 : Bool) : Option (S_ref03_reading × Str) :=
 bif s13 then (
  Option.bind (p_ref03_reading_bad (x7.1) a1 8) fun x15 =>
  ref03_reading_name_j2 x7 x15.f_b x15.f_at x15.f_n x15.f_place x15.f_why
 ) else (
  ref03_reading_name_j2 x7 ((x7.1).f_b) ((x7.1).f_at) ((x7.1).f_n) ((x7.1).f_place) ((x7.1).f_why)
 )
noncomputable def ref03_reading_name_j1 (a1 : Int) (x1 : (S_ref03_reading × Int)) (s2 : Str) (s3 : Int) (s4 : Int) (s5 : Int) (s6 : Int) : Option (S_ref03_reading × Str) :=
 Option.bind (p_ref03_reading_some (S_ref03_reading.mk s2 s3 s4 s5 s6) x1.2) fun x7 =>
 bif ((x7.1).f_why == 0) then (
  Option.bind (p_ref01_Name x7.2) fun x17 =>
  ref03_reading_name_j3 a1 x7 (!x17)
 ) else (
  ref03_reading_name_j3 a1 x7 false
 )
noncomputable def ref03_reading_name_j4 (a1 : Int) (x1 : (S_ref03_reading × Int)) (s18 : Bool) : Option (S_ref03_reading × Str) :=
 bif s18 then (
  Option.bind (p_ref03_reading_bad (x1.1) a1 8) fun x20 =>
  ref03_reading_name_j1 a1 x1 x20.f_b x20.f_at x20.f_n x20.f_place x20.f_why
 ) else (
  ref03_reading_name_j1 a1 x1 ((x1.1).f_b) ((x1.1).f_at) ((x1.1).f_n) ((x1.1).f_place) ((x1.1).f_why)
 )
noncomputable def p_ref03_reading_name (a0 : S_ref03_reading) (a1 : Int) : Option (S_ref03_reading × Str) :=
 Option.bind (p_ref03_reading_long a0 32 a1 8) fun x1 =>
 bif ((x1.1).f_why == 0) then (
  ref03_reading_name_j4 a1 x1 (x1.2 == 0)
 ) else (
  ref03_reading_name_j4 a1 x1 false
 )
theorem s_ref03_reading_name (a0 : S_ref03_reading) (a1 : Int) (r : (S_ref03_reading × Str)) (h : p_ref03_reading_name a0 a1 = some r) : PCalls Try.prog 73 [(of_ref03_reading a0), (I64 a1)] (PV.tup [(of_ref03_reading r.1), (ofStr r.2)]) := by
 unfold p_ref03_reading_name at h
 refine acalls_of Try.func73 rfl Try.ntmps73 Try.results73 rfl (aw_of_bw ?_)
 change BW _ _ _ ⟨[(0, (of_ref03_reading a0)), (1, (I64 a1))], [], _⟩ _
 refine bR ?_
 refine sS rfl rfl rfl (op1_box rfl rfl rfl) ?_
 refine sS rfl rfl rfl (op1_alloc inf_78 rfl) ?_
 refine sA rfl rfl rfl rfl rfl (ao_nil ?_)
 change BW _ _ _ _ _
 refine bR ?_
 refine sS rfl rfl rfl ((op1_ldRA inf_78 Try.underlying78 rfl rfl rfl rfl rfl rfl)) ?_
 refine sM rfl rfl rfl rfl rfl ?_
 obtain ⟨x1, hx1, h⟩ := obind h
 refine sS rfl rfl rfl (op1_pcall rfl en_70 rfl (.cons (Wk.refl _) (.cons (Wk.refl _) (.cons (Wk.refl _) (.cons (Wk.refl _) .nil)))) ⟨(ids_S_ref03_reading a0), ⟨rfl, ⟨rfl, ⟨rfl, trivial⟩⟩⟩⟩ (s_ref03_reading_long a0 32 a1 8 x1 hx1) (ids_tup_cons (ids_S_ref03_reading x1.1) (ids_tup_cons rfl ids_tup_nil))) ?_
 refine sM rfl rfl rfl rfl rfl ?_
 refine sS rfl rfl rfl (op1_ext rfl rfl rfl) ?_
 refine sS rfl rfl rfl (op1_ext rfl rfl rfl) ?_
 refine ao_step0 rfl rfl (op1_store inf_78 rfl rfl rfl rfl rfl rfl (Nat.le_of_ble_eq_true rfl) rfl) ?_
 refine sA rfl rfl rfl rfl rfl (ao_nil ?_)
 change BW _ _ _ _ _
 refine bw_seqJ (ι := (Str × Int × Int × Int × Int)) (fun i => ref03_reading_name_j1 a1 x1 i.1 i.2.1 i.2.2.1 i.2.2.2.1 i.2.2.2.2 = some r) (fun i => [(1, (I64 a1)), (2, (PV.rf 0 0)), (4, (PV.rf 1 0)), (6, (PV.v (.int .u64 x1.2)))]) (fun i => [.box 78 [(PV.sl none 5 1 (List.map ofB i.1)), (I64 i.2.1), (I64 i.2.2.1), (I64 i.2.2.2.1), (I64 i.2.2.2.2)], .box 78 [(PV.v (.slice none 0 0)), (I64 0), (I64 0), (I64 0), (I64 0)]]) ?_ ?_ ?_
 ·intro i; exact ⟨Nat.le_of_ble_eq_true rfl, ⟨(il_nil rfl), ⟨(il_rf rfl), ⟨(il_rf rfl), ⟨(il_nil rfl), trivial⟩⟩⟩⟩, ⟨⟨(il_nil (ids_slM (fun _ => rfl) _)), ⟨(il_nil rfl), ⟨(il_nil rfl), ⟨(il_nil rfl), ⟨(il_nil rfl), trivial⟩⟩⟩⟩⟩, ⟨⟨(il_nil rfl), ⟨(il_nil rfl), ⟨(il_nil rfl), ⟨(il_nil rfl), ⟨(il_nil rfl), trivial⟩⟩⟩⟩⟩, trivial⟩⟩⟩
 ·rintro ⟨s2, s3, s4, s5, s6⟩ h; replace h : ref03_reading_name_j1 a1 x1 s2 s3 s4 s5 s6 = some r := h; unfold ref03_reading_name_j1 at h
  change BW _ _ _ ⟨[(1, (I64 a1)), (2, (PV.rf 0 0)), (4, (PV.rf 1 0)), (6, (PV.v (.int .u64 x1.2)))], [.box 78 [(PV.sl none 5 1 (List.map ofB s2)), (I64 s3), (I64 s4), (I64 s5), (I64 s6)], .box 78 [(PV.v (.slice none 0 0)), (I64 0), (I64 0), (I64 0), (I64 0)]], _⟩ _
  refine bR ?_
  refine sS rfl rfl rfl ((op1_ldRA inf_78 Try.underlying78 rfl rfl rfl rfl rfl rfl)) ?_
  refine sM rfl rfl rfl rfl rfl ?_
  obtain ⟨x7, hx7, h⟩ := obind h
  refine sS rfl rfl rfl (op1_pcall rfl en_71 rfl (.cons (Wk.refl _) (.cons (Wk.refl _) .nil)) ⟨(ids_S_ref03_reading (S_ref03_reading.mk s2 s3 s4 s5 s6)), ⟨rfl, trivial⟩⟩ (s_ref03_reading_some (S_ref03_reading.mk s2 s3 s4 s5 s6) x1.2 x7 hx7) (ids_tup_cons (ids_S_ref03_reading x7.1) (ids_tup_cons rfl ids_tup_nil))) ?_
  refine sM rfl rfl rfl rfl rfl ?_
  refine sS rfl rfl rfl (op1_ext rfl rfl rfl) ?_
  refine sS rfl rfl rfl (op1_ext rfl rfl rfl) ?_
  refine ao_step0 rfl rfl (op1_store inf_78 rfl rfl rfl rfl rfl rfl (Nat.le_of_ble_eq_true rfl) rfl) ?_
  refine sA rfl rfl rfl rfl rfl (ao_nil ?_)
  change BW _ _ _ _ _
  refine bw_seqJ (ι := (Str × Int × Int × Int × Int)) (fun i => ref03_reading_name_j2 x7 i.1 i.2.1 i.2.2.1 i.2.2.2.1 i.2.2.2.2 = some r) (fun i => [(2, (PV.rf 0 0)), (4, (PV.rf 1 0)), (7, (ofStr x7.2))]) (fun i => [.box 78 [(PV.sl none 5 1 (List.map ofB i.1)), (I64 i.2.1), (I64 i.2.2.1), (I64 i.2.2.2.1), (I64 i.2.2.2.2)], .box 78 [(PV.v (.slice none 0 0)), (I64 0), (I64 0), (I64 0), (I64 0)]]) ?_ ?_ ?_
  ·intro i; exact ⟨Nat.le_of_ble_eq_true rfl, ⟨(il_rf rfl), ⟨(il_rf rfl), ⟨(il_nil rfl), trivial⟩⟩⟩, ⟨⟨(il_nil (ids_slM (fun _ => rfl) _)), ⟨(il_nil rfl), ⟨(il_nil rfl), ⟨(il_nil rfl), ⟨(il_nil rfl), trivial⟩⟩⟩⟩⟩, ⟨⟨(il_nil rfl), ⟨(il_nil rfl), ⟨(il_nil rfl), ⟨(il_nil rfl), ⟨(il_nil rfl), trivial⟩⟩⟩⟩⟩, trivial⟩⟩⟩
  ·rintro ⟨s8, s9, s10, s11, s12⟩ h; replace h : ref03_reading_name_j2 x7 s8 s9 s10 s11 s12 = some r := h; unfold ref03_reading_name_j2 at h
   change BW _ _ _ ⟨[(2, (PV.rf 0 0)), (4, (PV.rf 1 0)), (7, (ofStr x7.2))], [.box 78 [(PV.sl none 5 1 (List.map ofB s8)), (I64 s9), (I64 s10), (I64 s11), (I64 s12)], .box 78 [(PV.v (.slice none 0 0)), (I64 0), (I64 0), (I64 0), (I64 0)]], _⟩ _
   refine bR ?_
   refine sS rfl rfl rfl ((op1_ldRA inf_78 Try.underlying78 rfl rfl rfl rfl rfl rfl)) ?_
   refine sM rfl rfl rfl rfl rfl ?_
   refine ao_step0 rfl rfl (op1_store inf_78 rfl rfl rfl rfl rfl rfl (Nat.le_of_ble_eq_true rfl) rfl) ?_
   refine sA rfl rfl rfl rfl rfl (ao_nil ?_)
   change BW _ _ _ _ _
   refine bw_ret ?_
   change ∃ xs, _ = some xs ∧ EndOk _ _ _ _
   obtain rfl := Option.some.inj h
   exact ⟨_, rfl, endOk0 (y := (PV.tup [(of_ref03_reading (S_ref03_reading.mk s8 s9 s10 s11 s12)), (ofStr x7.2)])) (Wk.refl _) (ids_tup_cons (ids_S_ref03_reading (S_ref03_reading.mk s8 s9 s10 s11 s12)) (ids_tup_cons rfl ids_tup_nil)) ⟨rfl, rfl⟩⟩
  ·refine bw_seqJ (ι := Bool) (fun i => ref03_reading_name_j3 a1 x7 i = some r) (fun i => [(1, (I64 a1)), (2, (PV.rf 0 0)), (4, (PV.rf 1 0)), (7, (ofStr x7.2)), (37, (BO i))]) (fun i => [.box 78 [(PV.sl none 5 1 (List.map ofB (x7.1).f_b)), (I64 ((x7.1).f_at)), (I64 ((x7.1).f_n)), (I64 ((x7.1).f_place)), (I64 ((x7.1).f_why))], .box 78 [(PV.v (.slice none 0 0)), (I64 0), (I64 0), (I64 0), (I64 0)]]) ?_ ?_ ?_
   ·intro i; exact ⟨Nat.le_of_ble_eq_true rfl, ⟨(il_nil rfl), ⟨(il_rf rfl), ⟨(il_rf rfl), ⟨(il_nil rfl), ⟨(il_nil rfl), trivial⟩⟩⟩⟩⟩, ⟨⟨(il_nil (ids_slM (fun _ => rfl) _)), ⟨(il_nil rfl), ⟨(il_nil rfl), ⟨(il_nil rfl), ⟨(il_nil rfl), trivial⟩⟩⟩⟩⟩, ⟨⟨(il_nil rfl), ⟨(il_nil rfl), ⟨(il_nil rfl), ⟨(il_nil rfl), ⟨(il_nil rfl), trivial⟩⟩⟩⟩⟩, trivial⟩⟩⟩
   ·rintro s13 h; replace h : ref03_reading_name_j3 a1 x7 s13 = some r := h; unfold ref03_reading_name_j3 at h
    change BW _ _ _ ⟨[(1, (I64 a1)), (2, (PV.rf 0 0)), (4, (PV.rf 1 0)), (7, (ofStr x7.2)), (37, (BO s13))], [.box 78 [(PV.sl none 5 1 (List.map ofB (x7.1).f_b)), (I64 ((x7.1).f_at)), (I64 ((x7.1).f_n)), (I64 ((x7.1).f_place)), (I64 ((x7.1).f_why))], .box 78 [(PV.v (.slice none 0 0)), (I64 0), (I64 0), (I64 0), (I64 0)]], _⟩ _
    refine bw_cond rfl ?_ ?_
    ·intro hc14; replace h := ocond_t hc14 h
     refine bw_region ?_
     refine sS rfl rfl rfl ((op1_ldRA inf_78 Try.underlying78 rfl rfl rfl rfl rfl rfl)) ?_
     refine sM rfl rfl rfl rfl rfl ?_
     obtain ⟨x15, hx15, h⟩ := obind h
     refine sS rfl rfl rfl (op1_pcall rfl en_53 rfl (.cons (Wk.refl _) (.cons (Wk.refl _) (.cons (Wk.refl _) .nil))) ⟨(ids_S_ref03_reading (x7.1)), ⟨rfl, ⟨rfl, trivial⟩⟩⟩ (s_ref03_reading_bad (x7.1) a1 8 x15 hx15) (ids_S_ref03_reading x15)) ?_
     refine ao_step0 rfl rfl (op1_store inf_78 rfl rfl rfl rfl rfl rfl (Nat.le_of_ble_eq_true rfl) rfl) ?_
     refine ao_nil ?_
     exact ⟨rfl, (x15.f_b, x15.f_at, x15.f_n, x15.f_place, x15.f_why), h, ⟨(.cons .same (.cons .same .nil)), (sC rfl (sC rfl (sC rfl sub_nil)))⟩⟩
    ·intro hc14; replace h := ocond_f hc14 h
     refine bw_skip ?_
     exact ⟨rfl, ((x7.1).f_b, (x7.1).f_at, (x7.1).f_n, (x7.1).f_place, (x7.1).f_why), h, ⟨(.cons .same (.cons .same .nil)), (sC rfl (sC rfl (sC rfl sub_nil)))⟩⟩
   ·refine bw_region ?_
    refine sS rfl rfl rfl (op1_faR st_78 (i := 4) rfl rfl rfl) ?_
    refine sS rfl rfl rfl ((op1_ldR Try.underlying31 rfl rfl rfl rfl rfl)) ?_
    refine sS rfl rfl rfl ((op1_cmp rfl rfl rfl rfl).cast (y := (BO (((x7.1).f_why == 0)))) rfl rfl) ?_
    refine sM rfl rfl rfl rfl rfl ?_
    refine ao_cases (t := 33) rfl ?_ ?_
    ·intro hb16; replace h := ocond_t hb16 h
     refine ao_yes rfl rfl rfl rfl rfl rfl (op1_move rfl rfl) ?_
     obtain ⟨x17, hx17, h⟩ := obind h
     refine ao_yes rfl rfl rfl rfl rfl rfl (op1_pcall rfl en_74 rfl (.cons (Wk.refl _) .nil) ⟨rfl, trivial⟩ (s_ref01_Name x7.2 x17 hx17) rfl) ?_
     refine ao_yes rfl rfl rfl rfl rfl rfl (op1_not rfl rfl) ?_
     refine sS rfl rfl rfl (op1_pickT rfl rfl rfl) (ao_nil ?_)
     exact ⟨rfl, (!x17), h, ⟨(.cons .same (.cons .same .nil)), (sC rfl (sC rfl (sC rfl (sC rfl (sC rfl sub_nil)))))⟩⟩
    ·intro hb16; replace h := ocond_f hb16 h
     refine ao_no rfl rfl rfl rfl rfl rfl ?_
     refine ao_no rfl rfl rfl rfl rfl rfl ?_
     refine ao_no rfl rfl rfl rfl rfl rfl ?_
     refine sS rfl rfl rfl (op1_pickF rfl rfl rfl) (ao_nil ?_)
     exact ⟨rfl, false, h, ⟨(.cons .same (.cons .same .nil)), (sC rfl (sC rfl (sC rfl (sC rfl (sC rfl sub_nil)))))⟩⟩
 ·refine bw_seqJ (ι := Bool) (fun i => ref03_reading_name_j4 a1 x1 i = some r) (fun i => [(1, (I64 a1)), (2, (PV.rf 0 0)), (4, (PV.rf 1 0)), (6, (PV.v (.int .u64 x1.2))), (20, (BO i))]) (fun i => [.box 78 [(PV.sl none 5 1 (List.map ofB (x1.1).f_b)), (I64 ((x1.1).f_at)), (I64 ((x1.1).f_n)), (I64 ((x1.1).f_place)), (I64 ((x1.1).f_why))], .box 78 [(PV.v (.slice none 0 0)), (I64 0), (I64 0), (I64 0), (I64 0)]]) ?_ ?_ ?_
  ·intro i; exact ⟨Nat.le_of_ble_eq_true rfl, ⟨(il_nil rfl), ⟨(il_rf rfl), ⟨(il_rf rfl), ⟨(il_nil rfl), ⟨(il_nil rfl), trivial⟩⟩⟩⟩⟩, ⟨⟨(il_nil (ids_slM (fun _ => rfl) _)), ⟨(il_nil rfl), ⟨(il_nil rfl), ⟨(il_nil rfl), ⟨(il_nil rfl), trivial⟩⟩⟩⟩⟩, ⟨⟨(il_nil rfl), ⟨(il_nil rfl), ⟨(il_nil rfl), ⟨(il_nil rfl), ⟨(il_nil rfl), trivial⟩⟩⟩⟩⟩, trivial⟩⟩⟩
  ·rintro s18 h; replace h : ref03_reading_name_j4 a1 x1 s18 = some r := h; unfold ref03_reading_name_j4 at h
   change BW _ _ _ ⟨[(1, (I64 a1)), (2, (PV.rf 0 0)), (4, (PV.rf 1 0)), (6, (PV.v (.int .u64 x1.2))), (20, (BO s18))], [.box 78 [(PV.sl none 5 1 (List.map ofB (x1.1).f_b)), (I64 ((x1.1).f_at)), (I64 ((x1.1).f_n)), (I64 ((x1.1).f_place)), (I64 ((x1.1).f_why))], .box 78 [(PV.v (.slice none 0 0)), (I64 0), (I64 0), (I64 0), (I64 0)]], _⟩ _
   refine bw_cond rfl ?_ ?_
   ·intro hc19; replace h := ocond_t hc19 h
    refine bw_region ?_
    refine sS rfl rfl rfl ((op1_ldRA inf_78 Try.underlying78 rfl rfl rfl rfl rfl rfl)) ?_
    refine sM rfl rfl rfl rfl rfl ?_
    obtain ⟨x20, hx20, h⟩ := obind h
    refine sS rfl rfl rfl (op1_pcall rfl en_53 rfl (.cons (Wk.refl _) (.cons (Wk.refl _) (.cons (Wk.refl _) .nil))) ⟨(ids_S_ref03_reading (x1.1)), ⟨rfl, ⟨rfl, trivial⟩⟩⟩ (s_ref03_reading_bad (x1.1) a1 8 x20 hx20) (ids_S_ref03_reading x20)) ?_
    refine ao_step0 rfl rfl (op1_store inf_78 rfl rfl rfl rfl rfl rfl (Nat.le_of_ble_eq_true rfl) rfl) ?_
    refine ao_nil ?_
    exact ⟨rfl, (x20.f_b, x20.f_at, x20.f_n, x20.f_place, x20.f_why), h, ⟨(.cons .same (.cons .same .nil)), (sC rfl (sC rfl (sC rfl (sC rfl sub_nil))))⟩⟩
   ·intro hc19; replace h := ocond_f hc19 h
    refine bw_skip ?_
    exact ⟨rfl, ((x1.1).f_b, (x1.1).f_at, (x1.1).f_n, (x1.1).f_place, (x1.1).f_why), h, ⟨(.cons .same (.cons .same .nil)), (sC rfl (sC rfl (sC rfl (sC rfl sub_nil))))⟩⟩
  ·refine bw_region ?_
   refine sS rfl rfl rfl (op1_faR st_78 (i := 4) rfl rfl rfl) ?_
   refine sS rfl rfl rfl ((op1_ldR Try.underlying31 rfl rfl rfl rfl rfl)) ?_
   refine sS rfl rfl rfl ((op1_cmp rfl rfl rfl rfl).cast (y := (BO (((x1.1).f_why == 0)))) rfl rfl) ?_
   refine sM rfl rfl rfl rfl rfl ?_
   refine ao_cases (t := 17) rfl ?_ ?_
   ·intro hb21; replace h := ocond_t hb21 h
    refine ao_yes rfl rfl rfl rfl rfl rfl (op1_move rfl rfl) ?_
    refine ao_yes rfl rfl rfl rfl rfl rfl ((op1_cmp rfl rfl rfl rfl).cast (y := (BO ((x1.2 == 0)))) rfl rfl) ?_
    refine sS rfl rfl rfl (op1_pickT rfl rfl rfl) (ao_nil ?_)
    exact ⟨rfl, (x1.2 == 0), h, ⟨(.cons .same (.cons .same .nil)), (sC rfl (sC rfl (sC rfl (sC rfl (sC rfl sub_nil)))))⟩⟩
   ·intro hb21; replace h := ocond_f hb21 h
    refine ao_no rfl rfl rfl rfl rfl rfl ?_
    refine ao_no rfl rfl rfl rfl rfl rfl ?_
    refine sS rfl rfl rfl (op1_pickF rfl rfl rfl) (ao_nil ?_)
    exact ⟨rfl, false, h, ⟨(.cons .same (.cons .same .nil)), (sC rfl (sC rfl (sC rfl (sC rfl (sC rfl sub_nil)))))⟩⟩
end Go.Proofs.Ytigadhiciinicaa
