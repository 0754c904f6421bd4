/- Pure functions, and that calls answer as they say. Written by gen.py. -/
import Derived.Test.YtkmhecgagibgjaaG4
namespace Go.Proofs.Ytkmhecgagibgjaa
open Go Aw
set_option linter.unusedVariables false
set_option linter.unusedSimpArgs false
set_option maxRecDepth 20000
set_option maxHeartbeats 2000000
noncomputable def p_merge_three_1_ret : Option Unit :=
 some ()
theorem s_merge_three_1_ret  (r : Unit) (h : p_merge_three_1_ret  = some r) : DCalls Try.prog 28 [.junk, .junk, .junk, .junk] [] .ret (fun H' => H' = []) := by
 unfold p_merge_three_1_ret at h
 refine dcalls_rec2 Try.func28 rfl Try.ntmps28 rfl rfl rfl rfl rfl rfl rfl rfl rfl rfl (aw_of_bw ?_)
 change BW _ _ _ ⟨[(4, (PV.v .nilIface)), (5, (PV.v .nilIface)), (0, .junk), (1, .junk), (2, .junk), (3, .junk)], [], _⟩ _
 refine bR ?_
 refine sM rfl rfl rfl rfl rfl ?_
 refine sS rfl rfl rfl (op1_neN0 Try.underlying20 rfl rfl) (ao_nil ?_)
 change BW _ _ _ _ _
 refine bw_condF rfl ?_
 refine bw_skip ?_
 change ∃ xs, _ = some xs ∧ EndOk _ _ _ _
 obtain rfl := Option.some.inj h
 exact ⟨_, rfl, endR (y := (PV.tup [])) 0 (Wk.refl _) rfl rfl (.tup .nil) .nil ⟨rfl, rfl⟩⟩
noncomputable def p_merge_threenil (a0 : V) (a1 : V) (a2 : V) : Option (V × (List S_api_Conflict) × Int) :=
 Option.bind (p_merge_check ([a0, a1, a2] : (List V))) fun x1 =>
 bif (x1 != 0) then (
  some (V.nil, [], x1)
 ) else (
  Option.bind (p_merge_merger_put (S_merge_merger.mk () ([] : (List S_api_Conflict))) ([]) (S_merge_side.mk a0 true) (S_merge_side.mk a1 true) (S_merge_side.mk a2 true)) fun x3 =>
  Option.bind (p_merge_check ([(x3.1).f_v] : (List V))) fun x4 =>
  bif (x4 != 0) then (
   Option.bind (p_merge_three_1_ret ) fun x6 =>
   some (V.nil, (x3.2).f_conflicts, x4)
  ) else (
   Option.bind (p_merge_copied ((x3.1).f_v)) fun x7 =>
   Option.bind (p_merge_three_1_ret ) fun x8 =>
   some (x7, (x3.2).f_conflicts, 0)
  )
 )
theorem s_merge_threenil (a0 : V) (a1 : V) (a2 : V) (r : (V × (List S_api_Conflict) × Int)) (h : p_merge_threenil a0 a1 a2 = some r) : PCalls Try.prog 18 [(ofV a0), (ofV a1), (ofV a2), (PV.v .nilFunc)] (PV.tup [(ofV r.1), (PV.sl none 44 7 (List.map of_api_Conflict r.2.1)), (I64 r.2.2)]) := by
 unfold p_merge_threenil at h
 refine acalls_of_dw Try.func18 rfl Try.ntmps18 rfl ?_
 change DW _ _ _ _ _ ⟨[(0, (ofV a0)), (1, (ofV a1)), (2, (ofV a2)), (3, (PV.v .nilFunc))], [], _⟩ _
 refine dw_seq ?_
 change BW _ _ _ _ _
 refine bw_region ?_
 refine sS rfl rfl rfl ((op1_alloc inf_20 rfl).cast (H'' := [.box 20 [(ofV V.nil)]]) rfl (by simp only [mk_nil]; rfl)) ?_
 refine sS rfl rfl rfl (op1_alloc inf_32 rfl) ?_
 refine sS rfl rfl rfl (op1_alloc inf_33 rfl) (ao_nil ?_)
 change DW _ _ _ _ _ _ _
 refine dw_seq2 Try.results18 ?_
 change BW _ _ _ _ _
 refine bR ?_
 refine sM rfl rfl rfl rfl rfl ?_
 refine sM rfl rfl rfl rfl rfl ?_
 refine sM rfl rfl rfl rfl rfl ?_
 refine sS rfl rfl rfl ((op1_bslice (xs := [(ofV a0), (ofV a1), (ofV a2)]) Try.underlying46 inf_20 rfl rfl rfl (by simp only [List.all_cons, List.all_nil, cok_V, cok_RecP, Bool.and_true, Bool.true_and]; try rfl) (by simp only [List.all_cons, List.all_nil, csz_V, csz_RecP, cells_V, cells_RecP]; try rfl) rfl ⟨Nat.le_of_ble_eq_true rfl, Nat.le_of_ble_eq_true rfl⟩ (by simp only [zipN, afill, List.flatMap_cons, List.flatMap_nil, cells_V, cells_RecP]; try rfl)).cast (y := (PV.sl (some 3) 20 1 (List.map ofV ([a0, a1, a2] : (List V))))) rfl rfl) ?_
 obtain ⟨x1, hx1, h⟩ := obind h
 refine sS rfl rfl rfl (op1_pcall rfl en_21 rfl (.cons Wk.tok .nil) ⟨(ids_slM ids_V ([a0, a1, a2] : (List V))), trivial⟩ (s_merge_check ([a0, a1, a2] : (List V)) x1 hx1) rfl) ?_
 refine sA rfl rfl rfl rfl rfl (ao_nil ?_)
 change BW _ _ _ _ _
 refine bR ?_
 refine sM rfl rfl rfl rfl rfl ?_
 refine sS rfl rfl rfl ((op1_cmp rfl rfl rfl rfl).cast (y := (BO ((x1 != 0)))) rfl rfl) (ao_nil ?_)
 change BW _ _ _ _ _
 refine bw_cond rfl ?_ ?_
 ·intro hc2; replace h := ocond_t hc2 h
  refine bR ?_
  refine sM rfl rfl rfl rfl rfl ?_
  refine ao_step0 rfl rfl ((op1_store inf_20 rfl rfl rfl rfl rfl rfl (Nat.le_of_ble_eq_true rfl) rfl).cast (H'' := [.box 20 [(ofV V.nil)], .box 32 [(PV.v (.slice none 0 0))], .box 33 [(I64 0)], .arr 20 (([a0, a1, a2] : (List V))).length]) rfl (by simp only [mk_nil]; rfl)) ?_
  refine ao_step0 rfl rfl (op1_store inf_32 rfl rfl rfl rfl rfl rfl (Nat.le_of_ble_eq_true rfl) rfl) ?_
  refine ao_step0 rfl rfl (op1_store inf_33 rfl rfl rfl rfl rfl rfl (Nat.le_of_ble_eq_true rfl) rfl) ?_
  refine ao_nil ?_
  change BW _ _ _ _ _
  refine bw_ret ?_
  change ∃ xs, _ = some xs ∧ EndOk _ _ _ _
  obtain rfl := Option.some.inj h
  exact ⟨_, rfl, endOk0 (y := (PV.tup [(ofV V.nil), (PV.sl none 44 7 (List.map of_api_Conflict [])), (I64 x1)])) (Wk.tup (.cons (Wk.refl _) (.cons Wk.nil (.cons (Wk.refl _) .nil)))) (ids_tup_cons (ids_V V.nil) (ids_tup_cons (ids_slM ids_S_api_Conflict ([])) (ids_tup_cons rfl ids_tup_nil))) ⟨rfl, rfl⟩⟩
 ·intro hc2; replace h := ocond_f hc2 h
  refine bw_skip ?_
  change DW _ _ _ _ _ _ _
  refine dw_seq ?_
  change BW _ _ _ _ _
  refine bw_region ?_
  refine sM rfl rfl rfl rfl rfl ?_
  refine sS rfl rfl rfl (op1_build (cs := [(PV.v .nilFunc), (PV.v (.slice none 0 0))]) st_83 inf_83 rfl rfl rfl rfl) ?_
  refine sS rfl rfl rfl (op1_box rfl rfl rfl) ?_
  refine sS rfl rfl rfl (op1_alloc inf_81 rfl) ?_
  refine ao_step0 rfl rfl (op1_store inf_81 rfl rfl rfl rfl rfl rfl (Nat.le_of_ble_eq_true rfl) rfl) ?_
  refine ao_nil ?_
  change DW _ _ _ _ _ _ _
  refine dw_defer (caps := [.tmp 12, .tmp 8, .tmp 9, .tmp 10]) rfl rfl rfl rfl rfl rfl rfl rfl ?_
  refine dw_wk (cap' := [.junk, .junk, .junk, .junk]) (.cons Wk.junk (.cons Wk.junk (.cons Wk.junk (.cons Wk.junk .nil)))) ?_
  refine dw_end en_28 Try.results18 ?_
  change BW _ _ _ _ _
  refine bw_seq ?_
  refine bw_ghostB (s := ⟨_, _, _⟩) 4 1 44 (sz := 7) rfl rfl rfl ?_
  refine bw_region ?_
  refine sS rfl rfl rfl ((op1_ldR Try.underlying81 rfl rfl rfl rfl rfl)) ?_
  refine sM rfl rfl rfl rfl rfl ?_
  refine sS rfl rfl rfl (op1_build (cs := [(ofV a0), (BO true)]) st_87 inf_87 rfl rfl (by simp only [List.all_cons, List.all_nil, cok_V, cok_RecP, Bool.and_true, Bool.true_and]; try rfl) (by simp only [afill, List.getElem?_cons_zero, List.getElem?_cons_succ, cells_V, cells_RecP]; rfl)) ?_
  refine sM rfl rfl rfl rfl rfl ?_
  refine sS rfl rfl rfl (op1_build (cs := [(ofV a1), (BO true)]) st_87 inf_87 rfl rfl (by simp only [List.all_cons, List.all_nil, cok_V, cok_RecP, Bool.and_true, Bool.true_and]; try rfl) (by simp only [afill, List.getElem?_cons_zero, List.getElem?_cons_succ, cells_V, cells_RecP]; rfl)) ?_
  refine sM rfl rfl rfl rfl rfl ?_
  refine sS rfl rfl rfl (op1_build (cs := [(ofV a2), (BO true)]) st_87 inf_87 rfl rfl (by simp only [List.all_cons, List.all_nil, cok_V, cok_RecP, Bool.and_true, Bool.true_and]; try rfl) (by simp only [afill, List.getElem?_cons_zero, List.getElem?_cons_succ, cells_V, cells_RecP]; rfl)) ?_
  obtain ⟨x3, hx3, h⟩ := obind h
  refine sS rfl rfl rfl (op1_mcall [4, 6] (.func rfl) en_29 rfl (.cons (Wk.refl _) (.cons Wk.nil (.cons (Wk.refl _) (.cons (Wk.refl _) (.cons (Wk.refl _) .nil))))) rfl (.cons rfl (.box (.cons (.same rfl) (.cons (.row rfl (ids_map ids_S_api_Conflict (((S_merge_merger.mk () ([] : (List S_api_Conflict)))).f_conflicts))) .nil))) (.cons rfl .arr .nil)) (.cons (.rf rfl) (.cons (.same (ids_slM ids_S_api_Step ([]))) (.cons (.same (ids_S_merge_side (S_merge_side.mk a0 true))) (.cons (.same (ids_S_merge_side (S_merge_side.mk a1 true))) (.cons (.same (ids_S_merge_side (S_merge_side.mk a2 true))) .nil))))) (s_merge_merger_put (S_merge_merger.mk () ([] : (List S_api_Conflict))) ([]) (S_merge_side.mk a0 true) (S_merge_side.mk a1 true) (S_merge_side.mk a2 true) x3 hx3) (.same (ids_S_merge_side x3.1)) (.cons (.box (.cons (.same rfl) (.cons (.row rfl (ids_map ids_S_api_Conflict ((x3.2).f_conflicts))) .nil))) (.cons .arr .nil)) rfl) ?_
  refine sS rfl rfl rfl ((op1_alloc inf_87 rfl).cast (H'' := [.box 20 [(ofV V.nil)], .box 32 [(PV.v (.slice none 0 0))], .box 33 [(I64 0)], .arr 20 (([a0, a1, a2] : (List V))).length, .box 83 [(PV.v .nilFunc), (PV.sl (some 6) 44 7 (List.map of_api_Conflict (x3.2).f_conflicts))], .box 81 [(PV.rf 4 0)], .arr 44 ((x3.2).f_conflicts).length, .box 87 [(ofV V.nil), (BO false)]]) rfl (by simp only [mk_nil]; rfl)) ?_
  refine ao_step0 rfl rfl (op1_store inf_87 rfl rfl rfl rfl rfl rfl (Nat.le_of_ble_eq_true rfl) (by show List.all [(ofV (x3.1).f_v), (BO ((x3.1).f_has))] one1 = true; simp only [List.all_cons, List.all_nil, one_V, one_RecP, Bool.and_true, Bool.true_and]; try rfl)) ?_
  refine ao_nil ?_
  change BW _ _ _ _ _
  refine bw_seq ?_
  refine bR ?_
  refine sS rfl rfl rfl (op1_faR st_87 (i := 0) rfl rfl rfl) ?_
  refine sS rfl rfl rfl ((op1_ldR Try.underlying20 rfl rfl rfl rfl rfl)) ?_
  refine sS rfl rfl rfl ((op1_bslice (xs := [(ofV (x3.1).f_v)]) Try.underlying46 inf_20 rfl rfl rfl (by simp only [List.all_cons, List.all_nil, cok_V, cok_RecP, Bool.and_true, Bool.true_and]; try rfl) (by simp only [List.all_cons, List.all_nil, csz_V, csz_RecP, cells_V, cells_RecP]; try rfl) rfl ⟨Nat.le_of_ble_eq_true rfl, Nat.le_of_ble_eq_true rfl⟩ (by simp only [zipN, afill, List.flatMap_cons, List.flatMap_nil, cells_V, cells_RecP]; try rfl)).cast (y := (PV.sl (some 8) 20 1 (List.map ofV ([(x3.1).f_v] : (List V))))) rfl rfl) ?_
  obtain ⟨x4, hx4, h⟩ := obind h
  refine sS rfl rfl rfl (op1_pcall rfl en_21 rfl (.cons Wk.tok .nil) ⟨(ids_slM ids_V ([(x3.1).f_v] : (List V))), trivial⟩ (s_merge_check ([(x3.1).f_v] : (List V)) x4 hx4) rfl) ?_
  refine sA rfl rfl rfl rfl rfl (ao_nil ?_)
  change BW _ _ _ _ _
  refine bR ?_
  refine sM rfl rfl rfl rfl rfl ?_
  refine sS rfl rfl rfl ((op1_cmp rfl rfl rfl rfl).cast (y := (BO ((x4 != 0)))) rfl rfl) (ao_nil ?_)
  change BW _ _ _ _ _
  refine bw_cond rfl ?_ ?_
  ·intro hc5; replace h := ocond_t hc5 h
   refine bw_seq (bw_tail 7 [5, 6] [4, 5] mo (by kernel_rfl) ?_)
   refine ac_go rfl rfl rfl rfl (fun H hp => (op1_ldR Try.underlying81 rfl rfl rfl (hp.at rfl rfl) rfl)) ?_
   refine ac_go rfl rfl rfl rfl (fun H hp => op1_nilR rfl rfl) ?_
   refine ac_go rfl rfl rfl rfl (fun H hp => op1_faR st_83 (i := 1) rfl rfl rfl) ?_
   refine ac_go rfl rfl rfl rfl (fun H hp => (op1_ldR Try.underlying32 rfl rfl rfl (hp.at rfl rfl) rfl)) ?_
   refine ac_go rfl rfl rfl rfl (fun H hp => op1_move rfl rfl) ?_
   refine ac_lgo0 rfl rfl rfl ((op1_store inf_20 rfl rfl rfl rfl rfl rfl (Nat.le_of_ble_eq_true rfl) rfl).cast (H'' := [.box 20 [(ofV V.nil)], .box 32 [(PV.v (.slice none 0 0))], .box 33 [(I64 0)], .arr 20 (([a0, a1, a2] : (List V))).length, .box 83 [(PV.v .nilFunc), (PV.sl (some 6) 44 7 (List.map of_api_Conflict (x3.2).f_conflicts))], .box 81 [(PV.rf 4 0)], .arr 44 ((x3.2).f_conflicts).length, .box 87 [(ofV (x3.1).f_v), (BO ((x3.1).f_has))], .arr 20 (([(x3.1).f_v] : (List V))).length]) rfl (by simp only [mk_nil]; rfl)) ⟨rfl, ⟨rfl, trivial⟩⟩ ?_
   refine ac_lgo0 rfl rfl rfl (op1_store inf_32 rfl rfl rfl rfl rfl rfl (Nat.le_of_ble_eq_true rfl) rfl) ⟨rfl, ⟨rfl, trivial⟩⟩ ?_
   refine ac_nil ?_
   change AO _ _ _ _ _
   refine ao_step0 rfl rfl (op1_store inf_33 rfl rfl rfl rfl rfl rfl (Nat.le_of_ble_eq_true rfl) rfl) ?_
   refine ao_nil ?_
   change BW _ _ _ _ _
   refine bw_ret ?_
   repeat (first | refine seqB_ret ?_ | refine blockK_ret ?_ | refine jumpK_ret ?_)
   refine endKD_ret ?_
   obtain ⟨x6, hx6, h⟩ := obind h
   obtain rfl := Option.some.inj h
   refine endD_of [] rfl .nil (.cons (.same rfl) (.cons (.same rfl) (.cons (.same rfl) (.cons (.same rfl) .nil)))) (fun p hp => by cases hp) (s_merge_three_1_ret  x6 hx6) .nil rfl rfl ?_
   exact endOk0 (y := (PV.tup [(ofV V.nil), (PV.sl none 44 7 (List.map of_api_Conflict (x3.2).f_conflicts)), (I64 x4)])) (Wk.tup (.cons (Wk.refl _) (.cons Wk.tok (.cons (Wk.refl _) .nil)))) (ids_tup_cons (ids_V V.nil) (ids_tup_cons (ids_slM ids_S_api_Conflict ((x3.2).f_conflicts)) (ids_tup_cons rfl ids_tup_nil))) ⟨rfl, rfl⟩
  ·intro hc5; replace h := ocond_f hc5 h
   refine bw_skip ?_
   change BW _ _ _ _ _
   refine bw_seq (bw_tail 8 [7] [4, 5, 7] mo (by kernel_rfl) ?_)
   refine ac_go rfl rfl rfl rfl (fun H hp => op1_faR st_87 (i := 0) rfl rfl rfl) ?_
   refine ac_go rfl rfl rfl rfl (fun H hp => (op1_ldR Try.underlying20 rfl rfl rfl (hp.at rfl rfl) rfl)) ?_
   obtain ⟨x7, hx7, h⟩ := obind h
   refine ac_go rfl rfl rfl rfl (fun H hp => op1_pcall rfl en_30 rfl (.cons (Wk.refl _) .nil) ⟨(ids_V ((x3.1).f_v)), trivial⟩ (s_merge_copied ((x3.1).f_v) x7 hx7) (ids_V x7)) ?_
   refine ac_go rfl rfl rfl rfl (fun H hp => (op1_ldR Try.underlying81 rfl rfl rfl (hp.at rfl rfl) rfl)) ?_
   refine ac_go rfl rfl rfl rfl (fun H hp => op1_nilR rfl rfl) ?_
   refine ac_go rfl rfl rfl rfl (fun H hp => op1_faR st_83 (i := 1) rfl rfl rfl) ?_
   refine ac_go rfl rfl rfl rfl (fun H hp => (op1_ldR Try.underlying32 rfl rfl rfl (hp.at rfl rfl) rfl)) ?_
   refine ac_lgo0 rfl rfl rfl ((op1_store inf_20 rfl rfl rfl rfl (cok_V _) (csz_V _) (Nat.le_of_ble_eq_true rfl) (call1_V _)).cast (H'' := [.box 20 [(ofV x7)], .box 32 [(PV.v (.slice none 0 0))], .box 33 [(I64 0)], .arr 20 (([a0, a1, a2] : (List V))).length, .box 83 [(PV.v .nilFunc), (PV.sl (some 6) 44 7 (List.map of_api_Conflict (x3.2).f_conflicts))], .box 81 [(PV.rf 4 0)], .arr 44 ((x3.2).f_conflicts).length, .box 87 [(ofV (x3.1).f_v), (BO ((x3.1).f_has))], .arr 20 (([(x3.1).f_v] : (List V))).length]) rfl (by rw [cells_V]; rfl)) ⟨rfl, ⟨rfl, ⟨rfl, trivial⟩⟩⟩ ?_
   refine ac_nil ?_
   change AO _ _ _ _ _
   refine ao_step0 rfl rfl (op1_store inf_32 rfl rfl rfl rfl rfl rfl (Nat.le_of_ble_eq_true rfl) rfl) ?_
   refine ao_step0 rfl rfl (op1_store inf_33 rfl rfl rfl rfl rfl rfl (Nat.le_of_ble_eq_true rfl) rfl) ?_
   refine ao_nil ?_
   change BW _ _ _ _ _
   refine bw_ret ?_
   repeat (first | refine seqB_ret ?_ | refine blockK_ret ?_ | refine jumpK_ret ?_)
   refine endKD_ret ?_
   obtain ⟨x8, hx8, h⟩ := obind h
   obtain rfl := Option.some.inj h
   refine endD_of [] rfl .nil (.cons (.same rfl) (.cons (.same rfl) (.cons (.same rfl) (.cons (.same rfl) .nil)))) (fun p hp => by cases hp) (s_merge_three_1_ret  x8 hx8) .nil rfl rfl ?_
   exact endOk0 (y := (PV.tup [(ofV x7), (PV.sl none 44 7 (List.map of_api_Conflict (x3.2).f_conflicts)), (I64 0)])) (Wk.tup (.cons (Wk.refl _) (.cons Wk.tok (.cons (Wk.refl _) .nil)))) (ids_tup_cons (ids_V x7) (ids_tup_cons (ids_slM ids_S_api_Conflict ((x3.2).f_conflicts)) (ids_tup_cons rfl ids_tup_nil))) ⟨rfl, rfl⟩
noncomputable def p_merge_Threenil (a0 : V) (a1 : V) (a2 : V) : Option (V × (List S_api_Conflict) × Int) :=
 Option.bind (p_merge_threenil a0 a1 a2) fun x1 =>
 some (x1.1, x1.2.1, x1.2.2)
theorem s_merge_Threenil (a0 : V) (a1 : V) (a2 : V) (r : (V × (List S_api_Conflict) × Int)) (h : p_merge_Threenil a0 a1 a2 = some r) : PCalls Try.prog 9 [(ofV a0), (ofV a1), (ofV a2), (PV.v .nilFunc)] (PV.tup [(ofV r.1), (PV.sl none 44 7 (List.map of_api_Conflict r.2.1)), (I64 r.2.2)]) := by
 unfold p_merge_Threenil at h
 refine acalls_of Try.func9 rfl Try.ntmps9 Try.results9 rfl (aw_of_bw ?_)
 change BW _ _ _ ⟨[(0, (ofV a0)), (1, (ofV a1)), (2, (ofV a2)), (3, (PV.v .nilFunc))], [], _⟩ _
 refine bR ?_
 refine sA rfl rfl rfl rfl rfl ?_
 refine sA rfl rfl rfl rfl rfl ?_
 refine sA rfl rfl rfl rfl rfl (ao_nil ?_)
 change BW _ _ _ _ _
 refine bR ?_
 refine sM rfl rfl rfl rfl rfl ?_
 refine sM rfl rfl rfl rfl rfl ?_
 refine sM rfl rfl rfl rfl rfl ?_
 refine sM rfl rfl rfl rfl rfl ?_
 obtain ⟨x1, hx1, h⟩ := obind h
 refine sS rfl rfl rfl (op1_pcall rfl en_18 rfl (.cons (Wk.refl _) (.cons (Wk.refl _) (.cons (Wk.refl _) (.cons (Wk.refl _) .nil)))) ⟨(ids_V a0), ⟨(ids_V a1), ⟨(ids_V a2), ⟨rfl, trivial⟩⟩⟩⟩ (s_merge_threenil a0 a1 a2 x1 hx1) (ids_tup_cons (ids_V x1.1) (ids_tup_cons (ids_slM ids_S_api_Conflict x1.2.1) (ids_tup_cons rfl ids_tup_nil)))) ?_
 refine sS rfl rfl rfl (op1_ext rfl rfl rfl) ?_
 refine sS rfl rfl rfl (op1_ext rfl rfl rfl) ?_
 refine sS rfl rfl rfl (op1_ext rfl rfl rfl) ?_
 refine sA rfl rfl rfl rfl rfl ?_
 refine sA rfl rfl rfl rfl rfl ?_
 refine sA rfl rfl rfl rfl rfl (ao_nil ?_)
 change BW _ _ _ _ _
 refine bw_ret ?_
 change ∃ xs, _ = some xs ∧ EndOk _ _ _ _
 obtain rfl := Option.some.inj h
 exact ⟨_, rfl, endOk0 (y := (PV.tup [(ofV x1.1), (PV.sl none 44 7 (List.map of_api_Conflict x1.2.1)), (I64 x1.2.2)])) (Wk.refl _) (ids_tup_cons (ids_V x1.1) (ids_tup_cons (ids_slM ids_S_api_Conflict x1.2.1) (ids_tup_cons rfl ids_tup_nil))) ⟨rfl, rfl⟩⟩
noncomputable def p_law24_lives : Option Bool :=
 Option.bind (p_merge_Threenil (V.dict ([(([97] : Str), (V.int 1)), (([98] : Str), (V.int 1))] : (List (Str × V)))) (V.dict ([(([97] : Str), (V.int 2)), (([98] : Str), (V.int 1))] : (List (Str × V)))) (V.dict ([(([97] : Str), (V.int 1)), (([99] : Str), (V.int 3))] : (List (Str × V))))) fun x1 =>
 Option.bind (p_merge_Threenil (V.dict ([(([97] : Str), (V.int 1)), (([98] : Str), (V.int 1))] : (List (Str × V)))) (V.dict ([(([97] : Str), (V.int 2)), (([98] : Str), (V.int 1))] : (List (Str × V)))) (V.dict ([(([97] : Str), (V.int 3)), (([98] : Str), (V.int 1))] : (List (Str × V))))) fun x2 =>
 bif (x1.2.2 == 0) then (
  bif ((((x1.2.1).length : Nat) : Int) == 0) then (
   Option.bind (p_value_Same x1.1 (V.dict ([(([97] : Str), (V.int 2)), (([99] : Str), (V.int 3))] : (List (Str × V))))) fun x5 =>
   bif x5 then (
    bif (x2.2.2 == 0) then (
     bif ((((x2.2.1).length : Nat) : Int) == 1) then (
      Option.bind ((x2.2.1)[0]?) fun x9 =>
      bif ((((x9.f_Way).length : Nat) : Int) == 1) then (
       Option.bind ((x2.2.1)[0]?) fun x11 =>
       Option.bind ((x11.f_Way)[0]?) fun x12 =>
       some (x12.f_Name == ([97] : Str))
      ) else (
       some false
      )
     ) else (
      some false
     )
    ) else (
     some false
    )
   ) else (
    some false
   )
  ) else (
   some false
  )
 ) else (
  some false
 )
theorem s_law24_lives  (r : Bool) (h : p_law24_lives  = some r) : PCalls Try.prog 7 [] (BO r) := by
 unfold p_law24_lives at h
 refine acalls_of Try.func7 rfl Try.ntmps7 Try.results7 rfl (aw_of_bw ?_)
 change BW _ _ _ ⟨[], [], _⟩ _
 refine bR ?_
 refine sA rfl rfl rfl rfl rfl (ao_nil ?_)
 change BW _ _ _ _ _
 refine bR ?_
 refine sS rfl rfl rfl ((op1_mkI Try.underlying2 rfl rfl rfl).wk ((Wk.iface (Wk.refl _)).trans (Wk.eq (mk_int _).symm))) ?_
 refine sS rfl rfl rfl (op1_build (cs := [(ofStr ([97] : Str)), (ofV (V.int 1))]) st_55 inf_55 rfl rfl (by simp only [List.all_cons, List.all_nil, cok_V, cok_RecP, Bool.and_true, Bool.true_and]; try rfl) (by simp only [afill, List.getElem?_cons_zero, List.getElem?_cons_succ, cells_V, cells_RecP]; rfl)) ?_
 refine sS rfl rfl rfl ((op1_mkI Try.underlying2 rfl rfl rfl).wk ((Wk.iface (Wk.refl _)).trans (Wk.eq (mk_int _).symm))) ?_
 refine sS rfl rfl rfl (op1_build (cs := [(ofStr ([98] : Str)), (ofV (V.int 1))]) st_55 inf_55 rfl rfl (by simp only [List.all_cons, List.all_nil, cok_V, cok_RecP, Bool.and_true, Bool.true_and]; try rfl) (by simp only [afill, List.getElem?_cons_zero, List.getElem?_cons_succ, cells_V, cells_RecP]; rfl)) ?_
 refine sS rfl rfl rfl ((op1_bslice (xs := [(PV.agg [(ofStr ([97] : Str)), (ofV (V.int 1))]), (PV.agg [(ofStr ([98] : Str)), (ofV (V.int 1))])]) Try.underlying49 inf_55 rfl rfl rfl (by simp only [List.all_cons, List.all_nil, cok_V, cok_RecP, Bool.and_true, Bool.true_and]; try rfl) (by simp only [List.all_cons, List.all_nil, csz_V, csz_RecP, cells_V, cells_RecP]; try rfl) rfl ⟨Nat.le_of_ble_eq_true rfl, Nat.le_of_ble_eq_true rfl⟩ (by simp only [zipN, afill, List.flatMap_cons, List.flatMap_nil, cells_V, cells_RecP]; try rfl)).cast (y := (PV.sl (some 0) 55 2 (List.map ofFld ([(([97] : Str), (V.int 1)), (([98] : Str), (V.int 1))] : (List (Str × V)))))) rfl rfl) ?_
 refine sA rfl rfl rfl rfl rfl (ao_nil ?_)
 change BW _ _ _ _ _
 refine bR ?_
 refine sS rfl rfl rfl ((op1_mkI Try.underlying2 rfl rfl rfl).wk ((Wk.iface (Wk.refl _)).trans (Wk.eq (mk_int _).symm))) ?_
 refine sS rfl rfl rfl (op1_build (cs := [(ofStr ([97] : Str)), (ofV (V.int 2))]) st_55 inf_55 rfl rfl (by simp only [List.all_cons, List.all_nil, cok_V, cok_RecP, Bool.and_true, Bool.true_and]; try rfl) (by simp only [afill, List.getElem?_cons_zero, List.getElem?_cons_succ, cells_V, cells_RecP]; rfl)) ?_
 refine sS rfl rfl rfl ((op1_mkI Try.underlying2 rfl rfl rfl).wk ((Wk.iface (Wk.refl _)).trans (Wk.eq (mk_int _).symm))) ?_
 refine sS rfl rfl rfl (op1_build (cs := [(ofStr ([98] : Str)), (ofV (V.int 1))]) st_55 inf_55 rfl rfl (by simp only [List.all_cons, List.all_nil, cok_V, cok_RecP, Bool.and_true, Bool.true_and]; try rfl) (by simp only [afill, List.getElem?_cons_zero, List.getElem?_cons_succ, cells_V, cells_RecP]; rfl)) ?_
 refine sS rfl rfl rfl ((op1_bslice (xs := [(PV.agg [(ofStr ([97] : Str)), (ofV (V.int 2))]), (PV.agg [(ofStr ([98] : Str)), (ofV (V.int 1))])]) Try.underlying49 inf_55 rfl rfl rfl (by simp only [List.all_cons, List.all_nil, cok_V, cok_RecP, Bool.and_true, Bool.true_and]; try rfl) (by simp only [List.all_cons, List.all_nil, csz_V, csz_RecP, cells_V, cells_RecP]; try rfl) rfl ⟨Nat.le_of_ble_eq_true rfl, Nat.le_of_ble_eq_true rfl⟩ (by simp only [zipN, afill, List.flatMap_cons, List.flatMap_nil, cells_V, cells_RecP]; try rfl)).cast (y := (PV.sl (some 1) 55 2 (List.map ofFld ([(([97] : Str), (V.int 2)), (([98] : Str), (V.int 1))] : (List (Str × V)))))) rfl rfl) ?_
 refine sA rfl rfl rfl rfl rfl (ao_nil ?_)
 change BW _ _ _ _ _
 refine bR ?_
 refine sS rfl rfl rfl ((op1_mkI Try.underlying2 rfl rfl rfl).wk ((Wk.iface (Wk.refl _)).trans (Wk.eq (mk_int _).symm))) ?_
 refine sS rfl rfl rfl (op1_build (cs := [(ofStr ([97] : Str)), (ofV (V.int 1))]) st_55 inf_55 rfl rfl (by simp only [List.all_cons, List.all_nil, cok_V, cok_RecP, Bool.and_true, Bool.true_and]; try rfl) (by simp only [afill, List.getElem?_cons_zero, List.getElem?_cons_succ, cells_V, cells_RecP]; rfl)) ?_
 refine sS rfl rfl rfl ((op1_mkI Try.underlying2 rfl rfl rfl).wk ((Wk.iface (Wk.refl _)).trans (Wk.eq (mk_int _).symm))) ?_
 refine sS rfl rfl rfl (op1_build (cs := [(ofStr ([99] : Str)), (ofV (V.int 3))]) st_55 inf_55 rfl rfl (by simp only [List.all_cons, List.all_nil, cok_V, cok_RecP, Bool.and_true, Bool.true_and]; try rfl) (by simp only [afill, List.getElem?_cons_zero, List.getElem?_cons_succ, cells_V, cells_RecP]; rfl)) ?_
 refine sS rfl rfl rfl ((op1_bslice (xs := [(PV.agg [(ofStr ([97] : Str)), (ofV (V.int 1))]), (PV.agg [(ofStr ([99] : Str)), (ofV (V.int 3))])]) Try.underlying49 inf_55 rfl rfl rfl (by simp only [List.all_cons, List.all_nil, cok_V, cok_RecP, Bool.and_true, Bool.true_and]; try rfl) (by simp only [List.all_cons, List.all_nil, csz_V, csz_RecP, cells_V, cells_RecP]; try rfl) rfl ⟨Nat.le_of_ble_eq_true rfl, Nat.le_of_ble_eq_true rfl⟩ (by simp only [zipN, afill, List.flatMap_cons, List.flatMap_nil, cells_V, cells_RecP]; try rfl)).cast (y := (PV.sl (some 2) 55 2 (List.map ofFld ([(([97] : Str), (V.int 1)), (([99] : Str), (V.int 3))] : (List (Str × V)))))) rfl rfl) ?_
 refine sA rfl rfl rfl rfl rfl (ao_nil ?_)
 change BW _ _ _ _ _
 refine bR ?_
 refine sM rfl rfl rfl rfl rfl ?_
 refine sS rfl rfl rfl ((op1_mkI Try.underlying49 rfl rfl rfl).wk ((Wk.iface Wk.tok).trans (Wk.eq (mk_dict _).symm))) ?_
 refine sM rfl rfl rfl rfl rfl ?_
 refine sS rfl rfl rfl ((op1_mkI Try.underlying49 rfl rfl rfl).wk ((Wk.iface Wk.tok).trans (Wk.eq (mk_dict _).symm))) ?_
 refine sM rfl rfl rfl rfl rfl ?_
 refine sS rfl rfl rfl ((op1_mkI Try.underlying49 rfl rfl rfl).wk ((Wk.iface Wk.tok).trans (Wk.eq (mk_dict _).symm))) ?_
 obtain ⟨x1, hx1, h⟩ := obind h
 refine sS rfl rfl rfl (op1_pcall rfl en_9 rfl (.cons (Wk.refl _) (.cons (Wk.refl _) (.cons (Wk.refl _) (.cons (Wk.refl _) .nil)))) ⟨(ids_V (V.dict ([(([97] : Str), (V.int 1)), (([98] : Str), (V.int 1))] : (List (Str × V))))), ⟨(ids_V (V.dict ([(([97] : Str), (V.int 2)), (([98] : Str), (V.int 1))] : (List (Str × V))))), ⟨(ids_V (V.dict ([(([97] : Str), (V.int 1)), (([99] : Str), (V.int 3))] : (List (Str × V))))), ⟨rfl, trivial⟩⟩⟩⟩ (s_merge_Threenil (V.dict ([(([97] : Str), (V.int 1)), (([98] : Str), (V.int 1))] : (List (Str × V)))) (V.dict ([(([97] : Str), (V.int 2)), (([98] : Str), (V.int 1))] : (List (Str × V)))) (V.dict ([(([97] : Str), (V.int 1)), (([99] : Str), (V.int 3))] : (List (Str × V)))) x1 hx1) (ids_tup_cons (ids_V x1.1) (ids_tup_cons (ids_slM ids_S_api_Conflict x1.2.1) (ids_tup_cons rfl ids_tup_nil)))) ?_
 refine sM rfl rfl rfl rfl rfl ?_
 refine sS rfl rfl rfl (op1_ext rfl rfl rfl) ?_
 refine sS rfl rfl rfl (op1_ext rfl rfl rfl) ?_
 refine sS rfl rfl rfl (op1_ext rfl rfl rfl) ?_
 refine sA rfl rfl rfl rfl rfl ?_
 refine sA rfl rfl rfl rfl rfl ?_
 refine sA rfl rfl rfl rfl rfl (ao_nil ?_)
 change BW _ _ _ _ _
 refine bR ?_
 refine sM rfl rfl rfl rfl rfl ?_
 refine sS rfl rfl rfl ((op1_mkI Try.underlying49 rfl rfl rfl).wk ((Wk.iface Wk.tok).trans (Wk.eq (mk_dict _).symm))) ?_
 refine sM rfl rfl rfl rfl rfl ?_
 refine sS rfl rfl rfl ((op1_mkI Try.underlying49 rfl rfl rfl).wk ((Wk.iface Wk.tok).trans (Wk.eq (mk_dict _).symm))) ?_
 refine sS rfl rfl rfl ((op1_mkI Try.underlying2 rfl rfl rfl).wk ((Wk.iface (Wk.refl _)).trans (Wk.eq (mk_int _).symm))) ?_
 refine sS rfl rfl rfl (op1_build (cs := [(ofStr ([97] : Str)), (ofV (V.int 3))]) st_55 inf_55 rfl rfl (by simp only [List.all_cons, List.all_nil, cok_V, cok_RecP, Bool.and_true, Bool.true_and]; try rfl) (by simp only [afill, List.getElem?_cons_zero, List.getElem?_cons_succ, cells_V, cells_RecP]; rfl)) ?_
 refine sS rfl rfl rfl ((op1_mkI Try.underlying2 rfl rfl rfl).wk ((Wk.iface (Wk.refl _)).trans (Wk.eq (mk_int _).symm))) ?_
 refine sS rfl rfl rfl (op1_build (cs := [(ofStr ([98] : Str)), (ofV (V.int 1))]) st_55 inf_55 rfl rfl (by simp only [List.all_cons, List.all_nil, cok_V, cok_RecP, Bool.and_true, Bool.true_and]; try rfl) (by simp only [afill, List.getElem?_cons_zero, List.getElem?_cons_succ, cells_V, cells_RecP]; rfl)) ?_
 refine sS rfl rfl rfl ((op1_bslice (xs := [(PV.agg [(ofStr ([97] : Str)), (ofV (V.int 3))]), (PV.agg [(ofStr ([98] : Str)), (ofV (V.int 1))])]) Try.underlying49 inf_55 rfl rfl rfl (by simp only [List.all_cons, List.all_nil, cok_V, cok_RecP, Bool.and_true, Bool.true_and]; try rfl) (by simp only [List.all_cons, List.all_nil, csz_V, csz_RecP, cells_V, cells_RecP]; try rfl) rfl ⟨Nat.le_of_ble_eq_true rfl, Nat.le_of_ble_eq_true rfl⟩ (by simp only [zipN, afill, List.flatMap_cons, List.flatMap_nil, cells_V, cells_RecP]; try rfl)).cast (y := (PV.sl (some 3) 55 2 (List.map ofFld ([(([97] : Str), (V.int 3)), (([98] : Str), (V.int 1))] : (List (Str × V)))))) rfl rfl) ?_
 refine sS rfl rfl rfl ((op1_mkI Try.underlying49 rfl rfl rfl).wk ((Wk.iface Wk.tok).trans (Wk.eq (mk_dict _).symm))) ?_
 obtain ⟨x2, hx2, h⟩ := obind h
 refine sS rfl rfl rfl (op1_pcall rfl en_9 rfl (.cons (Wk.refl _) (.cons (Wk.refl _) (.cons (Wk.refl _) (.cons (Wk.refl _) .nil)))) ⟨(ids_V (V.dict ([(([97] : Str), (V.int 1)), (([98] : Str), (V.int 1))] : (List (Str × V))))), ⟨(ids_V (V.dict ([(([97] : Str), (V.int 2)), (([98] : Str), (V.int 1))] : (List (Str × V))))), ⟨(ids_V (V.dict ([(([97] : Str), (V.int 3)), (([98] : Str), (V.int 1))] : (List (Str × V))))), ⟨rfl, trivial⟩⟩⟩⟩ (s_merge_Threenil (V.dict ([(([97] : Str), (V.int 1)), (([98] : Str), (V.int 1))] : (List (Str × V)))) (V.dict ([(([97] : Str), (V.int 2)), (([98] : Str), (V.int 1))] : (List (Str × V)))) (V.dict ([(([97] : Str), (V.int 3)), (([98] : Str), (V.int 1))] : (List (Str × V)))) x2 hx2) (ids_tup_cons (ids_V x2.1) (ids_tup_cons (ids_slM ids_S_api_Conflict x2.2.1) (ids_tup_cons rfl ids_tup_nil)))) ?_
 refine sM rfl rfl rfl rfl rfl ?_
 refine sS rfl rfl rfl (op1_ext rfl rfl rfl) ?_
 refine sS rfl rfl rfl (op1_ext rfl rfl rfl) ?_
 refine sS rfl rfl rfl (op1_ext rfl rfl rfl) ?_
 refine sA rfl rfl rfl rfl rfl ?_
 refine sA rfl rfl rfl rfl rfl ?_
 refine sA rfl rfl rfl rfl rfl (ao_nil ?_)
 change BW _ _ _ _ _
 refine bw_seq (bw_regionA ?_)
 refine sM rfl rfl rfl rfl rfl ?_
 refine sS rfl rfl rfl ((op1_cmp rfl rfl rfl rfl).cast (y := (BO ((x1.2.2 == 0)))) rfl rfl) ?_
 refine sM rfl rfl rfl rfl rfl ?_
 refine ao_cases (t := 53) rfl ?_ ?_
 ·intro hb3; replace h := ocond_t hb3 h
  refine ao_yes rfl rfl rfl rfl rfl rfl (op1_move rfl rfl) ?_
  refine ao_yes rfl rfl rfl rfl rfl rfl (op1_lenM Try.underlying32 rfl rfl) ?_
  refine ao_yes rfl rfl rfl rfl rfl rfl ((op1_cmp rfl rfl rfl rfl).cast (y := (BO (((((x1.2.1).length : Nat) : Int) == 0)))) rfl rfl) ?_
  refine sS rfl rfl rfl (op1_pickT rfl rfl rfl) ?_
  refine sM rfl rfl rfl rfl rfl ?_
  refine ao_cases (t := 58) rfl ?_ ?_
  ·intro hb4; replace h := ocond_t hb4 h
   refine ao_yes rfl rfl rfl rfl rfl rfl (op1_move rfl rfl) ?_
   refine ao_yes rfl rfl rfl rfl rfl rfl ((op1_mkI Try.underlying2 rfl rfl rfl).wk ((Wk.iface (Wk.refl _)).trans (Wk.eq (mk_int _).symm))) ?_
   refine ao_yes rfl rfl rfl rfl rfl rfl (op1_build (cs := [(ofStr ([97] : Str)), (ofV (V.int 2))]) st_55 inf_55 rfl rfl (by simp only [List.all_cons, List.all_nil, cok_V, cok_RecP, Bool.and_true, Bool.true_and]; try rfl) (by simp only [afill, List.getElem?_cons_zero, List.getElem?_cons_succ, cells_V, cells_RecP]; rfl)) ?_
   refine ao_yes rfl rfl rfl rfl rfl rfl ((op1_mkI Try.underlying2 rfl rfl rfl).wk ((Wk.iface (Wk.refl _)).trans (Wk.eq (mk_int _).symm))) ?_
   refine ao_yes rfl rfl rfl rfl rfl rfl (op1_build (cs := [(ofStr ([99] : Str)), (ofV (V.int 3))]) st_55 inf_55 rfl rfl (by simp only [List.all_cons, List.all_nil, cok_V, cok_RecP, Bool.and_true, Bool.true_and]; try rfl) (by simp only [afill, List.getElem?_cons_zero, List.getElem?_cons_succ, cells_V, cells_RecP]; rfl)) ?_
   refine ao_yes rfl rfl rfl rfl rfl rfl ((op1_bslice (xs := [(PV.agg [(ofStr ([97] : Str)), (ofV (V.int 2))]), (PV.agg [(ofStr ([99] : Str)), (ofV (V.int 3))])]) Try.underlying49 inf_55 rfl rfl rfl (by simp only [List.all_cons, List.all_nil, cok_V, cok_RecP, Bool.and_true, Bool.true_and]; try rfl) (by simp only [List.all_cons, List.all_nil, csz_V, csz_RecP, cells_V, cells_RecP]; try rfl) rfl ⟨Nat.le_of_ble_eq_true rfl, Nat.le_of_ble_eq_true rfl⟩ (by simp only [zipN, afill, List.flatMap_cons, List.flatMap_nil, cells_V, cells_RecP]; try rfl)).cast (y := (PV.sl (some 4) 55 2 (List.map ofFld ([(([97] : Str), (V.int 2)), (([99] : Str), (V.int 3))] : (List (Str × V)))))) rfl rfl) ?_
   refine ao_yes rfl rfl rfl rfl rfl rfl ((op1_mkI Try.underlying49 rfl rfl rfl).wk ((Wk.iface Wk.tok).trans (Wk.eq (mk_dict _).symm))) ?_
   obtain ⟨x5, hx5, h⟩ := obind h
   refine ao_yes rfl rfl rfl rfl rfl rfl (op1_pcall rfl en_10 rfl (.cons (Wk.refl _) (.cons (Wk.refl _) .nil)) ⟨(ids_V x1.1), ⟨(ids_V (V.dict ([(([97] : Str), (V.int 2)), (([99] : Str), (V.int 3))] : (List (Str × V))))), trivial⟩⟩ (s_value_Same x1.1 (V.dict ([(([97] : Str), (V.int 2)), (([99] : Str), (V.int 3))] : (List (Str × V)))) x5 hx5) rfl) ?_
   refine sS rfl rfl rfl (op1_pickT rfl rfl rfl) ?_
   refine sM rfl rfl rfl rfl rfl ?_
   refine ao_cases (t := 68) rfl ?_ ?_
   ·intro hb6; replace h := ocond_t hb6 h
    refine ao_yes rfl rfl rfl rfl rfl rfl (op1_move rfl rfl) ?_
    refine ao_yes rfl rfl rfl rfl rfl rfl ((op1_cmp rfl rfl rfl rfl).cast (y := (BO ((x2.2.2 == 0)))) rfl rfl) ?_
    refine sS rfl rfl rfl (op1_pickT rfl rfl rfl) ?_
    refine sM rfl rfl rfl rfl rfl ?_
    refine ao_cases (t := 72) rfl ?_ ?_
    ·intro hb7; replace h := ocond_t hb7 h
     refine ao_yes rfl rfl rfl rfl rfl rfl (op1_move rfl rfl) ?_
     refine ao_yes rfl rfl rfl rfl rfl rfl (op1_lenM Try.underlying32 rfl rfl) ?_
     refine ao_yes rfl rfl rfl rfl rfl rfl ((op1_cmp rfl rfl rfl rfl).cast (y := (BO (((((x2.2.1).length : Nat) : Int) == 1)))) rfl rfl) ?_
     refine sS rfl rfl rfl (op1_pickT rfl rfl rfl) ?_
     refine sM rfl rfl rfl rfl rfl ?_
     refine ao_cases (t := 77) rfl ?_ ?_
     ·intro hb8; replace h := ocond_t hb8 h
      refine ao_yes rfl rfl rfl rfl rfl rfl (op1_move rfl rfl) ?_
      obtain ⟨x9, hx9, h⟩ := obind h
      refine ao_yes rfl rfl rfl rfl rfl rfl (op1_idxN (i := 0) Try.underlying32 inf_44 rfl rfl rfl hx9 rfl) ?_
      refine ao_yes rfl rfl rfl rfl rfl rfl (op1_faP st_44 (i := 0) rfl rfl rfl) ?_
      refine ao_yes rfl rfl rfl rfl rfl rfl (op1_ldP (y := (PV.sl none 57 3 (List.map of_api_Step x9.f_Way))) Try.underlying42 rfl rfl rfl rfl) ?_
      refine ao_yes rfl rfl rfl rfl rfl rfl (op1_lenM Try.underlying42 rfl rfl) ?_
      refine ao_yes rfl rfl rfl rfl rfl rfl ((op1_cmp rfl rfl rfl rfl).cast (y := (BO (((((x9.f_Way).length : Nat) : Int) == 1)))) rfl rfl) ?_
      refine sS rfl rfl rfl (op1_pickT rfl rfl rfl) ?_
      refine sM rfl rfl rfl rfl rfl ?_
      refine ao_cases (t := 85) rfl ?_ ?_
      ·intro hb10; replace h := ocond_t hb10 h
       refine ao_yes rfl rfl rfl rfl rfl rfl (op1_move rfl rfl) ?_
       obtain ⟨x11, hx11, h⟩ := obind h
       refine ao_yes rfl rfl rfl rfl rfl rfl (op1_idxN (i := 0) Try.underlying32 inf_44 rfl rfl rfl hx11 rfl) ?_
       refine ao_yes rfl rfl rfl rfl rfl rfl (op1_faP st_44 (i := 0) rfl rfl rfl) ?_
       refine ao_yes rfl rfl rfl rfl rfl rfl (op1_ldP (y := (PV.sl none 57 3 (List.map of_api_Step x11.f_Way))) Try.underlying42 rfl rfl rfl rfl) ?_
       obtain ⟨x12, hx12, h⟩ := obind h
       refine ao_yes rfl rfl rfl rfl rfl rfl (op1_idxN (i := 0) Try.underlying42 inf_57 rfl rfl rfl hx12 rfl) ?_
       refine ao_yes rfl rfl rfl rfl rfl rfl (op1_faP st_57 (i := 0) rfl rfl rfl) ?_
       refine ao_yes rfl rfl rfl rfl rfl rfl (op1_ldP (y := (ofStr x12.f_Name)) Try.underlying9 rfl rfl rfl rfl) ?_
       refine ao_yes rfl rfl rfl rfl rfl rfl ((op1_cmpT (a := x12.f_Name) (b := ([97] : Str)) rfl rfl rfl rfl).cast (y := (BO ((x12.f_Name == ([97] : Str))))) rfl rfl) ?_
       refine sS rfl rfl rfl (op1_pickT rfl rfl rfl) ?_
       refine sA rfl rfl rfl rfl rfl (ao_nil ?_)
       change BW _ _ _ _ _
       refine bw_ret ?_
       change ∃ xs, _ = some xs ∧ EndOk _ _ _ _
       obtain rfl := Option.some.inj h
       exact ⟨_, rfl, endOk0 (y := (BO ((x12.f_Name == ([97] : Str))))) (Wk.refl _) rfl ⟨rfl, rfl⟩⟩
      ·intro hb10; replace h := ocond_f hb10 h
       refine ao_no rfl rfl rfl rfl rfl rfl ?_
       refine ao_no rfl rfl rfl rfl rfl rfl ?_
       refine ao_no rfl rfl rfl rfl rfl rfl ?_
       refine ao_no rfl rfl rfl rfl rfl rfl ?_
       refine ao_no rfl rfl rfl rfl rfl rfl ?_
       refine ao_no rfl rfl rfl rfl rfl rfl ?_
       refine ao_no rfl rfl rfl rfl rfl rfl ?_
       refine ao_no rfl rfl rfl rfl rfl rfl ?_
       refine sS rfl rfl rfl (op1_pickF rfl rfl rfl) ?_
       refine sA rfl rfl rfl rfl rfl (ao_nil ?_)
       change BW _ _ _ _ _
       refine bw_ret ?_
       change ∃ xs, _ = some xs ∧ EndOk _ _ _ _
       obtain rfl := Option.some.inj h
       exact ⟨_, rfl, endOk0 (y := (BO false)) (Wk.refl _) rfl ⟨rfl, rfl⟩⟩
     ·intro hb8; replace h := ocond_f hb8 h
      refine ao_no rfl rfl rfl rfl rfl rfl ?_
      refine ao_no rfl rfl rfl rfl rfl rfl ?_
      refine ao_no rfl rfl rfl rfl rfl rfl ?_
      refine ao_no rfl rfl rfl rfl rfl rfl ?_
      refine ao_no rfl rfl rfl rfl rfl rfl ?_
      refine ao_no rfl rfl rfl rfl rfl rfl ?_
      refine sS rfl rfl rfl (op1_pickF rfl rfl rfl) ?_
      refine sM rfl rfl rfl rfl rfl ?_
      refine ao_no rfl rfl rfl rfl rfl rfl ?_
      refine ao_no rfl rfl rfl rfl rfl rfl ?_
      refine ao_no rfl rfl rfl rfl rfl rfl ?_
      refine ao_no rfl rfl rfl rfl rfl rfl ?_
      refine ao_no rfl rfl rfl rfl rfl rfl ?_
      refine ao_no rfl rfl rfl rfl rfl rfl ?_
      refine ao_no rfl rfl rfl rfl rfl rfl ?_
      refine ao_no rfl rfl rfl rfl rfl rfl ?_
      refine sS rfl rfl rfl (op1_pickF rfl rfl rfl) ?_
      refine sA rfl rfl rfl rfl rfl (ao_nil ?_)
      change BW _ _ _ _ _
      refine bw_ret ?_
      change ∃ xs, _ = some xs ∧ EndOk _ _ _ _
      obtain rfl := Option.some.inj h
      exact ⟨_, rfl, endOk0 (y := (BO false)) (Wk.refl _) rfl ⟨rfl, rfl⟩⟩
    ·intro hb7; replace h := ocond_f hb7 h
     refine ao_no rfl rfl rfl rfl rfl rfl ?_
     refine ao_no rfl rfl rfl rfl rfl rfl ?_
     refine ao_no rfl rfl rfl rfl rfl rfl ?_
     refine sS rfl rfl rfl (op1_pickF rfl rfl rfl) ?_
     refine sM rfl rfl rfl rfl rfl ?_
     refine ao_no rfl rfl rfl rfl rfl rfl ?_
     refine ao_no rfl rfl rfl rfl rfl rfl ?_
     refine ao_no rfl rfl rfl rfl rfl rfl ?_
     refine ao_no rfl rfl rfl rfl rfl rfl ?_
     refine ao_no rfl rfl rfl rfl rfl rfl ?_
     refine ao_no rfl rfl rfl rfl rfl rfl ?_
     refine sS rfl rfl rfl (op1_pickF rfl rfl rfl) ?_
     refine sM rfl rfl rfl rfl rfl ?_
     refine ao_no rfl rfl rfl rfl rfl rfl ?_
     refine ao_no rfl rfl rfl rfl rfl rfl ?_
     refine ao_no rfl rfl rfl rfl rfl rfl ?_
     refine ao_no rfl rfl rfl rfl rfl rfl ?_
     refine ao_no rfl rfl rfl rfl rfl rfl ?_
     refine ao_no rfl rfl rfl rfl rfl rfl ?_
     refine ao_no rfl rfl rfl rfl rfl rfl ?_
     refine ao_no rfl rfl rfl rfl rfl rfl ?_
     refine sS rfl rfl rfl (op1_pickF rfl rfl rfl) ?_
     refine sA rfl rfl rfl rfl rfl (ao_nil ?_)
     change BW _ _ _ _ _
     refine bw_ret ?_
     change ∃ xs, _ = some xs ∧ EndOk _ _ _ _
     obtain rfl := Option.some.inj h
     exact ⟨_, rfl, endOk0 (y := (BO false)) (Wk.refl _) rfl ⟨rfl, rfl⟩⟩
   ·intro hb6; replace h := ocond_f hb6 h
    refine ao_no rfl rfl rfl rfl rfl rfl ?_
    refine ao_no rfl rfl rfl rfl rfl rfl ?_
    refine sS rfl rfl rfl (op1_pickF rfl rfl rfl) ?_
    refine sM rfl rfl rfl rfl rfl ?_
    refine ao_no rfl rfl rfl rfl rfl rfl ?_
    refine ao_no rfl rfl rfl rfl rfl rfl ?_
    refine ao_no rfl rfl rfl rfl rfl rfl ?_
    refine sS rfl rfl rfl (op1_pickF rfl rfl rfl) ?_
    refine sM rfl rfl rfl rfl rfl ?_
    refine ao_no rfl rfl rfl rfl rfl rfl ?_
    refine ao_no rfl rfl rfl rfl rfl rfl ?_
    refine ao_no rfl rfl rfl rfl rfl rfl ?_
    refine ao_no rfl rfl rfl rfl rfl rfl ?_
    refine ao_no rfl rfl rfl rfl rfl rfl ?_
    refine ao_no rfl rfl rfl rfl rfl rfl ?_
    refine sS rfl rfl rfl (op1_pickF rfl rfl rfl) ?_
    refine sM rfl rfl rfl rfl rfl ?_
    refine ao_no rfl rfl rfl rfl rfl rfl ?_
    refine ao_no rfl rfl rfl rfl rfl rfl ?_
    refine ao_no rfl rfl rfl rfl rfl rfl ?_
    refine ao_no rfl rfl rfl rfl rfl rfl ?_
    refine ao_no rfl rfl rfl rfl rfl rfl ?_
    refine ao_no rfl rfl rfl rfl rfl rfl ?_
    refine ao_no rfl rfl rfl rfl rfl rfl ?_
    refine ao_no rfl rfl rfl rfl rfl rfl ?_
    refine sS rfl rfl rfl (op1_pickF rfl rfl rfl) ?_
    refine sA rfl rfl rfl rfl rfl (ao_nil ?_)
    change BW _ _ _ _ _
    refine bw_ret ?_
    change ∃ xs, _ = some xs ∧ EndOk _ _ _ _
    obtain rfl := Option.some.inj h
    exact ⟨_, rfl, endOk0 (y := (BO false)) (Wk.refl _) rfl ⟨rfl, rfl⟩⟩
  ·intro hb4; replace h := ocond_f hb4 h
   refine ao_no rfl rfl rfl rfl rfl rfl ?_
   refine ao_no rfl rfl rfl rfl rfl rfl ?_
   refine ao_no rfl rfl rfl rfl rfl rfl ?_
   refine ao_no rfl rfl rfl rfl rfl rfl ?_
   refine ao_no rfl rfl rfl rfl rfl rfl ?_
   refine ao_no rfl rfl rfl rfl rfl rfl ?_
   refine ao_no rfl rfl rfl rfl rfl rfl ?_
   refine ao_no rfl rfl rfl rfl rfl rfl ?_
   refine sS rfl rfl rfl (op1_pickF rfl rfl rfl) ?_
   refine sM rfl rfl rfl rfl rfl ?_
   refine ao_no rfl rfl rfl rfl rfl rfl ?_
   refine ao_no rfl rfl rfl rfl rfl rfl ?_
   refine sS rfl rfl rfl (op1_pickF rfl rfl rfl) ?_
   refine sM rfl rfl rfl rfl rfl ?_
   refine ao_no rfl rfl rfl rfl rfl rfl ?_
   refine ao_no rfl rfl rfl rfl rfl rfl ?_
   refine ao_no rfl rfl rfl rfl rfl rfl ?_
   refine sS rfl rfl rfl (op1_pickF rfl rfl rfl) ?_
   refine sM rfl rfl rfl rfl rfl ?_
   refine ao_no rfl rfl rfl rfl rfl rfl ?_
   refine ao_no rfl rfl rfl rfl rfl rfl ?_
   refine ao_no rfl rfl rfl rfl rfl rfl ?_
   refine ao_no rfl rfl rfl rfl rfl rfl ?_
   refine ao_no rfl rfl rfl rfl rfl rfl ?_
   refine ao_no rfl rfl rfl rfl rfl rfl ?_
   refine sS rfl rfl rfl (op1_pickF rfl rfl rfl) ?_
   refine sM rfl rfl rfl rfl rfl ?_
   refine ao_no rfl rfl rfl rfl rfl rfl ?_
   refine ao_no rfl rfl rfl rfl rfl rfl ?_
   refine ao_no rfl rfl rfl rfl rfl rfl ?_
   refine ao_no rfl rfl rfl rfl rfl rfl ?_
   refine ao_no rfl rfl rfl rfl rfl rfl ?_
   refine ao_no rfl rfl rfl rfl rfl rfl ?_
   refine ao_no rfl rfl rfl rfl rfl rfl ?_
   refine ao_no rfl rfl rfl rfl rfl rfl ?_
   refine sS rfl rfl rfl (op1_pickF rfl rfl rfl) ?_
   refine sA rfl rfl rfl rfl rfl (ao_nil ?_)
   change BW _ _ _ _ _
   refine bw_ret ?_
   change ∃ xs, _ = some xs ∧ EndOk _ _ _ _
   obtain rfl := Option.some.inj h
   exact ⟨_, rfl, endOk0 (y := (BO false)) (Wk.refl _) rfl ⟨rfl, rfl⟩⟩
 ·intro hb3; replace h := ocond_f hb3 h
  refine ao_no rfl rfl rfl rfl rfl rfl ?_
  refine ao_no rfl rfl rfl rfl rfl rfl ?_
  refine ao_no rfl rfl rfl rfl rfl rfl ?_
  refine sS rfl rfl rfl (op1_pickF rfl rfl rfl) ?_
  refine sM rfl rfl rfl rfl rfl ?_
  refine ao_no rfl rfl rfl rfl rfl rfl ?_
  refine ao_no rfl rfl rfl rfl rfl rfl ?_
  refine ao_no rfl rfl rfl rfl rfl rfl ?_
  refine ao_no rfl rfl rfl rfl rfl rfl ?_
  refine ao_no rfl rfl rfl rfl rfl rfl ?_
  refine ao_no rfl rfl rfl rfl rfl rfl ?_
  refine ao_no rfl rfl rfl rfl rfl rfl ?_
  refine ao_no rfl rfl rfl rfl rfl rfl ?_
  refine sS rfl rfl rfl (op1_pickF rfl rfl rfl) ?_
  refine sM rfl rfl rfl rfl rfl ?_
  refine ao_no rfl rfl rfl rfl rfl rfl ?_
  refine ao_no rfl rfl rfl rfl rfl rfl ?_
  refine sS rfl rfl rfl (op1_pickF rfl rfl rfl) ?_
  refine sM rfl rfl rfl rfl rfl ?_
  refine ao_no rfl rfl rfl rfl rfl rfl ?_
  refine ao_no rfl rfl rfl rfl rfl rfl ?_
  refine ao_no rfl rfl rfl rfl rfl rfl ?_
  refine sS rfl rfl rfl (op1_pickF rfl rfl rfl) ?_
  refine sM rfl rfl rfl rfl rfl ?_
  refine ao_no rfl rfl rfl rfl rfl rfl ?_
  refine ao_no rfl rfl rfl rfl rfl rfl ?_
  refine ao_no rfl rfl rfl rfl rfl rfl ?_
  refine ao_no rfl rfl rfl rfl rfl rfl ?_
  refine ao_no rfl rfl rfl rfl rfl rfl ?_
  refine ao_no rfl rfl rfl rfl rfl rfl ?_
  refine sS rfl rfl rfl (op1_pickF rfl rfl rfl) ?_
  refine sM rfl rfl rfl rfl rfl ?_
  refine ao_no rfl rfl rfl rfl rfl rfl ?_
  refine ao_no rfl rfl rfl rfl rfl rfl ?_
  refine ao_no rfl rfl rfl rfl rfl rfl ?_
  refine ao_no rfl rfl rfl rfl rfl rfl ?_
  refine ao_no rfl rfl rfl rfl rfl rfl ?_
  refine ao_no rfl rfl rfl rfl rfl rfl ?_
  refine ao_no rfl rfl rfl rfl rfl rfl ?_
  refine ao_no rfl rfl rfl rfl rfl rfl ?_
  refine sS rfl rfl rfl (op1_pickF rfl rfl rfl) ?_
  refine sA rfl rfl rfl rfl rfl (ao_nil ?_)
  change BW _ _ _ _ _
  refine bw_ret ?_
  change ∃ xs, _ = some xs ∧ EndOk _ _ _ _
  obtain rfl := Option.some.inj h
  exact ⟨_, rfl, endOk0 (y := (BO false)) (Wk.refl _) rfl ⟨rfl, rfl⟩⟩
noncomputable def p_mk_Alien (a0 : Int) : Option V :=
 bif ((Int.tmod a0 14) == 0) then (
  some (V.alien ⟨3, rfl⟩)
 ) else (
  bif ((Int.tmod a0 14) == 1) then (
   some (V.alien ⟨5, rfl⟩)
  ) else (
   bif ((Int.tmod a0 14) == 2) then (
    some (V.alien ⟨72, rfl⟩)
   ) else (
    bif ((Int.tmod a0 14) == 3) then (
     some (V.alien ⟨1, rfl⟩)
    ) else (
     bif ((Int.tmod a0 14) == 4) then (
      some (V.alien ⟨75, rfl⟩)
     ) else (
      bif ((Int.tmod a0 14) == 5) then (
       some (V.alien ⟨46, rfl⟩)
      ) else (
       bif ((Int.tmod a0 14) == 6) then (
        some (V.alien ⟨76, rfl⟩)
       ) else (
        bif ((Int.tmod a0 14) == 7) then (
         some (V.alien ⟨77, rfl⟩)
        ) else (
         bif ((Int.tmod a0 14) == 8) then (
          some (V.alien ⟨60, rfl⟩)
         ) else (
          bif ((Int.tmod a0 14) == 9) then (
           some (V.alien ⟨48, rfl⟩)
          ) else (
           bif ((Int.tmod a0 14) == 10) then (
            some (V.alien ⟨78, rfl⟩)
           ) else (
            bif ((Int.tmod a0 14) == 11) then (
             some (V.alien ⟨33, rfl⟩)
            ) else (
             bif ((Int.tmod a0 14) == 12) then (
              some (V.alien ⟨79, rfl⟩)
             ) else (
              some (V.alien ⟨80, rfl⟩)
             )
            )
           )
          )
         )
        )
       )
      )
     )
    )
   )
  )
 )
theorem s_mk_Alien (a0 : Int) (r : V) (h : p_mk_Alien a0 = some r) : PCalls Try.prog 17 [(I64 a0)] (ofV r) := by
 unfold p_mk_Alien at h
 refine acalls_of Try.func17 rfl Try.ntmps17 Try.results17 rfl (aw_of_bw ?_)
 change BW _ _ _ ⟨[(0, (I64 a0))], [], _⟩ _
 refine bR ?_
 refine sA rfl rfl rfl rfl rfl (ao_nil ?_)
 change BW _ _ _ _ _
 refine bw_seq ?_
 refine bR ?_
 refine sM rfl rfl rfl rfl rfl ?_
 refine sS rfl rfl rfl (op1_rem rfl rfl rfl (by decide)) (ao_nil ?_)
 change BW _ _ _ _ _
 refine bw_block ?_
 change BW _ _ _ _ _
 refine bR ?_
 refine sS rfl rfl rfl ((op1_cmp rfl rfl rfl rfl).cast (y := (BO (((Int.tmod a0 14) == 0)))) rfl rfl) ?_
 refine sA rfl rfl rfl rfl rfl (ao_nil ?_)
 change BW _ _ _ _ _
 refine bw_cond rfl ?_ ?_
 ·intro hc1; replace h := ocond_t hc1 h
  refine bR ?_
  refine sS rfl rfl rfl ((op1_mkI Try.underlying3 rfl rfl rfl).wk ((Wk.iface Wk.junk).trans (Wk.eq (mk_alien ⟨3, rfl⟩).symm))) ?_
  refine sA rfl rfl rfl rfl rfl (ao_nil ?_)
  change BW _ _ _ _ _
  refine bw_ret ?_
  change ∃ xs, _ = some xs ∧ EndOk _ _ _ _
  obtain rfl := Option.some.inj h
  exact ⟨_, rfl, endOk0 (y := (ofV (V.alien ⟨3, rfl⟩))) (Wk.refl _) (ids_V (V.alien ⟨3, rfl⟩)) ⟨rfl, rfl⟩⟩
 ·intro hc1; replace h := ocond_f hc1 h
  refine bR ?_
  refine sS rfl rfl rfl ((op1_cmp rfl rfl rfl rfl).cast (y := (BO (((Int.tmod a0 14) == 1)))) rfl rfl) ?_
  refine sA rfl rfl rfl rfl rfl (ao_nil ?_)
  change BW _ _ _ _ _
  refine bw_cond rfl ?_ ?_
  ·intro hc2; replace h := ocond_t hc2 h
   refine bR ?_
   refine sS rfl rfl rfl ((op1_mkI Try.underlying5 rfl rfl rfl).wk ((Wk.iface Wk.junk).trans (Wk.eq (mk_alien ⟨5, rfl⟩).symm))) ?_
   refine sA rfl rfl rfl rfl rfl (ao_nil ?_)
   change BW _ _ _ _ _
   refine bw_ret ?_
   change ∃ xs, _ = some xs ∧ EndOk _ _ _ _
   obtain rfl := Option.some.inj h
   exact ⟨_, rfl, endOk0 (y := (ofV (V.alien ⟨5, rfl⟩))) (Wk.refl _) (ids_V (V.alien ⟨5, rfl⟩)) ⟨rfl, rfl⟩⟩
  ·intro hc2; replace h := ocond_f hc2 h
   refine bR ?_
   refine sS rfl rfl rfl ((op1_cmp rfl rfl rfl rfl).cast (y := (BO (((Int.tmod a0 14) == 2)))) rfl rfl) ?_
   refine sA rfl rfl rfl rfl rfl (ao_nil ?_)
   change BW _ _ _ _ _
   refine bw_cond rfl ?_ ?_
   ·intro hc3; replace h := ocond_t hc3 h
    refine bR ?_
    refine ao_maplit rfl rfl rfl rfl rfl rfl rfl Try.underlying72 Try.underlying9 ?_
    refine sM rfl rfl rfl rfl rfl ?_
    refine sS rfl rfl rfl ((op1_mkI Try.underlying72 rfl rfl rfl).wk ((Wk.iface Wk.junk).trans (Wk.eq (mk_alien ⟨72, rfl⟩).symm))) ?_
    refine sA rfl rfl rfl rfl rfl (ao_nil ?_)
    change BW _ _ _ _ _
    refine bw_ret ?_
    change ∃ xs, _ = some xs ∧ EndOk _ _ _ _
    obtain rfl := Option.some.inj h
    exact ⟨_, rfl, endOk0 (y := (ofV (V.alien ⟨72, rfl⟩))) (Wk.refl _) (ids_V (V.alien ⟨72, rfl⟩)) ⟨rfl, rfl⟩⟩
   ·intro hc3; replace h := ocond_f hc3 h
    refine bR ?_
    refine sS rfl rfl rfl ((op1_cmp rfl rfl rfl rfl).cast (y := (BO (((Int.tmod a0 14) == 3)))) rfl rfl) ?_
    refine sA rfl rfl rfl rfl rfl (ao_nil ?_)
    change BW _ _ _ _ _
    refine bw_cond rfl ?_ ?_
    ·intro hc4; replace h := ocond_t hc4 h
     refine bR ?_
     refine sS rfl rfl rfl ((op1_mkI Try.underlying1 rfl rfl rfl).wk ((Wk.iface Wk.junk).trans (Wk.eq (mk_alien ⟨1, rfl⟩).symm))) ?_
     refine sA rfl rfl rfl rfl rfl (ao_nil ?_)
     change BW _ _ _ _ _
     refine bw_ret ?_
     change ∃ xs, _ = some xs ∧ EndOk _ _ _ _
     obtain rfl := Option.some.inj h
     exact ⟨_, rfl, endOk0 (y := (ofV (V.alien ⟨1, rfl⟩))) (Wk.refl _) (ids_V (V.alien ⟨1, rfl⟩)) ⟨rfl, rfl⟩⟩
    ·intro hc4; replace h := ocond_f hc4 h
     refine bR ?_
     refine sS rfl rfl rfl ((op1_cmp rfl rfl rfl rfl).cast (y := (BO (((Int.tmod a0 14) == 4)))) rfl rfl) ?_
     refine sA rfl rfl rfl rfl rfl (ao_nil ?_)
     change BW _ _ _ _ _
     refine bw_cond rfl ?_ ?_
     ·intro hc5; replace h := ocond_t hc5 h
      refine bR ?_
      refine sS rfl rfl rfl ((op1_bslice (xs := [(I64 1)]) Try.underlying73 inf_3 rfl rfl rfl rfl rfl rfl ⟨Nat.le_of_ble_eq_true rfl, Nat.le_of_ble_eq_true rfl⟩ rfl).cast (y := (PV.sl (some 0) 3 1 (List.map (ofI .i64) ([1] : (List Int))))) rfl rfl) ?_
      refine sS rfl rfl rfl (op1_build (cs := [(PV.sl (some 0) 3 1 (List.map (ofI .i64) ([1] : (List Int))))]) st_75 inf_75 rfl rfl rfl rfl) ?_
      refine sS rfl rfl rfl ((op1_mkI Try.underlying75 rfl rfl rfl).wk ((Wk.iface Wk.junk).trans (Wk.eq (mk_alien ⟨75, rfl⟩).symm))) ?_
      refine sA rfl rfl rfl rfl rfl (ao_nil ?_)
      change BW _ _ _ _ _
      refine bw_ret ?_
      change ∃ xs, _ = some xs ∧ EndOk _ _ _ _
      obtain rfl := Option.some.inj h
      exact ⟨_, rfl, endOk0 (y := (ofV (V.alien ⟨75, rfl⟩))) (Wk.refl _) (ids_V (V.alien ⟨75, rfl⟩)) ⟨rfl, rfl⟩⟩
     ·intro hc5; replace h := ocond_f hc5 h
      refine bR ?_
      refine sS rfl rfl rfl ((op1_cmp rfl rfl rfl rfl).cast (y := (BO (((Int.tmod a0 14) == 5)))) rfl rfl) ?_
      refine sA rfl rfl rfl rfl rfl (ao_nil ?_)
      change BW _ _ _ _ _
      refine bw_cond rfl ?_ ?_
      ·intro hc6; replace h := ocond_t hc6 h
       refine bR ?_
       refine sS rfl rfl rfl ((op1_mkI Try.underlying4 rfl rfl rfl).wk ((Wk.iface (Wk.refl _)).trans (Wk.eq (mk_bool _).symm))) ?_
       refine sS rfl rfl rfl ((op1_bslice (xs := [(ofV (V.bool true))]) Try.underlying46 inf_20 rfl rfl rfl (by simp only [List.all_cons, List.all_nil, cok_V, cok_RecP, Bool.and_true, Bool.true_and]; try rfl) (by simp only [List.all_cons, List.all_nil, csz_V, csz_RecP, cells_V, cells_RecP]; try rfl) rfl ⟨Nat.le_of_ble_eq_true rfl, Nat.le_of_ble_eq_true rfl⟩ (by simp only [zipN, afill, List.flatMap_cons, List.flatMap_nil, cells_V, cells_RecP]; try rfl)).cast (y := (PV.sl (some 0) 20 1 (List.map ofV ([(V.bool true)] : (List V))))) rfl rfl) ?_
       refine sS rfl rfl rfl ((op1_mkI Try.underlying46 rfl rfl rfl).wk ((Wk.iface Wk.junk).trans (Wk.eq (mk_alien ⟨46, rfl⟩).symm))) ?_
       refine sA rfl rfl rfl rfl rfl (ao_nil ?_)
       change BW _ _ _ _ _
       refine bw_ret ?_
       change ∃ xs, _ = some xs ∧ EndOk _ _ _ _
       obtain rfl := Option.some.inj h
       exact ⟨_, rfl, endOk0 (y := (ofV (V.alien ⟨46, rfl⟩))) (Wk.refl _) (ids_V (V.alien ⟨46, rfl⟩)) ⟨rfl, rfl⟩⟩
      ·intro hc6; replace h := ocond_f hc6 h
       refine bR ?_
       refine sS rfl rfl rfl ((op1_cmp rfl rfl rfl rfl).cast (y := (BO (((Int.tmod a0 14) == 6)))) rfl rfl) ?_
       refine sA rfl rfl rfl rfl rfl (ao_nil ?_)
       change BW _ _ _ _ _
       refine bw_cond rfl ?_ ?_
       ·intro hc7; replace h := ocond_t hc7 h
        refine bR ?_
        refine sS rfl rfl rfl ((op1_mkI Try.underlying76 rfl rfl rfl).wk ((Wk.iface Wk.junk).trans (Wk.eq (mk_alien ⟨76, rfl⟩).symm))) ?_
        refine sA rfl rfl rfl rfl rfl (ao_nil ?_)
        change BW _ _ _ _ _
        refine bw_ret ?_
        change ∃ xs, _ = some xs ∧ EndOk _ _ _ _
        obtain rfl := Option.some.inj h
        exact ⟨_, rfl, endOk0 (y := (ofV (V.alien ⟨76, rfl⟩))) (Wk.refl _) (ids_V (V.alien ⟨76, rfl⟩)) ⟨rfl, rfl⟩⟩
       ·intro hc7; replace h := ocond_f hc7 h
        refine bR ?_
        refine sS rfl rfl rfl ((op1_cmp rfl rfl rfl rfl).cast (y := (BO (((Int.tmod a0 14) == 7)))) rfl rfl) ?_
        refine sA rfl rfl rfl rfl rfl (ao_nil ?_)
        change BW _ _ _ _ _
        refine bw_cond rfl ?_ ?_
        ·intro hc8; replace h := ocond_t hc8 h
         refine bR ?_
         refine sS rfl rfl rfl ((op1_mkI Try.underlying77 rfl rfl rfl).wk ((Wk.iface Wk.junk).trans (Wk.eq (mk_alien ⟨77, rfl⟩).symm))) ?_
         refine sA rfl rfl rfl rfl rfl (ao_nil ?_)
         change BW _ _ _ _ _
         refine bw_ret ?_
         change ∃ xs, _ = some xs ∧ EndOk _ _ _ _
         obtain rfl := Option.some.inj h
         exact ⟨_, rfl, endOk0 (y := (ofV (V.alien ⟨77, rfl⟩))) (Wk.refl _) (ids_V (V.alien ⟨77, rfl⟩)) ⟨rfl, rfl⟩⟩
        ·intro hc8; replace h := ocond_f hc8 h
         refine bR ?_
         refine sS rfl rfl rfl ((op1_cmp rfl rfl rfl rfl).cast (y := (BO (((Int.tmod a0 14) == 8)))) rfl rfl) ?_
         refine sA rfl rfl rfl rfl rfl (ao_nil ?_)
         change BW _ _ _ _ _
         refine bw_cond rfl ?_ ?_
         ·intro hc9; replace h := ocond_t hc9 h
          refine bR ?_
          refine sS rfl rfl rfl (op1_build (cs := [(ofStr ([97] : Str)), (I64 1), (PV.v (.slice none 0 0))]) st_60 inf_60 rfl rfl rfl rfl) ?_
          refine sS rfl rfl rfl ((op1_mkI Try.underlying60 rfl rfl rfl).wk ((Wk.iface Wk.junk).trans (Wk.eq (mk_alien ⟨60, rfl⟩).symm))) ?_
          refine sA rfl rfl rfl rfl rfl (ao_nil ?_)
          change BW _ _ _ _ _
          refine bw_ret ?_
          change ∃ xs, _ = some xs ∧ EndOk _ _ _ _
          obtain rfl := Option.some.inj h
          exact ⟨_, rfl, endOk0 (y := (ofV (V.alien ⟨60, rfl⟩))) (Wk.refl _) (ids_V (V.alien ⟨60, rfl⟩)) ⟨rfl, rfl⟩⟩
         ·intro hc9; replace h := ocond_f hc9 h
          refine bR ?_
          refine sS rfl rfl rfl ((op1_cmp rfl rfl rfl rfl).cast (y := (BO (((Int.tmod a0 14) == 9)))) rfl rfl) ?_
          refine sA rfl rfl rfl rfl rfl (ao_nil ?_)
          change BW _ _ _ _ _
          refine bw_cond rfl ?_ ?_
          ·intro hc10; replace h := ocond_t hc10 h
           refine bR ?_
           refine sS rfl rfl rfl ((op1_bslice (xs := []) Try.underlying48 inf_55 rfl rfl rfl rfl rfl rfl ⟨Nat.le_of_ble_eq_true rfl, Nat.le_of_ble_eq_true rfl⟩ rfl).cast (y := (PV.sl (some 0) 55 2 (List.map ofFld ([] : (List (Str × V)))))) rfl rfl) ?_
           refine sS rfl rfl rfl ((op1_mkI Try.underlying48 rfl rfl rfl).wk ((Wk.iface Wk.junk).trans (Wk.eq (mk_alien ⟨48, rfl⟩).symm))) ?_
           refine sA rfl rfl rfl rfl rfl (ao_nil ?_)
           change BW _ _ _ _ _
           refine bw_ret ?_
           change ∃ xs, _ = some xs ∧ EndOk _ _ _ _
           obtain rfl := Option.some.inj h
           exact ⟨_, rfl, endOk0 (y := (ofV (V.alien ⟨48, rfl⟩))) (Wk.refl _) (ids_V (V.alien ⟨48, rfl⟩)) ⟨rfl, rfl⟩⟩
          ·intro hc10; replace h := ocond_f hc10 h
           refine bR ?_
           refine sS rfl rfl rfl ((op1_cmp rfl rfl rfl rfl).cast (y := (BO (((Int.tmod a0 14) == 10)))) rfl rfl) ?_
           refine sA rfl rfl rfl rfl rfl (ao_nil ?_)
           change BW _ _ _ _ _
           refine bw_cond rfl ?_ ?_
           ·intro hc11; replace h := ocond_t hc11 h
            refine bR ?_
            refine sA rfl rfl rfl rfl rfl (ao_nil ?_)
            change BW _ _ _ _ _
            refine bR ?_
            refine sM rfl rfl rfl rfl rfl ?_
            refine sS rfl rfl rfl ((op1_mkI Try.underlying78 rfl rfl rfl).wk ((Wk.iface Wk.junk).trans (Wk.eq (mk_alien ⟨78, rfl⟩).symm))) ?_
            refine sA rfl rfl rfl rfl rfl (ao_nil ?_)
            change BW _ _ _ _ _
            refine bw_ret ?_
            change ∃ xs, _ = some xs ∧ EndOk _ _ _ _
            obtain rfl := Option.some.inj h
            exact ⟨_, rfl, endOk0 (y := (ofV (V.alien ⟨78, rfl⟩))) (Wk.refl _) (ids_V (V.alien ⟨78, rfl⟩)) ⟨rfl, rfl⟩⟩
           ·intro hc11; replace h := ocond_f hc11 h
            refine bR ?_
            refine sS rfl rfl rfl ((op1_cmp rfl rfl rfl rfl).cast (y := (BO (((Int.tmod a0 14) == 11)))) rfl rfl) ?_
            refine sA rfl rfl rfl rfl rfl (ao_nil ?_)
            change BW _ _ _ _ _
            refine bw_cond rfl ?_ ?_
            ·intro hc12; replace h := ocond_t hc12 h
             refine bR ?_
             refine sS rfl rfl rfl ((op1_mkI Try.underlying33 rfl rfl rfl).wk ((Wk.iface Wk.junk).trans (Wk.eq (mk_alien ⟨33, rfl⟩).symm))) ?_
             refine sA rfl rfl rfl rfl rfl (ao_nil ?_)
             change BW _ _ _ _ _
             refine bw_ret ?_
             change ∃ xs, _ = some xs ∧ EndOk _ _ _ _
             obtain rfl := Option.some.inj h
             exact ⟨_, rfl, endOk0 (y := (ofV (V.alien ⟨33, rfl⟩))) (Wk.refl _) (ids_V (V.alien ⟨33, rfl⟩)) ⟨rfl, rfl⟩⟩
            ·intro hc12; replace h := ocond_f hc12 h
             refine bR ?_
             refine sS rfl rfl rfl ((op1_cmp rfl rfl rfl rfl).cast (y := (BO (((Int.tmod a0 14) == 12)))) rfl rfl) ?_
             refine sA rfl rfl rfl rfl rfl (ao_nil ?_)
             change BW _ _ _ _ _
             refine bw_cond rfl ?_ ?_
             ·intro hc13; replace h := ocond_t hc13 h
              refine bR ?_
              refine sA rfl rfl rfl rfl rfl (ao_nil ?_)
              change BW _ _ _ _ _
              refine bR ?_
              refine sM rfl rfl rfl rfl rfl ?_
              refine sS rfl rfl rfl ((op1_mkI Try.underlying79 rfl rfl rfl).wk ((Wk.iface Wk.junk).trans (Wk.eq (mk_alien ⟨79, rfl⟩).symm))) ?_
              refine sA rfl rfl rfl rfl rfl (ao_nil ?_)
              change BW _ _ _ _ _
              refine bw_ret ?_
              change ∃ xs, _ = some xs ∧ EndOk _ _ _ _
              obtain rfl := Option.some.inj h
              exact ⟨_, rfl, endOk0 (y := (ofV (V.alien ⟨79, rfl⟩))) (Wk.refl _) (ids_V (V.alien ⟨79, rfl⟩)) ⟨rfl, rfl⟩⟩
             ·intro hc13; replace h := ocond_f hc13 h
              refine bw_skip ?_
              change BW _ _ _ _ _
              refine bR ?_
              refine sS rfl rfl rfl (Op1.junk (op1_buildArr (cs := [(I64 1), (I64 2)]) Try.underlying80 inf_80 inf_3 rfl rfl rfl rfl)) ?_
              refine sS rfl rfl rfl ((op1_mkI Try.underlying80 rfl rfl rfl).wk ((Wk.iface Wk.junk).trans (Wk.eq (mk_alien ⟨80, rfl⟩).symm))) ?_
              refine sA rfl rfl rfl rfl rfl (ao_nil ?_)
              change BW _ _ _ _ _
              refine bw_ret ?_
              change ∃ xs, _ = some xs ∧ EndOk _ _ _ _
              obtain rfl := Option.some.inj h
              exact ⟨_, rfl, endOk0 (y := (ofV (V.alien ⟨80, rfl⟩))) (Wk.refl _) (ids_V (V.alien ⟨80, rfl⟩)) ⟨rfl, rfl⟩⟩
noncomputable def mk_Dict_l1b (r_mk_Built : Term → Option V) (a0 : (List (Str × Term))) (g1 : (List (Str × V)) → Nat → Option (List (Str × V))) (s1 : (List (Str × V))) (s2 : Nat) : Option (List (Str × V)) :=
 bif (decide (((s2 : Nat) : Int) < (((a0).length : Nat) : Int))) then (
  Option.bind ((a0)[s2]?) fun x5 =>
  Option.bind ((a0)[s2]?) fun x6 =>
  Option.bind (r_mk_Built (x6.2)) fun x7 =>
  Option.bind (appO 32 s1 ([(x5.1, x7)] : (List (Str × V)))) fun x8 =>
  g1 x8 (s2 + 1)
 ) else (
  some s1
 )
theorem mk_Dict_l1b_cm {ι : Type} {ρ : ι → Type} (r_mk_Built : (∀ i, Option (ρ i)) → Term → Option V) (h_r_mk_Built : ∀ y0, CM (fun G => r_mk_Built G y0)) (g1 : (∀ i, Option (ρ i)) → (List (Str × V)) → Nat → Option (List (Str × V))) (h_g1 : ∀ y0 y1, CM (fun G => g1 G y0 y1)) (a0 : (List (Str × Term))) (s1 : (List (Str × V))) (s2 : Nat) : CM (fun G : (∀ i, Option (ρ i)) => mk_Dict_l1b (r_mk_Built G) a0 (g1 G) s1 s2) := by
 simp only [mk_Dict_l1b]
 repeat (first | exact cm_const | exact h_r_mk_Built _ | exact h_g1 _ _ | refine cm_cond ?_ ?_ | refine cm_bind ?_ (fun _ => ?_))
noncomputable def mk_Dict_l1 (r_mk_Built : Term → Option V) (a0 : (List (Str × Term))) (s1 : (List (Str × V))) (s2 : Nat) : Option (List (Str × V)) :=
 fixO (ι := ((List (Str × V)) × Nat)) (ρ := fun _ => (List (Str × V))) (fun g i => mk_Dict_l1b r_mk_Built a0 (fun s1 s2 => g (s1, s2)) i.1 i.2) (s1, s2)
theorem mk_Dict_l1_eq (r_mk_Built : Term → Option V) (a0 : (List (Str × Term))) (s1 : (List (Str × V))) (s2 : Nat) : mk_Dict_l1 r_mk_Built a0 s1 s2 = mk_Dict_l1b r_mk_Built a0 (mk_Dict_l1 r_mk_Built a0) s1 s2 :=
 fixO_eq (ι := ((List (Str × V)) × Nat)) (ρ := fun _ => (List (Str × V))) (Φ := fun g i => mk_Dict_l1b r_mk_Built a0 (fun s1 s2 => g (s1, s2)) i.1 i.2) (fun i => mk_Dict_l1b_cm (ι := ((List (Str × V)) × Nat)) (ρ := fun _ => (List (Str × V))) (fun _ => r_mk_Built) (fun _ => cm_const) (fun g => (fun s1 s2 => g (s1, s2))) (fun _ _ => cm_app) a0 i.1 i.2) (s1, s2)
theorem mk_Dict_l1_cm {ι : Type} {ρ : ι → Type} (r_mk_Built : (∀ i, Option (ρ i)) → Term → Option V) (h_r_mk_Built : ∀ y0, CM (fun G => r_mk_Built G y0)) (a0 : (List (Str × Term))) (s1 : (List (Str × V))) (s2 : Nat) : CM (fun G : (∀ i, Option (ρ i)) => mk_Dict_l1 (r_mk_Built G) a0 s1 s2) :=
 cm_fix (κ := ((List (Str × V)) × Nat)) (τ := fun _ => (List (Str × V))) (Φ := fun G g i => mk_Dict_l1b (r_mk_Built G) a0 (fun s1 s2 => g (s1, s2)) i.1 i.2) (fun g i => mk_Dict_l1b_cm r_mk_Built h_r_mk_Built (fun _ => (fun s1 s2 => g (s1, s2))) (fun _ _ => cm_const) a0 i.1 i.2) (fun G i => mk_Dict_l1b_cm (ι := ((List (Str × V)) × Nat)) (ρ := fun _ => (List (Str × V))) (fun _ => r_mk_Built G) (fun _ => cm_const) (fun g => (fun s1 s2 => g (s1, s2))) (fun _ _ => cm_app) a0 i.1 i.2) (s1, s2)
noncomputable def b_mk_Dict (r_mk_Dict : (List (Str × Term)) → Option (List (Str × V))) (r_mk_Built : Term → Option V) (a0 : (List (Str × Term))) : Option (List (Str × V)) :=
 mk_Dict_l1 r_mk_Built a0 ([] : (List (Str × V))) 0
theorem b_mk_Dict_cm {ι : Type} {ρ : ι → Type} (r_mk_Dict : (∀ i, Option (ρ i)) → (List (Str × Term)) → Option (List (Str × V))) (h_r_mk_Dict : ∀ y0, CM (fun G => r_mk_Dict G y0)) (r_mk_Built : (∀ i, Option (ρ i)) → Term → Option V) (h_r_mk_Built : ∀ y0, CM (fun G => r_mk_Built G y0)) (a0 : (List (Str × Term))) : CM (fun G : (∀ i, Option (ρ i)) => b_mk_Dict (r_mk_Dict G) (r_mk_Built G) a0) := by
 simp only [b_mk_Dict]
 repeat (first | exact cm_const | exact h_r_mk_Dict _ | exact h_r_mk_Built _ | apply mk_Dict_l1_cm | refine cm_cond ?_ ?_ | refine cm_bind ?_ (fun _ => ?_) | intro _ | assumption)
noncomputable def mk_Built_l1b (r_mk_Built : Term → Option V) (a0 : Term) (g1 : (List V) → Nat → Option V) (s10 : (List V)) (s11 : Nat) : Option V :=
 bif (decide (((s11 : Nat) : Int) < (((a0.list).length : Nat) : Int))) then (
  Option.bind ((a0.list)[s11]?) fun x14 =>
  Option.bind (r_mk_Built x14) fun x15 =>
  Option.bind (appO 16 s10 ([x15] : (List V))) fun x16 =>
  g1 x16 (s11 + 1)
 ) else (
  some (V.list s10)
 )
theorem mk_Built_l1b_cm {ι : Type} {ρ : ι → Type} (r_mk_Built : (∀ i, Option (ρ i)) → Term → Option V) (h_r_mk_Built : ∀ y0, CM (fun G => r_mk_Built G y0)) (g1 : (∀ i, Option (ρ i)) → (List V) → Nat → Option V) (h_g1 : ∀ y0 y1, CM (fun G => g1 G y0 y1)) (a0 : Term) (s10 : (List V)) (s11 : Nat) : CM (fun G : (∀ i, Option (ρ i)) => mk_Built_l1b (r_mk_Built G) a0 (g1 G) s10 s11) := by
 simp only [mk_Built_l1b]
 repeat (first | exact cm_const | exact h_r_mk_Built _ | exact h_g1 _ _ | refine cm_cond ?_ ?_ | refine cm_bind ?_ (fun _ => ?_))
noncomputable def mk_Built_l1 (r_mk_Built : Term → Option V) (a0 : Term) (s10 : (List V)) (s11 : Nat) : Option V :=
 fixO (ι := ((List V) × Nat)) (ρ := fun _ => V) (fun g i => mk_Built_l1b r_mk_Built a0 (fun s10 s11 => g (s10, s11)) i.1 i.2) (s10, s11)
theorem mk_Built_l1_eq (r_mk_Built : Term → Option V) (a0 : Term) (s10 : (List V)) (s11 : Nat) : mk_Built_l1 r_mk_Built a0 s10 s11 = mk_Built_l1b r_mk_Built a0 (mk_Built_l1 r_mk_Built a0) s10 s11 :=
 fixO_eq (ι := ((List V) × Nat)) (ρ := fun _ => V) (Φ := fun g i => mk_Built_l1b r_mk_Built a0 (fun s10 s11 => g (s10, s11)) i.1 i.2) (fun i => mk_Built_l1b_cm (ι := ((List V) × Nat)) (ρ := fun _ => V) (fun _ => r_mk_Built) (fun _ => cm_const) (fun g => (fun s10 s11 => g (s10, s11))) (fun _ _ => cm_app) a0 i.1 i.2) (s10, s11)
theorem mk_Built_l1_cm {ι : Type} {ρ : ι → Type} (r_mk_Built : (∀ i, Option (ρ i)) → Term → Option V) (h_r_mk_Built : ∀ y0, CM (fun G => r_mk_Built G y0)) (a0 : Term) (s10 : (List V)) (s11 : Nat) : CM (fun G : (∀ i, Option (ρ i)) => mk_Built_l1 (r_mk_Built G) a0 s10 s11) :=
 cm_fix (κ := ((List V) × Nat)) (τ := fun _ => V) (Φ := fun G g i => mk_Built_l1b (r_mk_Built G) a0 (fun s10 s11 => g (s10, s11)) i.1 i.2) (fun g i => mk_Built_l1b_cm r_mk_Built h_r_mk_Built (fun _ => (fun s10 s11 => g (s10, s11))) (fun _ _ => cm_const) a0 i.1 i.2) (fun G i => mk_Built_l1b_cm (ι := ((List V) × Nat)) (ρ := fun _ => V) (fun _ => r_mk_Built G) (fun _ => cm_const) (fun g => (fun s10 s11 => g (s10, s11))) (fun _ _ => cm_app) a0 i.1 i.2) (s10, s11)
noncomputable def b_mk_Built (r_mk_Dict : (List (Str × Term)) → Option (List (Str × V))) (r_mk_Built : Term → Option V) (a0 : Term) : Option V :=
 bif (a0.kind == 1) then (
  some V.nil
 ) else (
  bif (a0.kind == 2) then (
   some (V.bool a0.bool)
  ) else (
   bif (a0.kind == 3) then (
    some (V.int a0.int)
   ) else (
    bif (a0.kind == 4) then (
     some (V.float a0.float)
    ) else (
     bif (a0.kind == 5) then (
      some (V.text a0.text)
     ) else (
      bif (a0.kind == 6) then (
       Option.bind (appO 1 ([] : Str) a0.bytes) fun x7 =>
       some (V.bytes x7)
      ) else (
       bif (a0.kind == 7) then (
        some (V.ref a0.ref)
       ) else (
        bif (a0.kind == 8) then (
         mk_Built_l1 r_mk_Built a0 ([] : (List V)) 0
        ) else (
         bif (a0.kind == 9) then (
          Option.bind (r_mk_Dict a0.fields) fun x18 =>
          some (V.dict x18)
         ) else (
          bif (a0.kind == 10) then (
           Option.bind (r_mk_Dict a0.fields) fun x20 =>
           some (V.record a0.cls a0.ver x20)
          ) else (
           bif (a0.kind == 11) then (
            some V.nothing
           ) else (
            Option.bind (p_mk_Alien a0.int) fun x22 =>
            some x22
           )
          )
         )
        )
       )
      )
     )
    )
   )
  )
 )
theorem b_mk_Built_cm {ι : Type} {ρ : ι → Type} (r_mk_Dict : (∀ i, Option (ρ i)) → (List (Str × Term)) → Option (List (Str × V))) (h_r_mk_Dict : ∀ y0, CM (fun G => r_mk_Dict G y0)) (r_mk_Built : (∀ i, Option (ρ i)) → Term → Option V) (h_r_mk_Built : ∀ y0, CM (fun G => r_mk_Built G y0)) (a0 : Term) : CM (fun G : (∀ i, Option (ρ i)) => b_mk_Built (r_mk_Dict G) (r_mk_Built G) a0) := by
 simp only [b_mk_Built]
 repeat (first | exact cm_const | exact h_r_mk_Dict _ | exact h_r_mk_Built _ | apply mk_Built_l1_cm | refine cm_cond ?_ ?_ | refine cm_bind ?_ (fun _ => ?_) | intro _ | assumption)
inductive C_mk_Dict where
 | k_mk_Dict (a0 : (List (Str × Term)))
 | k_mk_Built (a0 : Term)
def C_mk_Dict.R : C_mk_Dict → Type
 | .k_mk_Dict _ => (List (Str × V))
 | .k_mk_Built _ => V
noncomputable def C_mk_Dict.F (g : ∀ i : C_mk_Dict, Option i.R) : ∀ i : C_mk_Dict, Option i.R
 | .k_mk_Dict a0 => b_mk_Dict (fun a0 => g (.k_mk_Dict a0)) (fun a0 => g (.k_mk_Built a0)) a0
 | .k_mk_Built a0 => b_mk_Built (fun a0 => g (.k_mk_Dict a0)) (fun a0 => g (.k_mk_Built a0)) a0
noncomputable def p_mk_Dict (a0 : (List (Str × Term))) : Option (List (Str × V)) := fixO C_mk_Dict.F (.k_mk_Dict a0)
noncomputable def p_mk_Built (a0 : Term) : Option V := fixO C_mk_Dict.F (.k_mk_Built a0)
theorem C_mk_Dict.cm (i : C_mk_Dict) : CM (fun g : (∀ i : C_mk_Dict, Option i.R) => C_mk_Dict.F g i) := by
 cases i with
 | k_mk_Dict a0 => exact b_mk_Dict_cm (fun (g : ∀ i : C_mk_Dict, Option i.R) a0 => g (.k_mk_Dict a0)) (fun a0 => cm_app (i := C_mk_Dict.k_mk_Dict a0)) (fun (g : ∀ i : C_mk_Dict, Option i.R) a0 => g (.k_mk_Built a0)) (fun a0 => cm_app (i := C_mk_Dict.k_mk_Built a0)) a0
 | k_mk_Built a0 => exact b_mk_Built_cm (fun (g : ∀ i : C_mk_Dict, Option i.R) a0 => g (.k_mk_Dict a0)) (fun a0 => cm_app (i := C_mk_Dict.k_mk_Dict a0)) (fun (g : ∀ i : C_mk_Dict, Option i.R) a0 => g (.k_mk_Built a0)) (fun a0 => cm_app (i := C_mk_Dict.k_mk_Built a0)) a0
theorem e_mk_Dict (a0 : (List (Str × Term))) : p_mk_Dict a0 = b_mk_Dict p_mk_Dict p_mk_Built a0 := fixO_eq C_mk_Dict.cm (.k_mk_Dict a0)
theorem e_mk_Built (a0 : Term) : p_mk_Built a0 = b_mk_Built p_mk_Dict p_mk_Built a0 := fixO_eq C_mk_Dict.cm (.k_mk_Built a0)
def C_mk_Dict.Q : ∀ i : C_mk_Dict, i.R → Prop
 | .k_mk_Dict a0 => fun (r : (List (Str × V))) => PCalls Try.prog 16 [(PV.sl none 71 12 (List.map ofEntry a0))] (PV.sl none 55 2 (List.map ofFld r))
 | .k_mk_Built a0 => fun (r : V) => PCalls Try.prog 8 [(ofTermX a0)] (ofV r)
theorem t_mk_Dict (r_mk_Dict : (List (Str × Term)) → Option (List (Str × V))) (c_mk_Dict : ∀ (a0 : (List (Str × Term))) r, r_mk_Dict a0 = some r → PCalls Try.prog 16 [(PV.sl none 71 12 (List.map ofEntry a0))] (PV.sl none 55 2 (List.map ofFld r))) (r_mk_Built : Term → Option V) (c_mk_Built : ∀ (a0 : Term) r, r_mk_Built a0 = some r → PCalls Try.prog 8 [(ofTermX a0)] (ofV r)) (a0 : (List (Str × Term))) (r : (List (Str × V))) (h : b_mk_Dict r_mk_Dict r_mk_Built a0 = some r) : PCalls Try.prog 16 [(PV.sl none 71 12 (List.map ofEntry a0))] (PV.sl none 55 2 (List.map ofFld r)) := by
 unfold b_mk_Dict at h
 refine acalls_of Try.func16 rfl Try.ntmps16 Try.results16 rfl (aw_of_bw ?_)
 change BW _ _ _ ⟨[(0, (PV.sl none 71 12 (List.map ofEntry a0)))], [], _⟩ _
 refine bR ?_
 refine sA rfl rfl rfl rfl rfl (ao_nil ?_)
 change BW _ _ _ _ _
 refine bR ?_
 refine sS rfl rfl rfl ((op1_bslice (xs := []) Try.underlying49 inf_55 rfl rfl rfl rfl rfl rfl ⟨Nat.le_of_ble_eq_true rfl, Nat.le_of_ble_eq_true rfl⟩ rfl).cast (y := (PV.sl (some 0) 55 2 (List.map ofFld ([] : (List (Str × V)))))) rfl rfl) ?_
 refine sA rfl rfl rfl rfl rfl (ao_nil ?_)
 change BW _ _ _ _ _
 refine bw_seq ?_
 refine bR ?_
 refine sA rfl rfl rfl rfl rfl (ao_nil ?_)
 change BW _ _ _ _ _
 refine bw_block ?_
 change BW _ _ _ _ _
 unfold mk_Dict_l1 at h
 refine bw_loop (σ := ((List (Str × V)) × Nat)) (fun i => [(0, (PV.sl none 71 12 (List.map ofEntry a0))), (3, (PV.sl (some 0) 55 2 (List.map ofFld i.1))), (4, (I64 (((i.2 : Nat) : Int))))]) (fun i => [.arr 55 (i.1).length]) (([] : (List (Str × V))), 0) h ?_ ?_ ?_
 ·intro i; exact ⟨Nat.le_of_ble_eq_true rfl, ⟨(il_nil (ids_slM ids_Entry _)), ⟨(il_tok rfl (ids_map ids_Fld _)), ⟨(il_nil rfl), trivial⟩⟩⟩, trivial⟩
 ·exact ⟨(.cons .same .nil), (sC rfl (sC rfl (sC rfl sub_nil)))⟩
 ·rintro g1_f ⟨s1, s2⟩ h; replace h : mk_Dict_l1b r_mk_Built a0 (fun y0 y1 => g1_f (y0, y1)) s1 s2 = some r := h; unfold mk_Dict_l1b at h
  change BW _ _ _ ⟨[(0, (PV.sl none 71 12 (List.map ofEntry a0))), (3, (PV.sl (some 0) 55 2 (List.map ofFld s1))), (4, (I64 (((s2 : Nat) : Int))))], [.arr 55 (s1).length], _⟩ _
  refine bw_seq ?_
  refine bR ?_
  refine sM rfl rfl rfl rfl rfl ?_
  refine sM rfl rfl rfl rfl rfl ?_
  refine sS rfl rfl rfl (op1_lenM Try.underlying27 rfl rfl) ?_
  refine sS rfl rfl rfl ((op1_cmp rfl rfl rfl rfl).cast (y := (BO ((decide (((s2 : Nat) : Int) < (((a0).length : Nat) : Int)))))) rfl rfl) (ao_nil ?_)
  change BW _ _ _ _ _
  refine bw_len (t := 7) rfl fun hb4 => ?_
  try rw [List.length_map] at hb4
  refine bw_cond rfl ?_ ?_
  ·intro hc3; replace h := ocond_t hc3 h
   have hc3_ := of_decide_eq_true hc3
   refine bw_skip ?_
   change BW _ _ _ _ _
   refine bw_seq ?_
   refine bw_block ?_
   change BW _ _ _ _ _
   refine bw_tail 14 [13] [] mo (by kernel_rfl) ?_
   refine ac_go rfl rfl rfl rfl (fun H hp => op1_move rfl rfl) ?_
   refine ac_go rfl rfl rfl rfl (fun H hp => op1_move rfl rfl) ?_
   refine ac_go rfl rfl rfl rfl (fun H hp => op1_move rfl rfl) ?_
   obtain ⟨x5, hx5, h⟩ := obind h
   refine ac_go rfl rfl rfl rfl (fun H hp => op1_idxN (i := s2) Try.underlying27 inf_71 rfl rfl rfl hx5 (ofEntry_eq _)) ?_
   refine ac_go rfl rfl rfl rfl (fun H hp => op1_faP st_71 (i := 0) rfl rfl rfl) ?_
   refine ac_go rfl rfl rfl rfl (fun H hp => op1_ldP (y := (ofStr x5.1)) Try.underlying9 rfl rfl rfl rfl) ?_
   refine ac_go rfl rfl rfl rfl (fun H hp => op1_move rfl rfl) ?_
   refine ac_go rfl rfl rfl rfl (fun H hp => op1_move rfl rfl) ?_
   obtain ⟨x6, hx6, h⟩ := obind h
   refine ac_go rfl rfl rfl rfl (fun H hp => op1_idxN (i := s2) Try.underlying27 inf_71 rfl rfl rfl hx6 (ofEntry_eq _)) ?_
   refine ac_go rfl rfl rfl rfl (fun H hp => op1_faP st_71 (i := 1) rfl rfl rfl) ?_
   refine ac_go rfl rfl rfl rfl (fun H hp => (op1_ldPA inf_29 Try.underlying29 rfl rfl rfl rfl rfl)) ?_
   obtain ⟨x7, hx7, h⟩ := obind h
   refine ac_go rfl rfl rfl rfl (fun H hp => op1_pcall rfl en_8 rfl (.cons (Wk.refl _) .nil) ⟨(ids_TermX (x6.2)), trivial⟩ (c_mk_Built (x6.2) x7 hx7) (ids_V x7)) ?_
   refine ac_go rfl rfl rfl rfl (fun H hp => op1_build (cs := [(ofStr x5.1), (ofV x7)]) st_55 inf_55 rfl rfl (by simp only [List.all_cons, List.all_nil, cok_V, cok_RecP, Bool.and_true, Bool.true_and]; try rfl) (by simp only [afill, List.getElem?_cons_zero, List.getElem?_cons_succ, cells_V, cells_RecP]; rfl)) ?_
   refine ac_lgo rfl rfl rfl rfl ((op1_bslice (xs := [(PV.agg [(ofStr x5.1), (ofV x7)])]) Try.underlying49 inf_55 rfl rfl rfl (by simp only [List.all_cons, List.all_nil, cok_V, cok_RecP, Bool.and_true, Bool.true_and]; try rfl) (by simp only [List.all_cons, List.all_nil, csz_V, csz_RecP, cells_V, cells_RecP]; try rfl) rfl ⟨Nat.le_of_ble_eq_true rfl, Nat.le_of_ble_eq_true rfl⟩ (by simp only [zipN, afill, List.flatMap_cons, List.flatMap_nil, cells_V, cells_RecP]; try rfl)).cast (y := (PV.sl (some 1) 55 2 (List.map ofFld ([(x5.1, x7)] : (List (Str × V)))))) rfl rfl) trivial ?_
   refine ac_nil ?_
   change AO _ _ _ _ _
   obtain ⟨x8, hx8, h⟩ := obind h
   refine sS rfl rfl rfl (op1_appM Try.underlying49 inf_55 rfl Try.underlying49 rfl rfl rfl rfl csz_Fld call1_Fld hx8 rfl) ?_
   refine sA rfl rfl rfl rfl rfl (ao_nil ?_)
   change BW _ _ _ _ _
   refine bw_region ?_
   refine sM rfl rfl rfl rfl rfl ?_
   refine sS rfl rfl rfl (op1_incN (k := s2) (c := 1) rfl rfl rfl (by omega)) ?_
   refine sA rfl rfl rfl rfl rfl (ao_nil ?_)
   exact ⟨rfl, (x8, (s2 + 1)), h, ⟨(.cons .same .nil), (sC rfl (sC rfl (sC rfl sub_nil)))⟩⟩
  ·intro hc3; replace h := ocond_f hc3 h
   refine bw_exit ?_
   change BW _ _ _ _ _
   refine bR ?_
   refine sM rfl rfl rfl rfl rfl ?_
   refine sA rfl rfl rfl rfl rfl (ao_nil ?_)
   change BW _ _ _ _ _
   refine bw_ret ?_
   change ∃ xs, _ = some xs ∧ EndOk _ _ _ _
   obtain rfl := Option.some.inj h
   exact ⟨_, rfl, endOk0 (y := (PV.sl none 55 2 (List.map ofFld s1))) Wk.tok (ids_slM ids_Fld s1) ⟨rfl, rfl⟩⟩
theorem t_mk_Built (r_mk_Dict : (List (Str × Term)) → Option (List (Str × V))) (c_mk_Dict : ∀ (a0 : (List (Str × Term))) r, r_mk_Dict a0 = some r → PCalls Try.prog 16 [(PV.sl none 71 12 (List.map ofEntry a0))] (PV.sl none 55 2 (List.map ofFld r))) (r_mk_Built : Term → Option V) (c_mk_Built : ∀ (a0 : Term) r, r_mk_Built a0 = some r → PCalls Try.prog 8 [(ofTermX a0)] (ofV r)) (a0 : Term) (r : V) (h : b_mk_Built r_mk_Dict r_mk_Built a0 = some r) : PCalls Try.prog 8 [(ofTermX a0)] (ofV r) := by
 unfold b_mk_Built at h
 refine acalls_of Try.func8 rfl Try.ntmps8 Try.results8 rfl (aw_of_bw ?_)
 change BW _ _ _ ⟨[(0, (ofTermX a0))], [], _⟩ _
 refine bR ?_
 refine sS rfl rfl rfl (op1_box rfl rfl rfl) ?_
 refine sA rfl rfl rfl rfl rfl (ao_nil ?_)
 change BW _ _ _ _ _
 refine bw_seq ?_
 refine bR ?_
 refine sS rfl rfl rfl (op1_faR st_29 (i := 0) rfl rfl rfl) ?_
 refine sS rfl rfl rfl ((op1_ldR Try.underlying3 rfl rfl rfl rfl rfl)) (ao_nil ?_)
 change BW _ _ _ _ _
 refine bw_block ?_
 change BW _ _ _ _ _
 refine bR ?_
 refine sS rfl rfl rfl ((op1_cmp rfl rfl rfl rfl).cast (y := (BO ((a0.kind == 1)))) rfl rfl) ?_
 refine sA rfl rfl rfl rfl rfl (ao_nil ?_)
 change BW _ _ _ _ _
 refine bw_cond rfl ?_ ?_
 ·intro hc1; replace h := ocond_t hc1 h
  refine bR ?_
  refine sA rfl rfl rfl rfl rfl (ao_nil ?_)
  change BW _ _ _ _ _
  refine bw_ret ?_
  change ∃ xs, _ = some xs ∧ EndOk _ _ _ _
  obtain rfl := Option.some.inj h
  exact ⟨_, rfl, endOk0 (y := (ofV V.nil)) (Wk.eq mk_nil.symm) (ids_V V.nil) ⟨rfl, rfl⟩⟩
 ·intro hc1; replace h := ocond_f hc1 h
  refine bR ?_
  refine sS rfl rfl rfl ((op1_cmp rfl rfl rfl rfl).cast (y := (BO ((a0.kind == 2)))) rfl rfl) ?_
  refine sA rfl rfl rfl rfl rfl (ao_nil ?_)
  change BW _ _ _ _ _
  refine bw_cond rfl ?_ ?_
  ·intro hc2; replace h := ocond_t hc2 h
   refine bR ?_
   refine sS rfl rfl rfl (op1_faR st_29 (i := 1) rfl rfl rfl) ?_
   refine sS rfl rfl rfl ((op1_ldR Try.underlying4 rfl rfl rfl rfl rfl)) ?_
   refine sS rfl rfl rfl ((op1_mkI Try.underlying4 rfl rfl rfl).wk ((Wk.iface (Wk.refl _)).trans (Wk.eq (mk_bool _).symm))) ?_
   refine sA rfl rfl rfl rfl rfl (ao_nil ?_)
   change BW _ _ _ _ _
   refine bw_ret ?_
   change ∃ xs, _ = some xs ∧ EndOk _ _ _ _
   obtain rfl := Option.some.inj h
   exact ⟨_, rfl, endOk0 (y := (ofV (V.bool a0.bool))) (Wk.refl _) (ids_V (V.bool a0.bool)) ⟨rfl, rfl⟩⟩
  ·intro hc2; replace h := ocond_f hc2 h
   refine bR ?_
   refine sS rfl rfl rfl ((op1_cmp rfl rfl rfl rfl).cast (y := (BO ((a0.kind == 3)))) rfl rfl) ?_
   refine sA rfl rfl rfl rfl rfl (ao_nil ?_)
   change BW _ _ _ _ _
   refine bw_cond rfl ?_ ?_
   ·intro hc3; replace h := ocond_t hc3 h
    refine bR ?_
    refine sS rfl rfl rfl (op1_faR st_29 (i := 2) rfl rfl rfl) ?_
    refine sS rfl rfl rfl ((op1_ldR Try.underlying2 rfl rfl rfl rfl rfl)) ?_
    refine sS rfl rfl rfl ((op1_mkI Try.underlying2 rfl rfl rfl).wk ((Wk.iface (Wk.refl _)).trans (Wk.eq (mk_int _).symm))) ?_
    refine sA rfl rfl rfl rfl rfl (ao_nil ?_)
    change BW _ _ _ _ _
    refine bw_ret ?_
    change ∃ xs, _ = some xs ∧ EndOk _ _ _ _
    obtain rfl := Option.some.inj h
    exact ⟨_, rfl, endOk0 (y := (ofV (V.int a0.int))) (Wk.refl _) (ids_V (V.int a0.int)) ⟨rfl, rfl⟩⟩
   ·intro hc3; replace h := ocond_f hc3 h
    refine bR ?_
    refine sS rfl rfl rfl ((op1_cmp rfl rfl rfl rfl).cast (y := (BO ((a0.kind == 4)))) rfl rfl) ?_
    refine sA rfl rfl rfl rfl rfl (ao_nil ?_)
    change BW _ _ _ _ _
    refine bw_cond rfl ?_ ?_
    ·intro hc4; replace h := ocond_t hc4 h
     refine bR ?_
     refine sS rfl rfl rfl (op1_faR st_29 (i := 3) rfl rfl rfl) ?_
     refine sS rfl rfl rfl ((op1_ldR Try.underlying22 rfl rfl rfl rfl rfl)) ?_
     refine sS rfl rfl rfl ((op1_mkI Try.underlying22 rfl rfl rfl).wk ((Wk.iface (Wk.refl _)).trans (Wk.eq (mk_float _).symm))) ?_
     refine sA rfl rfl rfl rfl rfl (ao_nil ?_)
     change BW _ _ _ _ _
     refine bw_ret ?_
     change ∃ xs, _ = some xs ∧ EndOk _ _ _ _
     obtain rfl := Option.some.inj h
     exact ⟨_, rfl, endOk0 (y := (ofV (V.float a0.float))) (Wk.refl _) (ids_V (V.float a0.float)) ⟨rfl, rfl⟩⟩
    ·intro hc4; replace h := ocond_f hc4 h
     refine bR ?_
     refine sS rfl rfl rfl ((op1_cmp rfl rfl rfl rfl).cast (y := (BO ((a0.kind == 5)))) rfl rfl) ?_
     refine sA rfl rfl rfl rfl rfl (ao_nil ?_)
     change BW _ _ _ _ _
     refine bw_cond rfl ?_ ?_
     ·intro hc5; replace h := ocond_t hc5 h
      refine bR ?_
      refine sS rfl rfl rfl (op1_faR st_29 (i := 4) rfl rfl rfl) ?_
      refine sS rfl rfl rfl ((op1_ldR Try.underlying9 rfl rfl rfl rfl rfl)) ?_
      refine sS rfl rfl rfl ((op1_mkI Try.underlying9 rfl rfl rfl).wk ((Wk.iface (Wk.refl _)).trans (Wk.eq (mk_text _).symm))) ?_
      refine sA rfl rfl rfl rfl rfl (ao_nil ?_)
      change BW _ _ _ _ _
      refine bw_ret ?_
      change ∃ xs, _ = some xs ∧ EndOk _ _ _ _
      obtain rfl := Option.some.inj h
      exact ⟨_, rfl, endOk0 (y := (ofV (V.text a0.text))) (Wk.refl _) (ids_V (V.text a0.text)) ⟨rfl, rfl⟩⟩
     ·intro hc5; replace h := ocond_f hc5 h
      refine bR ?_
      refine sS rfl rfl rfl ((op1_cmp rfl rfl rfl rfl).cast (y := (BO ((a0.kind == 6)))) rfl rfl) ?_
      refine sA rfl rfl rfl rfl rfl (ao_nil ?_)
      change BW _ _ _ _ _
      refine bw_cond rfl ?_ ?_
      ·intro hc6; replace h := ocond_t hc6 h
       refine bR ?_
       refine sS rfl rfl rfl ((op1_bslice (xs := []) Try.underlying23 inf_5 rfl rfl rfl rfl rfl rfl ⟨Nat.le_of_ble_eq_true rfl, Nat.le_of_ble_eq_true rfl⟩ rfl).cast (y := (PV.sl (some 1) 5 1 (List.map ofB ([] : Str)))) rfl rfl) ?_
       refine sS rfl rfl rfl (op1_faR st_29 (i := 5) rfl rfl rfl) ?_
       refine sS rfl rfl rfl ((op1_ldR Try.underlying23 rfl rfl rfl rfl rfl)) ?_
       obtain ⟨x7, hx7, h⟩ := obind h
       refine sS rfl rfl rfl (op1_appM Try.underlying23 inf_5 rfl Try.underlying23 rfl rfl rfl rfl (fun _ => rfl) (fun _ => rfl) hx7 rfl) ?_
       refine sS rfl rfl rfl ((op1_mkI Try.underlying23 rfl rfl rfl).wk ((Wk.iface Wk.tok).trans (Wk.eq (mk_bytes _).symm))) ?_
       refine sA rfl rfl rfl rfl rfl (ao_nil ?_)
       change BW _ _ _ _ _
       refine bw_ret ?_
       change ∃ xs, _ = some xs ∧ EndOk _ _ _ _
       obtain rfl := Option.some.inj h
       exact ⟨_, rfl, endOk0 (y := (ofV (V.bytes x7))) (Wk.refl _) (ids_V (V.bytes x7)) ⟨rfl, rfl⟩⟩
      ·intro hc6; replace h := ocond_f hc6 h
       refine bR ?_
       refine sS rfl rfl rfl ((op1_cmp rfl rfl rfl rfl).cast (y := (BO ((a0.kind == 7)))) rfl rfl) ?_
       refine sA rfl rfl rfl rfl rfl (ao_nil ?_)
       change BW _ _ _ _ _
       refine bw_cond rfl ?_ ?_
       ·intro hc8; replace h := ocond_t hc8 h
        refine bR ?_
        refine sS rfl rfl rfl (op1_faR st_29 (i := 6) rfl rfl rfl) ?_
        refine sS rfl rfl rfl ((op1_ldR Try.underlying25 rfl rfl rfl rfl rfl)) ?_
        refine sS rfl rfl rfl ((op1_mkI Try.underlying25 rfl rfl rfl).wk ((Wk.iface (Wk.refl _)).trans (Wk.eq (mk_ref _).symm))) ?_
        refine sA rfl rfl rfl rfl rfl (ao_nil ?_)
        change BW _ _ _ _ _
        refine bw_ret ?_
        change ∃ xs, _ = some xs ∧ EndOk _ _ _ _
        obtain rfl := Option.some.inj h
        exact ⟨_, rfl, endOk0 (y := (ofV (V.ref a0.ref))) (Wk.refl _) (ids_V (V.ref a0.ref)) ⟨rfl, rfl⟩⟩
       ·intro hc8; replace h := ocond_f hc8 h
        refine bR ?_
        refine sS rfl rfl rfl ((op1_cmp rfl rfl rfl rfl).cast (y := (BO ((a0.kind == 8)))) rfl rfl) ?_
        refine sA rfl rfl rfl rfl rfl (ao_nil ?_)
        change BW _ _ _ _ _
        refine bw_cond rfl ?_ ?_
        ·intro hc9; replace h := ocond_t hc9 h
         refine bR ?_
         refine sS rfl rfl rfl ((op1_bslice (xs := []) Try.underlying47 inf_20 rfl rfl rfl rfl rfl rfl ⟨Nat.le_of_ble_eq_true rfl, Nat.le_of_ble_eq_true rfl⟩ rfl).cast (y := (PV.sl (some 1) 20 1 (List.map ofV ([] : (List V))))) rfl rfl) ?_
         refine sA rfl rfl rfl rfl rfl (ao_nil ?_)
         change BW _ _ _ _ _
         refine bw_seq ?_
         refine bR ?_
         refine sA rfl rfl rfl rfl rfl (ao_nil ?_)
         change BW _ _ _ _ _
         refine bw_block ?_
         change BW _ _ _ _ _
         unfold mk_Built_l1 at h
         refine bw_loop (σ := ((List V) × Nat)) (fun i => [(1, (PV.rf 0 0)), (3, (PV.sl (some 1) 20 1 (List.map ofV i.1))), (4, (I64 (((i.2 : Nat) : Int))))]) (fun i => [.box 29 [(I64 a0.kind), (BO a0.bool), (I64 a0.int), (PV.v (.float .f64 a0.float)), (ofStr a0.text), (PV.sl none 5 1 (List.map ofB a0.bytes)), (PV.v (.int .u64 a0.ref)), (PV.sl none 29 11 (List.map ofTerm a0.list)), (PV.sl none 71 12 (List.map ofEntry a0.fields)), (ofStr a0.cls), (I64 a0.ver)], .arr 20 (i.1).length]) (([] : (List V)), 0) h ?_ ?_ ?_
         ·intro i; exact ⟨Nat.le_of_ble_eq_true rfl, ⟨(il_rf rfl), ⟨(il_tok rfl (ids_map ids_V _)), ⟨(il_nil rfl), trivial⟩⟩⟩, ⟨⟨(il_nil rfl), ⟨(il_nil rfl), ⟨(il_nil rfl), ⟨(il_nil rfl), ⟨(il_nil rfl), ⟨(il_nil (ids_slM (fun _ => rfl) _)), ⟨(il_nil rfl), ⟨(il_nil (ids_slM ids_Term _)), ⟨(il_nil (ids_slM ids_Entry _)), ⟨(il_nil rfl), ⟨(il_nil rfl), trivial⟩⟩⟩⟩⟩⟩⟩⟩⟩⟩⟩, trivial⟩⟩
         ·exact ⟨(.cons .same (.cons .same .nil)), (sC rfl (sC rfl (sC rfl sub_nil)))⟩
         ·rintro g1_f ⟨s10, s11⟩ h; replace h : mk_Built_l1b r_mk_Built a0 (fun y0 y1 => g1_f (y0, y1)) s10 s11 = some r := h; unfold mk_Built_l1b at h
          change BW _ _ _ ⟨[(1, (PV.rf 0 0)), (3, (PV.sl (some 1) 20 1 (List.map ofV s10))), (4, (I64 (((s11 : Nat) : Int))))], [.box 29 [(I64 a0.kind), (BO a0.bool), (I64 a0.int), (PV.v (.float .f64 a0.float)), (ofStr a0.text), (PV.sl none 5 1 (List.map ofB a0.bytes)), (PV.v (.int .u64 a0.ref)), (PV.sl none 29 11 (List.map ofTerm a0.list)), (PV.sl none 71 12 (List.map ofEntry a0.fields)), (ofStr a0.cls), (I64 a0.ver)], .arr 20 (s10).length], _⟩ _
          refine bw_seq ?_
          refine bR ?_
          refine sM rfl rfl rfl rfl rfl ?_
          refine sS rfl rfl rfl (op1_faR st_29 (i := 7) rfl rfl rfl) ?_
          refine sS rfl rfl rfl ((op1_ldR Try.underlying26 rfl rfl rfl rfl rfl)) ?_
          refine sS rfl rfl rfl (op1_lenM Try.underlying26 rfl rfl) ?_
          refine sS rfl rfl rfl ((op1_cmp rfl rfl rfl rfl).cast (y := (BO ((decide (((s11 : Nat) : Int) < (((a0.list).length : Nat) : Int)))))) rfl rfl) (ao_nil ?_)
          change BW _ _ _ _ _
          refine bw_len (t := 47) rfl fun hb13 => ?_
          try rw [List.length_map] at hb13
          refine bw_cond rfl ?_ ?_
          ·intro hc12; replace h := ocond_t hc12 h
           have hc12_ := of_decide_eq_true hc12
           refine bw_skip ?_
           change BW _ _ _ _ _
           refine bw_seq ?_
           refine bw_block ?_
           change BW _ _ _ _ _
           refine bw_region ?_
           refine sM rfl rfl rfl rfl rfl ?_
           refine sS rfl rfl rfl (op1_faR st_29 (i := 7) rfl rfl rfl) ?_
           refine sS rfl rfl rfl ((op1_ldR Try.underlying26 rfl rfl rfl rfl rfl)) ?_
           refine sM rfl rfl rfl rfl rfl ?_
           obtain ⟨x14, hx14, h⟩ := obind h
           refine sS rfl rfl rfl (op1_idxN (i := s11) Try.underlying26 inf_29 rfl rfl rfl hx14 (ofTerm_eq _)) ?_
           refine sS rfl rfl rfl (op1_ldPW inf_29 Try.underlying29 rfl rfl rfl rfl rfl) ?_
           obtain ⟨x15, hx15, h⟩ := obind h
           refine sS rfl rfl rfl (op1_pcall rfl en_8 rfl (.cons (Wk.refl _) .nil) ⟨(ids_TermX x14), trivial⟩ (c_mk_Built x14 x15 hx15) (ids_V x15)) ?_
           refine sS rfl rfl rfl ((op1_bslice (xs := [(ofV x15)]) Try.underlying47 inf_20 rfl rfl rfl (by simp only [List.all_cons, List.all_nil, cok_V, cok_RecP, Bool.and_true, Bool.true_and]; try rfl) (by simp only [List.all_cons, List.all_nil, csz_V, csz_RecP, cells_V, cells_RecP]; try rfl) rfl ⟨Nat.le_of_ble_eq_true rfl, Nat.le_of_ble_eq_true rfl⟩ (by simp only [zipN, afill, List.flatMap_cons, List.flatMap_nil, cells_V, cells_RecP]; try rfl)).cast (y := (PV.sl (some 2) 20 1 (List.map ofV ([x15] : (List V))))) rfl rfl) ?_
           obtain ⟨x16, hx16, h⟩ := obind h
           refine sS rfl rfl rfl (op1_appM Try.underlying47 inf_20 rfl Try.underlying47 rfl rfl rfl rfl csz_V call1_V hx16 rfl) ?_
           refine sA rfl rfl rfl rfl rfl (ao_nil ?_)
           change BW _ _ _ _ _
           refine bw_region ?_
           refine sM rfl rfl rfl rfl rfl ?_
           refine sS rfl rfl rfl (op1_incN (k := s11) (c := 1) rfl rfl rfl (by omega)) ?_
           refine sA rfl rfl rfl rfl rfl (ao_nil ?_)
           exact ⟨rfl, (x16, (s11 + 1)), h, ⟨(.cons .same (.cons .same .nil)), (sC rfl (sC rfl (sC rfl sub_nil)))⟩⟩
          ·intro hc12; replace h := ocond_f hc12 h
           refine bw_exit ?_
           change BW _ _ _ _ _
           refine bR ?_
           refine sM rfl rfl rfl rfl rfl ?_
           refine sS rfl rfl rfl ((op1_mkI Try.underlying47 rfl rfl rfl).wk ((Wk.iface Wk.tok).trans (Wk.eq (mk_list _).symm))) ?_
           refine sA rfl rfl rfl rfl rfl (ao_nil ?_)
           change BW _ _ _ _ _
           refine bw_ret ?_
           change ∃ xs, _ = some xs ∧ EndOk _ _ _ _
           obtain rfl := Option.some.inj h
           exact ⟨_, rfl, endOk0 (y := (ofV (V.list s10))) (Wk.refl _) (ids_V (V.list s10)) ⟨rfl, rfl⟩⟩
        ·intro hc9; replace h := ocond_f hc9 h
         refine bR ?_
         refine sS rfl rfl rfl ((op1_cmp rfl rfl rfl rfl).cast (y := (BO ((a0.kind == 9)))) rfl rfl) ?_
         refine sA rfl rfl rfl rfl rfl (ao_nil ?_)
         change BW _ _ _ _ _
         refine bw_cond rfl ?_ ?_
         ·intro hc17; replace h := ocond_t hc17 h
          refine bR ?_
          refine sS rfl rfl rfl (op1_faR st_29 (i := 8) rfl rfl rfl) ?_
          refine sS rfl rfl rfl ((op1_ldR Try.underlying27 rfl rfl rfl rfl rfl)) ?_
          obtain ⟨x18, hx18, h⟩ := obind h
          refine sS rfl rfl rfl (op1_pcall rfl en_16 rfl (.cons (Wk.refl _) .nil) ⟨(ids_slM ids_Entry a0.fields), trivial⟩ (c_mk_Dict a0.fields x18 hx18) (ids_slM ids_Fld x18)) ?_
          refine sS rfl rfl rfl ((op1_mkI Try.underlying49 rfl rfl rfl).wk ((Wk.iface (Wk.refl _)).trans (Wk.eq (mk_dict _).symm))) ?_
          refine sA rfl rfl rfl rfl rfl (ao_nil ?_)
          change BW _ _ _ _ _
          refine bw_ret ?_
          change ∃ xs, _ = some xs ∧ EndOk _ _ _ _
          obtain rfl := Option.some.inj h
          exact ⟨_, rfl, endOk0 (y := (ofV (V.dict x18))) (Wk.refl _) (ids_V (V.dict x18)) ⟨rfl, rfl⟩⟩
         ·intro hc17; replace h := ocond_f hc17 h
          refine bR ?_
          refine sS rfl rfl rfl ((op1_cmp rfl rfl rfl rfl).cast (y := (BO ((a0.kind == 10)))) rfl rfl) ?_
          refine sA rfl rfl rfl rfl rfl (ao_nil ?_)
          change BW _ _ _ _ _
          refine bw_cond rfl ?_ ?_
          ·intro hc19; replace h := ocond_t hc19 h
           refine bw_seq (bw_tail 7 [] [0] mo (by kernel_rfl) ?_)
           refine ac_go rfl rfl rfl rfl (fun H hp => op1_faR st_29 (i := 9) rfl rfl rfl) ?_
           refine ac_go rfl rfl rfl rfl (fun H hp => (op1_ldR Try.underlying9 rfl rfl rfl (hp.at rfl rfl) rfl)) ?_
           refine ac_go rfl rfl rfl rfl (fun H hp => op1_faR st_29 (i := 10) rfl rfl rfl) ?_
           refine ac_go rfl rfl rfl rfl (fun H hp => (op1_ldR Try.underlying3 rfl rfl rfl (hp.at rfl rfl) rfl)) ?_
           refine ac_go rfl rfl rfl rfl (fun H hp => op1_faR st_29 (i := 8) rfl rfl rfl) ?_
           refine ac_go rfl rfl rfl rfl (fun H hp => (op1_ldR Try.underlying27 rfl rfl rfl (hp.at rfl rfl) rfl)) ?_
           obtain ⟨x20, hx20, h⟩ := obind h
           refine ac_go rfl rfl rfl rfl (fun H hp => op1_pcall rfl en_16 rfl (.cons (Wk.refl _) .nil) ⟨(ids_slM ids_Entry a0.fields), trivial⟩ (c_mk_Dict a0.fields x20 hx20) (ids_slM ids_Fld x20)) ?_
           refine ac_nil ?_
           change AO _ _ _ _ _
           refine sS rfl rfl rfl (op1_build (cs := [(ofStr a0.cls), (I64 a0.ver), (PV.sl none 55 2 (List.map ofFld x20))]) st_60 inf_60 rfl rfl rfl rfl) ?_
           refine sS rfl rfl rfl (op1_box rfl rfl rfl) ?_
           refine sS rfl rfl rfl (op1_mkI Try.underlying50 rfl rfl rfl) ?_
           refine sA rfl rfl rfl rfl rfl (ao_nil ?_)
           change BW _ _ _ _ _
           refine bw_thaw 1 2 (y := (ofV (V.record a0.cls a0.ver x20))) rfl rfl ((Wk.iface (Wk.pt (x := .agg [(ofStr a0.cls), (I64 a0.ver), (PV.sl none 55 2 (List.map ofFld x20))]) (y := ofRec (Rec.mk a0.cls a0.ver x20)) (.cons (Wk.refl _) (.cons (Wk.refl _) (.cons (Wk.refl _) .nil))))).trans (Wk.eq (mk_rec (some (Rec.mk a0.cls a0.ver x20))).symm)) ?_
           refine bw_ret ?_
           change ∃ xs, _ = some xs ∧ EndOk _ _ _ _
           obtain rfl := Option.some.inj h
           exact ⟨_, rfl, endOk0 (y := (ofV (V.record a0.cls a0.ver x20))) (Wk.refl _) (ids_V (V.record a0.cls a0.ver x20)) ⟨rfl, rfl⟩⟩
          ·intro hc19; replace h := ocond_f hc19 h
           refine bR ?_
           refine sS rfl rfl rfl ((op1_cmp rfl rfl rfl rfl).cast (y := (BO ((a0.kind == 11)))) rfl rfl) ?_
           refine sA rfl rfl rfl rfl rfl (ao_nil ?_)
           change BW _ _ _ _ _
           refine bw_cond rfl ?_ ?_
           ·intro hc21; replace h := ocond_t hc21 h
            refine bR ?_
            refine sA rfl rfl rfl rfl rfl (ao_nil ?_)
            change BW _ _ _ _ _
            refine bR ?_
            refine sM rfl rfl rfl rfl rfl ?_
            refine sS rfl rfl rfl ((op1_mkI Try.underlying50 rfl rfl rfl).wk (Wk.eq (mk_rec none).symm)) ?_
            refine sA rfl rfl rfl rfl rfl (ao_nil ?_)
            change BW _ _ _ _ _
            refine bw_ret ?_
            change ∃ xs, _ = some xs ∧ EndOk _ _ _ _
            obtain rfl := Option.some.inj h
            exact ⟨_, rfl, endOk0 (y := (ofV V.nothing)) (Wk.refl _) (ids_V V.nothing) ⟨rfl, rfl⟩⟩
           ·intro hc21; replace h := ocond_f hc21 h
            refine bw_skip ?_
            change BW _ _ _ _ _
            refine bR ?_
            refine sS rfl rfl rfl (op1_faR st_29 (i := 2) rfl rfl rfl) ?_
            refine sS rfl rfl rfl ((op1_ldR Try.underlying2 rfl rfl rfl rfl rfl)) ?_
            obtain ⟨x22, hx22, h⟩ := obind h
            refine sS rfl rfl rfl (op1_pcall rfl en_17 rfl (.cons (Wk.refl _) .nil) ⟨rfl, trivial⟩ (s_mk_Alien a0.int x22 hx22) (ids_V x22)) ?_
            refine sA rfl rfl rfl rfl rfl (ao_nil ?_)
            change BW _ _ _ _ _
            refine bw_ret ?_
            change ∃ xs, _ = some xs ∧ EndOk _ _ _ _
            obtain rfl := Option.some.inj h
            exact ⟨_, rfl, endOk0 (y := (ofV x22)) (Wk.refl _) (ids_V x22) ⟨rfl, rfl⟩⟩
theorem C_mk_Dict.sound : ∀ (i : C_mk_Dict) (r : i.R), fixO C_mk_Dict.F i = some r → C_mk_Dict.Q i r := by
 refine fixO_ind (Φ := C_mk_Dict.F) (Q := C_mk_Dict.Q) ?_
 intro g hg i r h
 cases i with
 | k_mk_Dict a0 => exact t_mk_Dict (fun a0 => g (.k_mk_Dict a0)) (fun a0 r hr => hg (.k_mk_Dict a0) r hr) (fun a0 => g (.k_mk_Built a0)) (fun a0 r hr => hg (.k_mk_Built a0) r hr) a0 r h
 | k_mk_Built a0 => exact t_mk_Built (fun a0 => g (.k_mk_Dict a0)) (fun a0 r hr => hg (.k_mk_Dict a0) r hr) (fun a0 => g (.k_mk_Built a0)) (fun a0 r hr => hg (.k_mk_Built a0) r hr) a0 r h
theorem s_mk_Built (a0 : Term) (r : V) (h : p_mk_Built a0 = some r) : PCalls Try.prog 8 [(ofTermX a0)] (ofV r) := C_mk_Dict.sound (.k_mk_Built a0) r h
noncomputable def p_path_shown (a0 : V) : Option V :=
 Option.bind (p_value_Copy a0) fun x1 =>
 some x1.1
theorem s_path_shown (a0 : V) (r : V) (h : p_path_shown a0 = some r) : PCalls Try.prog 47 [(ofV a0)] (ofV r) := by
 unfold p_path_shown at h
 refine acalls_of Try.func47 rfl Try.ntmps47 Try.results47 rfl (aw_of_bw ?_)
 change BW _ _ _ ⟨[(0, (ofV a0))], [], _⟩ _
 refine bR ?_
 refine sA rfl rfl rfl rfl rfl (ao_nil ?_)
 change BW _ _ _ _ _
 refine bR ?_
 refine sM rfl rfl rfl rfl rfl ?_
 obtain ⟨x1, hx1, h⟩ := obind h
 refine sS rfl rfl rfl (op1_pcall rfl en_26 rfl (.cons (Wk.refl _) .nil) ⟨(ids_V a0), trivial⟩ (s_value_Copy a0 x1 hx1) (ids_tup_cons (ids_V x1.1) (ids_tup_cons rfl ids_tup_nil))) ?_
 refine sM rfl rfl rfl rfl rfl ?_
 refine sS rfl rfl rfl (op1_ext rfl rfl rfl) ?_
 refine sS rfl rfl rfl (op1_ext rfl rfl rfl) ?_
 refine sA rfl rfl rfl rfl rfl ?_
 refine sA rfl rfl rfl rfl rfl (ao_nil ?_)
 change BW _ _ _ _ _
 refine bR ?_
 refine sM rfl rfl rfl rfl rfl ?_
 refine sA rfl rfl rfl rfl rfl (ao_nil ?_)
 change BW _ _ _ _ _
 refine bw_ret ?_
 change ∃ xs, _ = some xs ∧ EndOk _ _ _ _
 obtain rfl := Option.some.inj h
 exact ⟨_, rfl, endOk0 (y := (ofV x1.1)) (Wk.refl _) (ids_V x1.1) ⟨rfl, rfl⟩⟩
noncomputable def p_internal_stringslite_IndexByte (a0 : Str) (a1 : UInt8) : Option Int :=
 some (ixB a0 a1)
theorem s_internal_stringslite_IndexByte (a0 : Str) (a1 : UInt8) (r : Int) (h : p_internal_stringslite_IndexByte a0 a1 = some r) : PCalls Try.prog 98 [(ofStr a0), (ofB a1)] (I64 r) := by
 unfold p_internal_stringslite_IndexByte at h
 refine acalls_of Try.func98 rfl Try.ntmps98 Try.results98 rfl (aw_of_bw ?_)
 change BW _ _ _ ⟨[(0, (ofStr a0)), (1, (ofB a1))], [], _⟩ _
 refine bR ?_
 refine sA rfl rfl rfl rfl rfl (ao_nil ?_)
 change BW _ _ _ _ _
 refine bR ?_
 refine sM rfl rfl rfl rfl rfl ?_
 refine sM rfl rfl rfl rfl rfl ?_
 refine sS rfl rfl rfl (op1_ixB (s := a0) (c := a1) rfl rfl rfl) ?_
 refine sA rfl rfl rfl rfl rfl (ao_nil ?_)
 change BW _ _ _ _ _
 refine bw_ret ?_
 change ∃ xs, _ = some xs ∧ EndOk _ _ _ _
 obtain rfl := Option.some.inj h
 exact ⟨_, rfl, endOk0 (y := (I64 ((ixB a0 a1)))) (Wk.refl _) rfl ⟨rfl, rfl⟩⟩
noncomputable def p_strings_IndexByte (a0 : Str) (a1 : UInt8) : Option Int :=
 Option.bind (p_internal_stringslite_IndexByte a0 a1) fun x1 =>
 some x1
theorem s_strings_IndexByte (a0 : Str) (a1 : UInt8) (r : Int) (h : p_strings_IndexByte a0 a1 = some r) : PCalls Try.prog 85 [(ofStr a0), (ofB a1)] (I64 r) := by
 unfold p_strings_IndexByte at h
 refine acalls_of Try.func85 rfl Try.ntmps85 Try.results85 rfl (aw_of_bw ?_)
 change BW _ _ _ ⟨[(0, (ofStr a0)), (1, (ofB a1))], [], _⟩ _
 refine bR ?_
 refine sA rfl rfl rfl rfl rfl (ao_nil ?_)
 change BW _ _ _ _ _
 refine bR ?_
 refine sM rfl rfl rfl rfl rfl ?_
 refine sM rfl rfl rfl rfl rfl ?_
 obtain ⟨x1, hx1, h⟩ := obind h
 refine sS rfl rfl rfl (op1_pcall rfl en_98 rfl (.cons (Wk.refl _) (.cons (Wk.refl _) .nil)) ⟨rfl, ⟨rfl, trivial⟩⟩ (s_internal_stringslite_IndexByte a0 a1 x1 hx1) rfl) ?_
 refine sA rfl rfl rfl rfl rfl (ao_nil ?_)
 change BW _ _ _ _ _
 refine bw_ret ?_
 change ∃ xs, _ = some xs ∧ EndOk _ _ _ _
 obtain rfl := Option.some.inj h
 exact ⟨_, rfl, endOk0 (y := (I64 x1)) (Wk.refl _) rfl ⟨rfl, rfl⟩⟩
end Go.Proofs.Ytkmhecgagibgjaa
