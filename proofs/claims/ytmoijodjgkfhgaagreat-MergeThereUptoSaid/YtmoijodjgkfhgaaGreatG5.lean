/- Pure functions, and that calls answer as they say. -/
import Derived.Test.YtmoijodjgkfhgaaGreatG4
namespace Go.Proofs.YtmoijodjgkfhgaaGreat
open Go Aw
set_option linter.unusedVariables false
set_option linter.unusedSimpArgs false
set_option maxRecDepth 20000
set_option maxHeartbeats 2000000
variable {ι : Type} {ρ : ι → Type}
noncomputable def zw8 : Option Unit :=
 some ()
theorem Z47  (r : Unit) (h : zw8  = some r) : DCalls Tryz.prog 48 [.junk, .junk, .junk, .junk] [] .ret (fun H' => H' = []) := by
 unfold zw8 at h
 refine zll Tryz.func48 rfl Tryz.ntmps48 rfl rfl rfl rfl rfl rfl rfl rfl rfl rfl (z0n ?_)
 change BW _ _ _ ⟨[(4, (PV.v .nilIface)), (5, (PV.v .nilIface)), (0, .junk), (1, .junk), (2, .junk), (3, .junk)], [], _⟩ _
 refine bR ?_
 refine sX ?_
 refine sS rfl rfl rfl (zwk Tryz.underlying20 rfl rfl) (z0h ?_)
 refine cBx ?_
 refine zd4 rfl ?_
 refine z0g ?_
 change ∃ xs, _ = some xs ∧ EndOk _ _ _ _
 obtain rfl := Option.some.inj h
 exact ⟨_, rfl, endR (y := (PV.tup [])) 0 (Wk.refl _) rfl rfl (.tup .nil) .nil ⟨rfl, rfl⟩⟩
noncomputable def zgt (a0 a1 a2 : V) : Option (V × (List S_api_Conflict) × Int) :=
 (zsk ([a0, a1, a2] : (List V))).bind fun x1 =>
 bif (x1 != 0) then (
 some (V.nil, [], x1)
 ) else (
 (z5b (S_merge_merger.mk () ([] : (List S_api_Conflict))) ([]) (S_merge_side.mk a0 true) (S_merge_side.mk a1 true) (S_merge_side.mk a2 true)).bind fun x3 =>
 (zsk ([(x3.1).f_v] : (List V))).bind fun x4 =>
 bif (x4 != 0) then (
 (zw8 ).bind fun x6 =>
 some (V.nil, (x3.2).f_conflicts, x4)
 ) else (
 (zj2 ((x3.1).f_v)).bind fun x7 =>
 (zw8 ).bind fun x8 =>
 some (x7, (x3.2).f_conflicts, 0)
 )
 )
theorem Z46 (a0 a1 a2 : V) (r : (V × (List S_api_Conflict) × Int)) (h : zgt a0 a1 a2 = some r) : z0p Tryz.prog 26 [(ofV a0), (ofV a1), (ofV a2), (PV.v .nilFunc)] (PV.tup [(ofV r.1), (PV.sl none 88 7 (List.map z03 r.2.1)), (I64 r.2.2)]) := by
 unfold zgt at h
 refine zkc Tryz.func26 rfl Tryz.ntmps26 rfl ?_
 change DW _ _ _ _ _ ⟨[(0, (ofV a0)), (1, (ofV a1)), (2, (ofV a2)), (3, (PV.v .nilFunc))], [], _⟩ _
 refine zzz ?_
 refine cBx ?_
 refine z0l ?_
 refine sS rfl rfl rfl ((z1h z1v rfl).cast (H'' := [.box 20 [(ofV V.nil)]]) rfl (by simp only [mk_nil]; rfl)) ?_
 refine sS rfl rfl rfl (z1h zjo rfl) ?_
 refine sS rfl rfl rfl (z1h zjp rfl) (z0h ?_)
 change DW _ _ _ _ _ _ _
 refine Z2i Tryz.results26 ?_
 refine cBx ?_
 refine bR ?_
 iterate 3 refine sX ?_
 refine sS rfl rfl rfl ((z1a (xs := [(ofV a0), (ofV a1), (ofV a2)]) Tryz.underlying65 z1v rfl rfl rfl (by simp only [List.all_cons, List.all_nil, z2l, z16, Bool.and_true, Bool.true_and]; try rfl) (by simp only [List.all_cons, List.all_nil, csz_V, z2p, z0u, z0k]; try rfl) rfl ⟨lbE rfl, lbE rfl⟩ (by simp only [z8y, z2c, List.flatMap_cons, List.flatMap_nil, z0u, z0k]; try rfl)).cast (y := (PV.sl (some 3) 20 1 (List.map ofV ([a0, a1, a2] : (List V))))) rfl rfl) ?_
 obtain ⟨x1, hx1, h⟩ := obind h
 refine sS rfl rfl rfl (z08 rfl Z5m rfl (.cons Wk.tok .nil) ⟨(z05 ids_V ([a0, a1, a2] : (List V))), trivial⟩ (Z3y ([a0, a1, a2] : (List V)) x1 hx1) rfl) ?_
 refine eX ?_
 refine bR ?_
 refine sX ?_
 refine eX ?_
 refine cX h rfl ?_ ?_
 intro hc2 h
 refine bR ?_
 refine sX ?_
 refine z14 rfl rfl ((z0y z1v rfl rfl rfl rfl rfl rfl (lbE rfl) rfl).cast (H'' := [.box 20 [(ofV V.nil)], .box 59 [(PV.v (.slice none 0 0))], .box 34 [(I64 0)], .arr 20 (([a0, a1, a2] : (List V))).length]) rfl (by simp only [mk_nil]; rfl)) ?_
 refine z14 rfl rfl (z0y zjo rfl rfl rfl rfl rfl rfl (lbE rfl) rfl) ?_
 refine z14 rfl rfl (z0y zjp rfl rfl rfl rfl rfl rfl (lbE rfl) rfl) ?_
 refine z0h ?_
 refine cBx ?_
 obtain rfl := eI h; exact z06 ⟨_, rfl, z0r (y := (PV.tup [(ofV V.nil), (PV.sl none 88 7 (List.map z03 [])), (I64 x1)])) (Wk.tup (wkr (.cons Wk.nil (wkr .nil)))) (z00 (ids_V V.nil) (z00 (z05 z0a ([])) (z00 rfl z04))) ⟨rfl, rfl⟩⟩
 intro hc2 h
 refine z0g ?_
 change DW _ _ _ _ _ _ _
 refine zzz ?_
 refine cBx ?_
 refine z0l ?_
 refine sX ?_
 refine sS rfl rfl rfl (z12 (cs := [(PV.v .nilFunc), (PV.v (.slice none 0 0))]) zz3 Z1y rfl rfl rfl rfl) ?_
 refine sX ?_
 refine sS rfl rfl rfl (z1h ztw rfl) ?_
 refine z14 rfl rfl (z0y ztw rfl rfl rfl rfl rfl rfl (lbE rfl) rfl) ?_
 refine z0h ?_
 change DW _ _ _ _ _ _ _
 refine zxp (caps := [.tmp 12, .tmp 8, .tmp 9, .tmp 10]) rfl rfl rfl rfl rfl rfl rfl rfl ?_
 refine Z96 (cap' := [.junk, .junk, .junk, .junk]) (.cons Wk.junk (.cons Wk.junk (.cons Wk.junk (.cons Wk.junk .nil)))) ?_
 refine Z66 Z8m Tryz.results26 ?_
 refine cBx ?_
 refine z0f ?_
 refine zk7 (s := ⟨_, _, _⟩) 4 1 88 (sz := 7) rfl rfl rfl ?_
 refine z0l ?_
 iterate 2 refine sX ?_
 refine sS rfl rfl rfl (z12 (cs := [(ofV a0), (BO true)]) z5r z1m rfl rfl (by simp only [List.all_cons, List.all_nil, z2l, z16, Bool.and_true, Bool.true_and]; try rfl) (by simp only [z2c, List.getElem?_cons_zero, List.getElem?_cons_succ, z0u, z0k]; rfl)) ?_
 refine sX ?_
 refine sS rfl rfl rfl (z12 (cs := [(ofV a1), (BO true)]) z5r z1m rfl rfl (by simp only [List.all_cons, List.all_nil, z2l, z16, Bool.and_true, Bool.true_and]; try rfl) (by simp only [z2c, List.getElem?_cons_zero, List.getElem?_cons_succ, z0u, z0k]; rfl)) ?_
 refine sX ?_
 refine sS rfl rfl rfl (z12 (cs := [(ofV a2), (BO true)]) z5r z1m rfl rfl (by simp only [List.all_cons, List.all_nil, z2l, z16, Bool.and_true, Bool.true_and]; try rfl) (by simp only [z2c, List.getElem?_cons_zero, List.getElem?_cons_succ, z0u, z0k]; rfl)) ?_
 obtain ⟨x3, hx3, h⟩ := obind h
 refine sS rfl rfl rfl (z2i [4, 6] (.func rfl) zxl rfl (wkr (.cons Wk.nil (wkr (wkr (wkr .nil))))) rfl (.cons rfl (.box (.cons (.same rfl) (.cons (.row rfl (z0s z0a (((S_merge_merger.mk () ([] : (List S_api_Conflict)))).f_conflicts))) .nil))) (.cons rfl .arr .nil)) (.cons (.rf rfl) (.cons (.same (z05 z02 ([]))) (.cons (.same (z0d (S_merge_side.mk a0 true))) (.cons (.same (z0d (S_merge_side.mk a1 true))) (.cons (.same (z0d (S_merge_side.mk a2 true))) .nil))))) (Z7k (S_merge_merger.mk () ([] : (List S_api_Conflict))) ([]) (S_merge_side.mk a0 true) (S_merge_side.mk a1 true) (S_merge_side.mk a2 true) x3 hx3) (.same (z0d x3.1)) (.cons (.box (.cons (.same rfl) (.cons (.row rfl (z0s z0a ((x3.2).f_conflicts))) .nil))) (.cons .arr .nil)) rfl) ?_
 refine sS rfl rfl rfl ((z1h z1m rfl).cast (H'' := [.box 20 [(ofV V.nil)], .box 59 [(PV.v (.slice none 0 0))], .box 34 [(I64 0)], .arr 20 (([a0, a1, a2] : (List V))).length, .box 121 [(PV.v .nilFunc), (PV.sl (some 6) 88 7 (List.map z03 (x3.2).f_conflicts))], .box 119 [(PV.rf 4 0)], .arr 88 ((x3.2).f_conflicts).length, .box 125 [(ofV V.nil), (BO false)]]) rfl (by simp only [mk_nil]; rfl)) ?_
 refine z14 rfl rfl (z0y z1m rfl rfl rfl rfl rfl rfl (lbE rfl) (by show List.all [(ofV (x3.1).f_v), (BO ((x3.1).f_has))] z45 = true; simp only [List.all_cons, List.all_nil, z3w, z1q, Bool.and_true, Bool.true_and]; try rfl)) ?_
 refine z0h ?_
 refine cBx ?_
 refine z0f ?_
 refine bR ?_
 iterate 2 refine sX ?_
 refine sS rfl rfl rfl ((z1a (xs := [(ofV (x3.1).f_v)]) Tryz.underlying65 z1v rfl rfl rfl (by simp only [List.all_cons, List.all_nil, z2l, z16, Bool.and_true, Bool.true_and]; try rfl) (by simp only [List.all_cons, List.all_nil, csz_V, z2p, z0u, z0k]; try rfl) rfl ⟨lbE rfl, lbE rfl⟩ (by simp only [z8y, z2c, List.flatMap_cons, List.flatMap_nil, z0u, z0k]; try rfl)).cast (y := (PV.sl (some 8) 20 1 (List.map ofV ([(x3.1).f_v] : (List V))))) rfl rfl) ?_
 obtain ⟨x4, hx4, h⟩ := obind h
 refine sS rfl rfl rfl (z08 rfl Z5m rfl (.cons Wk.tok .nil) ⟨(z05 ids_V ([(x3.1).f_v] : (List V))), trivial⟩ (Z3y ([(x3.1).f_v] : (List V)) x4 hx4) rfl) ?_
 refine eX ?_
 refine bR ?_
 refine sX ?_
 refine eX ?_
 refine cX h rfl ?_ ?_
 intro hc5 h
 refine z0f (z1w 7 [5, 6] [4, 5] mo (by kernel_rfl) ?_)
 refine gX ?_
 refine z1r rfl rfl rfl rfl (fun H hp => z3t rfl rfl) ?_
 iterate 3 refine gX ?_
 refine zma rfl rfl rfl ((z0y z1v rfl rfl rfl rfl rfl rfl (lbE rfl) rfl).cast (H'' := [.box 20 [(ofV V.nil)], .box 59 [(PV.v (.slice none 0 0))], .box 34 [(I64 0)], .arr 20 (([a0, a1, a2] : (List V))).length, .box 121 [(PV.v .nilFunc), (PV.sl (some 6) 88 7 (List.map z03 (x3.2).f_conflicts))], .box 119 [(PV.rf 4 0)], .arr 88 ((x3.2).f_conflicts).length, .box 125 [(ofV (x3.1).f_v), (BO ((x3.1).f_has))], .arr 20 (([(x3.1).f_v] : (List V))).length]) rfl (by simp only [mk_nil]; rfl)) ⟨rfl, ⟨rfl, trivial⟩⟩ ?_
 refine zma rfl rfl rfl (z0y zjo rfl rfl rfl rfl rfl rfl (lbE rfl) rfl) ⟨rfl, ⟨rfl, trivial⟩⟩ ?_
 refine z20 ?_
 change AO _ _ _ _ _
 refine z14 rfl rfl (z0y zjp rfl rfl rfl rfl rfl rfl (lbE rfl) rfl) ?_
 refine z0h ?_
 refine cBx ?_
 refine z06 ?_
 repeat (first | refine zmq ?_ | refine zg0 ?_ | refine zjl ?_)
 refine zjy ?_
 obtain ⟨x6, hx6, h⟩ := obind h
 obtain rfl := Option.some.inj h
 refine zu8 [] rfl .nil (.cons (.same rfl) (.cons (.same rfl) (.cons (.same rfl) (.cons (.same rfl) .nil)))) (fun p hp => by cases hp) (Z47  x6 hx6) .nil rfl rfl ?_
 exact z0r (y := (PV.tup [(ofV V.nil), (PV.sl none 88 7 (List.map z03 (x3.2).f_conflicts)), (I64 x4)])) (Wk.tup (wkr (.cons Wk.tok (wkr .nil)))) (z00 (ids_V V.nil) (z00 (z05 z0a ((x3.2).f_conflicts)) (z00 rfl z04))) ⟨rfl, rfl⟩
 intro hc5 h
 refine z0g ?_
 refine cBx ?_
 refine z0f (z1w 8 [7] [4, 5, 7] mo (by kernel_rfl) ?_)
 iterate 2 refine gX ?_
 obtain ⟨x7, hx7, h⟩ := obind h
 refine z1r rfl rfl rfl rfl (fun H hp => z08 rfl zxk rfl (wkr .nil) ⟨(ids_V ((x3.1).f_v)), trivial⟩ (zvj ((x3.1).f_v) x7 hx7) (ids_V x7)) ?_
 refine gX ?_
 refine z1r rfl rfl rfl rfl (fun H hp => z3t rfl rfl) ?_
 iterate 2 refine gX ?_
 refine zma rfl rfl rfl ((z0y z1v rfl rfl rfl rfl (z2l _) (csz_V _) (lbE rfl) (z7x _)).cast (H'' := [.box 20 [(ofV x7)], .box 59 [(PV.v (.slice none 0 0))], .box 34 [(I64 0)], .arr 20 (([a0, a1, a2] : (List V))).length, .box 121 [(PV.v .nilFunc), (PV.sl (some 6) 88 7 (List.map z03 (x3.2).f_conflicts))], .box 119 [(PV.rf 4 0)], .arr 88 ((x3.2).f_conflicts).length, .box 125 [(ofV (x3.1).f_v), (BO ((x3.1).f_has))], .arr 20 (([(x3.1).f_v] : (List V))).length]) rfl (by rw [z0u]; rfl)) ⟨rfl, ⟨rfl, ⟨rfl, trivial⟩⟩⟩ ?_
 refine z20 ?_
 change AO _ _ _ _ _
 refine z14 rfl rfl (z0y zjo rfl rfl rfl rfl rfl rfl (lbE rfl) rfl) ?_
 refine z14 rfl rfl (z0y zjp rfl rfl rfl rfl rfl rfl (lbE rfl) rfl) ?_
 refine z0h ?_
 refine cBx ?_
 refine z06 ?_
 repeat (first | refine zmq ?_ | refine zg0 ?_ | refine zjl ?_)
 refine zjy ?_
 obtain ⟨x8, hx8, h⟩ := obind h
 obtain rfl := Option.some.inj h
 refine zu8 [] rfl .nil (.cons (.same rfl) (.cons (.same rfl) (.cons (.same rfl) (.cons (.same rfl) .nil)))) (fun p hp => by cases hp) (Z47  x8 hx8) .nil rfl rfl ?_
 exact z0r (y := (PV.tup [(ofV x7), (PV.sl none 88 7 (List.map z03 (x3.2).f_conflicts)), (I64 0)])) (Wk.tup (wkr (.cons Wk.tok (wkr .nil)))) (z00 (ids_V x7) (z00 (z05 z0a ((x3.2).f_conflicts)) (z00 rfl z04))) ⟨rfl, rfl⟩
noncomputable def z9i (a0 a1 a2 : V) : Option (V × (List S_api_Conflict) × Int) :=
 (zgt a0 a1 a2).bind fun x1 =>
 some (x1.1, x1.2.1, x1.2.2)
theorem Z0n (a0 a1 a2 : V) (r : (V × (List S_api_Conflict) × Int)) (h : z9i a0 a1 a2 = some r) : z0p Tryz.prog 18 [(ofV a0), (ofV a1), (ofV a2), (PV.v .nilFunc)] (PV.tup [(ofV r.1), (PV.sl none 88 7 (List.map z03 r.2.1)), (I64 r.2.2)]) := by
 unfold z9i at h
 refine z0j Tryz.func18 rfl Tryz.ntmps18 Tryz.results18 rfl (z0n ?_)
 change BW _ _ _ ⟨[(0, (ofV a0)), (1, (ofV a1)), (2, (ofV a2)), (3, (PV.v .nilFunc))], [], _⟩ _
 refine bR ?_
 iterate 2 refine sX ?_
 refine eX ?_
 refine bR ?_
 iterate 4 refine sX ?_
 obtain ⟨x1, hx1, h⟩ := obind h
 refine sS rfl rfl rfl (z08 rfl Z5l rfl (wkr (wkr (wkr (wkr .nil)))) ⟨(ids_V a0), ⟨(ids_V a1), ⟨(ids_V a2), ⟨rfl, trivial⟩⟩⟩⟩ (Z46 a0 a1 a2 x1 hx1) (z00 (ids_V x1.1) (z00 (z05 z0a x1.2.1) (z00 rfl z04)))) ?_
 iterate 5 refine sX ?_
 refine eX ?_
 obtain rfl := eI h; exact z06 ⟨_, rfl, z0r (y := (PV.tup [(ofV x1.1), (PV.sl none 88 7 (List.map z03 x1.2.1)), (I64 x1.2.2)])) (Wk.refl _) (z00 (ids_V x1.1) (z00 (z05 z0a x1.2.1) (z00 rfl z04))) ⟨rfl, rfl⟩⟩
noncomputable def zp4 : Option Bool :=
 (z9i (V.dict ([(([97] : Str), (V.int 1)), (([98] : Str), (V.int 1))] : (List (Str × V)))) (V.dict ([(([97] : Str), (V.int 2)), (([98] : Str), (V.int 1))] : (List (Str × V)))) (V.dict ([(([97] : Str), (V.int 1)), (([99] : Str), (V.int 3))] : (List (Str × V))))).bind fun x1 =>
 (z9i (V.dict ([(([97] : Str), (V.int 1)), (([98] : Str), (V.int 1))] : (List (Str × V)))) (V.dict ([(([97] : Str), (V.int 2)), (([98] : Str), (V.int 1))] : (List (Str × V)))) (V.dict ([(([97] : Str), (V.int 3)), (([98] : Str), (V.int 1))] : (List (Str × V))))).bind fun x2 =>
 bif (x1.2.2 == 0) then (
 bif ((((x1.2.1).length : Nat) : Int) == 0) then (
 (zgr x1.1 (V.dict ([(([97] : Str), (V.int 2)), (([99] : Str), (V.int 3))] : (List (Str × V))))).bind fun x5 =>
 bif x5 then (
 bif (x2.2.2 == 0) then (
 bif ((((x2.2.1).length : Nat) : Int) == 1) then (
 ((x2.2.1)[0]?).bind fun x9 =>
 bif ((((x9.f_Way).length : Nat) : Int) == 1) then (
 ((x2.2.1)[0]?).bind fun x11 =>
 ((x11.f_Way)[0]?).bind fun x12 =>
 some (x12.f_Name == ([97] : Str))
 ) else (
 some false
 )
 ) else (
 some false
 )
 ) else (
 some false
 )
 ) else (
 some false
 )
 ) else (
 some false
 )
 ) else (
 some false
 )
theorem Z77  (r : Bool) (h : zp4  = some r) : z0p Tryz.prog 15 [] (BO r) := by
 unfold zp4 at h
 refine z0j Tryz.func15 rfl Tryz.ntmps15 Tryz.results15 rfl (z0n ?_)
 change BW _ _ _ ⟨[], [], _⟩ _
 refine bR ?_
 refine eX ?_
 refine bR ?_
 refine sS rfl rfl rfl ((z15 Tryz.underlying2 rfl rfl rfl).wk ((Wk.iface (Wk.refl _)).trans (Wk.eq (z8p _).symm))) ?_
 refine sS rfl rfl rfl (z12 (cs := [(ofStr ([97] : Str)), (ofV (V.int 1))]) z9g z13 rfl rfl (by simp only [List.all_cons, List.all_nil, z2l, z16, Bool.and_true, Bool.true_and]; try rfl) (by simp only [z2c, List.getElem?_cons_zero, List.getElem?_cons_succ, z0u, z0k]; rfl)) ?_
 refine sS rfl rfl rfl ((z15 Tryz.underlying2 rfl rfl rfl).wk ((Wk.iface (Wk.refl _)).trans (Wk.eq (z8p _).symm))) ?_
 refine sS rfl rfl rfl (z12 (cs := [(ofStr ([98] : Str)), (ofV (V.int 1))]) z9g z13 rfl rfl (by simp only [List.all_cons, List.all_nil, z2l, z16, Bool.and_true, Bool.true_and]; try rfl) (by simp only [z2c, List.getElem?_cons_zero, List.getElem?_cons_succ, z0u, z0k]; rfl)) ?_
 refine sS rfl rfl rfl ((z1a (xs := [(PV.agg [(ofStr ([97] : Str)), (ofV (V.int 1))]), (PV.agg [(ofStr ([98] : Str)), (ofV (V.int 1))])]) Tryz.underlying68 z13 rfl rfl rfl (by simp only [List.all_cons, List.all_nil, z2l, z16, Bool.and_true, Bool.true_and]; try rfl) (by simp only [List.all_cons, List.all_nil, csz_V, z2p, z0u, z0k]; try rfl) rfl ⟨lbE rfl, lbE rfl⟩ (by simp only [z8y, z2c, List.flatMap_cons, List.flatMap_nil, z0u, z0k]; try rfl)).cast (y := (PV.sl (some 0) 86 2 (List.map ofFld ([(([97] : Str), (V.int 1)), (([98] : Str), (V.int 1))] : (List (Str × V)))))) rfl rfl) ?_
 refine eX ?_
 refine bR ?_
 refine sS rfl rfl rfl ((z15 Tryz.underlying2 rfl rfl rfl).wk ((Wk.iface (Wk.refl _)).trans (Wk.eq (z8p _).symm))) ?_
 refine sS rfl rfl rfl (z12 (cs := [(ofStr ([97] : Str)), (ofV (V.int 2))]) z9g z13 rfl rfl (by simp only [List.all_cons, List.all_nil, z2l, z16, Bool.and_true, Bool.true_and]; try rfl) (by simp only [z2c, List.getElem?_cons_zero, List.getElem?_cons_succ, z0u, z0k]; rfl)) ?_
 refine sS rfl rfl rfl ((z15 Tryz.underlying2 rfl rfl rfl).wk ((Wk.iface (Wk.refl _)).trans (Wk.eq (z8p _).symm))) ?_
 refine sS rfl rfl rfl (z12 (cs := [(ofStr ([98] : Str)), (ofV (V.int 1))]) z9g z13 rfl rfl (by simp only [List.all_cons, List.all_nil, z2l, z16, Bool.and_true, Bool.true_and]; try rfl) (by simp only [z2c, List.getElem?_cons_zero, List.getElem?_cons_succ, z0u, z0k]; rfl)) ?_
 refine sS rfl rfl rfl ((z1a (xs := [(PV.agg [(ofStr ([97] : Str)), (ofV (V.int 2))]), (PV.agg [(ofStr ([98] : Str)), (ofV (V.int 1))])]) Tryz.underlying68 z13 rfl rfl rfl (by simp only [List.all_cons, List.all_nil, z2l, z16, Bool.and_true, Bool.true_and]; try rfl) (by simp only [List.all_cons, List.all_nil, csz_V, z2p, z0u, z0k]; try rfl) rfl ⟨lbE rfl, lbE rfl⟩ (by simp only [z8y, z2c, List.flatMap_cons, List.flatMap_nil, z0u, z0k]; try rfl)).cast (y := (PV.sl (some 1) 86 2 (List.map ofFld ([(([97] : Str), (V.int 2)), (([98] : Str), (V.int 1))] : (List (Str × V)))))) rfl rfl) ?_
 refine eX ?_
 refine bR ?_
 refine sS rfl rfl rfl ((z15 Tryz.underlying2 rfl rfl rfl).wk ((Wk.iface (Wk.refl _)).trans (Wk.eq (z8p _).symm))) ?_
 refine sS rfl rfl rfl (z12 (cs := [(ofStr ([97] : Str)), (ofV (V.int 1))]) z9g z13 rfl rfl (by simp only [List.all_cons, List.all_nil, z2l, z16, Bool.and_true, Bool.true_and]; try rfl) (by simp only [z2c, List.getElem?_cons_zero, List.getElem?_cons_succ, z0u, z0k]; rfl)) ?_
 refine sS rfl rfl rfl ((z15 Tryz.underlying2 rfl rfl rfl).wk ((Wk.iface (Wk.refl _)).trans (Wk.eq (z8p _).symm))) ?_
 refine sS rfl rfl rfl (z12 (cs := [(ofStr ([99] : Str)), (ofV (V.int 3))]) z9g z13 rfl rfl (by simp only [List.all_cons, List.all_nil, z2l, z16, Bool.and_true, Bool.true_and]; try rfl) (by simp only [z2c, List.getElem?_cons_zero, List.getElem?_cons_succ, z0u, z0k]; rfl)) ?_
 refine sS rfl rfl rfl ((z1a (xs := [(PV.agg [(ofStr ([97] : Str)), (ofV (V.int 1))]), (PV.agg [(ofStr ([99] : Str)), (ofV (V.int 3))])]) Tryz.underlying68 z13 rfl rfl rfl (by simp only [List.all_cons, List.all_nil, z2l, z16, Bool.and_true, Bool.true_and]; try rfl) (by simp only [List.all_cons, List.all_nil, csz_V, z2p, z0u, z0k]; try rfl) rfl ⟨lbE rfl, lbE rfl⟩ (by simp only [z8y, z2c, List.flatMap_cons, List.flatMap_nil, z0u, z0k]; try rfl)).cast (y := (PV.sl (some 2) 86 2 (List.map ofFld ([(([97] : Str), (V.int 1)), (([99] : Str), (V.int 3))] : (List (Str × V)))))) rfl rfl) ?_
 refine eX ?_
 refine bR ?_
 refine sX ?_
 refine sS rfl rfl rfl ((z15 Tryz.underlying68 rfl rfl rfl).wk ((Wk.iface Wk.tok).trans (Wk.eq (z4t _).symm))) ?_
 refine sX ?_
 refine sS rfl rfl rfl ((z15 Tryz.underlying68 rfl rfl rfl).wk ((Wk.iface Wk.tok).trans (Wk.eq (z4t _).symm))) ?_
 refine sX ?_
 refine sS rfl rfl rfl ((z15 Tryz.underlying68 rfl rfl rfl).wk ((Wk.iface Wk.tok).trans (Wk.eq (z4t _).symm))) ?_
 obtain ⟨x1, hx1, h⟩ := obind h
 refine sS rfl rfl rfl (z08 rfl Z2h rfl (wkr (wkr (wkr (wkr .nil)))) ⟨(ids_V (V.dict ([(([97] : Str), (V.int 1)), (([98] : Str), (V.int 1))] : (List (Str × V))))), ⟨(ids_V (V.dict ([(([97] : Str), (V.int 2)), (([98] : Str), (V.int 1))] : (List (Str × V))))), ⟨(ids_V (V.dict ([(([97] : Str), (V.int 1)), (([99] : Str), (V.int 3))] : (List (Str × V))))), ⟨rfl, trivial⟩⟩⟩⟩ (Z0n (V.dict ([(([97] : Str), (V.int 1)), (([98] : Str), (V.int 1))] : (List (Str × V)))) (V.dict ([(([97] : Str), (V.int 2)), (([98] : Str), (V.int 1))] : (List (Str × V)))) (V.dict ([(([97] : Str), (V.int 1)), (([99] : Str), (V.int 3))] : (List (Str × V)))) x1 hx1) (z00 (ids_V x1.1) (z00 (z05 z0a x1.2.1) (z00 rfl z04)))) ?_
 iterate 6 refine sX ?_
 refine eX ?_
 refine bR ?_
 refine sX ?_
 refine sS rfl rfl rfl ((z15 Tryz.underlying68 rfl rfl rfl).wk ((Wk.iface Wk.tok).trans (Wk.eq (z4t _).symm))) ?_
 refine sX ?_
 refine sS rfl rfl rfl ((z15 Tryz.underlying68 rfl rfl rfl).wk ((Wk.iface Wk.tok).trans (Wk.eq (z4t _).symm))) ?_
 refine sS rfl rfl rfl ((z15 Tryz.underlying2 rfl rfl rfl).wk ((Wk.iface (Wk.refl _)).trans (Wk.eq (z8p _).symm))) ?_
 refine sS rfl rfl rfl (z12 (cs := [(ofStr ([97] : Str)), (ofV (V.int 3))]) z9g z13 rfl rfl (by simp only [List.all_cons, List.all_nil, z2l, z16, Bool.and_true, Bool.true_and]; try rfl) (by simp only [z2c, List.getElem?_cons_zero, List.getElem?_cons_succ, z0u, z0k]; rfl)) ?_
 refine sS rfl rfl rfl ((z15 Tryz.underlying2 rfl rfl rfl).wk ((Wk.iface (Wk.refl _)).trans (Wk.eq (z8p _).symm))) ?_
 refine sS rfl rfl rfl (z12 (cs := [(ofStr ([98] : Str)), (ofV (V.int 1))]) z9g z13 rfl rfl (by simp only [List.all_cons, List.all_nil, z2l, z16, Bool.and_true, Bool.true_and]; try rfl) (by simp only [z2c, List.getElem?_cons_zero, List.getElem?_cons_succ, z0u, z0k]; rfl)) ?_
 refine sS rfl rfl rfl ((z1a (xs := [(PV.agg [(ofStr ([97] : Str)), (ofV (V.int 3))]), (PV.agg [(ofStr ([98] : Str)), (ofV (V.int 1))])]) Tryz.underlying68 z13 rfl rfl rfl (by simp only [List.all_cons, List.all_nil, z2l, z16, Bool.and_true, Bool.true_and]; try rfl) (by simp only [List.all_cons, List.all_nil, csz_V, z2p, z0u, z0k]; try rfl) rfl ⟨lbE rfl, lbE rfl⟩ (by simp only [z8y, z2c, List.flatMap_cons, List.flatMap_nil, z0u, z0k]; try rfl)).cast (y := (PV.sl (some 3) 86 2 (List.map ofFld ([(([97] : Str), (V.int 3)), (([98] : Str), (V.int 1))] : (List (Str × V)))))) rfl rfl) ?_
 refine sS rfl rfl rfl ((z15 Tryz.underlying68 rfl rfl rfl).wk ((Wk.iface Wk.tok).trans (Wk.eq (z4t _).symm))) ?_
 obtain ⟨x2, hx2, h⟩ := obind h
 refine sS rfl rfl rfl (z08 rfl Z2h rfl (wkr (wkr (wkr (wkr .nil)))) ⟨(ids_V (V.dict ([(([97] : Str), (V.int 1)), (([98] : Str), (V.int 1))] : (List (Str × V))))), ⟨(ids_V (V.dict ([(([97] : Str), (V.int 2)), (([98] : Str), (V.int 1))] : (List (Str × V))))), ⟨(ids_V (V.dict ([(([97] : Str), (V.int 3)), (([98] : Str), (V.int 1))] : (List (Str × V))))), ⟨rfl, trivial⟩⟩⟩⟩ (Z0n (V.dict ([(([97] : Str), (V.int 1)), (([98] : Str), (V.int 1))] : (List (Str × V)))) (V.dict ([(([97] : Str), (V.int 2)), (([98] : Str), (V.int 1))] : (List (Str × V)))) (V.dict ([(([97] : Str), (V.int 3)), (([98] : Str), (V.int 1))] : (List (Str × V)))) x2 hx2) (z00 (ids_V x2.1) (z00 (z05 z0a x2.2.1) (z00 rfl z04)))) ?_
 iterate 6 refine sX ?_
 refine eX ?_
 refine z0f (zq5 ?_)
 iterate 3 refine sX ?_
 refine z0t (t := 53) rfl ?_ ?_
 intro hb3; replace h := z10 hb3 h
 iterate 3 refine yX ?_
 iterate 2 refine sX ?_
 refine z0t (t := 58) rfl ?_ ?_
 intro hb4; replace h := z10 hb4 h
 refine yX ?_
 refine z23 rfl rfl rfl rfl rfl rfl ((z15 Tryz.underlying2 rfl rfl rfl).wk ((Wk.iface (Wk.refl _)).trans (Wk.eq (z8p _).symm))) ?_
 refine z23 rfl rfl rfl rfl rfl rfl (z12 (cs := [(ofStr ([97] : Str)), (ofV (V.int 2))]) z9g z13 rfl rfl (by simp only [List.all_cons, List.all_nil, z2l, z16, Bool.and_true, Bool.true_and]; try rfl) (by simp only [z2c, List.getElem?_cons_zero, List.getElem?_cons_succ, z0u, z0k]; rfl)) ?_
 refine z23 rfl rfl rfl rfl rfl rfl ((z15 Tryz.underlying2 rfl rfl rfl).wk ((Wk.iface (Wk.refl _)).trans (Wk.eq (z8p _).symm))) ?_
 refine z23 rfl rfl rfl rfl rfl rfl (z12 (cs := [(ofStr ([99] : Str)), (ofV (V.int 3))]) z9g z13 rfl rfl (by simp only [List.all_cons, List.all_nil, z2l, z16, Bool.and_true, Bool.true_and]; try rfl) (by simp only [z2c, List.getElem?_cons_zero, List.getElem?_cons_succ, z0u, z0k]; rfl)) ?_
 refine z23 rfl rfl rfl rfl rfl rfl ((z1a (xs := [(PV.agg [(ofStr ([97] : Str)), (ofV (V.int 2))]), (PV.agg [(ofStr ([99] : Str)), (ofV (V.int 3))])]) Tryz.underlying68 z13 rfl rfl rfl (by simp only [List.all_cons, List.all_nil, z2l, z16, Bool.and_true, Bool.true_and]; try rfl) (by simp only [List.all_cons, List.all_nil, csz_V, z2p, z0u, z0k]; try rfl) rfl ⟨lbE rfl, lbE rfl⟩ (by simp only [z8y, z2c, List.flatMap_cons, List.flatMap_nil, z0u, z0k]; try rfl)).cast (y := (PV.sl (some 4) 86 2 (List.map ofFld ([(([97] : Str), (V.int 2)), (([99] : Str), (V.int 3))] : (List (Str × V)))))) rfl rfl) ?_
 refine z23 rfl rfl rfl rfl rfl rfl ((z15 Tryz.underlying68 rfl rfl rfl).wk ((Wk.iface Wk.tok).trans (Wk.eq (z4t _).symm))) ?_
 obtain ⟨x5, hx5, h⟩ := obind h
 refine z23 rfl rfl rfl rfl rfl rfl (z08 rfl zxn rfl (wkr (wkr .nil)) ⟨(ids_V x1.1), ⟨(ids_V (V.dict ([(([97] : Str), (V.int 2)), (([99] : Str), (V.int 3))] : (List (Str × V))))), trivial⟩⟩ (zvg x1.1 (V.dict ([(([97] : Str), (V.int 2)), (([99] : Str), (V.int 3))] : (List (Str × V)))) x5 hx5) rfl) ?_
 iterate 2 refine sX ?_
 refine z0t (t := 68) rfl ?_ ?_
 intro hb6; replace h := z10 hb6 h
 iterate 2 refine yX ?_
 iterate 2 refine sX ?_
 refine z0t (t := 72) rfl ?_ ?_
 intro hb7; replace h := z10 hb7 h
 iterate 3 refine yX ?_
 iterate 2 refine sX ?_
 refine z0t (t := 77) rfl ?_ ?_
 intro hb8; replace h := z10 hb8 h
 refine yX ?_
 obtain ⟨x9, hx9, h⟩ := obind h
 refine z23 rfl rfl rfl rfl rfl rfl (z1p (i := 0) Tryz.underlying59 zcf rfl rfl rfl hx9 rfl) ?_
 iterate 4 refine yX ?_
 iterate 2 refine sX ?_
 refine z0t (t := 85) rfl ?_ ?_
 intro hb10; replace h := z10 hb10 h
 refine yX ?_
 obtain ⟨x11, hx11, h⟩ := obind h
 refine z23 rfl rfl rfl rfl rfl rfl (z1p (i := 0) Tryz.underlying59 zcf rfl rfl rfl hx11 rfl) ?_
 iterate 2 refine yX ?_
 obtain ⟨x12, hx12, h⟩ := obind h
 refine z23 rfl rfl rfl rfl rfl rfl (z1p (i := 0) Tryz.underlying47 z1u rfl rfl rfl hx12 rfl) ?_
 iterate 2 refine yX ?_
 refine z23 rfl rfl rfl rfl rfl rfl ((z2r (a := x12.f_Name) (b := ([97] : Str)) rfl rfl rfl rfl).cast (y := (BO ((x12.f_Name == ([97] : Str))))) rfl rfl) ?_
 refine sX ?_
 refine eX ?_
 obtain rfl := eI h; exact z06 eK
 intro hb10; replace h := z11 hb10 h
 iterate 8 refine nX ?_
 refine sX ?_
 refine eX ?_
 obtain rfl := eI h; exact z06 eK
 intro hb8; replace h := z11 hb8 h
 iterate 6 refine nX ?_
 iterate 2 refine sX ?_
 iterate 8 refine nX ?_
 refine sX ?_
 refine eX ?_
 obtain rfl := eI h; exact z06 eK
 intro hb7; replace h := z11 hb7 h
 iterate 3 refine nX ?_
 iterate 2 refine sX ?_
 iterate 6 refine nX ?_
 iterate 2 refine sX ?_
 iterate 8 refine nX ?_
 refine sX ?_
 refine eX ?_
 obtain rfl := eI h; exact z06 eK
 intro hb6; replace h := z11 hb6 h
 iterate 2 refine nX ?_
 iterate 2 refine sX ?_
 iterate 3 refine nX ?_
 iterate 2 refine sX ?_
 iterate 6 refine nX ?_
 iterate 2 refine sX ?_
 iterate 8 refine nX ?_
 refine sX ?_
 refine eX ?_
 obtain rfl := eI h; exact z06 eK
 intro hb4; replace h := z11 hb4 h
 iterate 8 refine nX ?_
 iterate 2 refine sX ?_
 iterate 2 refine nX ?_
 iterate 2 refine sX ?_
 iterate 3 refine nX ?_
 iterate 2 refine sX ?_
 iterate 6 refine nX ?_
 iterate 2 refine sX ?_
 iterate 8 refine nX ?_
 refine sX ?_
 refine eX ?_
 obtain rfl := eI h; exact z06 eK
 intro hb3; replace h := z11 hb3 h
 iterate 3 refine nX ?_
 iterate 2 refine sX ?_
 iterate 8 refine nX ?_
 iterate 2 refine sX ?_
 iterate 2 refine nX ?_
 iterate 2 refine sX ?_
 iterate 3 refine nX ?_
 iterate 2 refine sX ?_
 iterate 6 refine nX ?_
 iterate 2 refine sX ?_
 iterate 8 refine nX ?_
 refine sX ?_
 refine eX ?_
 obtain rfl := eI h; exact z06 eK
noncomputable def zp1 (a0 : Int) : Option V :=
 bif ((Int.tmod a0 14) == 0) then (
 some (V.alien ⟨3, rfl⟩)
 ) else (
 bif ((Int.tmod a0 14) == 1) then (
 some (V.alien ⟨5, rfl⟩)
 ) else (
 bif ((Int.tmod a0 14) == 2) then (
 some (V.alien ⟨101, rfl⟩)
 ) else (
 bif ((Int.tmod a0 14) == 3) then (
 some (V.alien ⟨1, rfl⟩)
 ) else (
 bif ((Int.tmod a0 14) == 4) then (
 some (V.alien ⟨104, rfl⟩)
 ) else (
 bif ((Int.tmod a0 14) == 5) then (
 some (V.alien ⟨65, rfl⟩)
 ) else (
 bif ((Int.tmod a0 14) == 6) then (
 some (V.alien ⟨105, rfl⟩)
 ) else (
 bif ((Int.tmod a0 14) == 7) then (
 some (V.alien ⟨106, rfl⟩)
 ) else (
 bif ((Int.tmod a0 14) == 8) then (
 some (V.alien ⟨72, rfl⟩)
 ) else (
 bif ((Int.tmod a0 14) == 9) then (
 some (V.alien ⟨67, rfl⟩)
 ) else (
 bif ((Int.tmod a0 14) == 10) then (
 some (V.alien ⟨107, rfl⟩)
 ) else (
 bif ((Int.tmod a0 14) == 11) then (
 some (V.alien ⟨34, rfl⟩)
 ) else (
 bif ((Int.tmod a0 14) == 12) then (
 some (V.alien ⟨108, rfl⟩)
 ) else (
 some (V.alien ⟨109, rfl⟩)
 )
 )
 )
 )
 )
 )
 )
 )
 )
 )
 )
 )
 )
theorem Z6w (a0 : Int) (r : V) (h : zp1 a0 = some r) : z0p Tryz.prog 22 [(I64 a0)] (ofV r) := by
 unfold zp1 at h
 refine z0j Tryz.func22 rfl Tryz.ntmps22 Tryz.results22 rfl (z0n ?_)
 change BW _ _ _ ⟨[(0, (I64 a0))], [], _⟩ _
 refine bR ?_
 refine eX ?_
 refine z0f ?_
 refine bR ?_
 refine sX ?_
 refine sS rfl rfl rfl (Z1d rfl rfl rfl (by decide)) (z0h ?_)
 refine cBx ?_
 refine z0o ?_
 refine cBx ?_
 refine bR ?_
 refine sX ?_
 refine eX ?_
 refine cX h rfl ?_ ?_
 intro hc1 h
 refine bR ?_
 refine sS rfl rfl rfl ((z15 Tryz.underlying3 rfl rfl rfl).wk ((Wk.iface Wk.junk).trans (Wk.eq (z3c ⟨3, rfl⟩).symm))) ?_
 refine eX ?_
 obtain rfl := eI h; exact z06 ⟨_, rfl, z0r (y := (ofV (V.alien ⟨3, rfl⟩))) (Wk.refl _) (ids_V (V.alien ⟨3, rfl⟩)) ⟨rfl, rfl⟩⟩
 intro hc1 h
 refine bR ?_
 refine sX ?_
 refine eX ?_
 refine cX h rfl ?_ ?_
 intro hc2 h
 refine bR ?_
 refine sS rfl rfl rfl ((z15 Tryz.underlying5 rfl rfl rfl).wk ((Wk.iface Wk.junk).trans (Wk.eq (z3c ⟨5, rfl⟩).symm))) ?_
 refine eX ?_
 obtain rfl := eI h; exact z06 ⟨_, rfl, z0r (y := (ofV (V.alien ⟨5, rfl⟩))) (Wk.refl _) (ids_V (V.alien ⟨5, rfl⟩)) ⟨rfl, rfl⟩⟩
 intro hc2 h
 refine bR ?_
 refine sX ?_
 refine eX ?_
 refine cX h rfl ?_ ?_
 intro hc3 h
 refine bR ?_
 refine zv8 rfl rfl rfl rfl rfl rfl rfl Tryz.underlying101 Tryz.underlying9 ?_
 refine sX ?_
 refine sS rfl rfl rfl ((z15 Tryz.underlying101 rfl rfl rfl).wk ((Wk.iface Wk.junk).trans (Wk.eq (z3c ⟨101, rfl⟩).symm))) ?_
 refine eX ?_
 obtain rfl := eI h; exact z06 ⟨_, rfl, z0r (y := (ofV (V.alien ⟨101, rfl⟩))) (Wk.refl _) (ids_V (V.alien ⟨101, rfl⟩)) ⟨rfl, rfl⟩⟩
 intro hc3 h
 refine bR ?_
 refine sX ?_
 refine eX ?_
 refine cX h rfl ?_ ?_
 intro hc4 h
 refine bR ?_
 refine sS rfl rfl rfl ((z15 Tryz.underlying1 rfl rfl rfl).wk ((Wk.iface Wk.junk).trans (Wk.eq (z3c ⟨1, rfl⟩).symm))) ?_
 refine eX ?_
 obtain rfl := eI h; exact z06 ⟨_, rfl, z0r (y := (ofV (V.alien ⟨1, rfl⟩))) (Wk.refl _) (ids_V (V.alien ⟨1, rfl⟩)) ⟨rfl, rfl⟩⟩
 intro hc4 h
 refine bR ?_
 refine sX ?_
 refine eX ?_
 refine cX h rfl ?_ ?_
 intro hc5 h
 refine bR ?_
 refine sS rfl rfl rfl ((z1a (xs := [(I64 1)]) Tryz.underlying102 zxa rfl rfl rfl rfl rfl rfl ⟨lbE rfl, lbE rfl⟩ rfl).cast (y := (PV.sl (some 0) 3 1 (List.map (ofI .i64) ([1] : (List Int))))) rfl rfl) ?_
 refine sS rfl rfl rfl (z12 (cs := [(PV.sl (some 0) 3 1 (List.map (ofI .i64) ([1] : (List Int))))]) zz4 Z20 rfl rfl rfl rfl) ?_
 refine sS rfl rfl rfl ((z15 Tryz.underlying104 rfl rfl rfl).wk ((Wk.iface Wk.junk).trans (Wk.eq (z3c ⟨104, rfl⟩).symm))) ?_
 refine eX ?_
 obtain rfl := eI h; exact z06 ⟨_, rfl, z0r (y := (ofV (V.alien ⟨104, rfl⟩))) (Wk.refl _) (ids_V (V.alien ⟨104, rfl⟩)) ⟨rfl, rfl⟩⟩
 intro hc5 h
 refine bR ?_
 refine sX ?_
 refine eX ?_
 refine cX h rfl ?_ ?_
 intro hc6 h
 refine bR ?_
 refine sS rfl rfl rfl ((z15 Tryz.underlying4 rfl rfl rfl).wk ((Wk.iface (Wk.refl _)).trans (Wk.eq (ztf _).symm))) ?_
 refine sS rfl rfl rfl ((z1a (xs := [(ofV (V.bool true))]) Tryz.underlying65 z1v rfl rfl rfl (by simp only [List.all_cons, List.all_nil, z2l, z16, Bool.and_true, Bool.true_and]; try rfl) (by simp only [List.all_cons, List.all_nil, csz_V, z2p, z0u, z0k]; try rfl) rfl ⟨lbE rfl, lbE rfl⟩ (by simp only [z8y, z2c, List.flatMap_cons, List.flatMap_nil, z0u, z0k]; try rfl)).cast (y := (PV.sl (some 0) 20 1 (List.map ofV ([(V.bool true)] : (List V))))) rfl rfl) ?_
 refine sS rfl rfl rfl ((z15 Tryz.underlying65 rfl rfl rfl).wk ((Wk.iface Wk.junk).trans (Wk.eq (z3c ⟨65, rfl⟩).symm))) ?_
 refine eX ?_
 obtain rfl := eI h; exact z06 ⟨_, rfl, z0r (y := (ofV (V.alien ⟨65, rfl⟩))) (Wk.refl _) (ids_V (V.alien ⟨65, rfl⟩)) ⟨rfl, rfl⟩⟩
 intro hc6 h
 refine bR ?_
 refine sX ?_
 refine eX ?_
 refine cX h rfl ?_ ?_
 intro hc7 h
 refine bR ?_
 refine sS rfl rfl rfl ((z15 Tryz.underlying105 rfl rfl rfl).wk ((Wk.iface Wk.junk).trans (Wk.eq (z3c ⟨105, rfl⟩).symm))) ?_
 refine eX ?_
 obtain rfl := eI h; exact z06 ⟨_, rfl, z0r (y := (ofV (V.alien ⟨105, rfl⟩))) (Wk.refl _) (ids_V (V.alien ⟨105, rfl⟩)) ⟨rfl, rfl⟩⟩
 intro hc7 h
 refine bR ?_
 refine sX ?_
 refine eX ?_
 refine cX h rfl ?_ ?_
 intro hc8 h
 refine bR ?_
 refine sS rfl rfl rfl ((z15 Tryz.underlying106 rfl rfl rfl).wk ((Wk.iface Wk.junk).trans (Wk.eq (z3c ⟨106, rfl⟩).symm))) ?_
 refine eX ?_
 obtain rfl := eI h; exact z06 ⟨_, rfl, z0r (y := (ofV (V.alien ⟨106, rfl⟩))) (Wk.refl _) (ids_V (V.alien ⟨106, rfl⟩)) ⟨rfl, rfl⟩⟩
 intro hc8 h
 refine bR ?_
 refine sX ?_
 refine eX ?_
 refine cX h rfl ?_ ?_
 intro hc9 h
 refine bR ?_
 refine sS rfl rfl rfl (z12 (cs := [(ofStr ([97] : Str)), (I64 1), (PV.v (.slice none 0 0))]) zkl zfu rfl rfl rfl rfl) ?_
 refine sS rfl rfl rfl ((z15 Tryz.underlying72 rfl rfl rfl).wk ((Wk.iface Wk.junk).trans (Wk.eq (z3c ⟨72, rfl⟩).symm))) ?_
 refine eX ?_
 obtain rfl := eI h; exact z06 ⟨_, rfl, z0r (y := (ofV (V.alien ⟨72, rfl⟩))) (Wk.refl _) (ids_V (V.alien ⟨72, rfl⟩)) ⟨rfl, rfl⟩⟩
 intro hc9 h
 refine bR ?_
 refine sX ?_
 refine eX ?_
 refine cX h rfl ?_ ?_
 intro hc10 h
 refine bR ?_
 refine sS rfl rfl rfl ((z1a (xs := []) Tryz.underlying67 z13 rfl rfl rfl rfl rfl rfl ⟨lbE rfl, lbE rfl⟩ rfl).cast (y := (PV.sl (some 0) 86 2 (List.map ofFld ([] : (List (Str × V)))))) rfl rfl) ?_
 refine sS rfl rfl rfl ((z15 Tryz.underlying67 rfl rfl rfl).wk ((Wk.iface Wk.junk).trans (Wk.eq (z3c ⟨67, rfl⟩).symm))) ?_
 refine eX ?_
 obtain rfl := eI h; exact z06 ⟨_, rfl, z0r (y := (ofV (V.alien ⟨67, rfl⟩))) (Wk.refl _) (ids_V (V.alien ⟨67, rfl⟩)) ⟨rfl, rfl⟩⟩
 intro hc10 h
 refine bR ?_
 refine sX ?_
 refine eX ?_
 refine cX h rfl ?_ ?_
 intro hc11 h
 refine bR ?_
 refine eX ?_
 refine bR ?_
 refine sX ?_
 refine sS rfl rfl rfl ((z15 Tryz.underlying107 rfl rfl rfl).wk ((Wk.iface Wk.junk).trans (Wk.eq (z3c ⟨107, rfl⟩).symm))) ?_
 refine eX ?_
 obtain rfl := eI h; exact z06 ⟨_, rfl, z0r (y := (ofV (V.alien ⟨107, rfl⟩))) (Wk.refl _) (ids_V (V.alien ⟨107, rfl⟩)) ⟨rfl, rfl⟩⟩
 intro hc11 h
 refine bR ?_
 refine sX ?_
 refine eX ?_
 refine cX h rfl ?_ ?_
 intro hc12 h
 refine bR ?_
 refine sS rfl rfl rfl ((z15 Tryz.underlying34 rfl rfl rfl).wk ((Wk.iface Wk.junk).trans (Wk.eq (z3c ⟨34, rfl⟩).symm))) ?_
 refine eX ?_
 obtain rfl := eI h; exact z06 ⟨_, rfl, z0r (y := (ofV (V.alien ⟨34, rfl⟩))) (Wk.refl _) (ids_V (V.alien ⟨34, rfl⟩)) ⟨rfl, rfl⟩⟩
 intro hc12 h
 refine bR ?_
 refine sX ?_
 refine eX ?_
 refine cX h rfl ?_ ?_
 intro hc13 h
 refine bR ?_
 refine eX ?_
 refine bR ?_
 refine sX ?_
 refine sS rfl rfl rfl ((z15 Tryz.underlying108 rfl rfl rfl).wk ((Wk.iface Wk.junk).trans (Wk.eq (z3c ⟨108, rfl⟩).symm))) ?_
 refine eX ?_
 obtain rfl := eI h; exact z06 ⟨_, rfl, z0r (y := (ofV (V.alien ⟨108, rfl⟩))) (Wk.refl _) (ids_V (V.alien ⟨108, rfl⟩)) ⟨rfl, rfl⟩⟩
 intro hc13 h
 refine z0g ?_
 refine cBx ?_
 refine bR ?_
 refine sS rfl rfl rfl (Op1.junk (zja (cs := [(I64 1), (I64 2)]) Tryz.underlying109 Z1z zxa rfl rfl rfl rfl)) ?_
 refine sS rfl rfl rfl ((z15 Tryz.underlying109 rfl rfl rfl).wk ((Wk.iface Wk.junk).trans (Wk.eq (z3c ⟨109, rfl⟩).symm))) ?_
 refine eX ?_
 obtain rfl := eI h; exact z06 ⟨_, rfl, z0r (y := (ofV (V.alien ⟨109, rfl⟩))) (Wk.refl _) (ids_V (V.alien ⟨109, rfl⟩)) ⟨rfl, rfl⟩⟩
noncomputable def z63 (r_q24 : Term → Option V) (a0 : (List (Str × Term))) (g1 : (List (Str × V)) → Nat → Option (List (Str × V))) (s1 : (List (Str × V))) (s2 : Nat) : Option (List (Str × V)) :=
 bif (decide (((s2 : Nat) : Int) < (((a0).length : Nat) : Int))) then (
 ((a0)[s2]?).bind fun x5 =>
 ((a0)[s2]?).bind fun x6 =>
 (r_q24 (x6.2)).bind fun x7 =>
 (zch 32 s1 ([(x5.1, x7)] : (List (Str × V)))).bind fun x8 =>
 g1 x8 (s2 + 1)
 ) else (
 some s1
 )
theorem zbf (r_q24 : OF ρ → Term → Option V) (h_r_q24 : ∀ y0, CM (fun G => r_q24 G y0)) (g1 : OF ρ → (List (Str × V)) → Nat → Option (List (Str × V))) (h_g1 : ∀ y0 y1, CM (fun G => g1 G y0 y1)) (a0 : (List (Str × Term))) (s1 : (List (Str × V))) (s2 : Nat) : CM (fun G : OF ρ => z63 (r_q24 G) a0 (g1 G) s1 s2) := by
 simp only [z63]
 repeat (first | exact z0i | exact h_r_q24 _ | exact h_g1 _ _ | refine z18 ?_ ?_ | refine z19 ?_ (fun _ => ?_))
noncomputable def zf7 (r_q24 : Term → Option V) (a0 : (List (Str × Term))) (s1 : (List (Str × V))) (s2 : Nat) : Option (List (Str × V)) :=
 z3q (ι := ((List (Str × V)) × Nat)) (ρ := fun _ => (List (Str × V))) (fun g i => z63 r_q24 a0 (fun s1 s2 => g (s1, s2)) i.1 i.2) (s1, s2)
theorem zhv (r_q24 : Term → Option V) (a0 : (List (Str × Term))) (s1 : (List (Str × V))) (s2 : Nat) : zf7 r_q24 a0 s1 s2 = z63 r_q24 a0 (zf7 r_q24 a0) s1 s2 :=
 z1j (ι := ((List (Str × V)) × Nat)) (ρ := fun _ => (List (Str × V))) (Φ := fun g i => z63 r_q24 a0 (fun s1 s2 => g (s1, s2)) i.1 i.2) (fun i => zbf (ι := ((List (Str × V)) × Nat)) (ρ := fun _ => (List (Str × V))) (fun _ => r_q24) (fun _ => z0i) (fun g => (fun s1 s2 => g (s1, s2))) (fun _ _ => z1l) a0 i.1 i.2) (s1, s2)
theorem zre (r_q24 : OF ρ → Term → Option V) (h_r_q24 : ∀ y0, CM (fun G => r_q24 G y0)) (a0 : (List (Str × Term))) (s1 : (List (Str × V))) (s2 : Nat) : CM (fun G : OF ρ => zf7 (r_q24 G) a0 s1 s2) :=
 z5z (κ := ((List (Str × V)) × Nat)) (τ := fun _ => (List (Str × V))) (Φ := fun G g i => z63 (r_q24 G) a0 (fun s1 s2 => g (s1, s2)) i.1 i.2) (fun g i => zbf r_q24 h_r_q24 (fun _ => (fun s1 s2 => g (s1, s2))) (fun _ _ => z0i) a0 i.1 i.2) (fun G i => zbf (ι := ((List (Str × V)) × Nat)) (ρ := fun _ => (List (Str × V))) (fun _ => r_q24 G) (fun _ => z0i) (fun g => (fun s1 s2 => g (s1, s2))) (fun _ _ => z1l) a0 i.1 i.2) (s1, s2)
noncomputable def zlx (r_q27 : (List (Str × Term)) → Option (List (Str × V))) (r_q24 : Term → Option V) (a0 : (List (Str × Term))) : Option (List (Str × V)) :=
 zf7 r_q24 a0 ([] : (List (Str × V))) 0
theorem zy7 (r_q27 : OF ρ → (List (Str × Term)) → Option (List (Str × V))) (h_r_q27 : ∀ y0, CM (fun G => r_q27 G y0)) (r_q24 : OF ρ → Term → Option V) (h_r_q24 : ∀ y0, CM (fun G => r_q24 G y0)) (a0 : (List (Str × Term))) : CM (fun G : OF ρ => zlx (r_q27 G) (r_q24 G) a0) := by
 simp only [zlx]
 repeat (first | exact z0i | exact h_r_q27 _ | exact h_r_q24 _ | apply zre | refine z18 ?_ ?_ | refine z19 ?_ (fun _ => ?_) | intro _ | assumption)
noncomputable def z64 (r_q24 : Term → Option V) (a0 : Term) (g1 : (List V) → Nat → Option V) (s10 : (List V)) (s11 : Nat) : Option V :=
 bif (decide (((s11 : Nat) : Int) < (((a0.list).length : Nat) : Int))) then (
 ((a0.list)[s11]?).bind fun x14 =>
 (r_q24 x14).bind fun x15 =>
 (zch 16 s10 ([x15] : (List V))).bind fun x16 =>
 g1 x16 (s11 + 1)
 ) else (
 some (V.list s10)
 )
theorem zbg (r_q24 : OF ρ → Term → Option V) (h_r_q24 : ∀ y0, CM (fun G => r_q24 G y0)) (g1 : OF ρ → (List V) → Nat → Option V) (h_g1 : ∀ y0 y1, CM (fun G => g1 G y0 y1)) (a0 : Term) (s10 : (List V)) (s11 : Nat) : CM (fun G : OF ρ => z64 (r_q24 G) a0 (g1 G) s10 s11) := by
 simp only [z64]
 repeat (first | exact z0i | exact h_r_q24 _ | exact h_g1 _ _ | refine z18 ?_ ?_ | refine z19 ?_ (fun _ => ?_))
noncomputable def zdn (r_q24 : Term → Option V) (a0 : Term) (s10 : (List V)) (s11 : Nat) : Option V :=
 z3q (ι := ((List V) × Nat)) (ρ := fun _ => V) (fun g i => z64 r_q24 a0 (fun s10 s11 => g (s10, s11)) i.1 i.2) (s10, s11)
theorem zhy (r_q24 : Term → Option V) (a0 : Term) (s10 : (List V)) (s11 : Nat) : zdn r_q24 a0 s10 s11 = z64 r_q24 a0 (zdn r_q24 a0) s10 s11 :=
 z1j (ι := ((List V) × Nat)) (ρ := fun _ => V) (Φ := fun g i => z64 r_q24 a0 (fun s10 s11 => g (s10, s11)) i.1 i.2) (fun i => zbg (ι := ((List V) × Nat)) (ρ := fun _ => V) (fun _ => r_q24) (fun _ => z0i) (fun g => (fun s10 s11 => g (s10, s11))) (fun _ _ => z1l) a0 i.1 i.2) (s10, s11)
theorem zrf (r_q24 : OF ρ → Term → Option V) (h_r_q24 : ∀ y0, CM (fun G => r_q24 G y0)) (a0 : Term) (s10 : (List V)) (s11 : Nat) : CM (fun G : OF ρ => zdn (r_q24 G) a0 s10 s11) :=
 z5z (κ := ((List V) × Nat)) (τ := fun _ => V) (Φ := fun G g i => z64 (r_q24 G) a0 (fun s10 s11 => g (s10, s11)) i.1 i.2) (fun g i => zbg r_q24 h_r_q24 (fun _ => (fun s10 s11 => g (s10, s11))) (fun _ _ => z0i) a0 i.1 i.2) (fun G i => zbg (ι := ((List V) × Nat)) (ρ := fun _ => V) (fun _ => r_q24 G) (fun _ => z0i) (fun g => (fun s10 s11 => g (s10, s11))) (fun _ _ => z1l) a0 i.1 i.2) (s10, s11)
noncomputable def zly (r_q27 : (List (Str × Term)) → Option (List (Str × V))) (r_q24 : Term → Option V) (a0 : Term) : Option V :=
 bif (a0.kind == 1) then (
 some V.nil
 ) else (
 bif (a0.kind == 2) then (
 some (V.bool a0.bool)
 ) else (
 bif (a0.kind == 3) then (
 some (V.int a0.int)
 ) else (
 bif (a0.kind == 4) then (
 some (V.float a0.float)
 ) else (
 bif (a0.kind == 5) then (
 some (V.text a0.text)
 ) else (
 bif (a0.kind == 6) then (
 (zch 1 ([] : Str) a0.bytes).bind fun x7 =>
 some (V.bytes x7)
 ) else (
 bif (a0.kind == 7) then (
 some (V.ref a0.ref)
 ) else (
 bif (a0.kind == 8) then (
 zdn r_q24 a0 ([] : (List V)) 0
 ) else (
 bif (a0.kind == 9) then (
 (r_q27 a0.fields).bind fun x18 =>
 some (V.dict x18)
 ) else (
 bif (a0.kind == 10) then (
 (r_q27 a0.fields).bind fun x20 =>
 some (V.record a0.cls a0.ver x20)
 ) else (
 bif (a0.kind == 11) then (
 some V.nothing
 ) else (
 (zp1 a0.int).bind fun x22 =>
 some x22
 )
 )
 )
 )
 )
 )
 )
 )
 )
 )
 )
theorem zy8 (r_q27 : OF ρ → (List (Str × Term)) → Option (List (Str × V))) (h_r_q27 : ∀ y0, CM (fun G => r_q27 G y0)) (r_q24 : OF ρ → Term → Option V) (h_r_q24 : ∀ y0, CM (fun G => r_q24 G y0)) (a0 : Term) : CM (fun G : OF ρ => zly (r_q27 G) (r_q24 G) a0) := by
 simp only [zly]
 repeat (first | exact z0i | exact h_r_q27 _ | exact h_r_q24 _ | apply zrf | refine z18 ?_ ?_ | refine z19 ?_ (fun _ => ?_) | intro _ | assumption)
inductive C_q27 where
 | k_q27 (a0 : (List (Str × Term)))
 | k_q24 (a0 : Term)
def C_q27.R : C_q27 → Type
 | .k_q27 _ => (List (Str × V))
 | .k_q24 _ => V
noncomputable def C_q27.F (g : ∀ i : C_q27, Option i.R) : ∀ i : C_q27, Option i.R
 | .k_q27 a0 => zlx (fun a0 => g (.k_q27 a0)) (fun a0 => g (.k_q24 a0)) a0
 | .k_q24 a0 => zly (fun a0 => g (.k_q27 a0)) (fun a0 => g (.k_q24 a0)) a0
noncomputable def zvz (a0 : (List (Str × Term))) : Option (List (Str × V)) := z3q C_q27.F (.k_q27 a0)
noncomputable def z9h (a0 : Term) : Option V := z3q C_q27.F (.k_q24 a0)
abbrev Z9s := fun (g : ∀ i : C_q27, Option i.R) a0 => g (.k_q27 a0)
theorem Z9q (a0 : _) : CM (ρ := C_q27.R) (fun g => g (C_q27.k_q27 a0)) := z1l
abbrev Z9r := fun (g : ∀ i : C_q27, Option i.R) a0 => g (.k_q24 a0)
theorem Z9p (a0 : _) : CM (ρ := C_q27.R) (fun g => g (C_q27.k_q24 a0)) := z1l
theorem C_q27.cm (i : C_q27) : CM (fun g : (∀ i : C_q27, Option i.R) => C_q27.F g i) := by
 cases i with
 | k_q27 a0 => exact zy7 Z9s Z9q Z9r Z9p a0
 | k_q24 a0 => exact zy8 Z9s Z9q Z9r Z9p a0
theorem Z8t (a0 : (List (Str × Term))) : zvz a0 = zlx zvz z9h a0 := z1j C_q27.cm (.k_q27 a0)
theorem Z8u (a0 : Term) : z9h a0 = zly zvz z9h a0 := z1j C_q27.cm (.k_q24 a0)
def C_q27.Q : ∀ i : C_q27, i.R → Prop
 | .k_q27 a0 => fun (r : (List (Str × V))) => z0p Tryz.prog 21 [(PV.sl none 100 12 (List.map z47 a0))] (PV.sl none 86 2 (List.map ofFld r))
 | .k_q24 a0 => fun (r : V) => z0p Tryz.prog 6 [(z2w a0)] (ofV r)
theorem zqq (r_q27 : (List (Str × Term)) → Option (List (Str × V))) (c_q27 : ∀ (a0 : (List (Str × Term))) r, r_q27 a0 = some r → z0p Tryz.prog 21 [(PV.sl none 100 12 (List.map z47 a0))] (PV.sl none 86 2 (List.map ofFld r))) (r_q24 : Term → Option V) (c_q24 : ∀ (a0 : Term) r, r_q24 a0 = some r → z0p Tryz.prog 6 [(z2w a0)] (ofV r)) (a0 : (List (Str × Term))) (r : (List (Str × V))) (h : zlx r_q27 r_q24 a0 = some r) : z0p Tryz.prog 21 [(PV.sl none 100 12 (List.map z47 a0))] (PV.sl none 86 2 (List.map ofFld r)) := by
 unfold zlx at h
 refine z0j Tryz.func21 rfl Tryz.ntmps21 Tryz.results21 rfl (z0n ?_)
 change BW _ _ _ ⟨[(0, (PV.sl none 100 12 (List.map z47 a0)))], [], _⟩ _
 refine bR ?_
 refine eX ?_
 refine bR ?_
 refine sS rfl rfl rfl ((z1a (xs := []) Tryz.underlying68 z13 rfl rfl rfl rfl rfl rfl ⟨lbE rfl, lbE rfl⟩ rfl).cast (y := (PV.sl (some 0) 86 2 (List.map ofFld ([] : (List (Str × V)))))) rfl rfl) ?_
 refine eX ?_
 refine z0f ?_
 refine bR ?_
 refine eX ?_
 refine z0o ?_
 refine cBx ?_
 unfold zf7 at h
 refine z3p (σ := ((List (Str × V)) × Nat)) (fun i => [(0, (PV.sl none 100 12 (List.map z47 a0))), (3, (PV.sl (some 0) 86 2 (List.map ofFld i.1))), (4, (I64 (((i.2 : Nat) : Int))))]) (fun i => [.arr 86 (i.1).length]) (([] : (List (Str × V))), 0) h ?_ ?_ ?_
 intro i; exact ⟨lbE rfl, ⟨(z07 (z05 z72 _)), ⟨(z2x rfl (z0s z0m _)), ⟨(z07 rfl), trivial⟩⟩⟩, trivial⟩
 exact jN
 rintro g1_f ⟨s1, s2⟩ h; replace h : z63 r_q24 a0 (fun y0 y1 => g1_f (y0, y1)) s1 s2 = some r := h; unfold z63 at h
 change BW _ _ _ ⟨[(0, (PV.sl none 100 12 (List.map z47 a0))), (3, (PV.sl (some 0) 86 2 (List.map ofFld s1))), (4, (I64 (((s2 : Nat) : Int))))], [.arr 86 (s1).length], _⟩ _
 refine z0f ?_
 refine bR ?_
 iterate 3 refine sX ?_
 refine eX ?_
 refine z4a (t := 7) rfl fun hb4 => ?_
 try rw [List.length_map] at hb4
 refine cX h rfl ?_ ?_
 intro hc3 h
 have hc3_ := of_decide_eq_true hc3
 refine z0g ?_
 refine cBx ?_
 refine z0f ?_
 refine z0o ?_
 refine cBx ?_
 refine z1w 14 [13] [] mo (by kernel_rfl) ?_
 iterate 3 refine gX ?_
 obtain ⟨x5, hx5, h⟩ := obind h
 refine z1r rfl rfl rfl rfl (fun H hp => z1p (i := s2) Tryz.underlying27 zei rfl rfl rfl hx5 (zbw _)) ?_
 iterate 4 refine gX ?_
 obtain ⟨x6, hx6, h⟩ := obind h
 refine z1r rfl rfl rfl rfl (fun H hp => z1p (i := s2) Tryz.underlying27 zei rfl rfl rfl hx6 (zbw _)) ?_
 iterate 2 refine gX ?_
 obtain ⟨x7, hx7, h⟩ := obind h
 refine z1r rfl rfl rfl rfl (fun H hp => z08 rfl Z5j rfl (wkr .nil) ⟨(z8s (x6.2)), trivial⟩ (c_q24 (x6.2) x7 hx7) (ids_V x7)) ?_
 refine z1r rfl rfl rfl rfl (fun H hp => z12 (cs := [(ofStr x5.1), (ofV x7)]) z9g z13 rfl rfl (by simp only [List.all_cons, List.all_nil, z2l, z16, Bool.and_true, Bool.true_and]; try rfl) (by simp only [z2c, List.getElem?_cons_zero, List.getElem?_cons_succ, z0u, z0k]; rfl)) ?_
 refine zci rfl rfl rfl rfl ((z1a (xs := [(PV.agg [(ofStr x5.1), (ofV x7)])]) Tryz.underlying68 z13 rfl rfl rfl (by simp only [List.all_cons, List.all_nil, z2l, z16, Bool.and_true, Bool.true_and]; try rfl) (by simp only [List.all_cons, List.all_nil, csz_V, z2p, z0u, z0k]; try rfl) rfl ⟨lbE rfl, lbE rfl⟩ (by simp only [z8y, z2c, List.flatMap_cons, List.flatMap_nil, z0u, z0k]; try rfl)).cast (y := (PV.sl (some 1) 86 2 (List.map ofFld ([(x5.1, x7)] : (List (Str × V)))))) rfl rfl) trivial ?_
 refine z20 ?_
 change AO _ _ _ _ _
 obtain ⟨x8, hx8, h⟩ := obind h
 refine sS rfl rfl rfl (z34 Tryz.underlying68 z13 rfl Tryz.underlying68 rfl rfl rfl rfl z7w z75 hx8 rfl) ?_
 refine eX ?_
 refine z0l ?_
 refine sX ?_
 refine sS rfl rfl rfl (z2o (k := s2) (c := 1) rfl rfl rfl (by omega)) ?_
 refine sX (z0h ?_)
 exact ⟨rfl, (x8, (s2 + 1)), h, jN⟩
 intro hc3 h
 refine z2b ?_
 refine cBx ?_
 refine bR ?_
 refine sX ?_
 refine eX ?_
 obtain rfl := eI h; exact z06 ⟨_, rfl, z0r (y := (PV.sl none 86 2 (List.map ofFld s1))) Wk.tok (z05 z0m s1) ⟨rfl, rfl⟩⟩
theorem zoh (r_q27 : (List (Str × Term)) → Option (List (Str × V))) (c_q27 : ∀ (a0 : (List (Str × Term))) r, r_q27 a0 = some r → z0p Tryz.prog 21 [(PV.sl none 100 12 (List.map z47 a0))] (PV.sl none 86 2 (List.map ofFld r))) (r_q24 : Term → Option V) (c_q24 : ∀ (a0 : Term) r, r_q24 a0 = some r → z0p Tryz.prog 6 [(z2w a0)] (ofV r)) (a0 : Term) (r : V) (h : zly r_q27 r_q24 a0 = some r) : z0p Tryz.prog 6 [(z2w a0)] (ofV r) := by
 unfold zly at h
 refine z0j Tryz.func6 rfl Tryz.ntmps6 Tryz.results6 rfl (z0n ?_)
 change BW _ _ _ ⟨[(0, (z2w a0))], [], _⟩ _
 refine bR ?_
 refine sX ?_
 refine eX ?_
 refine z0f ?_
 refine bR ?_
 refine sX ?_
 refine eX ?_
 refine z0o ?_
 refine cBx ?_
 refine bR ?_
 refine sX ?_
 refine eX ?_
 refine cX h rfl ?_ ?_
 intro hc1 h
 refine bR ?_
 refine eX ?_
 obtain rfl := eI h; exact z06 ⟨_, rfl, z0r (y := (ofV V.nil)) (Wk.eq mk_nil.symm) (ids_V V.nil) ⟨rfl, rfl⟩⟩
 intro hc1 h
 refine bR ?_
 refine sX ?_
 refine eX ?_
 refine cX h rfl ?_ ?_
 intro hc2 h
 refine bR ?_
 iterate 2 refine sX ?_
 refine sS rfl rfl rfl ((z15 Tryz.underlying4 rfl rfl rfl).wk ((Wk.iface (Wk.refl _)).trans (Wk.eq (ztf _).symm))) ?_
 refine eX ?_
 obtain rfl := eI h; exact z06 ⟨_, rfl, z0r (y := (ofV (V.bool a0.bool))) (Wk.refl _) (ids_V (V.bool a0.bool)) ⟨rfl, rfl⟩⟩
 intro hc2 h
 refine bR ?_
 refine sX ?_
 refine eX ?_
 refine cX h rfl ?_ ?_
 intro hc3 h
 refine bR ?_
 iterate 2 refine sX ?_
 refine sS rfl rfl rfl ((z15 Tryz.underlying2 rfl rfl rfl).wk ((Wk.iface (Wk.refl _)).trans (Wk.eq (z8p _).symm))) ?_
 refine eX ?_
 obtain rfl := eI h; exact z06 ⟨_, rfl, z0r (y := (ofV (V.int a0.int))) (Wk.refl _) (ids_V (V.int a0.int)) ⟨rfl, rfl⟩⟩
 intro hc3 h
 refine bR ?_
 refine sX ?_
 refine eX ?_
 refine cX h rfl ?_ ?_
 intro hc4 h
 refine bR ?_
 iterate 2 refine sX ?_
 refine sS rfl rfl rfl ((z15 Tryz.underlying22 rfl rfl rfl).wk ((Wk.iface (Wk.refl _)).trans (Wk.eq (zx6 _).symm))) ?_
 refine eX ?_
 obtain rfl := eI h; exact z06 ⟨_, rfl, z0r (y := (ofV (V.float a0.float))) (Wk.refl _) (ids_V (V.float a0.float)) ⟨rfl, rfl⟩⟩
 intro hc4 h
 refine bR ?_
 refine sX ?_
 refine eX ?_
 refine cX h rfl ?_ ?_
 intro hc5 h
 refine bR ?_
 iterate 2 refine sX ?_
 refine sS rfl rfl rfl ((z15 Tryz.underlying9 rfl rfl rfl).wk ((Wk.iface (Wk.refl _)).trans (Wk.eq (Z1o _).symm))) ?_
 refine eX ?_
 obtain rfl := eI h; exact z06 ⟨_, rfl, z0r (y := (ofV (V.text a0.text))) (Wk.refl _) (ids_V (V.text a0.text)) ⟨rfl, rfl⟩⟩
 intro hc5 h
 refine bR ?_
 refine sX ?_
 refine eX ?_
 refine cX h rfl ?_ ?_
 intro hc6 h
 refine bR ?_
 refine sS rfl rfl rfl ((z1a (xs := []) Tryz.underlying23 inf_5 rfl rfl rfl rfl rfl rfl ⟨lbE rfl, lbE rfl⟩ rfl).cast (y := (PV.sl (some 1) 5 1 (List.map ofB ([] : Str)))) rfl rfl) ?_
 iterate 2 refine sX ?_
 obtain ⟨x7, hx7, h⟩ := obind h
 refine sS rfl rfl rfl (z34 Tryz.underlying23 inf_5 rfl Tryz.underlying23 rfl rfl rfl rfl (fun _ => rfl) (fun _ => rfl) hx7 rfl) ?_
 refine sS rfl rfl rfl ((z15 Tryz.underlying23 rfl rfl rfl).wk ((Wk.iface Wk.tok).trans (Wk.eq (znf _).symm))) ?_
 refine eX ?_
 obtain rfl := eI h; exact z06 ⟨_, rfl, z0r (y := (ofV (V.bytes x7))) (Wk.refl _) (ids_V (V.bytes x7)) ⟨rfl, rfl⟩⟩
 intro hc6 h
 refine bR ?_
 refine sX ?_
 refine eX ?_
 refine cX h rfl ?_ ?_
 intro hc8 h
 refine bR ?_
 iterate 2 refine sX ?_
 refine sS rfl rfl rfl ((z15 Tryz.underlying25 rfl rfl rfl).wk ((Wk.iface (Wk.refl _)).trans (Wk.eq (Z4v _).symm))) ?_
 refine eX ?_
 obtain rfl := eI h; exact z06 ⟨_, rfl, z0r (y := (ofV (V.ref a0.ref))) (Wk.refl _) (ids_V (V.ref a0.ref)) ⟨rfl, rfl⟩⟩
 intro hc8 h
 refine bR ?_
 refine sX ?_
 refine eX ?_
 refine cX h rfl ?_ ?_
 intro hc9 h
 refine bR ?_
 refine sS rfl rfl rfl ((z1a (xs := []) Tryz.underlying66 z1v rfl rfl rfl rfl rfl rfl ⟨lbE rfl, lbE rfl⟩ rfl).cast (y := (PV.sl (some 1) 20 1 (List.map ofV ([] : (List V))))) rfl rfl) ?_
 refine eX ?_
 refine z0f ?_
 refine bR ?_
 refine eX ?_
 refine z0o ?_
 refine cBx ?_
 unfold zdn at h
 refine z3p (σ := ((List V) × Nat)) (fun i => [(1, (PV.rf 0 0)), (3, (PV.sl (some 1) 20 1 (List.map ofV i.1))), (4, (I64 (((i.2 : Nat) : Int))))]) (fun i => [.box 29 [(I64 a0.kind), (BO a0.bool), (I64 a0.int), (PV.v (.float .f64 a0.float)), (ofStr a0.text), (PV.sl none 5 1 (List.map ofB a0.bytes)), (PV.v (.int .u64 a0.ref)), (PV.sl none 29 11 (List.map z5t a0.list)), (PV.sl none 100 12 (List.map z47 a0.fields)), (ofStr a0.cls), (I64 a0.ver)], .arr 20 (i.1).length]) (([] : (List V)), 0) h ?_ ?_ ?_
 intro i; exact ⟨lbE rfl, ⟨(il_rf rfl), ⟨(z2x rfl (z0s ids_V _)), ⟨(z07 rfl), trivial⟩⟩⟩, ⟨⟨(z07 rfl), ⟨(z07 rfl), ⟨(z07 rfl), ⟨(z07 rfl), ⟨(z07 rfl), ⟨(z07 (z05 (fun _ => rfl) _)), ⟨(z07 rfl), ⟨(z07 (z05 z9c _)), ⟨(z07 (z05 z72 _)), ⟨(z07 rfl), ⟨(z07 rfl), trivial⟩⟩⟩⟩⟩⟩⟩⟩⟩⟩⟩, trivial⟩⟩
 exact jN
 rintro g1_f ⟨s10, s11⟩ h; replace h : z64 r_q24 a0 (fun y0 y1 => g1_f (y0, y1)) s10 s11 = some r := h; unfold z64 at h
 change BW _ _ _ ⟨[(1, (PV.rf 0 0)), (3, (PV.sl (some 1) 20 1 (List.map ofV s10))), (4, (I64 (((s11 : Nat) : Int))))], [.box 29 [(I64 a0.kind), (BO a0.bool), (I64 a0.int), (PV.v (.float .f64 a0.float)), (ofStr a0.text), (PV.sl none 5 1 (List.map ofB a0.bytes)), (PV.v (.int .u64 a0.ref)), (PV.sl none 29 11 (List.map z5t a0.list)), (PV.sl none 100 12 (List.map z47 a0.fields)), (ofStr a0.cls), (I64 a0.ver)], .arr 20 (s10).length], _⟩ _
 refine z0f ?_
 refine bR ?_
 iterate 4 refine sX ?_
 refine eX ?_
 refine z4a (t := 47) rfl fun hb13 => ?_
 try rw [List.length_map] at hb13
 refine cX h rfl ?_ ?_
 intro hc12 h
 have hc12_ := of_decide_eq_true hc12
 refine z0g ?_
 refine cBx ?_
 refine z0f ?_
 refine z0o ?_
 refine cBx ?_
 refine z0l ?_
 iterate 4 refine sX ?_
 obtain ⟨x14, hx14, h⟩ := obind h
 refine sS rfl rfl rfl (z1p (i := s11) Tryz.underlying26 zjq rfl rfl rfl hx14 (zat _)) ?_
 refine sX ?_
 obtain ⟨x15, hx15, h⟩ := obind h
 refine sS rfl rfl rfl (z08 rfl Z5j rfl (wkr .nil) ⟨(z8s x14), trivial⟩ (c_q24 x14 x15 hx15) (ids_V x15)) ?_
 refine sS rfl rfl rfl ((z1a (xs := [(ofV x15)]) Tryz.underlying66 z1v rfl rfl rfl (by simp only [List.all_cons, List.all_nil, z2l, z16, Bool.and_true, Bool.true_and]; try rfl) (by simp only [List.all_cons, List.all_nil, csz_V, z2p, z0u, z0k]; try rfl) rfl ⟨lbE rfl, lbE rfl⟩ (by simp only [z8y, z2c, List.flatMap_cons, List.flatMap_nil, z0u, z0k]; try rfl)).cast (y := (PV.sl (some 2) 20 1 (List.map ofV ([x15] : (List V))))) rfl rfl) ?_
 obtain ⟨x16, hx16, h⟩ := obind h
 refine sS rfl rfl rfl (z34 Tryz.underlying66 z1v rfl Tryz.underlying66 rfl rfl rfl rfl csz_V z7x hx16 rfl) ?_
 refine eX ?_
 refine z0l ?_
 refine sX ?_
 refine sS rfl rfl rfl (z2o (k := s11) (c := 1) rfl rfl rfl (by omega)) ?_
 refine sX (z0h ?_)
 exact ⟨rfl, (x16, (s11 + 1)), h, jN⟩
 intro hc12 h
 refine z2b ?_
 refine cBx ?_
 refine bR ?_
 refine sX ?_
 refine sS rfl rfl rfl ((z15 Tryz.underlying66 rfl rfl rfl).wk ((Wk.iface Wk.tok).trans (Wk.eq (zby _).symm))) ?_
 refine eX ?_
 obtain rfl := eI h; exact z06 ⟨_, rfl, z0r (y := (ofV (V.list s10))) (Wk.refl _) (ids_V (V.list s10)) ⟨rfl, rfl⟩⟩
 intro hc9 h
 refine bR ?_
 refine sX ?_
 refine eX ?_
 refine cX h rfl ?_ ?_
 intro hc17 h
 refine bR ?_
 iterate 2 refine sX ?_
 obtain ⟨x18, hx18, h⟩ := obind h
 refine sS rfl rfl rfl (z08 rfl Z5n rfl (wkr .nil) ⟨(z05 z72 a0.fields), trivial⟩ (c_q27 a0.fields x18 hx18) (z05 z0m x18)) ?_
 refine sS rfl rfl rfl ((z15 Tryz.underlying68 rfl rfl rfl).wk ((Wk.iface (Wk.refl _)).trans (Wk.eq (z4t _).symm))) ?_
 refine eX ?_
 obtain rfl := eI h; exact z06 ⟨_, rfl, z0r (y := (ofV (V.dict x18))) (Wk.refl _) (ids_V (V.dict x18)) ⟨rfl, rfl⟩⟩
 intro hc17 h
 refine bR ?_
 refine sX ?_
 refine eX ?_
 refine cX h rfl ?_ ?_
 intro hc19 h
 refine z0f (z1w 7 [] [0] mo (by kernel_rfl) ?_)
 iterate 6 refine gX ?_
 obtain ⟨x20, hx20, h⟩ := obind h
 refine z1r rfl rfl rfl rfl (fun H hp => z08 rfl Z5n rfl (wkr .nil) ⟨(z05 z72 a0.fields), trivial⟩ (c_q27 a0.fields x20 hx20) (z05 z0m x20)) ?_
 refine z20 ?_
 change AO _ _ _ _ _
 refine sS rfl rfl rfl (z12 (cs := [(ofStr a0.cls), (I64 a0.ver), (PV.sl none 86 2 (List.map ofFld x20))]) zkl zfu rfl rfl rfl rfl) ?_
 refine sX ?_
 refine sS rfl rfl rfl (z15 Tryz.underlying70 rfl rfl rfl) ?_
 refine eX ?_
 refine z4v 1 2 (y := (ofV (V.record a0.cls a0.ver x20))) rfl rfl ((Wk.iface (Wk.pt (x := .agg [(ofStr a0.cls), (I64 a0.ver), (PV.sl none 86 2 (List.map ofFld x20))]) (y := zgy (Rec.mk a0.cls a0.ver x20)) (wkr (wkr (wkr .nil))))).trans (Wk.eq (zfp (some (Rec.mk a0.cls a0.ver x20))).symm)) ?_
 obtain rfl := eI h; exact z06 ⟨_, rfl, z0r (y := (ofV (V.record a0.cls a0.ver x20))) (Wk.refl _) (ids_V (V.record a0.cls a0.ver x20)) ⟨rfl, rfl⟩⟩
 intro hc19 h
 refine bR ?_
 refine sX ?_
 refine eX ?_
 refine cX h rfl ?_ ?_
 intro hc21 h
 refine bR ?_
 refine eX ?_
 refine bR ?_
 refine sX ?_
 refine sS rfl rfl rfl ((z15 Tryz.underlying70 rfl rfl rfl).wk (Wk.eq (zfp none).symm)) ?_
 refine eX ?_
 obtain rfl := eI h; exact z06 ⟨_, rfl, z0r (y := (ofV V.nothing)) (Wk.refl _) (ids_V V.nothing) ⟨rfl, rfl⟩⟩
 intro hc21 h
 refine z0g ?_
 refine cBx ?_
 refine bR ?_
 iterate 2 refine sX ?_
 obtain ⟨x22, hx22, h⟩ := obind h
 refine sS rfl rfl rfl (z08 rfl Z8p rfl (wkr .nil) ⟨rfl, trivial⟩ (Z6w a0.int x22 hx22) (ids_V x22)) ?_
 refine eX ?_
 obtain rfl := eI h; exact z06 ⟨_, rfl, z0r (y := (ofV x22)) (Wk.refl _) (ids_V x22) ⟨rfl, rfl⟩⟩
theorem C_q27.sound : ∀ (i : C_q27) (r : i.R), z3q C_q27.F i = some r → C_q27.Q i r := by
 refine z50 (Φ := C_q27.F) (Q := C_q27.Q) ?_
 intro g hg i r h
 cases i with
 | k_q27 a0 => exact zqq (fun a0 => g (.k_q27 a0)) (fun a0 r hr => hg (.k_q27 a0) r hr) (fun a0 => g (.k_q24 a0)) (fun a0 r hr => hg (.k_q24 a0) r hr) a0 r h
 | k_q24 a0 => exact zoh (fun a0 => g (.k_q27 a0)) (fun a0 r hr => hg (.k_q27 a0) r hr) (fun a0 => g (.k_q24 a0)) (fun a0 r hr => hg (.k_q24 a0) r hr) a0 r h
theorem Z0h (a0 : Term) (r : V) (h : z9h a0 = some r) : z0p Tryz.prog 6 [(z2w a0)] (ofV r) := C_q27.sound (.k_q24 a0) r h
noncomputable def zew (a0 : S_api_Step) (a1 : (List S_api_Step)) : Option (List S_api_Step) :=
 (zj5 a1).bind fun x1 =>
 (zch 32 x1 ([a0] : (List S_api_Step))).bind fun x2 =>
 some x2
theorem zok (a0 : S_api_Step) (a1 r : (List S_api_Step)) (h : zew a0 a1 = some r) : z0p Tryz.prog 56 [(z01 a0), (PV.pt 47 (PV.sl none 82 3 (List.map z01 a1)) 0)] (PV.sl none 82 3 (List.map z01 r)) := by
 unfold zew at h
 refine z0j Tryz.func56 rfl Tryz.ntmps56 Tryz.results56 rfl (z0n ?_)
 change BW _ _ _ ⟨[(0, (z01 a0)), (1, (PV.pt 47 (PV.sl none 82 3 (List.map z01 a1)) 0))], [], _⟩ _
 refine bR ?_
 refine sX ?_
 refine eX ?_
 refine z0f (z1w 4 [1] [0] mo (by kernel_rfl) ?_)
 refine gX ?_
 obtain ⟨x1, hx1, h⟩ := obind h
 refine zci rfl rfl rfl rfl (z4m rfl zxj rfl (wkr .nil) ⟨(z05 z02 a1), trivial⟩ (zvk a1 x1 hx1) (z6o (z0s z02 _) rfl) rfl) ⟨rfl, trivial⟩ ?_
 refine gX ?_
 refine z1r rfl rfl rfl rfl (fun H hp => (zeb (xs := [(PV.agg [(ofStr a0.f_Name), (BO a0.f_At), (I64 a0.f_Index)])]) Tryz.underlying47 z1u rfl rfl rfl rfl rfl rfl ⟨lbE rfl, lbE rfl⟩ rfl).cast (y := (PV.sl none 82 3 (List.map z01 ([a0] : (List S_api_Step))))) rfl rfl) ?_
 refine z20 ?_
 change AO _ _ _ _ _
 obtain ⟨x2, hx2, h⟩ := obind h
 refine sS rfl rfl rfl (z34 Tryz.underlying47 z1u rfl Tryz.underlying47 rfl rfl rfl rfl z3r z37 hx2 rfl) ?_
 refine eX ?_
 obtain rfl := eI h; exact z06 ⟨_, rfl, z0r (y := (PV.sl none 82 3 (List.map z01 x2))) Wk.tok (z05 z02 x2) ⟨rfl, rfl⟩⟩
noncomputable def zsj (a0 : V) : Option V :=
 (ze1 a0).bind fun x1 =>
 some x1.1
theorem Z73 (a0 r : V) (h : zsj a0 = some r) : z0p Tryz.prog 35 [(ofV a0)] (ofV r) := by
 unfold zsj at h
 refine z0j Tryz.func35 rfl Tryz.ntmps35 Tryz.results35 rfl (z0n ?_)
 change BW _ _ _ ⟨[(0, (ofV a0))], [], _⟩ _
 refine bR ?_
 refine eX ?_
 refine bR ?_
 refine sX ?_
 obtain ⟨x1, hx1, h⟩ := obind h
 refine sS rfl rfl rfl (z08 rfl Z2f rfl (wkr .nil) ⟨(ids_V a0), trivial⟩ (Z0k a0 x1 hx1) (z00 (ids_V x1.1) (z00 rfl z04))) ?_
 iterate 4 refine sX ?_
 refine eX ?_
 refine bR ?_
 refine sX ?_
 refine eX ?_
 obtain rfl := eI h; exact z06 ⟨_, rfl, z0r (y := (ofV x1.1)) (Wk.refl _) (ids_V x1.1) ⟨rfl, rfl⟩⟩
noncomputable def zcm (a0 : Int) (a1 : (List S_api_Step)) (a2 : V) (a3 : (List S_api_Edit)) : Option (List S_api_Edit) :=
 (zpf a1).bind fun x1 =>
 (zsj a2).bind fun x2 =>
 (zch 48 a3 ([(S_api_Edit.mk a0 x1 x2)] : (List S_api_Edit))).bind fun x3 =>
 some x3
theorem zr4 (a0 : Int) (a1 : (List S_api_Step)) (a2 : V) (a3 r : (List S_api_Edit)) (h : zcm a0 a1 a2 a3 = some r) : z2t Tryz.prog 33 [(I64 a0), (PV.sl none 82 3 (List.map z01 a1)), (ofV a2), (PV.rf 0 0)] [.box 41 [(PV.sl (some 1) 49 3 (List.map z0b a3))], .arr 49 (a3).length] (PV.tup []) [.box 41 [(PV.sl (some 1) 49 3 (List.map z0b r))], .arr 49 (r).length] := by
 unfold zcm at h
 refine z0j Tryz.func33 rfl Tryz.ntmps33 Tryz.results33 rfl (z0n ?_)
 change BW _ _ _ ⟨[(0, (I64 a0)), (1, (PV.sl none 82 3 (List.map z01 a1))), (2, (ofV a2)), (3, (PV.rf 0 0))], [.box 41 [(PV.sl (some 1) 49 3 (List.map z0b a3))], .arr 49 (a3).length], _⟩ _
 refine z1w 8 [7] [0] mo (by kernel_rfl) ?_
 iterate 3 refine gX ?_
 obtain ⟨x1, hx1, h⟩ := obind h
 refine z1r rfl rfl rfl rfl (fun H hp => z08 rfl Z5k rfl (wkr .nil) ⟨(z05 z02 a1), trivial⟩ (Z4a a1 x1 hx1) (z05 z02 x1)) ?_
 refine gX ?_
 obtain ⟨x2, hx2, h⟩ := obind h
 refine z1r rfl rfl rfl rfl (fun H hp => z08 rfl Z8o rfl (wkr .nil) ⟨(ids_V a2), trivial⟩ (Z73 a2 x2 hx2) (ids_V x2)) ?_
 refine z1r rfl rfl rfl rfl (fun H hp => z12 (cs := [(I64 a0), (PV.sl none 82 3 (List.map z01 x1)), (ofV x2)]) Z3p zcg rfl rfl (by simp only [List.all_cons, List.all_nil, z2l, z16, Bool.and_true, Bool.true_and]; try rfl) (by simp only [z2c, List.getElem?_cons_zero, List.getElem?_cons_succ, z0u, z0k]; rfl)) ?_
 refine zci rfl rfl rfl rfl ((z1a (xs := [(PV.agg [(I64 a0), (PV.sl none 82 3 (List.map z01 x1)), (ofV x2)])]) Tryz.underlying41 zcg rfl rfl rfl (by simp only [List.all_cons, List.all_nil, z2l, z16, Bool.and_true, Bool.true_and]; try rfl) (by simp only [List.all_cons, List.all_nil, csz_V, z2p, z0u, z0k]; try rfl) rfl ⟨lbE rfl, lbE rfl⟩ (by simp only [z8y, z2c, List.flatMap_cons, List.flatMap_nil, z0u, z0k]; try rfl)).cast (y := (PV.sl (some 2) 49 3 (List.map z0b ([(S_api_Edit.mk a0 x1 x2)] : (List S_api_Edit))))) rfl rfl) ⟨rfl, trivial⟩ ?_
 refine z20 ?_
 change AO _ _ _ _ _
 obtain ⟨x3, hx3, h⟩ := obind h
 refine sS rfl rfl rfl (z34 Tryz.underlying41 zcg rfl Tryz.underlying41 rfl rfl rfl rfl zey zcp hx3 rfl) ?_
 refine z14 rfl rfl (z0y zzj rfl rfl rfl rfl rfl rfl (lbE rfl) rfl) ?_
 refine z0h ?_
 change ∃ xs, _ = some xs ∧ EndOk _ _ _ _
 obtain rfl := Option.some.inj h
 exact ⟨_, rfl, endR (y := (PV.tup [])) 2 (Wk.refl _) rfl rfl (.tup .nil) (.cons (.box (.cons (.row rfl (z0s z0e x3)) .nil)) (.cons .arr .nil)) ⟨rfl, rfl⟩⟩
end Go.Proofs.YtmoijodjgkfhgaaGreat
