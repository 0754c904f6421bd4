/- Pure functions, and that calls answer as they say. -/
import Derived.Test.YthidgpcbnieleaaGreatDoorG5
namespace Go.Proofs.YthidgpcbnieleaaGreatDoor
open Go Aw
set_option linter.unusedVariables false
set_option linter.unusedSimpArgs false
set_option maxRecDepth 20000
set_option maxHeartbeats 2000000
variable {ι : Type} {ρ : ι → Type}
noncomputable def zg8 (a0 : V) (x1 : S_api_Step) (s4 : Int) : Option (V × Int) :=
 bif (s4 != 0) then (
 some (V.nil, s4)
 ) else (
 (zgj a0 x1).bind fun x6 =>
 some (x6, 0)
 )
noncomputable def zaf (a0 : V) (x1 : S_api_Step) (x3 : (V × Int)) (s7 : Bool) : Option (V × Int) :=
 bif s7 then (
 zg8 a0 x1 0
 ) else (
 zg8 a0 x1 x3.2
 )
noncomputable def zmm (r_q09 : V → (List S_api_Step) → Bool → Option (V × Int)) (a0 : V) (a1 : (List S_api_Step)) (a2 : Bool) : Option (V × Int) :=
 ((a1)[0]?).bind fun x1 =>
 bif ((((a1).length : Nat) : Int) == 1) then (
 (z7w a0 x1).bind fun x3 =>
 bif a2 then (
 bif (x3.2 == 40) then (
 zaf a0 x1 x3 true
 ) else (
 bif (x3.2 == 42) then (
 bif (a0).isList then (
 zaf a0 x1 x3 (x1.f_Index == ((((a0).asList).length : Nat) : Int))
 ) else (
 zaf a0 x1 x3 false
 )
 ) else (
 zaf a0 x1 x3 false
 )
 )
 ) else (
 zaf a0 x1 x3 false
 )
 ) else (
 (z7w a0 x1).bind fun x13 =>
 bif (x13.2 != 0) then (
 some (V.nil, x13.2)
 ) else (
 (zhe a1 1 ((a1).length : Int)).bind fun x15 =>
 (r_q09 x13.1 x15 a2).bind fun x16 =>
 bif (x16.2 != 0) then (
 some (V.nil, x16.2)
 ) else (
 (zcn a0 x1 x16.1).bind fun x18 =>
 some (x18, 0)
 )
 )
 )
theorem zto (r_q09 : OF ρ → V → (List S_api_Step) → Bool → Option (V × Int)) (h_r_q09 : ∀ y0 y1 y2, CM (fun G => r_q09 G y0 y1 y2)) (a0 : V) (a1 : (List S_api_Step)) (a2 : Bool) : CM (fun G : OF ρ => zmm (r_q09 G) a0 a1 a2) := by
 simp only [zmm]
 repeat (first | exact z0e | exact h_r_q09 _ _ _ | apply q09_j2_cm | refine z13 ?_ ?_ | refine z14 ?_ (fun _ => ?_) | intro _ | assumption)
inductive C_q09 where
 | k_q09 (a0 : V) (a1 : (List S_api_Step)) (a2 : Bool)
def C_q09.R : C_q09 → Type
 | .k_q09 _ _ _ => (V × Int)
noncomputable def C_q09.F (g : ∀ i : C_q09, Option i.R) : ∀ i : C_q09, Option i.R
 | .k_q09 a0 a1 a2 => zmm (fun a0 a1 a2 => g (.k_q09 a0 a1 a2)) a0 a1 a2
noncomputable def zlv (a0 : V) (a1 : (List S_api_Step)) (a2 : Bool) : Option (V × Int) := z3r C_q09.F (.k_q09 a0 a1 a2)
abbrev Z4b := fun (g : ∀ i : C_q09, Option i.R) a0 a1 a2 => g (.k_q09 a0 a1 a2)
theorem Z48 (a0 a1 a2 : _) : CM (ρ := C_q09.R) (fun g => g (C_q09.k_q09 a0 a1 a2)) := z1h
theorem C_q09.cm (i : C_q09) : CM (fun g : (∀ i : C_q09, Option i.R) => C_q09.F g i) := by
 cases i with
 | k_q09 a0 a1 a2 => exact zto Z4b Z48 a0 a1 a2
theorem Z33 (a0 : V) (a1 : (List S_api_Step)) (a2 : Bool) : zlv a0 a1 a2 = zmm zlv a0 a1 a2 := z1f C_q09.cm (.k_q09 a0 a1 a2)
def C_q09.Q : ∀ i : C_q09, i.R → Prop
 | .k_q09 a0 a1 a2 => fun (r : (V × Int)) => z0l Tryz.prog 33 [(ofV a0), (PV.sl none 83 3 (List.map z02 a1)), (BO a2), (PV.fn (.func 53) [] [])] (PV.tup [(ofV r.1), (I64 r.2)])
theorem z4l (r_q09 : V → (List S_api_Step) → Bool → Option (V × Int)) (c_q09 : ∀ (a0 : V) (a1 : (List S_api_Step)) (a2 : Bool) r, r_q09 a0 a1 a2 = some r → z0l Tryz.prog 33 [(ofV a0), (PV.sl none 83 3 (List.map z02 a1)), (BO a2), (PV.fn (.func 53) [] [])] (PV.tup [(ofV r.1), (I64 r.2)])) (a0 : V) (a1 : (List S_api_Step)) (a2 : Bool) (r : (V × Int)) (h : zmm r_q09 a0 a1 a2 = some r) : z0l Tryz.prog 33 [(ofV a0), (PV.sl none 83 3 (List.map z02 a1)), (BO a2), (PV.fn (.func 53) [] [])] (PV.tup [(ofV r.1), (I64 r.2)]) := by
 unfold zmm at h
 refine z0c Tryz.func33 rfl Tryz.ntmps33 Tryz.results33 rfl (z0i ?_)
 change BW _ _ _ ⟨[(0, (ofV a0)), (1, (PV.sl none 83 3 (List.map z02 a1))), (2, (BO a2)), (3, (PV.fn (.func 53) [] []))], [], _⟩ _
 refine bR ?_
 refine sX ?_
 refine eX ?_
 refine bR ?_
 refine sX ?_
 obtain ⟨x1, hx1, h⟩ := obind h
 refine sS rfl rfl rfl (z1v (i := 0) Tryz.underlying30 z19 rfl rfl rfl hx1 rfl) ?_
 refine sX ?_
 refine sS rfl rfl rfl (z28 z19 rfl) ?_
 refine z1l rfl rfl (z1b z19 rfl rfl rfl rfl rfl rfl (lbE rfl) rfl) ?_
 refine z0b ?_
 refine cBx ?_
 refine z09 ?_
 refine bR ?_
 iterate 2 refine sX ?_
 refine eX ?_
 refine cX h rfl ?_ ?_
 intro hc2 h
 refine bR ?_
 iterate 2 refine sX ?_
 obtain ⟨x3, hx3, h⟩ := obind h
 refine sS rfl rfl rfl (z05 rfl zpx rfl (wkr (wkr .nil)) ⟨(ids_V a0), ⟨(z01 x1), trivial⟩⟩ (zn5 a0 x1 x3 hx3) (z00 (ids_V x3.1) (z00 rfl z03))) ?_
 iterate 4 refine sX ?_
 refine eX ?_
 refine bR ?_
 refine sX ?_
 refine sS rfl rfl rfl (z27 rfl rfl) ?_
 iterate 4 refine sX ?_
 refine eX ?_
 refine z2h (ι := Int) (fun i => zg8 a0 x1 i = some r) (fun i => [(0, (ofV a0)), (3, (PV.fn (.func 53) [] [])), (10, (PV.rf 0 0)), (12, (I64 i))]) (fun i => [.box 83 [(z0k x1.f_Name), (BO x1.f_At), (I64 x1.f_Index)]]) ?_ ?_ ?_
 intro i; exact ⟨lbE rfl, ⟨(z0a (ids_V _)), ⟨(z0a rfl), ⟨(il_rf rfl), ⟨(z0a rfl), trivial⟩⟩⟩⟩, ⟨⟨(z0a rfl), ⟨(z0a rfl), ⟨(z0a rfl), trivial⟩⟩⟩, trivial⟩⟩
 rintro s4 h; replace h : zg8 a0 x1 s4 = some r := h; unfold zg8 at h
 change BW _ _ _ ⟨[(0, (ofV a0)), (3, (PV.fn (.func 53) [] [])), (10, (PV.rf 0 0)), (12, (I64 s4))], [.box 83 [(z0k x1.f_Name), (BO x1.f_At), (I64 x1.f_Index)]], _⟩ _
 refine z09 ?_
 refine bR ?_
 refine sX ?_
 refine eX ?_
 refine cX h rfl ?_ ?_
 intro hc5 h
 refine bR ?_
 iterate 2 refine sX ?_
 refine eX ?_
 obtain rfl := eI h; exact z04 ⟨_, rfl, z0n (y := (PV.tup [(ofV V.nil), (I64 s4)])) (Wk.tup (.cons (Wk.eq mk_nil.symm) (wkr .nil))) (z00 (ids_V V.nil) (z00 rfl z03)) ⟨rfl, rfl⟩⟩
 intro hc5 h
 refine z08 ?_
 refine cBx ?_
 refine bR ?_
 iterate 3 refine sX ?_
 obtain ⟨x6, hx6, h⟩ := obind h
 refine sS rfl rfl rfl (z5j rfl rfl Z2i rfl (wkr (wkr .nil)) ⟨(ids_V a0), ⟨(z01 x1), trivial⟩⟩ (Z16 a0 x1 x6 hx6) (ids_V x6)) ?_
 refine sX ?_
 refine eX ?_
 obtain rfl := eI h; exact z04 ⟨_, rfl, z0n (y := (PV.tup [(ofV x6), (I64 0)])) (Wk.refl _) (z00 (ids_V x6) (z00 rfl z03)) ⟨rfl, rfl⟩⟩
 refine z2h (ι := Bool) (fun i => zaf a0 x1 x3 i = some r) (fun i => [(0, (ofV a0)), (3, (PV.fn (.func 53) [] [])), (10, (PV.rf 0 0)), (12, (I64 x3.2)), (53, (BO i))]) (fun i => [.box 83 [(z0k x1.f_Name), (BO x1.f_At), (I64 x1.f_Index)]]) ?_ ?_ ?_
 intro i; exact ⟨lbE rfl, ⟨(z0a (ids_V _)), ⟨(z0a rfl), ⟨(il_rf rfl), ⟨(z0a rfl), ⟨(z0a rfl), trivial⟩⟩⟩⟩⟩, ⟨⟨(z0a rfl), ⟨(z0a rfl), ⟨(z0a rfl), trivial⟩⟩⟩, trivial⟩⟩
 rintro s7 h; replace h : zaf a0 x1 x3 s7 = some r := h; unfold zaf at h
 change BW _ _ _ ⟨[(0, (ofV a0)), (3, (PV.fn (.func 53) [] [])), (10, (PV.rf 0 0)), (12, (I64 x3.2)), (53, (BO s7))], [.box 83 [(z0k x1.f_Name), (BO x1.f_At), (I64 x1.f_Index)]], _⟩ _
 refine cX h rfl ?_ ?_
 intro hc8 h
 refine z0f ?_
 refine sX (z0b ?_)
 exact ⟨rfl, 0, h, jN⟩
 intro hc8 h
 refine z08 ?_
 exact ⟨rfl, x3.2, h, jN⟩
 refine z0f ?_
 iterate 2 refine sX ?_
 refine z0p (t := 36) rfl ?_ ?_
 intro hb9; replace h := z0r hb9 h
 iterate 3 refine yX ?_
 refine z0p (t := 39) rfl ?_ ?_
 intro hb10; replace h := z0r hb10 h
 iterate 12 refine nX ?_
 refine yX ?_
 refine sX (z0b ?_)
 exact ⟨rfl, true, h, jN⟩
 intro hb10; replace h := z0s hb10 h
 iterate 3 refine yX ?_
 refine z0p (t := 42) rfl ?_ ?_
 intro hb11; replace h := z0r hb11 h
 iterate 3 refine yX ?_
 refine z0p (t := 45) rfl ?_ ?_
 intro hb12; replace h := z0r hb12 h
 iterate 7 refine yX ?_
 refine sX (z0b ?_)
 exact ⟨rfl, (x1.f_Index == ((((a0).asList).length : Nat) : Int)), h, jN⟩
 intro hb12; replace h := z0s hb12 h
 iterate 5 refine nX ?_
 iterate 2 refine yX ?_
 refine sX (z0b ?_)
 exact ⟨rfl, false, h, jN⟩
 intro hb11; replace h := z0s hb11 h
 refine nX ?_
 iterate 2 refine yX ?_
 iterate 5 refine nX ?_
 iterate 2 refine yX ?_
 refine sX (z0b ?_)
 exact ⟨rfl, false, h, jN⟩
 intro hb9; replace h := z0s hb9 h
 iterate 16 refine nX ?_
 refine sX (z0b ?_)
 exact ⟨rfl, false, h, jN⟩
 intro hc2 h
 refine z08 ?_
 refine cBx ?_
 refine bR ?_
 iterate 2 refine sX ?_
 obtain ⟨x13, hx13, h⟩ := obind h
 refine sS rfl rfl rfl (z05 rfl zpx rfl (wkr (wkr .nil)) ⟨(ids_V a0), ⟨(z01 x1), trivial⟩⟩ (zn5 a0 x1 x13 hx13) (z00 (ids_V x13.1) (z00 rfl z03))) ?_
 iterate 4 refine sX ?_
 refine eX ?_
 refine z09 ?_
 refine bR ?_
 refine sX ?_
 refine eX ?_
 refine cX h rfl ?_ ?_
 intro hc14 h
 refine bR ?_
 iterate 2 refine sX ?_
 refine eX ?_
 obtain rfl := eI h; exact z04 ⟨_, rfl, z0n (y := (PV.tup [(ofV V.nil), (I64 x13.2)])) (Wk.tup (.cons (Wk.eq mk_nil.symm) (wkr .nil))) (z00 (ids_V V.nil) (z00 rfl z03)) ⟨rfl, rfl⟩⟩
 intro hc14 h
 refine z08 ?_
 refine cBx ?_
 refine bR ?_
 iterate 2 refine sX ?_
 obtain ⟨x15, hx15, h⟩ := obind h
 refine sS rfl rfl rfl (zel (a := 1) (b := ((a1).length : Int)) Tryz.underlying30 z19 rfl rfl rfl rfl rfl rfl hx15) ?_
 iterate 2 refine sX ?_
 obtain ⟨x16, hx16, h⟩ := obind h
 refine sS rfl rfl rfl (z05 rfl zsv rfl (wkr (wkr (wkr (wkr .nil)))) ⟨(ids_V x13.1), ⟨(z06 z01 x15), ⟨rfl, ⟨rfl, trivial⟩⟩⟩⟩ (c_q09 x13.1 x15 a2 x16 hx16) (z00 (ids_V x16.1) (z00 rfl z03))) ?_
 iterate 4 refine sX ?_
 refine eX ?_
 refine z09 ?_
 refine bR ?_
 refine sX ?_
 refine eX ?_
 refine cX h rfl ?_ ?_
 intro hc17 h
 refine bR ?_
 iterate 2 refine sX ?_
 refine eX ?_
 obtain rfl := eI h; exact z04 ⟨_, rfl, z0n (y := (PV.tup [(ofV V.nil), (I64 x16.2)])) (Wk.tup (.cons (Wk.eq mk_nil.symm) (wkr .nil))) (z00 (ids_V V.nil) (z00 rfl z03)) ⟨rfl, rfl⟩⟩
 intro hc17 h
 refine z08 ?_
 refine cBx ?_
 refine bR ?_
 iterate 3 refine sX ?_
 obtain ⟨x18, hx18, h⟩ := obind h
 refine sS rfl rfl rfl (z05 rfl zx1 rfl (wkr (wkr (wkr .nil))) ⟨(ids_V a0), ⟨(z01 x1), ⟨(ids_V x16.1), trivial⟩⟩⟩ (zvb a0 x1 x16.1 x18 hx18) (ids_V x18)) ?_
 refine sX ?_
 refine eX ?_
 obtain rfl := eI h; exact z04 ⟨_, rfl, z0n (y := (PV.tup [(ofV x18), (I64 0)])) (Wk.refl _) (z00 (ids_V x18) (z00 rfl z03)) ⟨rfl, rfl⟩⟩
theorem C_q09.sound : ∀ (i : C_q09) (r : i.R), z3r C_q09.F i = some r → C_q09.Q i r := by
 refine z6a (Φ := C_q09.F) (Q := C_q09.Q) ?_
 intro g hg i r h
 cases i with
 | k_q09 a0 a1 a2 => exact z4l (fun a0 a1 a2 => g (.k_q09 a0 a1 a2)) (fun a0 a1 a2 r hr => hg (.k_q09 a0 a1 a2) r hr) a0 a1 a2 r h
theorem Z1g (a0 : V) (a1 : (List S_api_Step)) (a2 : Bool) (r : (V × Int)) (h : zlv a0 a1 a2 = some r) : z0l Tryz.prog 33 [(ofV a0), (PV.sl none 83 3 (List.map z02 a1)), (BO a2), (PV.fn (.func 53) [] [])] (PV.tup [(ofV r.1), (I64 r.2)]) := C_q09.sound (.k_q09 a0 a1 a2) r h
noncomputable def zoj (a0 : V) (a1 : (List S_api_Step)) : Option (V × Int) :=
 (zi2 a0 a1).bind fun x1 =>
 bif (x1 != 0) then (
 some (V.nil, x1)
 ) else (
 bif ((((a1).length : Nat) : Int) == 0) then (
 some (V.nil, 1)
 ) else (
 (zlv a0 a1 false).bind fun x4 =>
 bif (x4.2 != 0) then (
 some (V.nil, x4.2)
 ) else (
 (z9w x4.1).bind fun x6 =>
 some (x6.1, x6.2)
 )
 )
 )
theorem Z13 (a0 : V) (a1 : (List S_api_Step)) (r : (V × Int)) (h : zoj a0 a1 = some r) : z0l Tryz.prog 27 [(ofV a0), (PV.sl none 83 3 (List.map z02 a1))] (PV.tup [(ofV r.1), (I64 r.2)]) := by
 unfold zoj at h
 refine z0c Tryz.func27 rfl Tryz.ntmps27 Tryz.results27 rfl (z0i ?_)
 change BW _ _ _ ⟨[(0, (ofV a0)), (1, (PV.sl none 83 3 (List.map z02 a1)))], [], _⟩ _
 refine bR ?_
 refine sX ?_
 refine eX ?_
 refine z09 ?_
 refine bR ?_
 iterate 2 refine sX ?_
 obtain ⟨x1, hx1, h⟩ := obind h
 refine sS rfl rfl rfl (z05 rfl zx2 rfl (wkr (wkr .nil)) ⟨(ids_V a0), ⟨(z06 z01 a1), trivial⟩⟩ (zvc a0 a1 x1 hx1) rfl) ?_
 refine eX ?_
 refine bR ?_
 refine sX ?_
 refine eX ?_
 refine cX h rfl ?_ ?_
 intro hc2 h
 refine bR ?_
 iterate 2 refine sX ?_
 refine eX ?_
 obtain rfl := eI h; exact z04 ⟨_, rfl, z0n (y := (PV.tup [(ofV V.nil), (I64 x1)])) (Wk.tup (.cons (Wk.eq mk_nil.symm) (wkr .nil))) (z00 (ids_V V.nil) (z00 rfl z03)) ⟨rfl, rfl⟩⟩
 intro hc2 h
 refine z08 ?_
 refine cBx ?_
 refine z09 ?_
 refine bR ?_
 iterate 2 refine sX ?_
 refine eX ?_
 refine cX h rfl ?_ ?_
 intro hc3 h
 refine bR ?_
 refine sX ?_
 refine eX ?_
 obtain rfl := eI h; exact z04 ⟨_, rfl, z0n (y := (PV.tup [(ofV V.nil), (I64 1)])) (Wk.tup (.cons (Wk.eq mk_nil.symm) (wkr .nil))) (z00 (ids_V V.nil) (z00 rfl z03)) ⟨rfl, rfl⟩⟩
 intro hc3 h
 refine z08 ?_
 refine cBx ?_
 refine bR ?_
 iterate 2 refine sX ?_
 obtain ⟨x4, hx4, h⟩ := obind h
 refine sS rfl rfl rfl (z05 rfl zsv rfl (wkr (wkr (wkr (wkr .nil)))) ⟨(ids_V a0), ⟨(z06 z01 a1), ⟨rfl, ⟨rfl, trivial⟩⟩⟩⟩ (Z1g a0 a1 false x4 hx4) (z00 (ids_V x4.1) (z00 rfl z03))) ?_
 iterate 4 refine sX ?_
 refine eX ?_
 refine z09 ?_
 refine bR ?_
 refine sX ?_
 refine eX ?_
 refine cX h rfl ?_ ?_
 intro hc5 h
 refine bR ?_
 iterate 2 refine sX ?_
 refine eX ?_
 obtain rfl := eI h; exact z04 ⟨_, rfl, z0n (y := (PV.tup [(ofV V.nil), (I64 x4.2)])) (Wk.tup (.cons (Wk.eq mk_nil.symm) (wkr .nil))) (z00 (ids_V V.nil) (z00 rfl z03)) ⟨rfl, rfl⟩⟩
 intro hc5 h
 refine z08 ?_
 refine cBx ?_
 refine bR ?_
 refine sX ?_
 obtain ⟨x6, hx6, h⟩ := obind h
 refine sS rfl rfl rfl (z05 rfl zpz rfl (wkr .nil) ⟨(ids_V x4.1), trivial⟩ (zn6 x4.1 x6 hx6) (z00 (ids_V x6.1) (z00 rfl z03))) ?_
 iterate 3 refine sX ?_
 refine eX ?_
 obtain rfl := eI h; exact z04 ⟨_, rfl, z0n (y := (PV.tup [(ofV x6.1), (I64 x6.2)])) (Wk.refl _) (z00 (ids_V x6.1) (z00 rfl z03)) ⟨rfl, rfl⟩⟩
noncomputable def zoi : Option Bool :=
 (zof ([97, 91, 49, 93] : Str)).bind fun x1 =>
 bif ((((x1.1).length : Nat) : Int) != 2) then (
 some false
 ) else (
 (zcm (V.dict ([(([97] : Str), (V.list ([(V.int 1), (V.int 2)] : (List V))))] : (List (Str × V)))) x1.1).bind fun x3 =>
 (zbq (V.dict ([(([97] : Str), (V.list ([(V.int 1), (V.int 2)] : (List V))))] : (List (Str × V)))) x1.1 (V.bool true)).bind fun x4 =>
 (zoe (V.dict ([(([97] : Str), (V.list ([(V.int 1), (V.int 2)] : (List V))))] : (List (Str × V)))) x4.1).bind fun x5 =>
 (zhe x1.1 0 1).bind fun x6 =>
 (zoj (V.dict ([(([97] : Str), (V.list ([(V.int 1), (V.int 2)] : (List V))))] : (List (Str × V)))) x6).bind fun x7 =>
 bif (x1.2.2 == 0) then (
 bif (x3.2 == 0) then (
 bif (x3.1).eqInt 2 then (
 bif (x4.2 == 0) then (
 (zco x4.1 (V.dict ([(([97] : Str), (V.list ([(V.int 1), (V.bool true)] : (List V))))] : (List (Str × V))))).bind fun x12 =>
 bif x12 then (
 bif (x5.2 == 0) then (
 bif ((((x5.1).length : Nat) : Int) == 1) then (
 ((x5.1)[0]?).bind fun x16 =>
 bif (x16.f_What == 1) then (
 bif (x7.2 == 0) then (
 (zco x7.1 (V.dict ([] : (List (Str × V))))).bind fun x19 =>
 some x19
 ) else (
 some false
 )
 ) else (
 some false
 )
 ) else (
 some false
 )
 ) else (
 some false
 )
 ) else (
 some false
 )
 ) else (
 some false
 )
 ) else (
 some false
 )
 ) else (
 some false
 )
 ) else (
 some false
 )
 )
theorem Z11  (r : Bool) (h : zoi  = some r) : z0l Tryz.prog 8 [] (BO r) := by
 unfold zoi at h
 refine z0c Tryz.func8 rfl Tryz.ntmps8 Tryz.results8 rfl (z0i ?_)
 change BW _ _ _ ⟨[], [], _⟩ _
 refine bR ?_
 refine eX ?_
 refine bR ?_
 refine sS rfl rfl rfl ((z0z Tryz.underlying2 rfl rfl rfl).wk ((Wk.iface (Wk.refl _)).trans (Wk.eq (zgv _).symm))) ?_
 refine sS rfl rfl rfl ((z0z Tryz.underlying2 rfl rfl rfl).wk ((Wk.iface (Wk.refl _)).trans (Wk.eq (zgv _).symm))) ?_
 refine sS rfl rfl rfl ((z1d (xs := [(ofV (V.int 1)), (ofV (V.int 2))]) Tryz.underlying67 z23 rfl rfl rfl (by simp only [List.all_cons, List.all_nil, z5c, z26, Bool.and_true, Bool.true_and]; try rfl) (by simp only [List.all_cons, List.all_nil, csz_V, z3a, z11, z0v]; try rfl) rfl ⟨lbE rfl, lbE rfl⟩ (by simp only [z9d, z3p, List.flatMap_cons, List.flatMap_nil, z11, z0v]; try rfl)).cast (y := (PV.sl (some 0) 20 1 (List.map ofV ([(V.int 1), (V.int 2)] : (List V))))) rfl rfl) ?_
 refine sS rfl rfl rfl ((z0z Tryz.underlying67 rfl rfl rfl).wk ((Wk.iface Wk.tok).trans (Wk.eq (z7y _).symm))) ?_
 refine sS rfl rfl rfl (z1k (cs := [(z0k ([97] : Str)), (ofV (V.list ([(V.int 1), (V.int 2)] : (List V))))]) zhq z0w rfl rfl (by simp only [List.all_cons, List.all_nil, z5c, z26, Bool.and_true, Bool.true_and]; try rfl) (by simp only [z3p, List.getElem?_cons_zero, List.getElem?_cons_succ, z11, z0v]; rfl)) ?_
 refine sS rfl rfl rfl ((z1d (xs := [(PV.agg [(z0k ([97] : Str)), (ofV (V.list ([(V.int 1), (V.int 2)] : (List V))))])]) Tryz.underlying71 z0w rfl rfl rfl (by simp only [List.all_cons, List.all_nil, z5c, z26, Bool.and_true, Bool.true_and]; try rfl) (by simp only [List.all_cons, List.all_nil, csz_V, z3a, z11, z0v]; try rfl) rfl ⟨lbE rfl, lbE rfl⟩ (by simp only [z9d, z3p, List.flatMap_cons, List.flatMap_nil, z11, z0v]; try rfl)).cast (y := (PV.sl (some 1) 69 2 (List.map ofFld ([(([97] : Str), (V.list ([(V.int 1), (V.int 2)] : (List V))))] : (List (Str × V)))))) rfl rfl) ?_
 refine eX ?_
 refine bR ?_
 obtain ⟨x1, hx1, h⟩ := obind h
 refine sS rfl rfl rfl (z05 rfl Z2s rfl (wkr .nil) ⟨rfl, trivial⟩ (Z0w ([97, 91, 49, 93] : Str) x1 hx1) (z00 (z06 z01 x1.1) (z00 rfl (z00 rfl z03)))) ?_
 iterate 6 refine sX ?_
 refine eX ?_
 refine z09 ?_
 refine bR ?_
 iterate 2 refine sX ?_
 refine eX ?_
 refine cX h rfl ?_ ?_
 intro hc2 h
 refine bR ?_
 refine eX ?_
 obtain rfl := eI h; exact z04 eK
 intro hc2 h
 refine z08 ?_
 refine cBx ?_
 refine bR ?_
 refine sX ?_
 refine sS rfl rfl rfl ((z0z Tryz.underlying71 rfl rfl rfl).wk ((Wk.iface Wk.tok).trans (Wk.eq (z59 _).symm))) ?_
 refine sX ?_
 obtain ⟨x3, hx3, h⟩ := obind h
 refine sS rfl rfl rfl (z05 rfl zsx rfl (wkr (wkr .nil)) ⟨(ids_V (V.dict ([(([97] : Str), (V.list ([(V.int 1), (V.int 2)] : (List V))))] : (List (Str × V))))), ⟨(z06 z01 x1.1), trivial⟩⟩ (zqr (V.dict ([(([97] : Str), (V.list ([(V.int 1), (V.int 2)] : (List V))))] : (List (Str × V)))) x1.1 x3 hx3) (z00 (ids_V x3.1) (z00 rfl z03))) ?_
 iterate 4 refine sX ?_
 refine eX ?_
 refine bR ?_
 refine sX ?_
 refine sS rfl rfl rfl ((z0z Tryz.underlying71 rfl rfl rfl).wk ((Wk.iface Wk.tok).trans (Wk.eq (z59 _).symm))) ?_
 refine sX ?_
 refine sS rfl rfl rfl ((z0z Tryz.underlying4 rfl rfl rfl).wk ((Wk.iface (Wk.refl _)).trans (Wk.eq (zer _).symm))) ?_
 obtain ⟨x4, hx4, h⟩ := obind h
 refine sS rfl rfl rfl (z05 rfl zmh rfl (wkr (wkr (wkr .nil))) ⟨(ids_V (V.dict ([(([97] : Str), (V.list ([(V.int 1), (V.int 2)] : (List V))))] : (List (Str × V))))), ⟨(z06 z01 x1.1), ⟨(ids_V (V.bool true)), trivial⟩⟩⟩ (zl2 (V.dict ([(([97] : Str), (V.list ([(V.int 1), (V.int 2)] : (List V))))] : (List (Str × V)))) x1.1 (V.bool true) x4 hx4) (z00 (ids_V x4.1) (z00 rfl z03))) ?_
 iterate 4 refine sX ?_
 refine eX ?_
 refine bR ?_
 refine sX ?_
 refine sS rfl rfl rfl ((z0z Tryz.underlying71 rfl rfl rfl).wk ((Wk.iface Wk.tok).trans (Wk.eq (z59 _).symm))) ?_
 refine sX ?_
 obtain ⟨x5, hx5, h⟩ := obind h
 refine sS rfl rfl rfl (z05 rfl Z2r rfl (wkr (wkr .nil)) ⟨(ids_V (V.dict ([(([97] : Str), (V.list ([(V.int 1), (V.int 2)] : (List V))))] : (List (Str × V))))), ⟨(ids_V x4.1), trivial⟩⟩ (Z0v (V.dict ([(([97] : Str), (V.list ([(V.int 1), (V.int 2)] : (List V))))] : (List (Str × V)))) x4.1 x5 hx5) (z00 (z06 z0d x5.1) (z00 rfl z03))) ?_
 iterate 4 refine sX ?_
 refine eX ?_
 refine bR ?_
 refine sX ?_
 refine sS rfl rfl rfl ((z0z Tryz.underlying71 rfl rfl rfl).wk ((Wk.iface Wk.tok).trans (Wk.eq (z59 _).symm))) ?_
 refine sX ?_
 obtain ⟨x6, hx6, h⟩ := obind h
 refine sS rfl rfl rfl (zel (a := 0) (b := 1) Tryz.underlying30 z19 rfl rfl rfl rfl rfl rfl hx6) ?_
 obtain ⟨x7, hx7, h⟩ := obind h
 refine sS rfl rfl rfl (z05 rfl Z2q rfl (wkr (wkr .nil)) ⟨(ids_V (V.dict ([(([97] : Str), (V.list ([(V.int 1), (V.int 2)] : (List V))))] : (List (Str × V))))), ⟨(z06 z01 x6), trivial⟩⟩ (Z13 (V.dict ([(([97] : Str), (V.list ([(V.int 1), (V.int 2)] : (List V))))] : (List (Str × V)))) x6 x7 hx7) (z00 (ids_V x7.1) (z00 rfl z03))) ?_
 iterate 4 refine sX ?_
 refine eX ?_
 refine z09 (zmj ?_)
 iterate 3 refine sX ?_
 refine z0p (t := 59) rfl ?_ ?_
 intro hb8; replace h := z0r hb8 h
 iterate 2 refine yX ?_
 iterate 2 refine sX ?_
 refine z0p (t := 63) rfl ?_ ?_
 intro hb9; replace h := z0r hb9 h
 refine yX ?_
 refine z1i rfl rfl rfl rfl rfl rfl ((z0z Tryz.underlying2 rfl rfl rfl).wk ((Wk.iface (Wk.refl _)).trans (Wk.eq (zgv _).symm))) ?_
 refine z1i rfl rfl rfl rfl rfl rfl (zm0 Tryz.underlying20 rfl rfl rfl) ?_
 iterate 2 refine sX ?_
 refine z0p (t := 68) rfl ?_ ?_
 intro hb10; replace h := z0r hb10 h
 iterate 2 refine yX ?_
 iterate 2 refine sX ?_
 refine z0p (t := 72) rfl ?_ ?_
 intro hb11; replace h := z0r hb11 h
 refine yX ?_
 refine z1i rfl rfl rfl rfl rfl rfl ((z0z Tryz.underlying2 rfl rfl rfl).wk ((Wk.iface (Wk.refl _)).trans (Wk.eq (zgv _).symm))) ?_
 refine z1i rfl rfl rfl rfl rfl rfl ((z0z Tryz.underlying4 rfl rfl rfl).wk ((Wk.iface (Wk.refl _)).trans (Wk.eq (zer _).symm))) ?_
 refine z1i rfl rfl rfl rfl rfl rfl ((z1d (xs := [(ofV (V.int 1)), (ofV (V.bool true))]) Tryz.underlying67 z23 rfl rfl rfl (by simp only [List.all_cons, List.all_nil, z5c, z26, Bool.and_true, Bool.true_and]; try rfl) (by simp only [List.all_cons, List.all_nil, csz_V, z3a, z11, z0v]; try rfl) rfl ⟨lbE rfl, lbE rfl⟩ (by simp only [z9d, z3p, List.flatMap_cons, List.flatMap_nil, z11, z0v]; try rfl)).cast (y := (PV.sl (some 2) 20 1 (List.map ofV ([(V.int 1), (V.bool true)] : (List V))))) rfl rfl) ?_
 refine z1i rfl rfl rfl rfl rfl rfl ((z0z Tryz.underlying67 rfl rfl rfl).wk ((Wk.iface Wk.tok).trans (Wk.eq (z7y _).symm))) ?_
 refine z1i rfl rfl rfl rfl rfl rfl (z1k (cs := [(z0k ([97] : Str)), (ofV (V.list ([(V.int 1), (V.bool true)] : (List V))))]) zhq z0w rfl rfl (by simp only [List.all_cons, List.all_nil, z5c, z26, Bool.and_true, Bool.true_and]; try rfl) (by simp only [z3p, List.getElem?_cons_zero, List.getElem?_cons_succ, z11, z0v]; rfl)) ?_
 refine z1i rfl rfl rfl rfl rfl rfl ((z1d (xs := [(PV.agg [(z0k ([97] : Str)), (ofV (V.list ([(V.int 1), (V.bool true)] : (List V))))])]) Tryz.underlying71 z0w rfl rfl rfl (by simp only [List.all_cons, List.all_nil, z5c, z26, Bool.and_true, Bool.true_and]; try rfl) (by simp only [List.all_cons, List.all_nil, csz_V, z3a, z11, z0v]; try rfl) rfl ⟨lbE rfl, lbE rfl⟩ (by simp only [z9d, z3p, List.flatMap_cons, List.flatMap_nil, z11, z0v]; try rfl)).cast (y := (PV.sl (some 3) 69 2 (List.map ofFld ([(([97] : Str), (V.list ([(V.int 1), (V.bool true)] : (List V))))] : (List (Str × V)))))) rfl rfl) ?_
 refine z1i rfl rfl rfl rfl rfl rfl ((z0z Tryz.underlying71 rfl rfl rfl).wk ((Wk.iface Wk.tok).trans (Wk.eq (z59 _).symm))) ?_
 obtain ⟨x12, hx12, h⟩ := obind h
 refine z1i rfl rfl rfl rfl rfl rfl (z05 rfl zmg rfl (wkr (wkr .nil)) ⟨(ids_V x4.1), ⟨(ids_V (V.dict ([(([97] : Str), (V.list ([(V.int 1), (V.bool true)] : (List V))))] : (List (Str × V))))), trivial⟩⟩ (zl3 x4.1 (V.dict ([(([97] : Str), (V.list ([(V.int 1), (V.bool true)] : (List V))))] : (List (Str × V)))) x12 hx12) rfl) ?_
 iterate 2 refine sX ?_
 refine z0p (t := 83) rfl ?_ ?_
 intro hb13; replace h := z0r hb13 h
 iterate 2 refine yX ?_
 iterate 2 refine sX ?_
 refine z0p (t := 87) rfl ?_ ?_
 intro hb14; replace h := z0r hb14 h
 iterate 3 refine yX ?_
 iterate 2 refine sX ?_
 refine z0p (t := 92) rfl ?_ ?_
 intro hb15; replace h := z0r hb15 h
 refine yX ?_
 obtain ⟨x16, hx16, h⟩ := obind h
 refine z1i rfl rfl rfl rfl rfl rfl (z1v (i := 0) Tryz.underlying46 zh4 rfl rfl rfl hx16 rfl) ?_
 iterate 3 refine yX ?_
 iterate 2 refine sX ?_
 refine z0p (t := 99) rfl ?_ ?_
 intro hb17; replace h := z0r hb17 h
 iterate 2 refine yX ?_
 iterate 2 refine sX ?_
 refine z0p (t := 103) rfl ?_ ?_
 intro hb18; replace h := z0r hb18 h
 refine yX ?_
 refine z1i rfl rfl rfl rfl rfl rfl ((z1d (xs := []) Tryz.underlying71 z0w rfl rfl rfl rfl rfl rfl ⟨lbE rfl, lbE rfl⟩ rfl).cast (y := (PV.sl (some 4) 69 2 (List.map ofFld ([] : (List (Str × V)))))) rfl rfl) ?_
 refine z1i rfl rfl rfl rfl rfl rfl ((z0z Tryz.underlying71 rfl rfl rfl).wk ((Wk.iface Wk.tok).trans (Wk.eq (z59 _).symm))) ?_
 obtain ⟨x19, hx19, h⟩ := obind h
 refine z1i rfl rfl rfl rfl rfl rfl (z05 rfl zmg rfl (wkr (wkr .nil)) ⟨(ids_V x7.1), ⟨(ids_V (V.dict ([] : (List (Str × V))))), trivial⟩⟩ (zl3 x7.1 (V.dict ([] : (List (Str × V)))) x19 hx19) rfl) ?_
 refine sX ?_
 refine eX ?_
 obtain rfl := eI h; exact z04 eK
 intro hb18; replace h := z0s hb18 h
 iterate 4 refine nX ?_
 refine sX ?_
 refine eX ?_
 obtain rfl := eI h; exact z04 eK
 intro hb17; replace h := z0s hb17 h
 iterate 2 refine nX ?_
 iterate 2 refine sX ?_
 iterate 4 refine nX ?_
 refine sX ?_
 refine eX ?_
 obtain rfl := eI h; exact z04 eK
 intro hb15; replace h := z0s hb15 h
 iterate 5 refine nX ?_
 iterate 2 refine sX ?_
 iterate 2 refine nX ?_
 iterate 2 refine sX ?_
 iterate 4 refine nX ?_
 refine sX ?_
 refine eX ?_
 obtain rfl := eI h; exact z04 eK
 intro hb14; replace h := z0s hb14 h
 iterate 3 refine nX ?_
 iterate 2 refine sX ?_
 iterate 5 refine nX ?_
 iterate 2 refine sX ?_
 iterate 2 refine nX ?_
 iterate 2 refine sX ?_
 iterate 4 refine nX ?_
 refine sX ?_
 refine eX ?_
 obtain rfl := eI h; exact z04 eK
 intro hb13; replace h := z0s hb13 h
 iterate 2 refine nX ?_
 iterate 2 refine sX ?_
 iterate 3 refine nX ?_
 iterate 2 refine sX ?_
 iterate 5 refine nX ?_
 iterate 2 refine sX ?_
 iterate 2 refine nX ?_
 iterate 2 refine sX ?_
 iterate 4 refine nX ?_
 refine sX ?_
 refine eX ?_
 obtain rfl := eI h; exact z04 eK
 intro hb11; replace h := z0s hb11 h
 iterate 9 refine nX ?_
 iterate 2 refine sX ?_
 iterate 2 refine nX ?_
 iterate 2 refine sX ?_
 iterate 3 refine nX ?_
 iterate 2 refine sX ?_
 iterate 5 refine nX ?_
 iterate 2 refine sX ?_
 iterate 2 refine nX ?_
 iterate 2 refine sX ?_
 iterate 4 refine nX ?_
 refine sX ?_
 refine eX ?_
 obtain rfl := eI h; exact z04 eK
 intro hb10; replace h := z0s hb10 h
 iterate 2 refine nX ?_
 iterate 2 refine sX ?_
 iterate 9 refine nX ?_
 iterate 2 refine sX ?_
 iterate 2 refine nX ?_
 iterate 2 refine sX ?_
 iterate 3 refine nX ?_
 iterate 2 refine sX ?_
 iterate 5 refine nX ?_
 iterate 2 refine sX ?_
 iterate 2 refine nX ?_
 iterate 2 refine sX ?_
 iterate 4 refine nX ?_
 refine sX ?_
 refine eX ?_
 obtain rfl := eI h; exact z04 eK
 intro hb9; replace h := z0s hb9 h
 iterate 3 refine nX ?_
 iterate 2 refine sX ?_
 iterate 2 refine nX ?_
 iterate 2 refine sX ?_
 iterate 9 refine nX ?_
 iterate 2 refine sX ?_
 iterate 2 refine nX ?_
 iterate 2 refine sX ?_
 iterate 3 refine nX ?_
 iterate 2 refine sX ?_
 iterate 5 refine nX ?_
 iterate 2 refine sX ?_
 iterate 2 refine nX ?_
 iterate 2 refine sX ?_
 iterate 4 refine nX ?_
 refine sX ?_
 refine eX ?_
 obtain rfl := eI h; exact z04 eK
 intro hb8; replace h := z0s hb8 h
 iterate 2 refine nX ?_
 iterate 2 refine sX ?_
 iterate 3 refine nX ?_
 iterate 2 refine sX ?_
 iterate 2 refine nX ?_
 iterate 2 refine sX ?_
 iterate 9 refine nX ?_
 iterate 2 refine sX ?_
 iterate 2 refine nX ?_
 iterate 2 refine sX ?_
 iterate 3 refine nX ?_
 iterate 2 refine sX ?_
 iterate 5 refine nX ?_
 iterate 2 refine sX ?_
 iterate 2 refine nX ?_
 iterate 2 refine sX ?_
 iterate 4 refine nX ?_
 refine sX ?_
 refine eX ?_
 obtain rfl := eI h; exact z04 eK
noncomputable def zlk (a0 : Int) : Option V :=
 bif ((Int.tmod a0 14) == 0) then (
 some (V.alien ⟨3, rfl⟩)
 ) else (
 bif ((Int.tmod a0 14) == 1) then (
 some (V.alien ⟨5, rfl⟩)
 ) else (
 bif ((Int.tmod a0 14) == 2) then (
 some (V.alien ⟨114, rfl⟩)
 ) else (
 bif ((Int.tmod a0 14) == 3) then (
 some (V.alien ⟨1, rfl⟩)
 ) else (
 bif ((Int.tmod a0 14) == 4) then (
 some (V.alien ⟨117, rfl⟩)
 ) else (
 bif ((Int.tmod a0 14) == 5) then (
 some (V.alien ⟨66, rfl⟩)
 ) else (
 bif ((Int.tmod a0 14) == 6) then (
 some (V.alien ⟨118, rfl⟩)
 ) else (
 bif ((Int.tmod a0 14) == 7) then (
 some (V.alien ⟨119, rfl⟩)
 ) else (
 bif ((Int.tmod a0 14) == 8) then (
 some (V.alien ⟨75, rfl⟩)
 ) else (
 bif ((Int.tmod a0 14) == 9) then (
 some (V.alien ⟨70, rfl⟩)
 ) else (
 bif ((Int.tmod a0 14) == 10) then (
 some (V.alien ⟨120, rfl⟩)
 ) else (
 bif ((Int.tmod a0 14) == 11) then (
 some (V.alien ⟨33, rfl⟩)
 ) else (
 bif ((Int.tmod a0 14) == 12) then (
 some (V.alien ⟨121, rfl⟩)
 ) else (
 some (V.alien ⟨122, rfl⟩)
 )
 )
 )
 )
 )
 )
 )
 )
 )
 )
 )
 )
 )
theorem Z0s (a0 : Int) (r : V) (h : zlk a0 = some r) : z0l Tryz.prog 29 [(I64 a0)] (ofV r) := by
 unfold zlk at h
 refine z0c Tryz.func29 rfl Tryz.ntmps29 Tryz.results29 rfl (z0i ?_)
 change BW _ _ _ ⟨[(0, (I64 a0))], [], _⟩ _
 refine bR ?_
 refine eX ?_
 refine z09 ?_
 refine bR ?_
 refine sX ?_
 refine sS rfl rfl rfl (zvv rfl rfl rfl (by decide)) (z0b ?_)
 refine cBx ?_
 refine z0j ?_
 refine cBx ?_
 refine bR ?_
 refine sX ?_
 refine eX ?_
 refine cX h rfl ?_ ?_
 intro hc1 h
 refine bR ?_
 refine sS rfl rfl rfl ((z0z Tryz.underlying3 rfl rfl rfl).wk ((Wk.iface Wk.junk).trans (Wk.eq (z2r ⟨3, rfl⟩).symm))) ?_
 refine eX ?_
 obtain rfl := eI h; exact z04 ⟨_, rfl, z0n (y := (ofV (V.alien ⟨3, rfl⟩))) (Wk.refl _) (ids_V (V.alien ⟨3, rfl⟩)) ⟨rfl, rfl⟩⟩
 intro hc1 h
 refine bR ?_
 refine sX ?_
 refine eX ?_
 refine cX h rfl ?_ ?_
 intro hc2 h
 refine bR ?_
 refine sS rfl rfl rfl ((z0z Tryz.underlying5 rfl rfl rfl).wk ((Wk.iface Wk.junk).trans (Wk.eq (z2r ⟨5, rfl⟩).symm))) ?_
 refine eX ?_
 obtain rfl := eI h; exact z04 ⟨_, rfl, z0n (y := (ofV (V.alien ⟨5, rfl⟩))) (Wk.refl _) (ids_V (V.alien ⟨5, rfl⟩)) ⟨rfl, rfl⟩⟩
 intro hc2 h
 refine bR ?_
 refine sX ?_
 refine eX ?_
 refine cX h rfl ?_ ?_
 intro hc3 h
 refine bR ?_
 refine zqk rfl rfl rfl rfl rfl rfl rfl Tryz.underlying114 Tryz.underlying9 ?_
 refine sX ?_
 refine sS rfl rfl rfl ((z0z Tryz.underlying114 rfl rfl rfl).wk ((Wk.iface Wk.junk).trans (Wk.eq (z2r ⟨114, rfl⟩).symm))) ?_
 refine eX ?_
 obtain rfl := eI h; exact z04 ⟨_, rfl, z0n (y := (ofV (V.alien ⟨114, rfl⟩))) (Wk.refl _) (ids_V (V.alien ⟨114, rfl⟩)) ⟨rfl, rfl⟩⟩
 intro hc3 h
 refine bR ?_
 refine sX ?_
 refine eX ?_
 refine cX h rfl ?_ ?_
 intro hc4 h
 refine bR ?_
 refine sS rfl rfl rfl ((z0z Tryz.underlying1 rfl rfl rfl).wk ((Wk.iface Wk.junk).trans (Wk.eq (z2r ⟨1, rfl⟩).symm))) ?_
 refine eX ?_
 obtain rfl := eI h; exact z04 ⟨_, rfl, z0n (y := (ofV (V.alien ⟨1, rfl⟩))) (Wk.refl _) (ids_V (V.alien ⟨1, rfl⟩)) ⟨rfl, rfl⟩⟩
 intro hc4 h
 refine bR ?_
 refine sX ?_
 refine eX ?_
 refine cX h rfl ?_ ?_
 intro hc5 h
 refine bR ?_
 refine sS rfl rfl rfl ((z1d (xs := [(I64 1)]) Tryz.underlying115 zsl rfl rfl rfl rfl rfl rfl ⟨lbE rfl, lbE rfl⟩ rfl).cast (y := (PV.sl (some 0) 3 1 (List.map (ofI .i64) ([1] : (List Int))))) rfl rfl) ?_
 refine sS rfl rfl rfl (z1k (cs := [(PV.sl (some 0) 3 1 (List.map (ofI .i64) ([1] : (List Int))))]) ztz zwi rfl rfl rfl rfl) ?_
 refine sS rfl rfl rfl ((z0z Tryz.underlying117 rfl rfl rfl).wk ((Wk.iface Wk.junk).trans (Wk.eq (z2r ⟨117, rfl⟩).symm))) ?_
 refine eX ?_
 obtain rfl := eI h; exact z04 ⟨_, rfl, z0n (y := (ofV (V.alien ⟨117, rfl⟩))) (Wk.refl _) (ids_V (V.alien ⟨117, rfl⟩)) ⟨rfl, rfl⟩⟩
 intro hc5 h
 refine bR ?_
 refine sX ?_
 refine eX ?_
 refine cX h rfl ?_ ?_
 intro hc6 h
 refine bR ?_
 refine sS rfl rfl rfl ((z0z Tryz.underlying4 rfl rfl rfl).wk ((Wk.iface (Wk.refl _)).trans (Wk.eq (zer _).symm))) ?_
 refine sS rfl rfl rfl ((z1d (xs := [(ofV (V.bool true))]) Tryz.underlying66 z23 rfl rfl rfl (by simp only [List.all_cons, List.all_nil, z5c, z26, Bool.and_true, Bool.true_and]; try rfl) (by simp only [List.all_cons, List.all_nil, csz_V, z3a, z11, z0v]; try rfl) rfl ⟨lbE rfl, lbE rfl⟩ (by simp only [z9d, z3p, List.flatMap_cons, List.flatMap_nil, z11, z0v]; try rfl)).cast (y := (PV.sl (some 0) 20 1 (List.map ofV ([(V.bool true)] : (List V))))) rfl rfl) ?_
 refine sS rfl rfl rfl ((z0z Tryz.underlying66 rfl rfl rfl).wk ((Wk.iface Wk.junk).trans (Wk.eq (z2r ⟨66, rfl⟩).symm))) ?_
 refine eX ?_
 obtain rfl := eI h; exact z04 ⟨_, rfl, z0n (y := (ofV (V.alien ⟨66, rfl⟩))) (Wk.refl _) (ids_V (V.alien ⟨66, rfl⟩)) ⟨rfl, rfl⟩⟩
 intro hc6 h
 refine bR ?_
 refine sX ?_
 refine eX ?_
 refine cX h rfl ?_ ?_
 intro hc7 h
 refine bR ?_
 refine sS rfl rfl rfl ((z0z Tryz.underlying118 rfl rfl rfl).wk ((Wk.iface Wk.junk).trans (Wk.eq (z2r ⟨118, rfl⟩).symm))) ?_
 refine eX ?_
 obtain rfl := eI h; exact z04 ⟨_, rfl, z0n (y := (ofV (V.alien ⟨118, rfl⟩))) (Wk.refl _) (ids_V (V.alien ⟨118, rfl⟩)) ⟨rfl, rfl⟩⟩
 intro hc7 h
 refine bR ?_
 refine sX ?_
 refine eX ?_
 refine cX h rfl ?_ ?_
 intro hc8 h
 refine bR ?_
 refine sS rfl rfl rfl ((z0z Tryz.underlying119 rfl rfl rfl).wk ((Wk.iface Wk.junk).trans (Wk.eq (z2r ⟨119, rfl⟩).symm))) ?_
 refine eX ?_
 obtain rfl := eI h; exact z04 ⟨_, rfl, z0n (y := (ofV (V.alien ⟨119, rfl⟩))) (Wk.refl _) (ids_V (V.alien ⟨119, rfl⟩)) ⟨rfl, rfl⟩⟩
 intro hc8 h
 refine bR ?_
 refine sX ?_
 refine eX ?_
 refine cX h rfl ?_ ?_
 intro hc9 h
 refine bR ?_
 refine sS rfl rfl rfl (z1k (cs := [(z0k ([97] : Str)), (I64 1), (PV.v (.slice none 0 0))]) zl0 zh3 rfl rfl rfl rfl) ?_
 refine sS rfl rfl rfl ((z0z Tryz.underlying75 rfl rfl rfl).wk ((Wk.iface Wk.junk).trans (Wk.eq (z2r ⟨75, rfl⟩).symm))) ?_
 refine eX ?_
 obtain rfl := eI h; exact z04 ⟨_, rfl, z0n (y := (ofV (V.alien ⟨75, rfl⟩))) (Wk.refl _) (ids_V (V.alien ⟨75, rfl⟩)) ⟨rfl, rfl⟩⟩
 intro hc9 h
 refine bR ?_
 refine sX ?_
 refine eX ?_
 refine cX h rfl ?_ ?_
 intro hc10 h
 refine bR ?_
 refine sS rfl rfl rfl ((z1d (xs := []) Tryz.underlying70 z0w rfl rfl rfl rfl rfl rfl ⟨lbE rfl, lbE rfl⟩ rfl).cast (y := (PV.sl (some 0) 69 2 (List.map ofFld ([] : (List (Str × V)))))) rfl rfl) ?_
 refine sS rfl rfl rfl ((z0z Tryz.underlying70 rfl rfl rfl).wk ((Wk.iface Wk.junk).trans (Wk.eq (z2r ⟨70, rfl⟩).symm))) ?_
 refine eX ?_
 obtain rfl := eI h; exact z04 ⟨_, rfl, z0n (y := (ofV (V.alien ⟨70, rfl⟩))) (Wk.refl _) (ids_V (V.alien ⟨70, rfl⟩)) ⟨rfl, rfl⟩⟩
 intro hc10 h
 refine bR ?_
 refine sX ?_
 refine eX ?_
 refine cX h rfl ?_ ?_
 intro hc11 h
 refine bR ?_
 refine eX ?_
 refine bR ?_
 refine sX ?_
 refine sS rfl rfl rfl ((z0z Tryz.underlying120 rfl rfl rfl).wk ((Wk.iface Wk.junk).trans (Wk.eq (z2r ⟨120, rfl⟩).symm))) ?_
 refine eX ?_
 obtain rfl := eI h; exact z04 ⟨_, rfl, z0n (y := (ofV (V.alien ⟨120, rfl⟩))) (Wk.refl _) (ids_V (V.alien ⟨120, rfl⟩)) ⟨rfl, rfl⟩⟩
 intro hc11 h
 refine bR ?_
 refine sX ?_
 refine eX ?_
 refine cX h rfl ?_ ?_
 intro hc12 h
 refine bR ?_
 refine sS rfl rfl rfl ((z0z Tryz.underlying33 rfl rfl rfl).wk ((Wk.iface Wk.junk).trans (Wk.eq (z2r ⟨33, rfl⟩).symm))) ?_
 refine eX ?_
 obtain rfl := eI h; exact z04 ⟨_, rfl, z0n (y := (ofV (V.alien ⟨33, rfl⟩))) (Wk.refl _) (ids_V (V.alien ⟨33, rfl⟩)) ⟨rfl, rfl⟩⟩
 intro hc12 h
 refine bR ?_
 refine sX ?_
 refine eX ?_
 refine cX h rfl ?_ ?_
 intro hc13 h
 refine bR ?_
 refine eX ?_
 refine bR ?_
 refine sX ?_
 refine sS rfl rfl rfl ((z0z Tryz.underlying121 rfl rfl rfl).wk ((Wk.iface Wk.junk).trans (Wk.eq (z2r ⟨121, rfl⟩).symm))) ?_
 refine eX ?_
 obtain rfl := eI h; exact z04 ⟨_, rfl, z0n (y := (ofV (V.alien ⟨121, rfl⟩))) (Wk.refl _) (ids_V (V.alien ⟨121, rfl⟩)) ⟨rfl, rfl⟩⟩
 intro hc13 h
 refine z08 ?_
 refine cBx ?_
 refine bR ?_
 refine sS rfl rfl rfl (Op1.junk (zgq (cs := [(I64 1), (I64 2)]) Tryz.underlying122 zwh zsl rfl rfl rfl rfl)) ?_
 refine sS rfl rfl rfl ((z0z Tryz.underlying122 rfl rfl rfl).wk ((Wk.iface Wk.junk).trans (Wk.eq (z2r ⟨122, rfl⟩).symm))) ?_
 refine eX ?_
 obtain rfl := eI h; exact z04 ⟨_, rfl, z0n (y := (ofV (V.alien ⟨122, rfl⟩))) (Wk.refl _) (ids_V (V.alien ⟨122, rfl⟩)) ⟨rfl, rfl⟩⟩
end Go.Proofs.YthidgpcbnieleaaGreatDoor
