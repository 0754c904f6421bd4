/- Pure functions, and that calls answer as they say. -/
import Derived.Test.YthidgpcbnieleaaGreatDoorG5
namespace Go.Proofs.YthidgpcbnieleaaGreatDoor
open Go Aw
set_option linter.unusedVariables false
set_option linter.unusedSimpArgs false
set_option maxRecDepth 20000
set_option maxHeartbeats 2000000
variable {ι : Type} {ρ : ι → Type}
noncomputable def zhs (a0 : V) (x1 : S_api_Step) (s4 : Int) : Option (V × Int) :=
 bif (s4 != 0) then (
 some (V.nil, s4)
 ) else (
 (zi5 a0 x1).bind fun x6 =>
 some (x6, 0)
 )
noncomputable def zbn (a0 : V) (x1 : S_api_Step) (x3 : (V × Int)) (s7 : Bool) : Option (V × Int) :=
 bif s7 then (
 zhs a0 x1 0
 ) else (
 zhs a0 x1 x3.2
 )
noncomputable def zou (r_q0g : V → (List S_api_Step) → Bool → Option (V × Int)) (a0 : V) (a1 : (List S_api_Step)) (a2 : Bool) : Option (V × Int) :=
 ((a1)[0]?).bind fun x1 =>
 bif ((((a1).length : Nat) : Int) == 1) then (
 (z8p a0 x1).bind fun x3 =>
 bif a2 then (
 bif (x3.2 == 40) then (
 zbn a0 x1 x3 true
 ) else (
 bif (x3.2 == 42) then (
 bif (a0).isList then (
 zbn a0 x1 x3 (x1.f_Index == ((((a0).asList).length : Nat) : Int))
 ) else (
 zbn a0 x1 x3 false
 )
 ) else (
 zbn a0 x1 x3 false
 )
 )
 ) else (
 zbn a0 x1 x3 false
 )
 ) else (
 (z8p a0 x1).bind fun x13 =>
 bif (x13.2 != 0) then (
 some (V.nil, x13.2)
 ) else (
 (ziz a1 1 ((a1).length : Int)).bind fun x15 =>
 (r_q0g x13.1 x15 a2).bind fun x16 =>
 bif (x16.2 != 0) then (
 some (V.nil, x16.2)
 ) else (
 (zd0 a0 x1 x16.1).bind fun x18 =>
 some (x18, 0)
 )
 )
 )
theorem zwl (r_q0g : OF ρ → V → (List S_api_Step) → Bool → Option (V × Int)) (h_r_q0g : ∀ y0 y1 y2, CM (fun G => r_q0g G y0 y1 y2)) (a0 : V) (a1 : (List S_api_Step)) (a2 : Bool) : CM (fun G : OF ρ => zou (r_q0g G) a0 a1 a2) := by
 simp only [zou]
 repeat (first | exact z0c | exact h_r_q0g _ _ _ | apply q0g_j2_cm | refine z11 ?_ ?_ | refine z12 ?_ (fun _ => ?_) | intro _ | assumption)
inductive C_q0g where
 | k_q0g (a0 : V) (a1 : (List S_api_Step)) (a2 : Bool)
def C_q0g.R : C_q0g → Type
 | .k_q0g _ _ _ => (V × Int)
noncomputable def C_q0g.F (g : ∀ i : C_q0g, Option i.R) : ∀ i : C_q0g, Option i.R
 | .k_q0g a0 a1 a2 => zou (fun a0 a1 a2 => g (.k_q0g a0 a1 a2)) a0 a1 a2
noncomputable def zo6 (a0 : V) (a1 : (List S_api_Step)) (a2 : Bool) : Option (V × Int) := z2w C_q0g.F (.k_q0g a0 a1 a2)
abbrev Z9n := fun (g : ∀ i : C_q0g, Option i.R) a0 a1 a2 => g (.k_q0g a0 a1 a2)
theorem Z9k (a0 a1 a2 : _) : CM (ρ := C_q0g.R) (fun g => g (C_q0g.k_q0g a0 a1 a2)) := z17
theorem C_q0g.cm (i : C_q0g) : CM (fun g : (∀ i : C_q0g, Option i.R) => C_q0g.F g i) := by
 cases i with
 | k_q0g a0 a1 a2 => exact zwl Z9n Z9k a0 a1 a2
theorem Z87 (a0 : V) (a1 : (List S_api_Step)) (a2 : Bool) : zo6 a0 a1 a2 = zou zo6 a0 a1 a2 := z19 C_q0g.cm (.k_q0g a0 a1 a2)
def C_q0g.Q : ∀ i : C_q0g, i.R → Prop
 | .k_q0g a0 a1 a2 => fun (r : (V × Int)) => z0m Tryz.prog 33 [(ofV a0), (PV.sl none 83 3 (List.map z00 a1)), (BO a2), (PV.fn (.func 53) [] [])] (PV.tup [(ofV r.1), (I64 r.2)])
theorem z5a (r_q0g : V → (List S_api_Step) → Bool → Option (V × Int)) (c_q0g : ∀ (a0 : V) (a1 : (List S_api_Step)) (a2 : Bool) r, r_q0g a0 a1 a2 = some r → z0m Tryz.prog 33 [(ofV a0), (PV.sl none 83 3 (List.map z00 a1)), (BO a2), (PV.fn (.func 53) [] [])] (PV.tup [(ofV r.1), (I64 r.2)])) (a0 : V) (a1 : (List S_api_Step)) (a2 : Bool) (r : (V × Int)) (h : zou r_q0g a0 a1 a2 = some r) : z0m Tryz.prog 33 [(ofV a0), (PV.sl none 83 3 (List.map z00 a1)), (BO a2), (PV.fn (.func 53) [] [])] (PV.tup [(ofV r.1), (I64 r.2)]) := by
 unfold zou at h
 refine z0d Tryz.func33 rfl Tryz.ntmps33 Tryz.results33 rfl (z0g ?_)
 change BW _ _ _ ⟨[(0, (ofV a0)), (1, (PV.sl none 83 3 (List.map z00 a1))), (2, (BO a2)), (3, (PV.fn (.func 53) [] []))], [], _⟩ _
 refine bR ?_
 refine sX ?_
 refine eX ?_
 refine bR ?_
 refine sX ?_
 obtain ⟨x1, hx1, h⟩ := obind h
 refine sS rfl rfl rfl (z1r (i := 0) Tryz.underlying30 z1h rfl rfl rfl hx1 rfl) ?_
 refine sX ?_
 refine sS rfl rfl rfl (z14 z1h rfl) ?_
 refine z0j rfl rfl (z0e z1h rfl rfl rfl rfl rfl rfl (lbE rfl) rfl) ?_
 refine z0a ?_
 refine cBx ?_
 refine z08 ?_
 refine bR ?_
 iterate 2 refine sX ?_
 refine eX ?_
 refine cX h rfl ?_ ?_
 intro hc2 h
 refine bR ?_
 iterate 2 refine sX ?_
 obtain ⟨x3, hx3, h⟩ := obind h
 refine sS rfl rfl rfl (z06 rfl zsd rfl (wkr (wkr .nil)) ⟨(ids_V a0), ⟨(z02 x1), trivial⟩⟩ (zp9 a0 x1 x3 hx3) (z01 (ids_V x3.1) (z01 rfl z04))) ?_
 iterate 4 refine sX ?_
 refine eX ?_
 refine bR ?_
 refine sX ?_
 refine sS rfl rfl rfl (z1w rfl rfl) ?_
 iterate 4 refine sX ?_
 refine eX ?_
 refine z2t (ι := Int) (fun i => zhs a0 x1 i = some r) (fun i => [(0, (ofV a0)), (3, (PV.fn (.func 53) [] [])), (10, (PV.rf 0 0)), (12, (I64 i))]) (fun i => [.box 83 [(z0i x1.f_Name), (BO x1.f_At), (I64 x1.f_Index)]]) ?_ ?_ ?_
 intro i; exact ⟨lbE rfl, ⟨(z09 (ids_V _)), ⟨(z09 rfl), ⟨(il_rf rfl), ⟨(z09 rfl), trivial⟩⟩⟩⟩, ⟨⟨(z09 rfl), ⟨(z09 rfl), ⟨(z09 rfl), trivial⟩⟩⟩, trivial⟩⟩
 rintro s4 h; replace h : zhs a0 x1 s4 = some r := h; unfold zhs at h
 change BW _ _ _ ⟨[(0, (ofV a0)), (3, (PV.fn (.func 53) [] [])), (10, (PV.rf 0 0)), (12, (I64 s4))], [.box 83 [(z0i x1.f_Name), (BO x1.f_At), (I64 x1.f_Index)]], _⟩ _
 refine z08 ?_
 refine bR ?_
 refine sX ?_
 refine eX ?_
 refine cX h rfl ?_ ?_
 intro hc5 h
 refine bR ?_
 iterate 2 refine sX ?_
 refine eX ?_
 obtain rfl := eI h; exact z05 ⟨_, rfl, z0p (y := (PV.tup [(ofV V.nil), (I64 s4)])) (Wk.tup (.cons (Wk.eq mk_nil.symm) (wkr .nil))) (z01 (ids_V V.nil) (z01 rfl z04)) ⟨rfl, rfl⟩⟩
 intro hc5 h
 refine z07 ?_
 refine cBx ?_
 refine bR ?_
 iterate 3 refine sX ?_
 obtain ⟨x6, hx6, h⟩ := obind h
 refine sS rfl rfl rfl (z4o rfl rfl Z78 rfl (wkr (wkr .nil)) ⟨(ids_V a0), ⟨(z02 x1), trivial⟩⟩ (Z51 a0 x1 x6 hx6) (ids_V x6)) ?_
 refine sX ?_
 refine eX ?_
 obtain rfl := eI h; exact z05 ⟨_, rfl, z0p (y := (PV.tup [(ofV x6), (I64 0)])) (Wk.refl _) (z01 (ids_V x6) (z01 rfl z04)) ⟨rfl, rfl⟩⟩
 refine z2t (ι := Bool) (fun i => zbn a0 x1 x3 i = some r) (fun i => [(0, (ofV a0)), (3, (PV.fn (.func 53) [] [])), (10, (PV.rf 0 0)), (12, (I64 x3.2)), (53, (BO i))]) (fun i => [.box 83 [(z0i x1.f_Name), (BO x1.f_At), (I64 x1.f_Index)]]) ?_ ?_ ?_
 intro i; exact ⟨lbE rfl, ⟨(z09 (ids_V _)), ⟨(z09 rfl), ⟨(il_rf rfl), ⟨(z09 rfl), ⟨(z09 rfl), trivial⟩⟩⟩⟩⟩, ⟨⟨(z09 rfl), ⟨(z09 rfl), ⟨(z09 rfl), trivial⟩⟩⟩, trivial⟩⟩
 rintro s7 h; replace h : zbn a0 x1 x3 s7 = some r := h; unfold zbn at h
 change BW _ _ _ ⟨[(0, (ofV a0)), (3, (PV.fn (.func 53) [] [])), (10, (PV.rf 0 0)), (12, (I64 x3.2)), (53, (BO s7))], [.box 83 [(z0i x1.f_Name), (BO x1.f_At), (I64 x1.f_Index)]], _⟩ _
 refine cX h rfl ?_ ?_
 intro hc8 h
 refine z0f ?_
 refine sX (z0a ?_)
 exact ⟨rfl, 0, h, jN⟩
 intro hc8 h
 refine z07 ?_
 exact ⟨rfl, x3.2, h, jN⟩
 refine z0f ?_
 iterate 2 refine sX ?_
 refine z0q (t := 36) rfl ?_ ?_
 intro hb9; replace h := z0x hb9 h
 iterate 3 refine yX ?_
 refine z0q (t := 39) rfl ?_ ?_
 intro hb10; replace h := z0x hb10 h
 iterate 12 refine nX ?_
 refine yX ?_
 refine sX (z0a ?_)
 exact ⟨rfl, true, h, jN⟩
 intro hb10; replace h := z0y hb10 h
 iterate 3 refine yX ?_
 refine z0q (t := 42) rfl ?_ ?_
 intro hb11; replace h := z0x hb11 h
 iterate 3 refine yX ?_
 refine z0q (t := 45) rfl ?_ ?_
 intro hb12; replace h := z0x hb12 h
 iterate 7 refine yX ?_
 refine sX (z0a ?_)
 exact ⟨rfl, (x1.f_Index == ((((a0).asList).length : Nat) : Int)), h, jN⟩
 intro hb12; replace h := z0y hb12 h
 iterate 5 refine nX ?_
 iterate 2 refine yX ?_
 refine sX (z0a ?_)
 exact ⟨rfl, false, h, jN⟩
 intro hb11; replace h := z0y hb11 h
 refine nX ?_
 iterate 2 refine yX ?_
 iterate 5 refine nX ?_
 iterate 2 refine yX ?_
 refine sX (z0a ?_)
 exact ⟨rfl, false, h, jN⟩
 intro hb9; replace h := z0y hb9 h
 iterate 16 refine nX ?_
 refine sX (z0a ?_)
 exact ⟨rfl, false, h, jN⟩
 intro hc2 h
 refine z07 ?_
 refine cBx ?_
 refine bR ?_
 iterate 2 refine sX ?_
 obtain ⟨x13, hx13, h⟩ := obind h
 refine sS rfl rfl rfl (z06 rfl zsd rfl (wkr (wkr .nil)) ⟨(ids_V a0), ⟨(z02 x1), trivial⟩⟩ (zp9 a0 x1 x13 hx13) (z01 (ids_V x13.1) (z01 rfl z04))) ?_
 iterate 4 refine sX ?_
 refine eX ?_
 refine z08 ?_
 refine bR ?_
 refine sX ?_
 refine eX ?_
 refine cX h rfl ?_ ?_
 intro hc14 h
 refine bR ?_
 iterate 2 refine sX ?_
 refine eX ?_
 obtain rfl := eI h; exact z05 ⟨_, rfl, z0p (y := (PV.tup [(ofV V.nil), (I64 x13.2)])) (Wk.tup (.cons (Wk.eq mk_nil.symm) (wkr .nil))) (z01 (ids_V V.nil) (z01 rfl z04)) ⟨rfl, rfl⟩⟩
 intro hc14 h
 refine z07 ?_
 refine cBx ?_
 refine bR ?_
 iterate 2 refine sX ?_
 obtain ⟨x15, hx15, h⟩ := obind h
 refine sS rfl rfl rfl (zfx (a := 1) (b := ((a1).length : Int)) Tryz.underlying30 z1h rfl rfl rfl rfl rfl rfl hx15) ?_
 iterate 2 refine sX ?_
 obtain ⟨x16, hx16, h⟩ := obind h
 refine sS rfl rfl rfl (z06 rfl zvp rfl (wkr (wkr (wkr (wkr .nil)))) ⟨(ids_V x13.1), ⟨(z03 z02 x15), ⟨rfl, ⟨rfl, trivial⟩⟩⟩⟩ (c_q0g x13.1 x15 a2 x16 hx16) (z01 (ids_V x16.1) (z01 rfl z04))) ?_
 iterate 4 refine sX ?_
 refine eX ?_
 refine z08 ?_
 refine bR ?_
 refine sX ?_
 refine eX ?_
 refine cX h rfl ?_ ?_
 intro hc17 h
 refine bR ?_
 iterate 2 refine sX ?_
 refine eX ?_
 obtain rfl := eI h; exact z05 ⟨_, rfl, z0p (y := (PV.tup [(ofV V.nil), (I64 x16.2)])) (Wk.tup (.cons (Wk.eq mk_nil.symm) (wkr .nil))) (z01 (ids_V V.nil) (z01 rfl z04)) ⟨rfl, rfl⟩⟩
 intro hc17 h
 refine z07 ?_
 refine cBx ?_
 refine bR ?_
 iterate 3 refine sX ?_
 obtain ⟨x18, hx18, h⟩ := obind h
 refine sS rfl rfl rfl (z06 rfl zvo rfl (wkr (wkr (wkr .nil))) ⟨(ids_V a0), ⟨(z02 x1), ⟨(ids_V x16.1), trivial⟩⟩⟩ (ztc a0 x1 x16.1 x18 hx18) (ids_V x18)) ?_
 refine sX ?_
 refine eX ?_
 obtain rfl := eI h; exact z05 ⟨_, rfl, z0p (y := (PV.tup [(ofV x18), (I64 0)])) (Wk.refl _) (z01 (ids_V x18) (z01 rfl z04)) ⟨rfl, rfl⟩⟩
theorem C_q0g.sound : ∀ (i : C_q0g) (r : i.R), z2w C_q0g.F i = some r → C_q0g.Q i r := by
 refine z3z (Φ := C_q0g.F) (Q := C_q0g.Q) ?_
 intro g hg i r h
 cases i with
 | k_q0g a0 a1 a2 => exact z5a (fun a0 a1 a2 => g (.k_q0g a0 a1 a2)) (fun a0 a1 a2 r hr => hg (.k_q0g a0 a1 a2) r hr) a0 a1 a2 r h
theorem Z5i (a0 : V) (a1 : (List S_api_Step)) (a2 : Bool) (r : (V × Int)) (h : zo6 a0 a1 a2 = some r) : z0m Tryz.prog 33 [(ofV a0), (PV.sl none 83 3 (List.map z00 a1)), (BO a2), (PV.fn (.func 53) [] [])] (PV.tup [(ofV r.1), (I64 r.2)]) := C_q0g.sound (.k_q0g a0 a1 a2) r h
noncomputable def zqo (a0 : V) (a1 : (List S_api_Step)) : Option (V × Int) :=
 (zjr a0 a1).bind fun x1 =>
 bif (x1 != 0) then (
 some (V.nil, x1)
 ) else (
 bif ((((a1).length : Nat) : Int) == 0) then (
 some (V.nil, 1)
 ) else (
 (zo6 a0 a1 false).bind fun x4 =>
 bif (x4.2 != 0) then (
 some (V.nil, x4.2)
 ) else (
 (z8q x4.1).bind fun x6 =>
 some (x6.1, x6.2)
 )
 )
 )
theorem Z4w (a0 : V) (a1 : (List S_api_Step)) (r : (V × Int)) (h : zqo a0 a1 = some r) : z0m Tryz.prog 27 [(ofV a0), (PV.sl none 83 3 (List.map z00 a1))] (PV.tup [(ofV r.1), (I64 r.2)]) := by
 unfold zqo at h
 refine z0d Tryz.func27 rfl Tryz.ntmps27 Tryz.results27 rfl (z0g ?_)
 change BW _ _ _ ⟨[(0, (ofV a0)), (1, (PV.sl none 83 3 (List.map z00 a1)))], [], _⟩ _
 refine bR ?_
 refine sX ?_
 refine eX ?_
 refine z08 ?_
 refine bR ?_
 iterate 2 refine sX ?_
 obtain ⟨x1, hx1, h⟩ := obind h
 refine sS rfl rfl rfl (z06 rfl Z0a rfl (wkr (wkr .nil)) ⟨(ids_V a0), ⟨(z03 z02 a1), trivial⟩⟩ (zye a0 a1 x1 hx1) rfl) ?_
 refine eX ?_
 refine bR ?_
 refine sX ?_
 refine eX ?_
 refine cX h rfl ?_ ?_
 intro hc2 h
 refine bR ?_
 iterate 2 refine sX ?_
 refine eX ?_
 obtain rfl := eI h; exact z05 ⟨_, rfl, z0p (y := (PV.tup [(ofV V.nil), (I64 x1)])) (Wk.tup (.cons (Wk.eq mk_nil.symm) (wkr .nil))) (z01 (ids_V V.nil) (z01 rfl z04)) ⟨rfl, rfl⟩⟩
 intro hc2 h
 refine z07 ?_
 refine cBx ?_
 refine z08 ?_
 refine bR ?_
 iterate 2 refine sX ?_
 refine eX ?_
 refine cX h rfl ?_ ?_
 intro hc3 h
 refine bR ?_
 refine sX ?_
 refine eX ?_
 obtain rfl := eI h; exact z05 ⟨_, rfl, z0p (y := (PV.tup [(ofV V.nil), (I64 1)])) (Wk.tup (.cons (Wk.eq mk_nil.symm) (wkr .nil))) (z01 (ids_V V.nil) (z01 rfl z04)) ⟨rfl, rfl⟩⟩
 intro hc3 h
 refine z07 ?_
 refine cBx ?_
 refine bR ?_
 iterate 2 refine sX ?_
 obtain ⟨x4, hx4, h⟩ := obind h
 refine sS rfl rfl rfl (z06 rfl zvp rfl (wkr (wkr (wkr (wkr .nil)))) ⟨(ids_V a0), ⟨(z03 z02 a1), ⟨rfl, ⟨rfl, trivial⟩⟩⟩⟩ (Z5i a0 a1 false x4 hx4) (z01 (ids_V x4.1) (z01 rfl z04))) ?_
 iterate 4 refine sX ?_
 refine eX ?_
 refine z08 ?_
 refine bR ?_
 refine sX ?_
 refine eX ?_
 refine cX h rfl ?_ ?_
 intro hc5 h
 refine bR ?_
 iterate 2 refine sX ?_
 refine eX ?_
 obtain rfl := eI h; exact z05 ⟨_, rfl, z0p (y := (PV.tup [(ofV V.nil), (I64 x4.2)])) (Wk.tup (.cons (Wk.eq mk_nil.symm) (wkr .nil))) (z01 (ids_V V.nil) (z01 rfl z04)) ⟨rfl, rfl⟩⟩
 intro hc5 h
 refine z07 ?_
 refine cBx ?_
 refine bR ?_
 refine sX ?_
 obtain ⟨x6, hx6, h⟩ := obind h
 refine sS rfl rfl rfl (z06 rfl zkh rfl (wkr .nil) ⟨(ids_V x4.1), trivial⟩ (zjh x4.1 x6 hx6) (z01 (ids_V x6.1) (z01 rfl z04))) ?_
 iterate 3 refine sX ?_
 refine eX ?_
 obtain rfl := eI h; exact z05 ⟨_, rfl, z0p (y := (PV.tup [(ofV x6.1), (I64 x6.2)])) (Wk.refl _) (z01 (ids_V x6.1) (z01 rfl z04)) ⟨rfl, rfl⟩⟩
noncomputable def zqp : Option Bool :=
 (zqm ([97, 91, 49, 93] : Str)).bind fun x1 =>
 bif ((((x1.1).length : Nat) : Int) != 2) then (
 some false
 ) else (
 (zi3 (V.dict ([(([97] : Str), (V.list ([(V.int 1), (V.int 2)] : (List V))))] : (List (Str × V)))) x1.1).bind fun x3 =>
 (znu (V.dict ([(([97] : Str), (V.list ([(V.int 1), (V.int 2)] : (List V))))] : (List (Str × V)))) x1.1 (V.bool true)).bind fun x4 =>
 (zqk (V.dict ([(([97] : Str), (V.list ([(V.int 1), (V.int 2)] : (List V))))] : (List (Str × V)))) x4.1).bind fun x5 =>
 (ziz x1.1 0 1).bind fun x6 =>
 (zqo (V.dict ([(([97] : Str), (V.list ([(V.int 1), (V.int 2)] : (List V))))] : (List (Str × V)))) x6).bind fun x7 =>
 bif (x1.2.2 == 0) then (
 bif (x3.2 == 0) then (
 bif (x3.1).eqInt 2 then (
 bif (x4.2 == 0) then (
 (zdv x4.1 (V.dict ([(([97] : Str), (V.list ([(V.int 1), (V.bool true)] : (List V))))] : (List (Str × V))))).bind fun x12 =>
 bif x12 then (
 bif (x5.2 == 0) then (
 bif ((((x5.1).length : Nat) : Int) == 1) then (
 ((x5.1)[0]?).bind fun x16 =>
 bif (x16.f_What == 1) then (
 bif (x7.2 == 0) then (
 (zdv x7.1 (V.dict ([] : (List (Str × V))))).bind fun x19 =>
 some x19
 ) else (
 some false
 )
 ) else (
 some false
 )
 ) else (
 some false
 )
 ) else (
 some false
 )
 ) else (
 some false
 )
 ) else (
 some false
 )
 ) else (
 some false
 )
 ) else (
 some false
 )
 ) else (
 some false
 )
 )
theorem Z4x  (r : Bool) (h : zqp  = some r) : z0m Tryz.prog 8 [] (BO r) := by
 unfold zqp at h
 refine z0d Tryz.func8 rfl Tryz.ntmps8 Tryz.results8 rfl (z0g ?_)
 change BW _ _ _ ⟨[], [], _⟩ _
 refine bR ?_
 refine eX ?_
 refine bR ?_
 refine sS rfl rfl rfl ((z15 Tryz.underlying2 rfl rfl rfl).wk ((Wk.iface (Wk.refl _)).trans (Wk.eq (zig _).symm))) ?_
 refine sS rfl rfl rfl ((z15 Tryz.underlying2 rfl rfl rfl).wk ((Wk.iface (Wk.refl _)).trans (Wk.eq (zig _).symm))) ?_
 refine sS rfl rfl rfl ((z1e (xs := [(ofV (V.int 1)), (ofV (V.int 2))]) Tryz.underlying67 z1t rfl rfl rfl (by simp only [List.all_cons, List.all_nil, z3t, z29, Bool.and_true, Bool.true_and]; try rfl) (by simp only [List.all_cons, List.all_nil, csz_V, z31, z0t, z10]; try rfl) rfl ⟨lbE rfl, lbE rfl⟩ (by simp only [z8z, z3u, List.flatMap_cons, List.flatMap_nil, z0t, z10]; try rfl)).cast (y := (PV.sl (some 0) 20 1 (List.map ofV ([(V.int 1), (V.int 2)] : (List V))))) rfl rfl) ?_
 refine sS rfl rfl rfl ((z15 Tryz.underlying67 rfl rfl rfl).wk ((Wk.iface Wk.tok).trans (Wk.eq (z7w _).symm))) ?_
 refine sS rfl rfl rfl (z1g (cs := [(z0i ([97] : Str)), (ofV (V.list ([(V.int 1), (V.int 2)] : (List V))))]) zgu z0z rfl rfl (by simp only [List.all_cons, List.all_nil, z3t, z29, Bool.and_true, Bool.true_and]; try rfl) (by simp only [z3u, List.getElem?_cons_zero, List.getElem?_cons_succ, z0t, z10]; rfl)) ?_
 refine sS rfl rfl rfl ((z1e (xs := [(PV.agg [(z0i ([97] : Str)), (ofV (V.list ([(V.int 1), (V.int 2)] : (List V))))])]) Tryz.underlying71 z0z rfl rfl rfl (by simp only [List.all_cons, List.all_nil, z3t, z29, Bool.and_true, Bool.true_and]; try rfl) (by simp only [List.all_cons, List.all_nil, csz_V, z31, z0t, z10]; try rfl) rfl ⟨lbE rfl, lbE rfl⟩ (by simp only [z8z, z3u, List.flatMap_cons, List.flatMap_nil, z0t, z10]; try rfl)).cast (y := (PV.sl (some 1) 69 2 (List.map ofFld ([(([97] : Str), (V.list ([(V.int 1), (V.int 2)] : (List V))))] : (List (Str × V)))))) rfl rfl) ?_
 refine eX ?_
 refine bR ?_
 obtain ⟨x1, hx1, h⟩ := obind h
 refine sS rfl rfl rfl (z06 rfl Z7o rfl (wkr .nil) ⟨rfl, trivial⟩ (Z4p ([97, 91, 49, 93] : Str) x1 hx1) (z01 (z03 z02 x1.1) (z01 rfl (z01 rfl z04)))) ?_
 iterate 6 refine sX ?_
 refine eX ?_
 refine z08 ?_
 refine bR ?_
 iterate 2 refine sX ?_
 refine eX ?_
 refine cX h rfl ?_ ?_
 intro hc2 h
 refine bR ?_
 refine eX ?_
 obtain rfl := eI h; exact z05 eK
 intro hc2 h
 refine z07 ?_
 refine cBx ?_
 refine bR ?_
 refine sX ?_
 refine sS rfl rfl rfl ((z15 Tryz.underlying71 rfl rfl rfl).wk ((Wk.iface Wk.tok).trans (Wk.eq (z50 _).symm))) ?_
 refine sX ?_
 obtain ⟨x3, hx3, h⟩ := obind h
 refine sS rfl rfl rfl (z06 rfl Z3v rfl (wkr (wkr .nil)) ⟨(ids_V (V.dict ([(([97] : Str), (V.list ([(V.int 1), (V.int 2)] : (List V))))] : (List (Str × V))))), ⟨(z03 z02 x1.1), trivial⟩⟩ (Z1p (V.dict ([(([97] : Str), (V.list ([(V.int 1), (V.int 2)] : (List V))))] : (List (Str × V)))) x1.1 x3 hx3) (z01 (ids_V x3.1) (z01 rfl z04))) ?_
 iterate 4 refine sX ?_
 refine eX ?_
 refine bR ?_
 refine sX ?_
 refine sS rfl rfl rfl ((z15 Tryz.underlying71 rfl rfl rfl).wk ((Wk.iface Wk.tok).trans (Wk.eq (z50 _).symm))) ?_
 refine sX ?_
 refine sS rfl rfl rfl ((z15 Tryz.underlying4 rfl rfl rfl).wk ((Wk.iface (Wk.refl _)).trans (Wk.eq (zg4 _).symm))) ?_
 obtain ⟨x4, hx4, h⟩ := obind h
 refine sS rfl rfl rfl (z06 rfl Z7p rfl (wkr (wkr (wkr .nil))) ⟨(ids_V (V.dict ([(([97] : Str), (V.list ([(V.int 1), (V.int 2)] : (List V))))] : (List (Str × V))))), ⟨(z03 z02 x1.1), ⟨(ids_V (V.bool true)), trivial⟩⟩⟩ (Z4k (V.dict ([(([97] : Str), (V.list ([(V.int 1), (V.int 2)] : (List V))))] : (List (Str × V)))) x1.1 (V.bool true) x4 hx4) (z01 (ids_V x4.1) (z01 rfl z04))) ?_
 iterate 4 refine sX ?_
 refine eX ?_
 refine bR ?_
 refine sX ?_
 refine sS rfl rfl rfl ((z15 Tryz.underlying71 rfl rfl rfl).wk ((Wk.iface Wk.tok).trans (Wk.eq (z50 _).symm))) ?_
 refine sX ?_
 obtain ⟨x5, hx5, h⟩ := obind h
 refine sS rfl rfl rfl (z06 rfl Z7n rfl (wkr (wkr .nil)) ⟨(ids_V (V.dict ([(([97] : Str), (V.list ([(V.int 1), (V.int 2)] : (List V))))] : (List (Str × V))))), ⟨(ids_V x4.1), trivial⟩⟩ (Z4n (V.dict ([(([97] : Str), (V.list ([(V.int 1), (V.int 2)] : (List V))))] : (List (Str × V)))) x4.1 x5 hx5) (z01 (z03 z0k x5.1) (z01 rfl z04))) ?_
 iterate 4 refine sX ?_
 refine eX ?_
 refine bR ?_
 refine sX ?_
 refine sS rfl rfl rfl ((z15 Tryz.underlying71 rfl rfl rfl).wk ((Wk.iface Wk.tok).trans (Wk.eq (z50 _).symm))) ?_
 refine sX ?_
 obtain ⟨x6, hx6, h⟩ := obind h
 refine sS rfl rfl rfl (zfx (a := 0) (b := 1) Tryz.underlying30 z1h rfl rfl rfl rfl rfl rfl hx6) ?_
 obtain ⟨x7, hx7, h⟩ := obind h
 refine sS rfl rfl rfl (z06 rfl Z7f rfl (wkr (wkr .nil)) ⟨(ids_V (V.dict ([(([97] : Str), (V.list ([(V.int 1), (V.int 2)] : (List V))))] : (List (Str × V))))), ⟨(z03 z02 x6), trivial⟩⟩ (Z4w (V.dict ([(([97] : Str), (V.list ([(V.int 1), (V.int 2)] : (List V))))] : (List (Str × V)))) x6 x7 hx7) (z01 (ids_V x7.1) (z01 rfl z04))) ?_
 iterate 4 refine sX ?_
 refine eX ?_
 refine z08 (zor ?_)
 iterate 3 refine sX ?_
 refine z0q (t := 59) rfl ?_ ?_
 intro hb8; replace h := z0x hb8 h
 iterate 2 refine yX ?_
 iterate 2 refine sX ?_
 refine z0q (t := 63) rfl ?_ ?_
 intro hb9; replace h := z0x hb9 h
 refine yX ?_
 refine z1q rfl rfl rfl rfl rfl rfl ((z15 Tryz.underlying2 rfl rfl rfl).wk ((Wk.iface (Wk.refl _)).trans (Wk.eq (zig _).symm))) ?_
 refine z1q rfl rfl rfl rfl rfl rfl (zoc Tryz.underlying20 rfl rfl rfl) ?_
 iterate 2 refine sX ?_
 refine z0q (t := 68) rfl ?_ ?_
 intro hb10; replace h := z0x hb10 h
 iterate 2 refine yX ?_
 iterate 2 refine sX ?_
 refine z0q (t := 72) rfl ?_ ?_
 intro hb11; replace h := z0x hb11 h
 refine yX ?_
 refine z1q rfl rfl rfl rfl rfl rfl ((z15 Tryz.underlying2 rfl rfl rfl).wk ((Wk.iface (Wk.refl _)).trans (Wk.eq (zig _).symm))) ?_
 refine z1q rfl rfl rfl rfl rfl rfl ((z15 Tryz.underlying4 rfl rfl rfl).wk ((Wk.iface (Wk.refl _)).trans (Wk.eq (zg4 _).symm))) ?_
 refine z1q rfl rfl rfl rfl rfl rfl ((z1e (xs := [(ofV (V.int 1)), (ofV (V.bool true))]) Tryz.underlying67 z1t rfl rfl rfl (by simp only [List.all_cons, List.all_nil, z3t, z29, Bool.and_true, Bool.true_and]; try rfl) (by simp only [List.all_cons, List.all_nil, csz_V, z31, z0t, z10]; try rfl) rfl ⟨lbE rfl, lbE rfl⟩ (by simp only [z8z, z3u, List.flatMap_cons, List.flatMap_nil, z0t, z10]; try rfl)).cast (y := (PV.sl (some 2) 20 1 (List.map ofV ([(V.int 1), (V.bool true)] : (List V))))) rfl rfl) ?_
 refine z1q rfl rfl rfl rfl rfl rfl ((z15 Tryz.underlying67 rfl rfl rfl).wk ((Wk.iface Wk.tok).trans (Wk.eq (z7w _).symm))) ?_
 refine z1q rfl rfl rfl rfl rfl rfl (z1g (cs := [(z0i ([97] : Str)), (ofV (V.list ([(V.int 1), (V.bool true)] : (List V))))]) zgu z0z rfl rfl (by simp only [List.all_cons, List.all_nil, z3t, z29, Bool.and_true, Bool.true_and]; try rfl) (by simp only [z3u, List.getElem?_cons_zero, List.getElem?_cons_succ, z0t, z10]; rfl)) ?_
 refine z1q rfl rfl rfl rfl rfl rfl ((z1e (xs := [(PV.agg [(z0i ([97] : Str)), (ofV (V.list ([(V.int 1), (V.bool true)] : (List V))))])]) Tryz.underlying71 z0z rfl rfl rfl (by simp only [List.all_cons, List.all_nil, z3t, z29, Bool.and_true, Bool.true_and]; try rfl) (by simp only [List.all_cons, List.all_nil, csz_V, z31, z0t, z10]; try rfl) rfl ⟨lbE rfl, lbE rfl⟩ (by simp only [z8z, z3u, List.flatMap_cons, List.flatMap_nil, z0t, z10]; try rfl)).cast (y := (PV.sl (some 3) 69 2 (List.map ofFld ([(([97] : Str), (V.list ([(V.int 1), (V.bool true)] : (List V))))] : (List (Str × V)))))) rfl rfl) ?_
 refine z1q rfl rfl rfl rfl rfl rfl ((z15 Tryz.underlying71 rfl rfl rfl).wk ((Wk.iface Wk.tok).trans (Wk.eq (z50 _).symm))) ?_
 obtain ⟨x12, hx12, h⟩ := obind h
 refine z1q rfl rfl rfl rfl rfl rfl (z06 rfl zop rfl (wkr (wkr .nil)) ⟨(ids_V x4.1), ⟨(ids_V (V.dict ([(([97] : Str), (V.list ([(V.int 1), (V.bool true)] : (List V))))] : (List (Str × V))))), trivial⟩⟩ (znd x4.1 (V.dict ([(([97] : Str), (V.list ([(V.int 1), (V.bool true)] : (List V))))] : (List (Str × V)))) x12 hx12) rfl) ?_
 iterate 2 refine sX ?_
 refine z0q (t := 83) rfl ?_ ?_
 intro hb13; replace h := z0x hb13 h
 iterate 2 refine yX ?_
 iterate 2 refine sX ?_
 refine z0q (t := 87) rfl ?_ ?_
 intro hb14; replace h := z0x hb14 h
 iterate 3 refine yX ?_
 iterate 2 refine sX ?_
 refine z0q (t := 92) rfl ?_ ?_
 intro hb15; replace h := z0x hb15 h
 refine yX ?_
 obtain ⟨x16, hx16, h⟩ := obind h
 refine z1q rfl rfl rfl rfl rfl rfl (z1r (i := 0) Tryz.underlying46 zip rfl rfl rfl hx16 rfl) ?_
 iterate 3 refine yX ?_
 iterate 2 refine sX ?_
 refine z0q (t := 99) rfl ?_ ?_
 intro hb17; replace h := z0x hb17 h
 iterate 2 refine yX ?_
 iterate 2 refine sX ?_
 refine z0q (t := 103) rfl ?_ ?_
 intro hb18; replace h := z0x hb18 h
 refine yX ?_
 refine z1q rfl rfl rfl rfl rfl rfl ((z1e (xs := []) Tryz.underlying71 z0z rfl rfl rfl rfl rfl rfl ⟨lbE rfl, lbE rfl⟩ rfl).cast (y := (PV.sl (some 4) 69 2 (List.map ofFld ([] : (List (Str × V)))))) rfl rfl) ?_
 refine z1q rfl rfl rfl rfl rfl rfl ((z15 Tryz.underlying71 rfl rfl rfl).wk ((Wk.iface Wk.tok).trans (Wk.eq (z50 _).symm))) ?_
 obtain ⟨x19, hx19, h⟩ := obind h
 refine z1q rfl rfl rfl rfl rfl rfl (z06 rfl zop rfl (wkr (wkr .nil)) ⟨(ids_V x7.1), ⟨(ids_V (V.dict ([] : (List (Str × V))))), trivial⟩⟩ (znd x7.1 (V.dict ([] : (List (Str × V)))) x19 hx19) rfl) ?_
 refine sX ?_
 refine eX ?_
 obtain rfl := eI h; exact z05 eK
 intro hb18; replace h := z0y hb18 h
 iterate 4 refine nX ?_
 refine sX ?_
 refine eX ?_
 obtain rfl := eI h; exact z05 eK
 intro hb17; replace h := z0y hb17 h
 iterate 2 refine nX ?_
 iterate 2 refine sX ?_
 iterate 4 refine nX ?_
 refine sX ?_
 refine eX ?_
 obtain rfl := eI h; exact z05 eK
 intro hb15; replace h := z0y hb15 h
 iterate 5 refine nX ?_
 iterate 2 refine sX ?_
 iterate 2 refine nX ?_
 iterate 2 refine sX ?_
 iterate 4 refine nX ?_
 refine sX ?_
 refine eX ?_
 obtain rfl := eI h; exact z05 eK
 intro hb14; replace h := z0y hb14 h
 iterate 3 refine nX ?_
 iterate 2 refine sX ?_
 iterate 5 refine nX ?_
 iterate 2 refine sX ?_
 iterate 2 refine nX ?_
 iterate 2 refine sX ?_
 iterate 4 refine nX ?_
 refine sX ?_
 refine eX ?_
 obtain rfl := eI h; exact z05 eK
 intro hb13; replace h := z0y hb13 h
 iterate 2 refine nX ?_
 iterate 2 refine sX ?_
 iterate 3 refine nX ?_
 iterate 2 refine sX ?_
 iterate 5 refine nX ?_
 iterate 2 refine sX ?_
 iterate 2 refine nX ?_
 iterate 2 refine sX ?_
 iterate 4 refine nX ?_
 refine sX ?_
 refine eX ?_
 obtain rfl := eI h; exact z05 eK
 intro hb11; replace h := z0y hb11 h
 iterate 9 refine nX ?_
 iterate 2 refine sX ?_
 iterate 2 refine nX ?_
 iterate 2 refine sX ?_
 iterate 3 refine nX ?_
 iterate 2 refine sX ?_
 iterate 5 refine nX ?_
 iterate 2 refine sX ?_
 iterate 2 refine nX ?_
 iterate 2 refine sX ?_
 iterate 4 refine nX ?_
 refine sX ?_
 refine eX ?_
 obtain rfl := eI h; exact z05 eK
 intro hb10; replace h := z0y hb10 h
 iterate 2 refine nX ?_
 iterate 2 refine sX ?_
 iterate 9 refine nX ?_
 iterate 2 refine sX ?_
 iterate 2 refine nX ?_
 iterate 2 refine sX ?_
 iterate 3 refine nX ?_
 iterate 2 refine sX ?_
 iterate 5 refine nX ?_
 iterate 2 refine sX ?_
 iterate 2 refine nX ?_
 iterate 2 refine sX ?_
 iterate 4 refine nX ?_
 refine sX ?_
 refine eX ?_
 obtain rfl := eI h; exact z05 eK
 intro hb9; replace h := z0y hb9 h
 iterate 3 refine nX ?_
 iterate 2 refine sX ?_
 iterate 2 refine nX ?_
 iterate 2 refine sX ?_
 iterate 9 refine nX ?_
 iterate 2 refine sX ?_
 iterate 2 refine nX ?_
 iterate 2 refine sX ?_
 iterate 3 refine nX ?_
 iterate 2 refine sX ?_
 iterate 5 refine nX ?_
 iterate 2 refine sX ?_
 iterate 2 refine nX ?_
 iterate 2 refine sX ?_
 iterate 4 refine nX ?_
 refine sX ?_
 refine eX ?_
 obtain rfl := eI h; exact z05 eK
 intro hb8; replace h := z0y hb8 h
 iterate 2 refine nX ?_
 iterate 2 refine sX ?_
 iterate 3 refine nX ?_
 iterate 2 refine sX ?_
 iterate 2 refine nX ?_
 iterate 2 refine sX ?_
 iterate 9 refine nX ?_
 iterate 2 refine sX ?_
 iterate 2 refine nX ?_
 iterate 2 refine sX ?_
 iterate 3 refine nX ?_
 iterate 2 refine sX ?_
 iterate 5 refine nX ?_
 iterate 2 refine sX ?_
 iterate 2 refine nX ?_
 iterate 2 refine sX ?_
 iterate 4 refine nX ?_
 refine sX ?_
 refine eX ?_
 obtain rfl := eI h; exact z05 eK
noncomputable def znt (a0 : Int) : Option V :=
 bif ((Int.tmod a0 14) == 0) then (
 some (V.alien ⟨3, rfl⟩)
 ) else (
 bif ((Int.tmod a0 14) == 1) then (
 some (V.alien ⟨5, rfl⟩)
 ) else (
 bif ((Int.tmod a0 14) == 2) then (
 some (V.alien ⟨114, rfl⟩)
 ) else (
 bif ((Int.tmod a0 14) == 3) then (
 some (V.alien ⟨1, rfl⟩)
 ) else (
 bif ((Int.tmod a0 14) == 4) then (
 some (V.alien ⟨117, rfl⟩)
 ) else (
 bif ((Int.tmod a0 14) == 5) then (
 some (V.alien ⟨66, rfl⟩)
 ) else (
 bif ((Int.tmod a0 14) == 6) then (
 some (V.alien ⟨118, rfl⟩)
 ) else (
 bif ((Int.tmod a0 14) == 7) then (
 some (V.alien ⟨119, rfl⟩)
 ) else (
 bif ((Int.tmod a0 14) == 8) then (
 some (V.alien ⟨75, rfl⟩)
 ) else (
 bif ((Int.tmod a0 14) == 9) then (
 some (V.alien ⟨70, rfl⟩)
 ) else (
 bif ((Int.tmod a0 14) == 10) then (
 some (V.alien ⟨120, rfl⟩)
 ) else (
 bif ((Int.tmod a0 14) == 11) then (
 some (V.alien ⟨33, rfl⟩)
 ) else (
 bif ((Int.tmod a0 14) == 12) then (
 some (V.alien ⟨121, rfl⟩)
 ) else (
 some (V.alien ⟨122, rfl⟩)
 )
 )
 )
 )
 )
 )
 )
 )
 )
 )
 )
 )
 )
theorem Z4h (a0 : Int) (r : V) (h : znt a0 = some r) : z0m Tryz.prog 29 [(I64 a0)] (ofV r) := by
 unfold znt at h
 refine z0d Tryz.func29 rfl Tryz.ntmps29 Tryz.results29 rfl (z0g ?_)
 change BW _ _ _ ⟨[(0, (I64 a0))], [], _⟩ _
 refine bR ?_
 refine eX ?_
 refine z08 ?_
 refine bR ?_
 refine sX ?_
 refine sS rfl rfl rfl (zz2 rfl rfl rfl (by decide)) (z0a ?_)
 refine cBx ?_
 refine z0h ?_
 refine cBx ?_
 refine bR ?_
 refine sX ?_
 refine eX ?_
 refine cX h rfl ?_ ?_
 intro hc1 h
 refine bR ?_
 refine sS rfl rfl rfl ((z15 Tryz.underlying3 rfl rfl rfl).wk ((Wk.iface Wk.junk).trans (Wk.eq (z30 ⟨3, rfl⟩).symm))) ?_
 refine eX ?_
 obtain rfl := eI h; exact z05 ⟨_, rfl, z0p (y := (ofV (V.alien ⟨3, rfl⟩))) (Wk.refl _) (ids_V (V.alien ⟨3, rfl⟩)) ⟨rfl, rfl⟩⟩
 intro hc1 h
 refine bR ?_
 refine sX ?_
 refine eX ?_
 refine cX h rfl ?_ ?_
 intro hc2 h
 refine bR ?_
 refine sS rfl rfl rfl ((z15 Tryz.underlying5 rfl rfl rfl).wk ((Wk.iface Wk.junk).trans (Wk.eq (z30 ⟨5, rfl⟩).symm))) ?_
 refine eX ?_
 obtain rfl := eI h; exact z05 ⟨_, rfl, z0p (y := (ofV (V.alien ⟨5, rfl⟩))) (Wk.refl _) (ids_V (V.alien ⟨5, rfl⟩)) ⟨rfl, rfl⟩⟩
 intro hc2 h
 refine bR ?_
 refine sX ?_
 refine eX ?_
 refine cX h rfl ?_ ?_
 intro hc3 h
 refine bR ?_
 refine zt3 rfl rfl rfl rfl rfl rfl rfl Tryz.underlying114 Tryz.underlying9 ?_
 refine sX ?_
 refine sS rfl rfl rfl ((z15 Tryz.underlying114 rfl rfl rfl).wk ((Wk.iface Wk.junk).trans (Wk.eq (z30 ⟨114, rfl⟩).symm))) ?_
 refine eX ?_
 obtain rfl := eI h; exact z05 ⟨_, rfl, z0p (y := (ofV (V.alien ⟨114, rfl⟩))) (Wk.refl _) (ids_V (V.alien ⟨114, rfl⟩)) ⟨rfl, rfl⟩⟩
 intro hc3 h
 refine bR ?_
 refine sX ?_
 refine eX ?_
 refine cX h rfl ?_ ?_
 intro hc4 h
 refine bR ?_
 refine sS rfl rfl rfl ((z15 Tryz.underlying1 rfl rfl rfl).wk ((Wk.iface Wk.junk).trans (Wk.eq (z30 ⟨1, rfl⟩).symm))) ?_
 refine eX ?_
 obtain rfl := eI h; exact z05 ⟨_, rfl, z0p (y := (ofV (V.alien ⟨1, rfl⟩))) (Wk.refl _) (ids_V (V.alien ⟨1, rfl⟩)) ⟨rfl, rfl⟩⟩
 intro hc4 h
 refine bR ?_
 refine sX ?_
 refine eX ?_
 refine cX h rfl ?_ ?_
 intro hc5 h
 refine bR ?_
 refine sS rfl rfl rfl ((z1e (xs := [(I64 1)]) Tryz.underlying115 z8f rfl rfl rfl rfl rfl rfl ⟨lbE rfl, lbE rfl⟩ rfl).cast (y := (PV.sl (some 0) 3 1 (List.map (ofI .i64) ([1] : (List Int))))) rfl rfl) ?_
 refine sS rfl rfl rfl (z1g (cs := [(PV.sl (some 0) 3 1 (List.map (ofI .i64) ([1] : (List Int))))]) zx0 zzo rfl rfl rfl rfl) ?_
 refine sS rfl rfl rfl ((z15 Tryz.underlying117 rfl rfl rfl).wk ((Wk.iface Wk.junk).trans (Wk.eq (z30 ⟨117, rfl⟩).symm))) ?_
 refine eX ?_
 obtain rfl := eI h; exact z05 ⟨_, rfl, z0p (y := (ofV (V.alien ⟨117, rfl⟩))) (Wk.refl _) (ids_V (V.alien ⟨117, rfl⟩)) ⟨rfl, rfl⟩⟩
 intro hc5 h
 refine bR ?_
 refine sX ?_
 refine eX ?_
 refine cX h rfl ?_ ?_
 intro hc6 h
 refine bR ?_
 refine sS rfl rfl rfl ((z15 Tryz.underlying4 rfl rfl rfl).wk ((Wk.iface (Wk.refl _)).trans (Wk.eq (zg4 _).symm))) ?_
 refine sS rfl rfl rfl ((z1e (xs := [(ofV (V.bool true))]) Tryz.underlying66 z1t rfl rfl rfl (by simp only [List.all_cons, List.all_nil, z3t, z29, Bool.and_true, Bool.true_and]; try rfl) (by simp only [List.all_cons, List.all_nil, csz_V, z31, z0t, z10]; try rfl) rfl ⟨lbE rfl, lbE rfl⟩ (by simp only [z8z, z3u, List.flatMap_cons, List.flatMap_nil, z0t, z10]; try rfl)).cast (y := (PV.sl (some 0) 20 1 (List.map ofV ([(V.bool true)] : (List V))))) rfl rfl) ?_
 refine sS rfl rfl rfl ((z15 Tryz.underlying66 rfl rfl rfl).wk ((Wk.iface Wk.junk).trans (Wk.eq (z30 ⟨66, rfl⟩).symm))) ?_
 refine eX ?_
 obtain rfl := eI h; exact z05 ⟨_, rfl, z0p (y := (ofV (V.alien ⟨66, rfl⟩))) (Wk.refl _) (ids_V (V.alien ⟨66, rfl⟩)) ⟨rfl, rfl⟩⟩
 intro hc6 h
 refine bR ?_
 refine sX ?_
 refine eX ?_
 refine cX h rfl ?_ ?_
 intro hc7 h
 refine bR ?_
 refine sS rfl rfl rfl ((z15 Tryz.underlying118 rfl rfl rfl).wk ((Wk.iface Wk.junk).trans (Wk.eq (z30 ⟨118, rfl⟩).symm))) ?_
 refine eX ?_
 obtain rfl := eI h; exact z05 ⟨_, rfl, z0p (y := (ofV (V.alien ⟨118, rfl⟩))) (Wk.refl _) (ids_V (V.alien ⟨118, rfl⟩)) ⟨rfl, rfl⟩⟩
 intro hc7 h
 refine bR ?_
 refine sX ?_
 refine eX ?_
 refine cX h rfl ?_ ?_
 intro hc8 h
 refine bR ?_
 refine sS rfl rfl rfl ((z15 Tryz.underlying119 rfl rfl rfl).wk ((Wk.iface Wk.junk).trans (Wk.eq (z30 ⟨119, rfl⟩).symm))) ?_
 refine eX ?_
 obtain rfl := eI h; exact z05 ⟨_, rfl, z0p (y := (ofV (V.alien ⟨119, rfl⟩))) (Wk.refl _) (ids_V (V.alien ⟨119, rfl⟩)) ⟨rfl, rfl⟩⟩
 intro hc8 h
 refine bR ?_
 refine sX ?_
 refine eX ?_
 refine cX h rfl ?_ ?_
 intro hc9 h
 refine bR ?_
 refine sS rfl rfl rfl (z1g (cs := [(z0i ([97] : Str)), (I64 1), (PV.v (.slice none 0 0))]) zjd zez rfl rfl rfl rfl) ?_
 refine sS rfl rfl rfl ((z15 Tryz.underlying75 rfl rfl rfl).wk ((Wk.iface Wk.junk).trans (Wk.eq (z30 ⟨75, rfl⟩).symm))) ?_
 refine eX ?_
 obtain rfl := eI h; exact z05 ⟨_, rfl, z0p (y := (ofV (V.alien ⟨75, rfl⟩))) (Wk.refl _) (ids_V (V.alien ⟨75, rfl⟩)) ⟨rfl, rfl⟩⟩
 intro hc9 h
 refine bR ?_
 refine sX ?_
 refine eX ?_
 refine cX h rfl ?_ ?_
 intro hc10 h
 refine bR ?_
 refine sS rfl rfl rfl ((z1e (xs := []) Tryz.underlying70 z0z rfl rfl rfl rfl rfl rfl ⟨lbE rfl, lbE rfl⟩ rfl).cast (y := (PV.sl (some 0) 69 2 (List.map ofFld ([] : (List (Str × V)))))) rfl rfl) ?_
 refine sS rfl rfl rfl ((z15 Tryz.underlying70 rfl rfl rfl).wk ((Wk.iface Wk.junk).trans (Wk.eq (z30 ⟨70, rfl⟩).symm))) ?_
 refine eX ?_
 obtain rfl := eI h; exact z05 ⟨_, rfl, z0p (y := (ofV (V.alien ⟨70, rfl⟩))) (Wk.refl _) (ids_V (V.alien ⟨70, rfl⟩)) ⟨rfl, rfl⟩⟩
 intro hc10 h
 refine bR ?_
 refine sX ?_
 refine eX ?_
 refine cX h rfl ?_ ?_
 intro hc11 h
 refine bR ?_
 refine eX ?_
 refine bR ?_
 refine sX ?_
 refine sS rfl rfl rfl ((z15 Tryz.underlying120 rfl rfl rfl).wk ((Wk.iface Wk.junk).trans (Wk.eq (z30 ⟨120, rfl⟩).symm))) ?_
 refine eX ?_
 obtain rfl := eI h; exact z05 ⟨_, rfl, z0p (y := (ofV (V.alien ⟨120, rfl⟩))) (Wk.refl _) (ids_V (V.alien ⟨120, rfl⟩)) ⟨rfl, rfl⟩⟩
 intro hc11 h
 refine bR ?_
 refine sX ?_
 refine eX ?_
 refine cX h rfl ?_ ?_
 intro hc12 h
 refine bR ?_
 refine sS rfl rfl rfl ((z15 Tryz.underlying33 rfl rfl rfl).wk ((Wk.iface Wk.junk).trans (Wk.eq (z30 ⟨33, rfl⟩).symm))) ?_
 refine eX ?_
 obtain rfl := eI h; exact z05 ⟨_, rfl, z0p (y := (ofV (V.alien ⟨33, rfl⟩))) (Wk.refl _) (ids_V (V.alien ⟨33, rfl⟩)) ⟨rfl, rfl⟩⟩
 intro hc12 h
 refine bR ?_
 refine sX ?_
 refine eX ?_
 refine cX h rfl ?_ ?_
 intro hc13 h
 refine bR ?_
 refine eX ?_
 refine bR ?_
 refine sX ?_
 refine sS rfl rfl rfl ((z15 Tryz.underlying121 rfl rfl rfl).wk ((Wk.iface Wk.junk).trans (Wk.eq (z30 ⟨121, rfl⟩).symm))) ?_
 refine eX ?_
 obtain rfl := eI h; exact z05 ⟨_, rfl, z0p (y := (ofV (V.alien ⟨121, rfl⟩))) (Wk.refl _) (ids_V (V.alien ⟨121, rfl⟩)) ⟨rfl, rfl⟩⟩
 intro hc13 h
 refine z07 ?_
 refine cBx ?_
 refine bR ?_
 refine sS rfl rfl rfl (Op1.junk (zic (cs := [(I64 1), (I64 2)]) Tryz.underlying122 zzn z8f rfl rfl rfl rfl)) ?_
 refine sS rfl rfl rfl ((z15 Tryz.underlying122 rfl rfl rfl).wk ((Wk.iface Wk.junk).trans (Wk.eq (z30 ⟨122, rfl⟩).symm))) ?_
 refine eX ?_
 obtain rfl := eI h; exact z05 ⟨_, rfl, z0p (y := (ofV (V.alien ⟨122, rfl⟩))) (Wk.refl _) (ids_V (V.alien ⟨122, rfl⟩)) ⟨rfl, rfl⟩⟩
end Go.Proofs.YthidgpcbnieleaaGreatDoor
