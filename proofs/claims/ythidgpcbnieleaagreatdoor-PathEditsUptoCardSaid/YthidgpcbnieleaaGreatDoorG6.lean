/- Pure functions, and that calls answer as they say. -/
import Derived.Test.YthidgpcbnieleaaGreatDoorG5
namespace Go.Proofs.YthidgpcbnieleaaGreatDoor
open Go Aw
set_option linter.unusedVariables false
set_option linter.unusedSimpArgs false
set_option maxRecDepth 20000
set_option maxHeartbeats 2000000
variable {ι : Type} {ρ : ι → Type}
noncomputable def zgm (a0 : V) (x1 : S_api_Step) (s4 : Int) : Option (V × Int) :=
 bif (s4 != 0) then (
 some (V.nil, s4)
 ) else (
 (zgz a0 x1).bind fun x6 =>
 some (x6, 0)
 )
noncomputable def zat (a0 : V) (x1 : S_api_Step) (x3 : (V × Int)) (s7 : Bool) : Option (V × Int) :=
 bif s7 then (
 zgm a0 x1 0
 ) else (
 zgm a0 x1 x3.2
 )
noncomputable def zne (r_q0b : V → (List S_api_Step) → Bool → Option (V × Int)) (a0 : V) (a1 : (List S_api_Step)) (a2 : Bool) : Option (V × Int) :=
 ((a1)[0]?).bind fun x1 =>
 bif ((((a1).length : Nat) : Int) == 1) then (
 (z5m a0 x1).bind fun x3 =>
 bif a2 then (
 bif (x3.2 == 40) then (
 zat a0 x1 x3 true
 ) else (
 bif (x3.2 == 42) then (
 bif (a0).isList then (
 zat a0 x1 x3 (x1.f_Index == ((((a0).asList).length : Nat) : Int))
 ) else (
 zat a0 x1 x3 false
 )
 ) else (
 zat a0 x1 x3 false
 )
 )
 ) else (
 zat a0 x1 x3 false
 )
 ) else (
 (z5m a0 x1).bind fun x13 =>
 bif (x13.2 != 0) then (
 some (V.nil, x13.2)
 ) else (
 (zah a1 1 ((a1).length : Int)).bind fun x15 =>
 (r_q0b x13.1 x15 a2).bind fun x16 =>
 bif (x16.2 != 0) then (
 some (V.nil, x16.2)
 ) else (
 (z82 a0 x1 x16.1).bind fun x18 =>
 some (x18, 0)
 )
 )
 )
theorem zui (r_q0b : OF ρ → V → (List S_api_Step) → Bool → Option (V × Int)) (h_r_q0b : ∀ y0 y1 y2, CM (fun G => r_q0b G y0 y1 y2)) (a0 : V) (a1 : (List S_api_Step)) (a2 : Bool) : CM (fun G : OF ρ => zne (r_q0b G) a0 a1 a2) := by
 simp only [zne]
 repeat (first | exact z0h | exact h_r_q0b _ _ _ | apply q0b_j2_cm | refine z14 ?_ ?_ | refine z15 ?_ (fun _ => ?_) | intro _ | assumption)
inductive C_q0b where
 | k_q0b (a0 : V) (a1 : (List S_api_Step)) (a2 : Bool)
def C_q0b.R : C_q0b → Type
 | .k_q0b _ _ _ => (V × Int)
noncomputable def C_q0b.F (g : ∀ i : C_q0b, Option i.R) : ∀ i : C_q0b, Option i.R
 | .k_q0b a0 a1 a2 => zne (fun a0 a1 a2 => g (.k_q0b a0 a1 a2)) a0 a1 a2
noncomputable def ziv (a0 : V) (a1 : (List S_api_Step)) (a2 : Bool) : Option (V × Int) := z3n C_q0b.F (.k_q0b a0 a1 a2)
abbrev Z5r := fun (g : ∀ i : C_q0b, Option i.R) a0 a1 a2 => g (.k_q0b a0 a1 a2)
theorem Z5m (a0 a1 a2 : _) : CM (ρ := C_q0b.R) (fun g => g (C_q0b.k_q0b a0 a1 a2)) := z1j
theorem C_q0b.cm (i : C_q0b) : CM (fun g : (∀ i : C_q0b, Option i.R) => C_q0b.F g i) := by
 cases i with
 | k_q0b a0 a1 a2 => exact zui Z5r Z5m a0 a1 a2
theorem Z4c (a0 : V) (a1 : (List S_api_Step)) (a2 : Bool) : ziv a0 a1 a2 = zne ziv a0 a1 a2 := z1f C_q0b.cm (.k_q0b a0 a1 a2)
def C_q0b.Q : ∀ i : C_q0b, i.R → Prop
 | .k_q0b a0 a1 a2 => fun (r : (V × Int)) => z0k Tryz.prog 33 [(ofV a0), (PV.sl none 83 3 (List.map z03 a1)), (BO a2), (PV.fn (.func 53) [] [])] (PV.tup [(ofV r.1), (I64 r.2)])
theorem z4x (r_q0b : V → (List S_api_Step) → Bool → Option (V × Int)) (c_q0b : ∀ (a0 : V) (a1 : (List S_api_Step)) (a2 : Bool) r, r_q0b a0 a1 a2 = some r → z0k Tryz.prog 33 [(ofV a0), (PV.sl none 83 3 (List.map z03 a1)), (BO a2), (PV.fn (.func 53) [] [])] (PV.tup [(ofV r.1), (I64 r.2)])) (a0 : V) (a1 : (List S_api_Step)) (a2 : Bool) (r : (V × Int)) (h : zne r_q0b a0 a1 a2 = some r) : z0k Tryz.prog 33 [(ofV a0), (PV.sl none 83 3 (List.map z03 a1)), (BO a2), (PV.fn (.func 53) [] [])] (PV.tup [(ofV r.1), (I64 r.2)]) := by
 unfold zne at h
 refine z0e Tryz.func33 rfl Tryz.ntmps33 Tryz.results33 rfl (z0i ?_)
 change BW _ _ _ ⟨[(0, (ofV a0)), (1, (PV.sl none 83 3 (List.map z03 a1))), (2, (BO a2)), (3, (PV.fn (.func 53) [] []))], [], _⟩ _
 refine bR ?_
 refine sX ?_
 refine eX ?_
 refine bR ?_
 refine sX ?_
 obtain ⟨x1, hx1, h⟩ := obind h
 refine sS rfl rfl rfl (z1m (i := 0) Tryz.underlying30 z13 rfl rfl rfl hx1 rfl) ?_
 refine sX ?_
 refine sS rfl rfl rfl (z1t z13 rfl) ?_
 refine z1g rfl rfl (z18 z13 rfl rfl rfl rfl rfl rfl (lbE rfl) rfl) ?_
 refine z0d ?_
 refine cBx ?_
 refine z0b ?_
 refine bR ?_
 iterate 2 refine sX ?_
 refine eX ?_
 refine cX h rfl ?_ ?_
 intro hc2 h
 refine bR ?_
 iterate 2 refine sX ?_
 obtain ⟨x3, hx3, h⟩ := obind h
 refine sS rfl rfl rfl (z05 rfl zcy rfl (wkr (wkr .nil)) ⟨(ids_V a0), ⟨(z01 x1), trivial⟩⟩ (zbj a0 x1 x3 hx3) (z00 (ids_V x3.1) (z00 rfl z02))) ?_
 iterate 4 refine sX ?_
 refine eX ?_
 refine bR ?_
 refine sX ?_
 refine sS rfl rfl rfl (z1u rfl rfl) ?_
 iterate 4 refine sX ?_
 refine eX ?_
 refine z2b (ι := Int) (fun i => zgm a0 x1 i = some r) (fun i => [(0, (ofV a0)), (3, (PV.fn (.func 53) [] [])), (10, (PV.rf 0 0)), (12, (I64 i))]) (fun i => [.box 83 [(z0n x1.f_Name), (BO x1.f_At), (I64 x1.f_Index)]]) ?_ ?_ ?_
 intro i; exact ⟨lbE rfl, ⟨(z0c (ids_V _)), ⟨(z0c rfl), ⟨(il_rf rfl), ⟨(z0c rfl), trivial⟩⟩⟩⟩, ⟨⟨(z0c rfl), ⟨(z0c rfl), ⟨(z0c rfl), trivial⟩⟩⟩, trivial⟩⟩
 rintro s4 h; replace h : zgm a0 x1 s4 = some r := h; unfold zgm at h
 change BW _ _ _ ⟨[(0, (ofV a0)), (3, (PV.fn (.func 53) [] [])), (10, (PV.rf 0 0)), (12, (I64 s4))], [.box 83 [(z0n x1.f_Name), (BO x1.f_At), (I64 x1.f_Index)]], _⟩ _
 refine z0b ?_
 refine bR ?_
 refine sX ?_
 refine eX ?_
 refine cX h rfl ?_ ?_
 intro hc5 h
 refine bR ?_
 iterate 2 refine sX ?_
 refine eX ?_
 obtain rfl := eI h; exact z04 ⟨_, rfl, z0f (y := (PV.tup [(ofV V.nil), (I64 s4)])) (Wk.tup (.cons (Wk.eq mk_nil.symm) (wkr .nil))) (z00 (ids_V V.nil) (z00 rfl z02)) ⟨rfl, rfl⟩⟩
 intro hc5 h
 refine z09 ?_
 refine cBx ?_
 refine bR ?_
 iterate 3 refine sX ?_
 obtain ⟨x6, hx6, h⟩ := obind h
 refine sS rfl rfl rfl (z5w rfl rfl Z3q rfl (wkr (wkr .nil)) ⟨(ids_V a0), ⟨(z01 x1), trivial⟩⟩ (Z2a a0 x1 x6 hx6) (ids_V x6)) ?_
 refine sX ?_
 refine eX ?_
 obtain rfl := eI h; exact z04 ⟨_, rfl, z0f (y := (PV.tup [(ofV x6), (I64 0)])) (Wk.refl _) (z00 (ids_V x6) (z00 rfl z02)) ⟨rfl, rfl⟩⟩
 refine z2b (ι := Bool) (fun i => zat a0 x1 x3 i = some r) (fun i => [(0, (ofV a0)), (3, (PV.fn (.func 53) [] [])), (10, (PV.rf 0 0)), (12, (I64 x3.2)), (53, (BO i))]) (fun i => [.box 83 [(z0n x1.f_Name), (BO x1.f_At), (I64 x1.f_Index)]]) ?_ ?_ ?_
 intro i; exact ⟨lbE rfl, ⟨(z0c (ids_V _)), ⟨(z0c rfl), ⟨(il_rf rfl), ⟨(z0c rfl), ⟨(z0c rfl), trivial⟩⟩⟩⟩⟩, ⟨⟨(z0c rfl), ⟨(z0c rfl), ⟨(z0c rfl), trivial⟩⟩⟩, trivial⟩⟩
 rintro s7 h; replace h : zat a0 x1 x3 s7 = some r := h; unfold zat at h
 change BW _ _ _ ⟨[(0, (ofV a0)), (3, (PV.fn (.func 53) [] [])), (10, (PV.rf 0 0)), (12, (I64 x3.2)), (53, (BO s7))], [.box 83 [(z0n x1.f_Name), (BO x1.f_At), (I64 x1.f_Index)]], _⟩ _
 refine cX h rfl ?_ ?_
 intro hc8 h
 refine z0g ?_
 refine sX (z0d ?_)
 exact ⟨rfl, 0, h, jN⟩
 intro hc8 h
 refine z09 ?_
 exact ⟨rfl, x3.2, h, jN⟩
 refine z0g ?_
 iterate 2 refine sX ?_
 refine z0j (t := 36) rfl ?_ ?_
 intro hb9; replace h := z0o hb9 h
 iterate 3 refine yX ?_
 refine z0j (t := 39) rfl ?_ ?_
 intro hb10; replace h := z0o hb10 h
 iterate 12 refine nX ?_
 refine yX ?_
 refine sX (z0d ?_)
 exact ⟨rfl, true, h, jN⟩
 intro hb10; replace h := z0p hb10 h
 iterate 3 refine yX ?_
 refine z0j (t := 42) rfl ?_ ?_
 intro hb11; replace h := z0o hb11 h
 iterate 3 refine yX ?_
 refine z0j (t := 45) rfl ?_ ?_
 intro hb12; replace h := z0o hb12 h
 iterate 7 refine yX ?_
 refine sX (z0d ?_)
 exact ⟨rfl, (x1.f_Index == ((((a0).asList).length : Nat) : Int)), h, jN⟩
 intro hb12; replace h := z0p hb12 h
 iterate 5 refine nX ?_
 iterate 2 refine yX ?_
 refine sX (z0d ?_)
 exact ⟨rfl, false, h, jN⟩
 intro hb11; replace h := z0p hb11 h
 refine nX ?_
 iterate 2 refine yX ?_
 iterate 5 refine nX ?_
 iterate 2 refine yX ?_
 refine sX (z0d ?_)
 exact ⟨rfl, false, h, jN⟩
 intro hb9; replace h := z0p hb9 h
 iterate 16 refine nX ?_
 refine sX (z0d ?_)
 exact ⟨rfl, false, h, jN⟩
 intro hc2 h
 refine z09 ?_
 refine cBx ?_
 refine bR ?_
 iterate 2 refine sX ?_
 obtain ⟨x13, hx13, h⟩ := obind h
 refine sS rfl rfl rfl (z05 rfl zcy rfl (wkr (wkr .nil)) ⟨(ids_V a0), ⟨(z01 x1), trivial⟩⟩ (zbj a0 x1 x13 hx13) (z00 (ids_V x13.1) (z00 rfl z02))) ?_
 iterate 4 refine sX ?_
 refine eX ?_
 refine z0b ?_
 refine bR ?_
 refine sX ?_
 refine eX ?_
 refine cX h rfl ?_ ?_
 intro hc14 h
 refine bR ?_
 iterate 2 refine sX ?_
 refine eX ?_
 obtain rfl := eI h; exact z04 ⟨_, rfl, z0f (y := (PV.tup [(ofV V.nil), (I64 x13.2)])) (Wk.tup (.cons (Wk.eq mk_nil.symm) (wkr .nil))) (z00 (ids_V V.nil) (z00 rfl z02)) ⟨rfl, rfl⟩⟩
 intro hc14 h
 refine z09 ?_
 refine cBx ?_
 refine bR ?_
 iterate 2 refine sX ?_
 obtain ⟨x15, hx15, h⟩ := obind h
 refine sS rfl rfl rfl (z49 (a := 1) (b := ((a1).length : Int)) Tryz.underlying30 z13 rfl rfl rfl rfl rfl rfl hx15) ?_
 iterate 2 refine sX ?_
 obtain ⟨x16, hx16, h⟩ := obind h
 refine sS rfl rfl rfl (z05 rfl zf9 rfl (wkr (wkr (wkr (wkr .nil)))) ⟨(ids_V x13.1), ⟨(z07 z01 x15), ⟨rfl, ⟨rfl, trivial⟩⟩⟩⟩ (c_q0b x13.1 x15 a2 x16 hx16) (z00 (ids_V x16.1) (z00 rfl z02))) ?_
 iterate 4 refine sX ?_
 refine eX ?_
 refine z0b ?_
 refine bR ?_
 refine sX ?_
 refine eX ?_
 refine cX h rfl ?_ ?_
 intro hc17 h
 refine bR ?_
 iterate 2 refine sX ?_
 refine eX ?_
 obtain rfl := eI h; exact z04 ⟨_, rfl, z0f (y := (PV.tup [(ofV V.nil), (I64 x16.2)])) (Wk.tup (.cons (Wk.eq mk_nil.symm) (wkr .nil))) (z00 (ids_V V.nil) (z00 rfl z02)) ⟨rfl, rfl⟩⟩
 intro hc17 h
 refine z09 ?_
 refine cBx ?_
 refine bR ?_
 iterate 3 refine sX ?_
 obtain ⟨x18, hx18, h⟩ := obind h
 refine sS rfl rfl rfl (z05 rfl zj8 rfl (wkr (wkr (wkr .nil))) ⟨(ids_V a0), ⟨(z01 x1), ⟨(ids_V x16.1), trivial⟩⟩⟩ (zie a0 x1 x16.1 x18 hx18) (ids_V x18)) ?_
 refine sX ?_
 refine eX ?_
 obtain rfl := eI h; exact z04 ⟨_, rfl, z0f (y := (PV.tup [(ofV x18), (I64 0)])) (Wk.refl _) (z00 (ids_V x18) (z00 rfl z02)) ⟨rfl, rfl⟩⟩
theorem C_q0b.sound : ∀ (i : C_q0b) (r : i.R), z3n C_q0b.F i = some r → C_q0b.Q i r := by
 refine z4b (Φ := C_q0b.F) (Q := C_q0b.Q) ?_
 intro g hg i r h
 cases i with
 | k_q0b a0 a1 a2 => exact z4x (fun a0 a1 a2 => g (.k_q0b a0 a1 a2)) (fun a0 a1 a2 r hr => hg (.k_q0b a0 a1 a2) r hr) a0 a1 a2 r h
theorem zze (a0 : V) (a1 : (List S_api_Step)) (a2 : Bool) (r : (V × Int)) (h : ziv a0 a1 a2 = some r) : z0k Tryz.prog 33 [(ofV a0), (PV.sl none 83 3 (List.map z03 a1)), (BO a2), (PV.fn (.func 53) [] [])] (PV.tup [(ofV r.1), (I64 r.2)]) := C_q0b.sound (.k_q0b a0 a1 a2) r h
noncomputable def zp6 (a0 : V) (a1 : (List S_api_Step)) : Option (V × Int) :=
 (zip a0 a1).bind fun x1 =>
 bif (x1 != 0) then (
 some (V.nil, x1)
 ) else (
 bif ((((a1).length : Nat) : Int) == 0) then (
 some (V.nil, 1)
 ) else (
 (ziv a0 a1 false).bind fun x4 =>
 bif (x4.2 != 0) then (
 some (V.nil, x4.2)
 ) else (
 (z73 x4.1).bind fun x6 =>
 some (x6.1, x6.2)
 )
 )
 )
theorem Z25 (a0 : V) (a1 : (List S_api_Step)) (r : (V × Int)) (h : zp6 a0 a1 = some r) : z0k Tryz.prog 27 [(ofV a0), (PV.sl none 83 3 (List.map z03 a1))] (PV.tup [(ofV r.1), (I64 r.2)]) := by
 unfold zp6 at h
 refine z0e Tryz.func27 rfl Tryz.ntmps27 Tryz.results27 rfl (z0i ?_)
 change BW _ _ _ ⟨[(0, (ofV a0)), (1, (PV.sl none 83 3 (List.map z03 a1)))], [], _⟩ _
 refine bR ?_
 refine sX ?_
 refine eX ?_
 refine z0b ?_
 refine bR ?_
 iterate 2 refine sX ?_
 obtain ⟨x1, hx1, h⟩ := obind h
 refine sS rfl rfl rfl (z05 rfl zxy rfl (wkr (wkr .nil)) ⟨(ids_V a0), ⟨(z07 z01 a1), trivial⟩⟩ (zw8 a0 a1 x1 hx1) rfl) ?_
 refine eX ?_
 refine bR ?_
 refine sX ?_
 refine eX ?_
 refine cX h rfl ?_ ?_
 intro hc2 h
 refine bR ?_
 iterate 2 refine sX ?_
 refine eX ?_
 obtain rfl := eI h; exact z04 ⟨_, rfl, z0f (y := (PV.tup [(ofV V.nil), (I64 x1)])) (Wk.tup (.cons (Wk.eq mk_nil.symm) (wkr .nil))) (z00 (ids_V V.nil) (z00 rfl z02)) ⟨rfl, rfl⟩⟩
 intro hc2 h
 refine z09 ?_
 refine cBx ?_
 refine z0b ?_
 refine bR ?_
 iterate 2 refine sX ?_
 refine eX ?_
 refine cX h rfl ?_ ?_
 intro hc3 h
 refine bR ?_
 refine sX ?_
 refine eX ?_
 obtain rfl := eI h; exact z04 ⟨_, rfl, z0f (y := (PV.tup [(ofV V.nil), (I64 1)])) (Wk.tup (.cons (Wk.eq mk_nil.symm) (wkr .nil))) (z00 (ids_V V.nil) (z00 rfl z02)) ⟨rfl, rfl⟩⟩
 intro hc3 h
 refine z09 ?_
 refine cBx ?_
 refine bR ?_
 iterate 2 refine sX ?_
 obtain ⟨x4, hx4, h⟩ := obind h
 refine sS rfl rfl rfl (z05 rfl zf9 rfl (wkr (wkr (wkr (wkr .nil)))) ⟨(ids_V a0), ⟨(z07 z01 a1), ⟨rfl, ⟨rfl, trivial⟩⟩⟩⟩ (zze a0 a1 false x4 hx4) (z00 (ids_V x4.1) (z00 rfl z02))) ?_
 iterate 4 refine sX ?_
 refine eX ?_
 refine z0b ?_
 refine bR ?_
 refine sX ?_
 refine eX ?_
 refine cX h rfl ?_ ?_
 intro hc5 h
 refine bR ?_
 iterate 2 refine sX ?_
 refine eX ?_
 obtain rfl := eI h; exact z04 ⟨_, rfl, z0f (y := (PV.tup [(ofV V.nil), (I64 x4.2)])) (Wk.tup (.cons (Wk.eq mk_nil.symm) (wkr .nil))) (z00 (ids_V V.nil) (z00 rfl z02)) ⟨rfl, rfl⟩⟩
 intro hc5 h
 refine z09 ?_
 refine cBx ?_
 refine bR ?_
 refine sX ?_
 obtain ⟨x6, hx6, h⟩ := obind h
 refine sS rfl rfl rfl (z05 rfl zn7 rfl (wkr .nil) ⟨(ids_V x4.1), trivial⟩ (zlq x4.1 x6 hx6) (z00 (ids_V x6.1) (z00 rfl z02))) ?_
 iterate 3 refine sX ?_
 refine eX ?_
 obtain rfl := eI h; exact z04 ⟨_, rfl, z0f (y := (PV.tup [(ofV x6.1), (I64 x6.2)])) (Wk.refl _) (z00 (ids_V x6.1) (z00 rfl z02)) ⟨rfl, rfl⟩⟩
noncomputable def zp8 : Option Bool :=
 (zp4 ([97, 91, 49, 93] : Str)).bind fun x1 =>
 bif ((((x1.1).length : Nat) : Int) != 2) then (
 some false
 ) else (
 (zim (V.dict ([(([97] : Str), (V.list ([(V.int 1), (V.int 2)] : (List V))))] : (List (Str × V)))) x1.1).bind fun x3 =>
 (zmb (V.dict ([(([97] : Str), (V.list ([(V.int 1), (V.int 2)] : (List V))))] : (List (Str × V)))) x1.1 (V.bool true)).bind fun x4 =>
 (zp1 (V.dict ([(([97] : Str), (V.list ([(V.int 1), (V.int 2)] : (List V))))] : (List (Str × V)))) x4.1).bind fun x5 =>
 (zah x1.1 0 1).bind fun x6 =>
 (zp6 (V.dict ([(([97] : Str), (V.list ([(V.int 1), (V.int 2)] : (List V))))] : (List (Str × V)))) x6).bind fun x7 =>
 bif (x1.2.2 == 0) then (
 bif (x3.2 == 0) then (
 bif (x3.1).eqInt 2 then (
 bif (x4.2 == 0) then (
 (zgx x4.1 (V.dict ([(([97] : Str), (V.list ([(V.int 1), (V.bool true)] : (List V))))] : (List (Str × V))))).bind fun x12 =>
 bif x12 then (
 bif (x5.2 == 0) then (
 bif ((((x5.1).length : Nat) : Int) == 1) then (
 ((x5.1)[0]?).bind fun x16 =>
 bif (x16.f_What == 1) then (
 bif (x7.2 == 0) then (
 (zgx x7.1 (V.dict ([] : (List (Str × V))))).bind fun x19 =>
 some x19
 ) else (
 some false
 )
 ) else (
 some false
 )
 ) else (
 some false
 )
 ) else (
 some false
 )
 ) else (
 some false
 )
 ) else (
 some false
 )
 ) else (
 some false
 )
 ) else (
 some false
 )
 ) else (
 some false
 )
 )
theorem Z28  (r : Bool) (h : zp8  = some r) : z0k Tryz.prog 8 [] (BO r) := by
 unfold zp8 at h
 refine z0e Tryz.func8 rfl Tryz.ntmps8 Tryz.results8 rfl (z0i ?_)
 change BW _ _ _ ⟨[], [], _⟩ _
 refine bR ?_
 refine eX ?_
 refine bR ?_
 refine sS rfl rfl rfl ((z10 Tryz.underlying2 rfl rfl rfl).wk ((Wk.iface (Wk.refl _)).trans (Wk.eq (zhc _).symm))) ?_
 refine sS rfl rfl rfl ((z10 Tryz.underlying2 rfl rfl rfl).wk ((Wk.iface (Wk.refl _)).trans (Wk.eq (zhc _).symm))) ?_
 refine sS rfl rfl rfl ((z19 (xs := [(ofV (V.int 1)), (ofV (V.int 2))]) Tryz.underlying67 z29 rfl rfl rfl (by simp only [List.all_cons, List.all_nil, z4c, z1x, Bool.and_true, Bool.true_and]; try rfl) (by simp only [List.all_cons, List.all_nil, csz_V, z2x, z0x, z0u]; try rfl) rfl ⟨lbE rfl, lbE rfl⟩ (by simp only [z8m, z3k, List.flatMap_cons, List.flatMap_nil, z0x, z0u]; try rfl)).cast (y := (PV.sl (some 0) 20 1 (List.map ofV ([(V.int 1), (V.int 2)] : (List V))))) rfl rfl) ?_
 refine sS rfl rfl rfl ((z10 Tryz.underlying67 rfl rfl rfl).wk ((Wk.iface Wk.tok).trans (Wk.eq (z8d _).symm))) ?_
 refine sS rfl rfl rfl (z1i (cs := [(z0n ([97] : Str)), (ofV (V.list ([(V.int 1), (V.int 2)] : (List V))))]) zia z0v rfl rfl (by simp only [List.all_cons, List.all_nil, z4c, z1x, Bool.and_true, Bool.true_and]; try rfl) (by simp only [z3k, List.getElem?_cons_zero, List.getElem?_cons_succ, z0x, z0u]; rfl)) ?_
 refine sS rfl rfl rfl ((z19 (xs := [(PV.agg [(z0n ([97] : Str)), (ofV (V.list ([(V.int 1), (V.int 2)] : (List V))))])]) Tryz.underlying71 z0v rfl rfl rfl (by simp only [List.all_cons, List.all_nil, z4c, z1x, Bool.and_true, Bool.true_and]; try rfl) (by simp only [List.all_cons, List.all_nil, csz_V, z2x, z0x, z0u]; try rfl) rfl ⟨lbE rfl, lbE rfl⟩ (by simp only [z8m, z3k, List.flatMap_cons, List.flatMap_nil, z0x, z0u]; try rfl)).cast (y := (PV.sl (some 1) 69 2 (List.map ofFld ([(([97] : Str), (V.list ([(V.int 1), (V.int 2)] : (List V))))] : (List (Str × V)))))) rfl rfl) ?_
 refine eX ?_
 refine bR ?_
 obtain ⟨x1, hx1, h⟩ := obind h
 refine sS rfl rfl rfl (z05 rfl Z40 rfl (wkr .nil) ⟨rfl, trivial⟩ (Z23 ([97, 91, 49, 93] : Str) x1 hx1) (z00 (z07 z01 x1.1) (z00 rfl (z00 rfl z02)))) ?_
 iterate 6 refine sX ?_
 refine eX ?_
 refine z0b ?_
 refine bR ?_
 iterate 2 refine sX ?_
 refine eX ?_
 refine cX h rfl ?_ ?_
 intro hc2 h
 refine bR ?_
 refine eX ?_
 obtain rfl := eI h; exact z04 eK
 intro hc2 h
 refine z09 ?_
 refine cBx ?_
 refine bR ?_
 refine sX ?_
 refine sS rfl rfl rfl ((z10 Tryz.underlying71 rfl rfl rfl).wk ((Wk.iface Wk.tok).trans (Wk.eq (z5n _).symm))) ?_
 refine sX ?_
 obtain ⟨x3, hx3, h⟩ := obind h
 refine sS rfl rfl rfl (z05 rfl Z41 rfl (wkr (wkr .nil)) ⟨(ids_V (V.dict ([(([97] : Str), (V.list ([(V.int 1), (V.int 2)] : (List V))))] : (List (Str × V))))), ⟨(z07 z01 x1.1), trivial⟩⟩ (Z1u (V.dict ([(([97] : Str), (V.list ([(V.int 1), (V.int 2)] : (List V))))] : (List (Str × V)))) x1.1 x3 hx3) (z00 (ids_V x3.1) (z00 rfl z02))) ?_
 iterate 4 refine sX ?_
 refine eX ?_
 refine bR ?_
 refine sX ?_
 refine sS rfl rfl rfl ((z10 Tryz.underlying71 rfl rfl rfl).wk ((Wk.iface Wk.tok).trans (Wk.eq (z5n _).symm))) ?_
 refine sX ?_
 refine sS rfl rfl rfl ((z10 Tryz.underlying4 rfl rfl rfl).wk ((Wk.iface (Wk.refl _)).trans (Wk.eq (zf1 _).symm))) ?_
 obtain ⟨x4, hx4, h⟩ := obind h
 refine sS rfl rfl rfl (z05 rfl Z42 rfl (wkr (wkr (wkr .nil))) ⟨(ids_V (V.dict ([(([97] : Str), (V.list ([(V.int 1), (V.int 2)] : (List V))))] : (List (Str × V))))), ⟨(z07 z01 x1.1), ⟨(ids_V (V.bool true)), trivial⟩⟩⟩ (Z1w (V.dict ([(([97] : Str), (V.list ([(V.int 1), (V.int 2)] : (List V))))] : (List (Str × V)))) x1.1 (V.bool true) x4 hx4) (z00 (ids_V x4.1) (z00 rfl z02))) ?_
 iterate 4 refine sX ?_
 refine eX ?_
 refine bR ?_
 refine sX ?_
 refine sS rfl rfl rfl ((z10 Tryz.underlying71 rfl rfl rfl).wk ((Wk.iface Wk.tok).trans (Wk.eq (z5n _).symm))) ?_
 refine sX ?_
 obtain ⟨x5, hx5, h⟩ := obind h
 refine sS rfl rfl rfl (z05 rfl Z3y rfl (wkr (wkr .nil)) ⟨(ids_V (V.dict ([(([97] : Str), (V.list ([(V.int 1), (V.int 2)] : (List V))))] : (List (Str × V))))), ⟨(ids_V x4.1), trivial⟩⟩ (Z1x (V.dict ([(([97] : Str), (V.list ([(V.int 1), (V.int 2)] : (List V))))] : (List (Str × V)))) x4.1 x5 hx5) (z00 (z07 z08 x5.1) (z00 rfl z02))) ?_
 iterate 4 refine sX ?_
 refine eX ?_
 refine bR ?_
 refine sX ?_
 refine sS rfl rfl rfl ((z10 Tryz.underlying71 rfl rfl rfl).wk ((Wk.iface Wk.tok).trans (Wk.eq (z5n _).symm))) ?_
 refine sX ?_
 obtain ⟨x6, hx6, h⟩ := obind h
 refine sS rfl rfl rfl (z49 (a := 0) (b := 1) Tryz.underlying30 z13 rfl rfl rfl rfl rfl rfl hx6) ?_
 obtain ⟨x7, hx7, h⟩ := obind h
 refine sS rfl rfl rfl (z05 rfl Z3x rfl (wkr (wkr .nil)) ⟨(ids_V (V.dict ([(([97] : Str), (V.list ([(V.int 1), (V.int 2)] : (List V))))] : (List (Str × V))))), ⟨(z07 z01 x6), trivial⟩⟩ (Z25 (V.dict ([(([97] : Str), (V.list ([(V.int 1), (V.int 2)] : (List V))))] : (List (Str × V)))) x6 x7 hx7) (z00 (ids_V x7.1) (z00 rfl z02))) ?_
 iterate 4 refine sX ?_
 refine eX ?_
 refine z0b (znb ?_)
 iterate 3 refine sX ?_
 refine z0j (t := 59) rfl ?_ ?_
 intro hb8; replace h := z0o hb8 h
 iterate 2 refine yX ?_
 iterate 2 refine sX ?_
 refine z0j (t := 63) rfl ?_ ?_
 intro hb9; replace h := z0o hb9 h
 refine yX ?_
 refine z1h rfl rfl rfl rfl rfl rfl ((z10 Tryz.underlying2 rfl rfl rfl).wk ((Wk.iface (Wk.refl _)).trans (Wk.eq (zhc _).symm))) ?_
 refine z1h rfl rfl rfl rfl rfl rfl (zms Tryz.underlying20 rfl rfl rfl) ?_
 iterate 2 refine sX ?_
 refine z0j (t := 68) rfl ?_ ?_
 intro hb10; replace h := z0o hb10 h
 iterate 2 refine yX ?_
 iterate 2 refine sX ?_
 refine z0j (t := 72) rfl ?_ ?_
 intro hb11; replace h := z0o hb11 h
 refine yX ?_
 refine z1h rfl rfl rfl rfl rfl rfl ((z10 Tryz.underlying2 rfl rfl rfl).wk ((Wk.iface (Wk.refl _)).trans (Wk.eq (zhc _).symm))) ?_
 refine z1h rfl rfl rfl rfl rfl rfl ((z10 Tryz.underlying4 rfl rfl rfl).wk ((Wk.iface (Wk.refl _)).trans (Wk.eq (zf1 _).symm))) ?_
 refine z1h rfl rfl rfl rfl rfl rfl ((z19 (xs := [(ofV (V.int 1)), (ofV (V.bool true))]) Tryz.underlying67 z29 rfl rfl rfl (by simp only [List.all_cons, List.all_nil, z4c, z1x, Bool.and_true, Bool.true_and]; try rfl) (by simp only [List.all_cons, List.all_nil, csz_V, z2x, z0x, z0u]; try rfl) rfl ⟨lbE rfl, lbE rfl⟩ (by simp only [z8m, z3k, List.flatMap_cons, List.flatMap_nil, z0x, z0u]; try rfl)).cast (y := (PV.sl (some 2) 20 1 (List.map ofV ([(V.int 1), (V.bool true)] : (List V))))) rfl rfl) ?_
 refine z1h rfl rfl rfl rfl rfl rfl ((z10 Tryz.underlying67 rfl rfl rfl).wk ((Wk.iface Wk.tok).trans (Wk.eq (z8d _).symm))) ?_
 refine z1h rfl rfl rfl rfl rfl rfl (z1i (cs := [(z0n ([97] : Str)), (ofV (V.list ([(V.int 1), (V.bool true)] : (List V))))]) zia z0v rfl rfl (by simp only [List.all_cons, List.all_nil, z4c, z1x, Bool.and_true, Bool.true_and]; try rfl) (by simp only [z3k, List.getElem?_cons_zero, List.getElem?_cons_succ, z0x, z0u]; rfl)) ?_
 refine z1h rfl rfl rfl rfl rfl rfl ((z19 (xs := [(PV.agg [(z0n ([97] : Str)), (ofV (V.list ([(V.int 1), (V.bool true)] : (List V))))])]) Tryz.underlying71 z0v rfl rfl rfl (by simp only [List.all_cons, List.all_nil, z4c, z1x, Bool.and_true, Bool.true_and]; try rfl) (by simp only [List.all_cons, List.all_nil, csz_V, z2x, z0x, z0u]; try rfl) rfl ⟨lbE rfl, lbE rfl⟩ (by simp only [z8m, z3k, List.flatMap_cons, List.flatMap_nil, z0x, z0u]; try rfl)).cast (y := (PV.sl (some 3) 69 2 (List.map ofFld ([(([97] : Str), (V.list ([(V.int 1), (V.bool true)] : (List V))))] : (List (Str × V)))))) rfl rfl) ?_
 refine z1h rfl rfl rfl rfl rfl rfl ((z10 Tryz.underlying71 rfl rfl rfl).wk ((Wk.iface Wk.tok).trans (Wk.eq (z5n _).symm))) ?_
 obtain ⟨x12, hx12, h⟩ := obind h
 refine z1h rfl rfl rfl rfl rfl rfl (z05 rfl ztr rfl (wkr (wkr .nil)) ⟨(ids_V x4.1), ⟨(ids_V (V.dict ([(([97] : Str), (V.list ([(V.int 1), (V.bool true)] : (List V))))] : (List (Str × V))))), trivial⟩⟩ (zro x4.1 (V.dict ([(([97] : Str), (V.list ([(V.int 1), (V.bool true)] : (List V))))] : (List (Str × V)))) x12 hx12) rfl) ?_
 iterate 2 refine sX ?_
 refine z0j (t := 83) rfl ?_ ?_
 intro hb13; replace h := z0o hb13 h
 iterate 2 refine yX ?_
 iterate 2 refine sX ?_
 refine z0j (t := 87) rfl ?_ ?_
 intro hb14; replace h := z0o hb14 h
 iterate 3 refine yX ?_
 iterate 2 refine sX ?_
 refine z0j (t := 92) rfl ?_ ?_
 intro hb15; replace h := z0o hb15 h
 refine yX ?_
 obtain ⟨x16, hx16, h⟩ := obind h
 refine z1h rfl rfl rfl rfl rfl rfl (z1m (i := 0) Tryz.underlying46 z3r rfl rfl rfl hx16 rfl) ?_
 iterate 3 refine yX ?_
 iterate 2 refine sX ?_
 refine z0j (t := 99) rfl ?_ ?_
 intro hb17; replace h := z0o hb17 h
 iterate 2 refine yX ?_
 iterate 2 refine sX ?_
 refine z0j (t := 103) rfl ?_ ?_
 intro hb18; replace h := z0o hb18 h
 refine yX ?_
 refine z1h rfl rfl rfl rfl rfl rfl ((z19 (xs := []) Tryz.underlying71 z0v rfl rfl rfl rfl rfl rfl ⟨lbE rfl, lbE rfl⟩ rfl).cast (y := (PV.sl (some 4) 69 2 (List.map ofFld ([] : (List (Str × V)))))) rfl rfl) ?_
 refine z1h rfl rfl rfl rfl rfl rfl ((z10 Tryz.underlying71 rfl rfl rfl).wk ((Wk.iface Wk.tok).trans (Wk.eq (z5n _).symm))) ?_
 obtain ⟨x19, hx19, h⟩ := obind h
 refine z1h rfl rfl rfl rfl rfl rfl (z05 rfl ztr rfl (wkr (wkr .nil)) ⟨(ids_V x7.1), ⟨(ids_V (V.dict ([] : (List (Str × V))))), trivial⟩⟩ (zro x7.1 (V.dict ([] : (List (Str × V)))) x19 hx19) rfl) ?_
 refine sX ?_
 refine eX ?_
 obtain rfl := eI h; exact z04 eK
 intro hb18; replace h := z0p hb18 h
 iterate 4 refine nX ?_
 refine sX ?_
 refine eX ?_
 obtain rfl := eI h; exact z04 eK
 intro hb17; replace h := z0p hb17 h
 iterate 2 refine nX ?_
 iterate 2 refine sX ?_
 iterate 4 refine nX ?_
 refine sX ?_
 refine eX ?_
 obtain rfl := eI h; exact z04 eK
 intro hb15; replace h := z0p hb15 h
 iterate 5 refine nX ?_
 iterate 2 refine sX ?_
 iterate 2 refine nX ?_
 iterate 2 refine sX ?_
 iterate 4 refine nX ?_
 refine sX ?_
 refine eX ?_
 obtain rfl := eI h; exact z04 eK
 intro hb14; replace h := z0p hb14 h
 iterate 3 refine nX ?_
 iterate 2 refine sX ?_
 iterate 5 refine nX ?_
 iterate 2 refine sX ?_
 iterate 2 refine nX ?_
 iterate 2 refine sX ?_
 iterate 4 refine nX ?_
 refine sX ?_
 refine eX ?_
 obtain rfl := eI h; exact z04 eK
 intro hb13; replace h := z0p hb13 h
 iterate 2 refine nX ?_
 iterate 2 refine sX ?_
 iterate 3 refine nX ?_
 iterate 2 refine sX ?_
 iterate 5 refine nX ?_
 iterate 2 refine sX ?_
 iterate 2 refine nX ?_
 iterate 2 refine sX ?_
 iterate 4 refine nX ?_
 refine sX ?_
 refine eX ?_
 obtain rfl := eI h; exact z04 eK
 intro hb11; replace h := z0p hb11 h
 iterate 9 refine nX ?_
 iterate 2 refine sX ?_
 iterate 2 refine nX ?_
 iterate 2 refine sX ?_
 iterate 3 refine nX ?_
 iterate 2 refine sX ?_
 iterate 5 refine nX ?_
 iterate 2 refine sX ?_
 iterate 2 refine nX ?_
 iterate 2 refine sX ?_
 iterate 4 refine nX ?_
 refine sX ?_
 refine eX ?_
 obtain rfl := eI h; exact z04 eK
 intro hb10; replace h := z0p hb10 h
 iterate 2 refine nX ?_
 iterate 2 refine sX ?_
 iterate 9 refine nX ?_
 iterate 2 refine sX ?_
 iterate 2 refine nX ?_
 iterate 2 refine sX ?_
 iterate 3 refine nX ?_
 iterate 2 refine sX ?_
 iterate 5 refine nX ?_
 iterate 2 refine sX ?_
 iterate 2 refine nX ?_
 iterate 2 refine sX ?_
 iterate 4 refine nX ?_
 refine sX ?_
 refine eX ?_
 obtain rfl := eI h; exact z04 eK
 intro hb9; replace h := z0p hb9 h
 iterate 3 refine nX ?_
 iterate 2 refine sX ?_
 iterate 2 refine nX ?_
 iterate 2 refine sX ?_
 iterate 9 refine nX ?_
 iterate 2 refine sX ?_
 iterate 2 refine nX ?_
 iterate 2 refine sX ?_
 iterate 3 refine nX ?_
 iterate 2 refine sX ?_
 iterate 5 refine nX ?_
 iterate 2 refine sX ?_
 iterate 2 refine nX ?_
 iterate 2 refine sX ?_
 iterate 4 refine nX ?_
 refine sX ?_
 refine eX ?_
 obtain rfl := eI h; exact z04 eK
 intro hb8; replace h := z0p hb8 h
 iterate 2 refine nX ?_
 iterate 2 refine sX ?_
 iterate 3 refine nX ?_
 iterate 2 refine sX ?_
 iterate 2 refine nX ?_
 iterate 2 refine sX ?_
 iterate 9 refine nX ?_
 iterate 2 refine sX ?_
 iterate 2 refine nX ?_
 iterate 2 refine sX ?_
 iterate 3 refine nX ?_
 iterate 2 refine sX ?_
 iterate 5 refine nX ?_
 iterate 2 refine sX ?_
 iterate 2 refine nX ?_
 iterate 2 refine sX ?_
 iterate 4 refine nX ?_
 refine sX ?_
 refine eX ?_
 obtain rfl := eI h; exact z04 eK
noncomputable def zma (a0 : Int) : Option V :=
 bif ((Int.tmod a0 14) == 0) then (
 some (V.alien ⟨3, rfl⟩)
 ) else (
 bif ((Int.tmod a0 14) == 1) then (
 some (V.alien ⟨5, rfl⟩)
 ) else (
 bif ((Int.tmod a0 14) == 2) then (
 some (V.alien ⟨114, rfl⟩)
 ) else (
 bif ((Int.tmod a0 14) == 3) then (
 some (V.alien ⟨1, rfl⟩)
 ) else (
 bif ((Int.tmod a0 14) == 4) then (
 some (V.alien ⟨117, rfl⟩)
 ) else (
 bif ((Int.tmod a0 14) == 5) then (
 some (V.alien ⟨66, rfl⟩)
 ) else (
 bif ((Int.tmod a0 14) == 6) then (
 some (V.alien ⟨118, rfl⟩)
 ) else (
 bif ((Int.tmod a0 14) == 7) then (
 some (V.alien ⟨119, rfl⟩)
 ) else (
 bif ((Int.tmod a0 14) == 8) then (
 some (V.alien ⟨75, rfl⟩)
 ) else (
 bif ((Int.tmod a0 14) == 9) then (
 some (V.alien ⟨70, rfl⟩)
 ) else (
 bif ((Int.tmod a0 14) == 10) then (
 some (V.alien ⟨120, rfl⟩)
 ) else (
 bif ((Int.tmod a0 14) == 11) then (
 some (V.alien ⟨33, rfl⟩)
 ) else (
 bif ((Int.tmod a0 14) == 12) then (
 some (V.alien ⟨121, rfl⟩)
 ) else (
 some (V.alien ⟨122, rfl⟩)
 )
 )
 )
 )
 )
 )
 )
 )
 )
 )
 )
 )
 )
theorem Z1t (a0 : Int) (r : V) (h : zma a0 = some r) : z0k Tryz.prog 29 [(I64 a0)] (ofV r) := by
 unfold zma at h
 refine z0e Tryz.func29 rfl Tryz.ntmps29 Tryz.results29 rfl (z0i ?_)
 change BW _ _ _ ⟨[(0, (I64 a0))], [], _⟩ _
 refine bR ?_
 refine eX ?_
 refine z0b ?_
 refine bR ?_
 refine sX ?_
 refine sS rfl rfl rfl (zws rfl rfl rfl (by decide)) (z0d ?_)
 refine cBx ?_
 refine z0m ?_
 refine cBx ?_
 refine bR ?_
 refine sX ?_
 refine eX ?_
 refine cX h rfl ?_ ?_
 intro hc1 h
 refine bR ?_
 refine sS rfl rfl rfl ((z10 Tryz.underlying3 rfl rfl rfl).wk ((Wk.iface Wk.junk).trans (Wk.eq (z2w ⟨3, rfl⟩).symm))) ?_
 refine eX ?_
 obtain rfl := eI h; exact z04 ⟨_, rfl, z0f (y := (ofV (V.alien ⟨3, rfl⟩))) (Wk.refl _) (ids_V (V.alien ⟨3, rfl⟩)) ⟨rfl, rfl⟩⟩
 intro hc1 h
 refine bR ?_
 refine sX ?_
 refine eX ?_
 refine cX h rfl ?_ ?_
 intro hc2 h
 refine bR ?_
 refine sS rfl rfl rfl ((z10 Tryz.underlying5 rfl rfl rfl).wk ((Wk.iface Wk.junk).trans (Wk.eq (z2w ⟨5, rfl⟩).symm))) ?_
 refine eX ?_
 obtain rfl := eI h; exact z04 ⟨_, rfl, z0f (y := (ofV (V.alien ⟨5, rfl⟩))) (Wk.refl _) (ids_V (V.alien ⟨5, rfl⟩)) ⟨rfl, rfl⟩⟩
 intro hc2 h
 refine bR ?_
 refine sX ?_
 refine eX ?_
 refine cX h rfl ?_ ?_
 intro hc3 h
 refine bR ?_
 refine zre rfl rfl rfl rfl rfl rfl rfl Tryz.underlying114 Tryz.underlying9 ?_
 refine sX ?_
 refine sS rfl rfl rfl ((z10 Tryz.underlying114 rfl rfl rfl).wk ((Wk.iface Wk.junk).trans (Wk.eq (z2w ⟨114, rfl⟩).symm))) ?_
 refine eX ?_
 obtain rfl := eI h; exact z04 ⟨_, rfl, z0f (y := (ofV (V.alien ⟨114, rfl⟩))) (Wk.refl _) (ids_V (V.alien ⟨114, rfl⟩)) ⟨rfl, rfl⟩⟩
 intro hc3 h
 refine bR ?_
 refine sX ?_
 refine eX ?_
 refine cX h rfl ?_ ?_
 intro hc4 h
 refine bR ?_
 refine sS rfl rfl rfl ((z10 Tryz.underlying1 rfl rfl rfl).wk ((Wk.iface Wk.junk).trans (Wk.eq (z2w ⟨1, rfl⟩).symm))) ?_
 refine eX ?_
 obtain rfl := eI h; exact z04 ⟨_, rfl, z0f (y := (ofV (V.alien ⟨1, rfl⟩))) (Wk.refl _) (ids_V (V.alien ⟨1, rfl⟩)) ⟨rfl, rfl⟩⟩
 intro hc4 h
 refine bR ?_
 refine sX ?_
 refine eX ?_
 refine cX h rfl ?_ ?_
 intro hc5 h
 refine bR ?_
 refine sS rfl rfl rfl ((z19 (xs := [(I64 1)]) Tryz.underlying115 ztj rfl rfl rfl rfl rfl rfl ⟨lbE rfl, lbE rfl⟩ rfl).cast (y := (PV.sl (some 0) 3 1 (List.map (ofI .i64) ([1] : (List Int))))) rfl rfl) ?_
 refine sS rfl rfl rfl (z1i (cs := [(PV.sl (some 0) 3 1 (List.map (ofI .i64) ([1] : (List Int))))]) zuw zxg rfl rfl rfl rfl) ?_
 refine sS rfl rfl rfl ((z10 Tryz.underlying117 rfl rfl rfl).wk ((Wk.iface Wk.junk).trans (Wk.eq (z2w ⟨117, rfl⟩).symm))) ?_
 refine eX ?_
 obtain rfl := eI h; exact z04 ⟨_, rfl, z0f (y := (ofV (V.alien ⟨117, rfl⟩))) (Wk.refl _) (ids_V (V.alien ⟨117, rfl⟩)) ⟨rfl, rfl⟩⟩
 intro hc5 h
 refine bR ?_
 refine sX ?_
 refine eX ?_
 refine cX h rfl ?_ ?_
 intro hc6 h
 refine bR ?_
 refine sS rfl rfl rfl ((z10 Tryz.underlying4 rfl rfl rfl).wk ((Wk.iface (Wk.refl _)).trans (Wk.eq (zf1 _).symm))) ?_
 refine sS rfl rfl rfl ((z19 (xs := [(ofV (V.bool true))]) Tryz.underlying66 z29 rfl rfl rfl (by simp only [List.all_cons, List.all_nil, z4c, z1x, Bool.and_true, Bool.true_and]; try rfl) (by simp only [List.all_cons, List.all_nil, csz_V, z2x, z0x, z0u]; try rfl) rfl ⟨lbE rfl, lbE rfl⟩ (by simp only [z8m, z3k, List.flatMap_cons, List.flatMap_nil, z0x, z0u]; try rfl)).cast (y := (PV.sl (some 0) 20 1 (List.map ofV ([(V.bool true)] : (List V))))) rfl rfl) ?_
 refine sS rfl rfl rfl ((z10 Tryz.underlying66 rfl rfl rfl).wk ((Wk.iface Wk.junk).trans (Wk.eq (z2w ⟨66, rfl⟩).symm))) ?_
 refine eX ?_
 obtain rfl := eI h; exact z04 ⟨_, rfl, z0f (y := (ofV (V.alien ⟨66, rfl⟩))) (Wk.refl _) (ids_V (V.alien ⟨66, rfl⟩)) ⟨rfl, rfl⟩⟩
 intro hc6 h
 refine bR ?_
 refine sX ?_
 refine eX ?_
 refine cX h rfl ?_ ?_
 intro hc7 h
 refine bR ?_
 refine sS rfl rfl rfl ((z10 Tryz.underlying118 rfl rfl rfl).wk ((Wk.iface Wk.junk).trans (Wk.eq (z2w ⟨118, rfl⟩).symm))) ?_
 refine eX ?_
 obtain rfl := eI h; exact z04 ⟨_, rfl, z0f (y := (ofV (V.alien ⟨118, rfl⟩))) (Wk.refl _) (ids_V (V.alien ⟨118, rfl⟩)) ⟨rfl, rfl⟩⟩
 intro hc7 h
 refine bR ?_
 refine sX ?_
 refine eX ?_
 refine cX h rfl ?_ ?_
 intro hc8 h
 refine bR ?_
 refine sS rfl rfl rfl ((z10 Tryz.underlying119 rfl rfl rfl).wk ((Wk.iface Wk.junk).trans (Wk.eq (z2w ⟨119, rfl⟩).symm))) ?_
 refine eX ?_
 obtain rfl := eI h; exact z04 ⟨_, rfl, z0f (y := (ofV (V.alien ⟨119, rfl⟩))) (Wk.refl _) (ids_V (V.alien ⟨119, rfl⟩)) ⟨rfl, rfl⟩⟩
 intro hc8 h
 refine bR ?_
 refine sX ?_
 refine eX ?_
 refine cX h rfl ?_ ?_
 intro hc9 h
 refine bR ?_
 refine sS rfl rfl rfl (z1i (cs := [(z0n ([97] : Str)), (I64 1), (PV.v (.slice none 0 0))]) zlo zhl rfl rfl rfl rfl) ?_
 refine sS rfl rfl rfl ((z10 Tryz.underlying75 rfl rfl rfl).wk ((Wk.iface Wk.junk).trans (Wk.eq (z2w ⟨75, rfl⟩).symm))) ?_
 refine eX ?_
 obtain rfl := eI h; exact z04 ⟨_, rfl, z0f (y := (ofV (V.alien ⟨75, rfl⟩))) (Wk.refl _) (ids_V (V.alien ⟨75, rfl⟩)) ⟨rfl, rfl⟩⟩
 intro hc9 h
 refine bR ?_
 refine sX ?_
 refine eX ?_
 refine cX h rfl ?_ ?_
 intro hc10 h
 refine bR ?_
 refine sS rfl rfl rfl ((z19 (xs := []) Tryz.underlying70 z0v rfl rfl rfl rfl rfl rfl ⟨lbE rfl, lbE rfl⟩ rfl).cast (y := (PV.sl (some 0) 69 2 (List.map ofFld ([] : (List (Str × V)))))) rfl rfl) ?_
 refine sS rfl rfl rfl ((z10 Tryz.underlying70 rfl rfl rfl).wk ((Wk.iface Wk.junk).trans (Wk.eq (z2w ⟨70, rfl⟩).symm))) ?_
 refine eX ?_
 obtain rfl := eI h; exact z04 ⟨_, rfl, z0f (y := (ofV (V.alien ⟨70, rfl⟩))) (Wk.refl _) (ids_V (V.alien ⟨70, rfl⟩)) ⟨rfl, rfl⟩⟩
 intro hc10 h
 refine bR ?_
 refine sX ?_
 refine eX ?_
 refine cX h rfl ?_ ?_
 intro hc11 h
 refine bR ?_
 refine eX ?_
 refine bR ?_
 refine sX ?_
 refine sS rfl rfl rfl ((z10 Tryz.underlying120 rfl rfl rfl).wk ((Wk.iface Wk.junk).trans (Wk.eq (z2w ⟨120, rfl⟩).symm))) ?_
 refine eX ?_
 obtain rfl := eI h; exact z04 ⟨_, rfl, z0f (y := (ofV (V.alien ⟨120, rfl⟩))) (Wk.refl _) (ids_V (V.alien ⟨120, rfl⟩)) ⟨rfl, rfl⟩⟩
 intro hc11 h
 refine bR ?_
 refine sX ?_
 refine eX ?_
 refine cX h rfl ?_ ?_
 intro hc12 h
 refine bR ?_
 refine sS rfl rfl rfl ((z10 Tryz.underlying33 rfl rfl rfl).wk ((Wk.iface Wk.junk).trans (Wk.eq (z2w ⟨33, rfl⟩).symm))) ?_
 refine eX ?_
 obtain rfl := eI h; exact z04 ⟨_, rfl, z0f (y := (ofV (V.alien ⟨33, rfl⟩))) (Wk.refl _) (ids_V (V.alien ⟨33, rfl⟩)) ⟨rfl, rfl⟩⟩
 intro hc12 h
 refine bR ?_
 refine sX ?_
 refine eX ?_
 refine cX h rfl ?_ ?_
 intro hc13 h
 refine bR ?_
 refine eX ?_
 refine bR ?_
 refine sX ?_
 refine sS rfl rfl rfl ((z10 Tryz.underlying121 rfl rfl rfl).wk ((Wk.iface Wk.junk).trans (Wk.eq (z2w ⟨121, rfl⟩).symm))) ?_
 refine eX ?_
 obtain rfl := eI h; exact z04 ⟨_, rfl, z0f (y := (ofV (V.alien ⟨121, rfl⟩))) (Wk.refl _) (ids_V (V.alien ⟨121, rfl⟩)) ⟨rfl, rfl⟩⟩
 intro hc13 h
 refine z09 ?_
 refine cBx ?_
 refine bR ?_
 refine sS rfl rfl rfl (Op1.junk (zh6 (cs := [(I64 1), (I64 2)]) Tryz.underlying122 zxf ztj rfl rfl rfl rfl)) ?_
 refine sS rfl rfl rfl ((z10 Tryz.underlying122 rfl rfl rfl).wk ((Wk.iface Wk.junk).trans (Wk.eq (z2w ⟨122, rfl⟩).symm))) ?_
 refine eX ?_
 obtain rfl := eI h; exact z04 ⟨_, rfl, z0f (y := (ofV (V.alien ⟨122, rfl⟩))) (Wk.refl _) (ids_V (V.alien ⟨122, rfl⟩)) ⟨rfl, rfl⟩⟩
end Go.Proofs.YthidgpcbnieleaaGreatDoor
