/- Pure functions, and that calls answer as they say. -/
import Derived.Test.YthidgpcbnieleaaGreatDoorG7
namespace Go.Proofs.YthidgpcbnieleaaGreatDoor
open Go Aw
set_option linter.unusedVariables false
set_option linter.unusedSimpArgs false
set_option maxRecDepth 20000
set_option maxHeartbeats 2000000
variable {ι : Type} {ρ : ι → Type}
noncomputable def zbw (a0 : V) (a1 : S_api_Edit) (s21 : Bool) : Option (V × Int) :=
 bif s21 then (
 some (V.nil, 1)
 ) else (
 (ziv a0 a1.f_Way false).bind fun x23 =>
 some (x23.1, x23.2)
 )
noncomputable def zbx (a0 : V) (a1 : S_api_Edit) : Option (V × Int) :=
 bif ((((a1.f_Way).length : Nat) : Int) == 0) then (
 bif (a1.f_What == 1) then (
 some (a1.f_Value, 0)
 ) else (
 some (V.nil, 1)
 )
 ) else (
 (zah a1.f_Way 0 (IntKind.i64.wrap ((((a1.f_Way).length : Nat) : Int) - 1))).bind fun x7 =>
 (z6n a1.f_Way (IntKind.i64.wrap ((((a1.f_Way).length : Nat) : Int) - 1))).bind fun x8 =>
 bif (a1.f_What == 1) then (
 (zmn a0 a1.f_Way false a1).bind fun x10 =>
 some (x10.1, x10.2)
 ) else (
 bif (a1.f_What == 2) then (
 (zil a0 x7).bind fun x12 =>
 bif (x12.2 != 0) then (
 some (V.nil, x12.2)
 ) else (
 (z5m x12.1 x8).bind fun x14 =>
 bif (x14.2 == 0) then (
 some (V.nil, 1)
 ) else (
 (zmm a0 a1.f_Way true a1).bind fun x16 =>
 some (x16.1, x16.2)
 )
 )
 ) else (
 (zil a0 x7).bind fun x17 =>
 bif (x17.2 != 0) then (
 some (V.nil, x17.2)
 ) else (
 (z5m x17.1 x8).bind fun x19 =>
 bif (x19.2 != 0) then (
 some (V.nil, x19.2)
 ) else (
 bif (x17.1).isList then (
 zbw a0 a1 (x8.f_Index != (IntKind.i64.wrap (((((x17.1).asList).length : Nat) : Int) - 1)))
 ) else (
 zbw a0 a1 false
 )
 )
 )
 )
 )
 )
noncomputable def zby (a0 : V) (a1 : S_api_Edit) (s1 : Bool) : Option (V × Int) :=
 bif s1 then (
 some (V.nil, 1)
 ) else (
 (zmd a1.f_Way).bind fun x3 =>
 bif (x3 != 0) then (
 some (V.nil, x3)
 ) else (
 bif (a1.f_What != 3) then (
 (zd5 a1.f_Value).bind fun x26 =>
 bif (x26.2 != 0) then (
 some (V.nil, x26.2)
 ) else (
 zbx a0 a1
 )
 ) else (
 zbx a0 a1
 )
 )
 )
noncomputable def zp3 (a0 : V) (a1 : S_api_Edit) : Option (V × Int) :=
 bif (decide (a1.f_What < 1)) then (
 zby a0 a1 true
 ) else (
 zby a0 a1 (decide (a1.f_What > 3))
 )
theorem Z20 (a0 : V) (a1 : S_api_Edit) (r : (V × Int)) (h : zp3 a0 a1 = some r) : z0k Tryz.prog 44 [(ofV a0), (z06 a1)] (PV.tup [(ofV r.1), (I64 r.2)]) := by
 unfold zp3 at h
 refine z0e Tryz.func44 rfl Tryz.ntmps44 Tryz.results44 rfl (z0i ?_)
 change BW _ _ _ ⟨[(0, (ofV a0)), (1, (z06 a1))], [], _⟩ _
 refine bR ?_
 iterate 2 refine sX ?_
 refine eX ?_
 refine z0b ?_
 refine z2b (ι := Bool) (fun i => zby a0 a1 i = some r) (fun i => [(0, (ofV a0)), (3, (PV.pt 53 (z06 a1) 0)), (28, (BO i))]) (fun i => []) ?_ ?_ ?_
 intro i; exact ⟨lbE rfl, ⟨(z0c (ids_V _)), ⟨(z0c (z08 _)), ⟨(z0c rfl), trivial⟩⟩⟩, trivial⟩
 rintro s1 h; replace h : zby a0 a1 s1 = some r := h; unfold zby at h
 change BW _ _ _ ⟨[(0, (ofV a0)), (3, (PV.pt 53 (z06 a1) 0)), (28, (BO s1))], [], _⟩ _
 refine cX h rfl ?_ ?_
 intro hc2 h
 refine bR ?_
 refine sX ?_
 refine eX ?_
 obtain rfl := eI h; exact z04 ⟨_, rfl, z0f (y := (PV.tup [(ofV V.nil), (I64 1)])) (Wk.tup (.cons (Wk.eq mk_nil.symm) (wkr .nil))) (z00 (ids_V V.nil) (z00 rfl z02)) ⟨rfl, rfl⟩⟩
 intro hc2 h
 refine z09 ?_
 refine cBx ?_
 refine z0b ?_
 refine bR ?_
 iterate 2 refine sX ?_
 obtain ⟨x3, hx3, h⟩ := obind h
 refine sS rfl rfl rfl (z05 rfl Z12 rfl (wkr .nil) ⟨(z07 z01 a1.f_Way), trivial⟩ (zz3 a1.f_Way x3 hx3) rfl) ?_
 refine eX ?_
 refine bR ?_
 refine sX ?_
 refine eX ?_
 refine cX h rfl ?_ ?_
 intro hc4 h
 refine bR ?_
 iterate 2 refine sX ?_
 refine eX ?_
 obtain rfl := eI h; exact z04 ⟨_, rfl, z0f (y := (PV.tup [(ofV V.nil), (I64 x3)])) (Wk.tup (.cons (Wk.eq mk_nil.symm) (wkr .nil))) (z00 (ids_V V.nil) (z00 rfl z02)) ⟨rfl, rfl⟩⟩
 intro hc4 h
 refine z09 ?_
 refine cBx ?_
 refine z2b (ι := Unit) (fun i => zbx a0 a1 = some r) (fun i => [(0, (ofV a0)), (3, (PV.pt 53 (z06 a1) 0))]) (fun i => []) ?_ ?_ ?_
 intro i; exact ⟨lbE rfl, ⟨(z0c (ids_V _)), ⟨(z0c (z08 _)), trivial⟩⟩, trivial⟩
 rintro ⟨⟩ h; replace h : zbx a0 a1 = some r := h; unfold zbx at h
 change BW _ _ _ ⟨[(0, (ofV a0)), (3, (PV.pt 53 (z06 a1) 0))], [], _⟩ _
 refine z0b ?_
 refine bR ?_
 iterate 3 refine sX ?_
 refine eX ?_
 refine cX h rfl ?_ ?_
 intro hc5 h
 refine z0b ?_
 refine bR ?_
 iterate 2 refine sX ?_
 refine eX ?_
 refine cX h rfl ?_ ?_
 intro hc6 h
 refine bR ?_
 iterate 3 refine sX ?_
 refine eX ?_
 obtain rfl := eI h; exact z04 ⟨_, rfl, z0f (y := (PV.tup [(ofV a1.f_Value), (I64 0)])) (Wk.refl _) (z00 (ids_V a1.f_Value) (z00 rfl z02)) ⟨rfl, rfl⟩⟩
 intro hc6 h
 refine z09 ?_
 refine cBx ?_
 refine bR ?_
 refine sX ?_
 refine eX ?_
 obtain rfl := eI h; exact z04 ⟨_, rfl, z0f (y := (PV.tup [(ofV V.nil), (I64 1)])) (Wk.tup (.cons (Wk.eq mk_nil.symm) (wkr .nil))) (z00 (ids_V V.nil) (z00 rfl z02)) ⟨rfl, rfl⟩⟩
 intro hc5 h
 refine z09 ?_
 refine cBx ?_
 refine z0b (z1z 17 [15] [] mo (by kernel_rfl) ?_)
 iterate 5 refine gX ?_
 refine z1o rfl rfl rfl rfl (fun H hp => z7t rfl rfl rfl) ?_
 obtain ⟨x7, hx7, h⟩ := obind h
 refine z1o rfl rfl rfl rfl (fun H hp => z49 (a := 0) (b := (IntKind.i64.wrap ((((a1.f_Way).length : Nat) : Int) - 1))) Tryz.underlying30 z13 rfl rfl rfl rfl rfl rfl hx7) ?_
 iterate 5 refine gX ?_
 refine z1o rfl rfl rfl rfl (fun H hp => z7t rfl rfl rfl) ?_
 obtain ⟨x8, hx8, h⟩ := obind h
 refine z1o rfl rfl rfl rfl (fun H hp => z26 Tryz.underlying30 z13 rfl rfl rfl hx8 rfl) ?_
 refine gX ?_
 refine z9o rfl rfl rfl rfl (z1t z13 rfl) trivial ?_
 refine gX ?_
 refine z24 ?_
 change AO _ _ _ _ _
 refine z1g rfl rfl (z18 z13 rfl rfl rfl rfl rfl rfl (lbE rfl) rfl) ?_
 refine z0d ?_
 refine cBx ?_
 refine z0b ?_
 refine bR ?_
 refine sX ?_
 refine eX ?_
 refine z0m ?_
 refine cBx ?_
 refine bR ?_
 refine sX ?_
 refine eX ?_
 refine cX h rfl ?_ ?_
 intro hc9 h
 refine bR ?_
 iterate 3 refine sX ?_
 refine sS rfl rfl rfl (zdv rfl rfl rfl) ?_
 obtain ⟨x10, hx10, h⟩ := obind h
 refine sS rfl rfl rfl (z05 rfl zf9 rfl (wkr (wkr (wkr (wkr .nil)))) ⟨(ids_V a0), ⟨(z07 z01 a1.f_Way), ⟨rfl, ⟨(z2l (z2k (z08 a1) rfl)), trivial⟩⟩⟩⟩ (Z2o a0 a1.f_Way false a1 x10 hx10) (z00 (ids_V x10.1) (z00 rfl z02))) ?_
 iterate 3 refine sX ?_
 refine eX ?_
 obtain rfl := eI h; exact z04 ⟨_, rfl, z0f (y := (PV.tup [(ofV x10.1), (I64 x10.2)])) (Wk.refl _) (z00 (ids_V x10.1) (z00 rfl z02)) ⟨rfl, rfl⟩⟩
 intro hc9 h
 refine bR ?_
 refine sX ?_
 refine eX ?_
 refine cX h rfl ?_ ?_
 intro hc11 h
 refine bR ?_
 iterate 2 refine sX ?_
 obtain ⟨x12, hx12, h⟩ := obind h
 refine sS rfl rfl rfl (z05 rfl zxx rfl (wkr (wkr .nil)) ⟨(ids_V a0), ⟨(z07 z01 x7), trivial⟩⟩ (zw5 a0 x7 x12 hx12) (z00 (ids_V x12.1) (z00 rfl z02))) ?_
 iterate 4 refine sX ?_
 refine eX ?_
 refine z0b ?_
 refine bR ?_
 refine sX ?_
 refine eX ?_
 refine cX h rfl ?_ ?_
 intro hc13 h
 refine bR ?_
 iterate 2 refine sX ?_
 refine eX ?_
 obtain rfl := eI h; exact z04 ⟨_, rfl, z0f (y := (PV.tup [(ofV V.nil), (I64 x12.2)])) (Wk.tup (.cons (Wk.eq mk_nil.symm) (wkr .nil))) (z00 (ids_V V.nil) (z00 rfl z02)) ⟨rfl, rfl⟩⟩
 intro hc13 h
 refine z09 ?_
 refine cBx ?_
 refine z0b ?_
 refine bR ?_
 iterate 2 refine sX ?_
 obtain ⟨x14, hx14, h⟩ := obind h
 refine sS rfl rfl rfl (z05 rfl zcy rfl (wkr (wkr .nil)) ⟨(ids_V x12.1), ⟨(z01 x8), trivial⟩⟩ (zbj x12.1 x8 x14 hx14) (z00 (ids_V x14.1) (z00 rfl z02))) ?_
 iterate 4 refine sX ?_
 refine eX ?_
 refine bR ?_
 refine sX ?_
 refine eX ?_
 refine cX h rfl ?_ ?_
 intro hc15 h
 refine bR ?_
 refine sX ?_
 refine eX ?_
 obtain rfl := eI h; exact z04 ⟨_, rfl, z0f (y := (PV.tup [(ofV V.nil), (I64 1)])) (Wk.tup (.cons (Wk.eq mk_nil.symm) (wkr .nil))) (z00 (ids_V V.nil) (z00 rfl z02)) ⟨rfl, rfl⟩⟩
 intro hc15 h
 refine z09 ?_
 refine cBx ?_
 refine bR ?_
 iterate 3 refine sX ?_
 refine sS rfl rfl rfl (zdv rfl rfl rfl) ?_
 obtain ⟨x16, hx16, h⟩ := obind h
 refine sS rfl rfl rfl (z05 rfl zf9 rfl (wkr (wkr (wkr (wkr .nil)))) ⟨(ids_V a0), ⟨(z07 z01 a1.f_Way), ⟨rfl, ⟨(z2l (z2k (z08 a1) rfl)), trivial⟩⟩⟩⟩ (Z2m a0 a1.f_Way true a1 x16 hx16) (z00 (ids_V x16.1) (z00 rfl z02))) ?_
 iterate 3 refine sX ?_
 refine eX ?_
 obtain rfl := eI h; exact z04 ⟨_, rfl, z0f (y := (PV.tup [(ofV x16.1), (I64 x16.2)])) (Wk.refl _) (z00 (ids_V x16.1) (z00 rfl z02)) ⟨rfl, rfl⟩⟩
 intro hc11 h
 refine z09 ?_
 refine cBx ?_
 refine bR ?_
 iterate 2 refine sX ?_
 obtain ⟨x17, hx17, h⟩ := obind h
 refine sS rfl rfl rfl (z05 rfl zxx rfl (wkr (wkr .nil)) ⟨(ids_V a0), ⟨(z07 z01 x7), trivial⟩⟩ (zw5 a0 x7 x17 hx17) (z00 (ids_V x17.1) (z00 rfl z02))) ?_
 iterate 4 refine sX ?_
 refine eX ?_
 refine z0b ?_
 refine bR ?_
 refine sX ?_
 refine eX ?_
 refine cX h rfl ?_ ?_
 intro hc18 h
 refine bR ?_
 iterate 2 refine sX ?_
 refine eX ?_
 obtain rfl := eI h; exact z04 ⟨_, rfl, z0f (y := (PV.tup [(ofV V.nil), (I64 x17.2)])) (Wk.tup (.cons (Wk.eq mk_nil.symm) (wkr .nil))) (z00 (ids_V V.nil) (z00 rfl z02)) ⟨rfl, rfl⟩⟩
 intro hc18 h
 refine z09 ?_
 refine cBx ?_
 refine z0b ?_
 refine bR ?_
 iterate 2 refine sX ?_
 obtain ⟨x19, hx19, h⟩ := obind h
 refine sS rfl rfl rfl (z05 rfl zcy rfl (wkr (wkr .nil)) ⟨(ids_V x17.1), ⟨(z01 x8), trivial⟩⟩ (zbj x17.1 x8 x19 hx19) (z00 (ids_V x19.1) (z00 rfl z02))) ?_
 iterate 4 refine sX ?_
 refine eX ?_
 refine bR ?_
 refine sX ?_
 refine eX ?_
 refine cX h rfl ?_ ?_
 intro hc20 h
 refine bR ?_
 iterate 2 refine sX ?_
 refine eX ?_
 obtain rfl := eI h; exact z04 ⟨_, rfl, z0f (y := (PV.tup [(ofV V.nil), (I64 x19.2)])) (Wk.tup (.cons (Wk.eq mk_nil.symm) (wkr .nil))) (z00 (ids_V V.nil) (z00 rfl z02)) ⟨rfl, rfl⟩⟩
 intro hc20 h
 refine z09 ?_
 refine cBx ?_
 refine z0b ?_
 refine bR ?_
 refine sX ?_
 refine sS rfl rfl rfl (z1u rfl rfl) ?_
 iterate 4 refine sX ?_
 refine eX ?_
 refine z2b (ι := Bool) (fun i => zbw a0 a1 i = some r) (fun i => [(0, (ofV a0)), (3, (PV.pt 53 (z06 a1) 0)), (139, (BO i))]) (fun i => []) ?_ ?_ ?_
 intro i; exact ⟨lbE rfl, ⟨(z0c (ids_V _)), ⟨(z0c (z08 _)), ⟨(z0c rfl), trivial⟩⟩⟩, trivial⟩
 rintro s21 h; replace h : zbw a0 a1 s21 = some r := h; unfold zbw at h
 change BW _ _ _ ⟨[(0, (ofV a0)), (3, (PV.pt 53 (z06 a1) 0)), (139, (BO s21))], [], _⟩ _
 refine cX h rfl ?_ ?_
 intro hc22 h
 refine bR ?_
 refine sX ?_
 refine eX ?_
 obtain rfl := eI h; exact z04 ⟨_, rfl, z0f (y := (PV.tup [(ofV V.nil), (I64 1)])) (Wk.tup (.cons (Wk.eq mk_nil.symm) (wkr .nil))) (z00 (ids_V V.nil) (z00 rfl z02)) ⟨rfl, rfl⟩⟩
 intro hc22 h
 refine z09 ?_
 refine cBx ?_
 refine bR ?_
 iterate 3 refine sX ?_
 obtain ⟨x23, hx23, h⟩ := obind h
 refine sS rfl rfl rfl (z05 rfl zf9 rfl (wkr (wkr (wkr (wkr .nil)))) ⟨(ids_V a0), ⟨(z07 z01 a1.f_Way), ⟨rfl, ⟨rfl, trivial⟩⟩⟩⟩ (zze a0 a1.f_Way false x23 hx23) (z00 (ids_V x23.1) (z00 rfl z02))) ?_
 iterate 3 refine sX ?_
 refine eX ?_
 obtain rfl := eI h; exact z04 ⟨_, rfl, z0f (y := (PV.tup [(ofV x23.1), (I64 x23.2)])) (Wk.refl _) (z00 (ids_V x23.1) (z00 rfl z02)) ⟨rfl, rfl⟩⟩
 refine z0g ?_
 iterate 2 refine sX ?_
 refine z0j (t := 132) rfl ?_ ?_
 intro hb24; replace h := z0o hb24 h
 iterate 4 refine yX ?_
 refine z1h rfl rfl rfl rfl rfl rfl (z7t rfl rfl rfl) ?_
 refine yX ?_
 refine sX (z0d ?_)
 exact ⟨rfl, (x8.f_Index != (IntKind.i64.wrap (((((x17.1).asList).length : Nat) : Int) - 1))), h, jN⟩
 intro hb24; replace h := z0p hb24 h
 iterate 6 refine nX ?_
 refine sX (z0d ?_)
 exact ⟨rfl, false, h, jN⟩
 refine bR ?_
 iterate 2 refine sX ?_
 refine eX ?_
 refine cX h rfl ?_ ?_
 intro hc25 h
 refine bR ?_
 iterate 2 refine sX ?_
 obtain ⟨x26, hx26, h⟩ := obind h
 refine sS rfl rfl rfl (z05 rfl zn8 rfl (wkr .nil) ⟨(ids_V a1.f_Value), trivial⟩ (zlr a1.f_Value x26 hx26) (z00 rfl (z00 rfl z02))) ?_
 iterate 4 refine sX ?_
 refine eX ?_
 refine bR ?_
 refine sX ?_
 refine eX ?_
 refine cX h rfl ?_ ?_
 intro hc27 h
 refine bR ?_
 iterate 2 refine sX ?_
 refine eX ?_
 obtain rfl := eI h; exact z04 ⟨_, rfl, z0f (y := (PV.tup [(ofV V.nil), (I64 x26.2)])) (Wk.tup (.cons (Wk.eq mk_nil.symm) (wkr .nil))) (z00 (ids_V V.nil) (z00 rfl z02)) ⟨rfl, rfl⟩⟩
 intro hc27 h
 refine z09 ?_
 exact ⟨rfl, (), h, jN⟩
 intro hc25 h
 refine z09 ?_
 exact ⟨rfl, (), h, jN⟩
 refine z7m 0 3 (y := (PV.pt 53 (z06 a1) 0)) rfl rfl (Wk.pt (x := .agg [(I64 a1.f_What), (PV.sl none 83 3 (List.map z03 a1.f_Way)), (ofV a1.f_Value)]) (y := (z06 a1)) (wkr (wkr (wkr .nil)))) ?_
 refine z0g ?_
 iterate 4 refine sX ?_
 refine z0j (t := 24) rfl ?_ ?_
 intro hb28; replace h := z0o hb28 h
 iterate 3 refine nX ?_
 refine sX (z0d ?_)
 exact ⟨rfl, true, h, jN⟩
 intro hb28; replace h := z0p hb28 h
 iterate 3 refine yX ?_
 refine sX (z0d ?_)
 exact ⟨rfl, (decide (a1.f_What > 3)), h, jN⟩
noncomputable def z6a (a1 : (List S_api_Edit)) (g1 : V → Nat → Option (V × Int)) (s3 : V) (s4 : Nat) : Option (V × Int) :=
 bif (decide (((s4 : Nat) : Int) < (((a1).length : Nat) : Int))) then (
 ((a1)[s4]?).bind fun x7 =>
 (zp3 s3 x7).bind fun x8 =>
 bif (x8.2 != 0) then (
 some (V.nil, x8.2)
 ) else (
 g1 x8.1 (s4 + 1)
 )
 ) else (
 (z73 s3).bind fun x10 =>
 some (x10.1, x10.2)
 )
theorem zm3 (g1 : OF ρ → V → Nat → Option (V × Int)) (h_g1 : ∀ y0 y1, CM (fun G => g1 G y0 y1)) (a1 : (List S_api_Edit)) (s3 : V) (s4 : Nat) : CM (fun G : OF ρ => z6a a1 (g1 G) s3 s4) := by
 simp only [z6a]
 repeat (first | exact z0h | exact h_g1 _ _ | refine z14 ?_ ?_ | refine z15 ?_ (fun _ => ?_))
noncomputable def zgb (a1 : (List S_api_Edit)) (s3 : V) (s4 : Nat) : Option (V × Int) :=
 z3n (ι := (V × Nat)) (ρ := fun _ => (V × Int)) (fun g i => z6a a1 (fun s3 s4 => g (s3, s4)) i.1 i.2) (s3, s4)
theorem zga (a1 : (List S_api_Edit)) (s3 : V) (s4 : Nat) : zgb a1 s3 s4 = z6a a1 (zgb a1) s3 s4 :=
 z1f (ι := (V × Nat)) (ρ := fun _ => (V × Int)) (Φ := fun g i => z6a a1 (fun s3 s4 => g (s3, s4)) i.1 i.2) (fun i => zm3 (ι := (V × Nat)) (ρ := fun _ => (V × Int)) (fun g => (fun s3 s4 => g (s3, s4))) (fun _ _ => z1j) a1 i.1 i.2) (s3, s4)
noncomputable def zay (a0 : V) (a1 : (List S_api_Edit)) : Option (V × Int) :=
 (zd5 a0).bind fun x1 =>
 bif (x1.2 != 0) then (
 some (V.nil, x1.2)
 ) else (
 zgb a1 a0 0
 )
theorem zw9 (a0 : V) (a1 : (List S_api_Edit)) (r : (V × Int)) (h : zay a0 a1 = some r) : z0k Tryz.prog 18 [(ofV a0), (PV.sl none 53 3 (List.map z06 a1))] (PV.tup [(ofV r.1), (I64 r.2)]) := by
 unfold zay at h
 refine z0e Tryz.func18 rfl Tryz.ntmps18 Tryz.results18 rfl (z0i ?_)
 change BW _ _ _ ⟨[(0, (ofV a0)), (1, (PV.sl none 53 3 (List.map z06 a1)))], [], _⟩ _
 refine bR ?_
 refine sX ?_
 refine eX ?_
 refine z0b ?_
 refine bR ?_
 refine sX ?_
 obtain ⟨x1, hx1, h⟩ := obind h
 refine sS rfl rfl rfl (z05 rfl zn8 rfl (wkr .nil) ⟨(ids_V a0), trivial⟩ (zlr a0 x1 hx1) (z00 rfl (z00 rfl z02))) ?_
 iterate 4 refine sX ?_
 refine eX ?_
 refine bR ?_
 refine sX ?_
 refine eX ?_
 refine cX h rfl ?_ ?_
 intro hc2 h
 refine bR ?_
 iterate 2 refine sX ?_
 refine eX ?_
 obtain rfl := eI h; exact z04 ⟨_, rfl, z0f (y := (PV.tup [(ofV V.nil), (I64 x1.2)])) (Wk.tup (.cons (Wk.eq mk_nil.symm) (wkr .nil))) (z00 (ids_V V.nil) (z00 rfl z02)) ⟨rfl, rfl⟩⟩
 intro hc2 h
 refine z09 ?_
 refine cBx ?_
 refine z0b ?_
 refine bR ?_
 iterate 2 refine sX ?_
 refine eX ?_
 refine z0m ?_
 refine cBx ?_
 unfold zgb at h
 refine z3o (σ := (V × Nat)) (fun i => [(0, (ofV i.1)), (20, (PV.sl none 53 3 (List.map z06 a1))), (21, (I64 ((((a1).length : Nat) : Int)))), (22, (I64 (((i.2 : Nat) : Int))))]) (fun i => []) (a0, 0) h ?_ ?_ ?_
 intro i; exact ⟨lbE rfl, ⟨(z0c (ids_V _)), ⟨(z0c (z07 z08 _)), ⟨(z0c rfl), ⟨(z0c rfl), trivial⟩⟩⟩⟩, trivial⟩
 exact jN
 rintro g1_f ⟨s3, s4⟩ h; replace h : z6a a1 (fun y0 y1 => g1_f (y0, y1)) s3 s4 = some r := h; unfold z6a at h
 change BW _ _ _ ⟨[(0, (ofV s3)), (20, (PV.sl none 53 3 (List.map z06 a1))), (21, (I64 ((((a1).length : Nat) : Int)))), (22, (I64 (((s4 : Nat) : Int))))], [], _⟩ _
 refine bR ?_
 refine eX ?_
 refine z0b ?_
 refine z4u (t := 20) rfl fun hb6 => ?_
 try rw [List.length_map] at hb6
 refine cX h rfl ?_ ?_
 intro hc5 h
 have hc5_ := of_decide_eq_true hc5
 refine z09 ?_
 refine cBx ?_
 refine z0b ?_
 refine z0m ?_
 refine cBx ?_
 refine bR ?_
 obtain ⟨x7, hx7, h⟩ := obind h
 refine sS rfl rfl rfl (z1m (i := s4) Tryz.underlying46 z3r rfl rfl rfl hx7 rfl) ?_
 refine sX ?_
 refine sS rfl rfl rfl ((z1t z3r rfl).cast (H'' := [.box 53 [(I64 0), (PV.v (.slice none 0 0)), (ofV V.nil)]]) rfl (by simp only [mk_nil]; rfl)) ?_
 refine z1g rfl rfl (z18 z3r rfl rfl rfl rfl rfl rfl (lbE rfl) (by show List.all [(I64 x7.f_What), (PV.sl none 83 3 (List.map z03 x7.f_Way)), (ofV x7.f_Value)] z6u = true; simp only [List.all_cons, List.all_nil, zd6, z52, Bool.and_true, Bool.true_and]; try rfl)) ?_
 refine z0d ?_
 refine cBx ?_
 refine bR ?_
 iterate 2 refine sX ?_
 obtain ⟨x8, hx8, h⟩ := obind h
 refine sS rfl rfl rfl (z05 rfl Z3t rfl (wkr (wkr .nil)) ⟨(ids_V s3), ⟨(z08 x7), trivial⟩⟩ (Z20 s3 x7 x8 hx8) (z00 (ids_V x8.1) (z00 rfl z02))) ?_
 iterate 4 refine sX ?_
 refine eX ?_
 refine z0b ?_
 refine bR ?_
 refine sX ?_
 refine eX ?_
 refine cX h rfl ?_ ?_
 intro hc9 h
 refine bR ?_
 iterate 2 refine sX ?_
 refine eX ?_
 obtain rfl := eI h; exact z04 ⟨_, rfl, z0f (y := (PV.tup [(ofV V.nil), (I64 x8.2)])) (Wk.tup (.cons (Wk.eq mk_nil.symm) (wkr .nil))) (z00 (ids_V V.nil) (z00 rfl z02)) ⟨rfl, rfl⟩⟩
 intro hc9 h
 refine z09 ?_
 refine cBx ?_
 refine z0g ?_
 refine sX ?_
 refine eX ?_
 refine z0g ?_
 refine sS rfl rfl rfl (z2p (k := s4) (c := 1) rfl rfl rfl (by omega)) ?_
 refine sX (z0d ?_)
 exact ⟨rfl, (x8.1, (s4 + 1)), h, jN⟩
 intro hc5 h
 refine z2c ?_
 refine cBx ?_
 refine bR ?_
 refine sX ?_
 obtain ⟨x10, hx10, h⟩ := obind h
 refine sS rfl rfl rfl (z05 rfl zn7 rfl (wkr .nil) ⟨(ids_V s3), trivial⟩ (zlq s3 x10 hx10) (z00 (ids_V x10.1) (z00 rfl z02))) ?_
 iterate 3 refine sX ?_
 refine eX ?_
 obtain rfl := eI h; exact z04 ⟨_, rfl, z0f (y := (PV.tup [(ofV x10.1), (I64 x10.2)])) (Wk.refl _) (z00 (ids_V x10.1) (z00 rfl z02)) ⟨rfl, rfl⟩⟩
noncomputable def zc3 (x3 : V) (x5 : (List S_api_Edit)) (s6 : Int) : Option Bool :=
 (zay x3 x5).bind fun x7 =>
 (zah x5 0 s6).bind fun x8 =>
 (zay x3 x8).bind fun x9 =>
 bif (x9.2 != 0) then (
 bif (x9.1).isNil then (
 bif (x7.2 == x9.2) then (
 bif (x7.1).isNil then (
 some true
 ) else (
 some (x9.2 == 2)
 )
 ) else (
 some (x9.2 == 2)
 )
 ) else (
 some false
 )
 ) else (
 (zah x5 s6 ((x5).length : Int)).bind fun x14 =>
 (zay x9.1 x14).bind fun x15 =>
 bif (x7.2 == x15.2) then (
 (zgx x7.1 x15.1).bind fun x17 =>
 bif x17 then (
 some true
 ) else (
 bif (x7.2 == x15.2) then (
 bif (x7.2 != 0) then (
 bif (x7.1).isNil then (
 some (x15.1).isNil
 ) else (
 some false
 )
 ) else (
 some false
 )
 ) else (
 some false
 )
 )
 ) else (
 bif (x7.2 == x15.2) then (
 bif (x7.2 != 0) then (
 bif (x7.1).isNil then (
 some (x15.1).isNil
 ) else (
 some false
 )
 ) else (
 some false
 )
 ) else (
 some false
 )
 )
 )
noncomputable def zc2 (a1 : (List S_ref04_Edit)) (a2 : Int) (x3 : V) (x5 : (List S_api_Edit)) (s25 : Bool) : Option Bool :=
 bif s25 then (
 zc3 x3 x5 (((a1).length : Nat) : Int)
 ) else (
 zc3 x3 x5 a2
 )
noncomputable def zsa (a0 : Term) (a1 : (List S_ref04_Edit)) (a2 : Int) : Option Bool :=
 (zp8).bind fun x1 =>
 bif (!x1) then (
 some false
 ) else (
 (z8b a0).bind fun x3 =>
 (zs5 a1).bind fun x4 =>
 (zah x4 0 (((a1).length : Nat) : Int)).bind fun x5 =>
 bif (decide (a2 < 0)) then (
 zc2 a1 a2 x3 x5 true
 ) else (
 zc2 a1 a2 x3 x5 (decide (a2 > (((a1).length : Nat) : Int)))
 )
 )
theorem Z2f (a0 : Term) (a1 : (List S_ref04_Edit)) (a2 : Int) (r : Bool) (h : zsa a0 a1 a2 = some r) : z0k Tryz.prog 5 [(z3l a0), (PV.sl none 100 13 (List.map z1p a1)), (I64 a2)] (BO r) := by
 unfold zsa at h
 refine z0e Tryz.func5 rfl Tryz.ntmps5 Tryz.results5 rfl (z0i ?_)
 change BW _ _ _ ⟨[(0, (z3l a0)), (1, (PV.sl none 100 13 (List.map z1p a1))), (2, (I64 a2))], [], _⟩ _
 refine bR ?_
 refine sX ?_
 refine eX ?_
 refine z0b ?_
 refine bR ?_
 obtain ⟨x1, hx1, h⟩ := obind h
 refine sS rfl rfl rfl (z05 rfl Z5u rfl .nil trivial (Z28  x1 hx1) rfl) ?_
 refine eX ?_
 refine cX h rfl ?_ ?_
 intro hc2 h
 refine bR ?_
 refine eX ?_
 obtain rfl := eI h; exact z04 eK
 intro hc2 h
 refine z09 ?_
 refine cBx ?_
 refine bR ?_
 refine sX ?_
 obtain ⟨x3, hx3, h⟩ := obind h
 refine sS rfl rfl rfl (z05 rfl Z1p rfl (wkr .nil) ⟨(z9h a0), trivial⟩ (zz2 a0 x3 hx3) (ids_V x3)) ?_
 refine eX ?_
 refine bR ?_
 refine sX ?_
 obtain ⟨x4, hx4, h⟩ := obind h
 refine sS rfl rfl rfl (z05 rfl Z3z rfl (wkr .nil) ⟨(z07 z45 a1), trivial⟩ (Z26 a1 x4 hx4) (z07 z08 x4)) ?_
 iterate 2 refine sX ?_
 obtain ⟨x5, hx5, h⟩ := obind h
 refine sS rfl rfl rfl (z49 (a := 0) (b := (((a1).length : Nat) : Int)) Tryz.underlying46 z3r rfl rfl rfl rfl rfl rfl hx5) ?_
 refine eX ?_
 refine z2b (ι := Int) (fun i => zc3 x3 x5 i = some r) (fun i => [(2, (I64 i)), (7, (ofV x3)), (8, (PV.sl none 53 3 (List.map z06 x5)))]) (fun i => []) ?_ ?_ ?_
 intro i; exact ⟨lbE rfl, ⟨(z0c rfl), ⟨(z0c (ids_V _)), ⟨(z0c (z07 z08 _)), trivial⟩⟩⟩, trivial⟩
 rintro s6 h; replace h : zc3 x3 x5 s6 = some r := h; unfold zc3 at h
 change BW _ _ _ ⟨[(2, (I64 s6)), (7, (ofV x3)), (8, (PV.sl none 53 3 (List.map z06 x5)))], [], _⟩ _
 refine bR ?_
 iterate 2 refine sX ?_
 obtain ⟨x7, hx7, h⟩ := obind h
 refine sS rfl rfl rfl (z05 rfl zxz rfl (wkr (wkr .nil)) ⟨(ids_V x3), ⟨(z07 z08 x5), trivial⟩⟩ (zw9 x3 x5 x7 hx7) (z00 (ids_V x7.1) (z00 rfl z02))) ?_
 iterate 4 refine sX ?_
 refine eX ?_
 refine bR ?_
 iterate 3 refine sX ?_
 obtain ⟨x8, hx8, h⟩ := obind h
 refine sS rfl rfl rfl (z49 (a := 0) (b := s6) Tryz.underlying46 z3r rfl rfl rfl rfl rfl rfl hx8) ?_
 obtain ⟨x9, hx9, h⟩ := obind h
 refine sS rfl rfl rfl (z05 rfl zxz rfl (wkr (wkr .nil)) ⟨(ids_V x3), ⟨(z07 z08 x8), trivial⟩⟩ (zw9 x3 x8 x9 hx9) (z00 (ids_V x9.1) (z00 rfl z02))) ?_
 iterate 4 refine sX ?_
 refine eX ?_
 refine z0b ?_
 refine bR ?_
 refine sX ?_
 refine eX ?_
 refine cX h rfl ?_ ?_
 intro hc10 h
 refine bR ?_
 refine sX ?_
 refine sS rfl rfl rfl (z3t Tryz.underlying20 rfl rfl) ?_
 refine sX ?_
 refine z0j (t := 52) rfl ?_ ?_
 intro hb11; replace h := z0o hb11 h
 iterate 4 refine yX ?_
 refine z0j (t := 56) rfl ?_ ?_
 intro hb12; replace h := z0o hb12 h
 refine yX ?_
 refine z1h rfl rfl rfl rfl rfl rfl (z3t Tryz.underlying20 rfl rfl) ?_
 iterate 2 refine yX ?_
 refine z0j (t := 60) rfl ?_ ?_
 intro hb13; replace h := z0o hb13 h
 iterate 2 refine nX ?_
 refine yX ?_
 refine sX ?_
 refine eX ?_
 obtain rfl := eI h; exact z04 eK
 intro hb13; replace h := z0p hb13 h
 iterate 3 refine yX ?_
 refine sX ?_
 refine eX ?_
 obtain rfl := eI h; exact z04 eK
 intro hb12; replace h := z0p hb12 h
 iterate 2 refine nX ?_
 iterate 5 refine yX ?_
 refine sX ?_
 refine eX ?_
 obtain rfl := eI h; exact z04 eK
 intro hb11; replace h := z0p hb11 h
 iterate 11 refine nX ?_
 refine sX ?_
 refine eX ?_
 obtain rfl := eI h; exact z04 eK
 intro hc10 h
 refine z09 ?_
 refine cBx ?_
 refine bR ?_
 iterate 3 refine sX ?_
 obtain ⟨x14, hx14, h⟩ := obind h
 refine sS rfl rfl rfl (z49 (a := s6) (b := ((x5).length : Int)) Tryz.underlying46 z3r rfl rfl rfl rfl rfl rfl hx14) ?_
 obtain ⟨x15, hx15, h⟩ := obind h
 refine sS rfl rfl rfl (z05 rfl zxz rfl (wkr (wkr .nil)) ⟨(ids_V x9.1), ⟨(z07 z08 x14), trivial⟩⟩ (zw9 x9.1 x14 x15 hx15) (z00 (ids_V x15.1) (z00 rfl z02))) ?_
 iterate 4 refine sX ?_
 refine eX ?_
 refine bR ?_
 iterate 4 refine sX ?_
 refine z0j (t := 76) rfl ?_ ?_
 intro hb16; replace h := z0o hb16 h
 iterate 2 refine yX ?_
 obtain ⟨x17, hx17, h⟩ := obind h
 refine z1h rfl rfl rfl rfl rfl rfl (z05 rfl ztr rfl (wkr (wkr .nil)) ⟨(ids_V x7.1), ⟨(ids_V x15.1), trivial⟩⟩ (zro x7.1 x15.1 x17 hx17) rfl) ?_
 iterate 2 refine sX ?_
 refine z0j (t := 81) rfl ?_ ?_
 intro hb18; replace h := z0o hb18 h
 iterate 15 refine nX ?_
 refine sX ?_
 refine eX ?_
 obtain rfl := eI h; exact z04 eK
 intro hb18; replace h := z0p hb18 h
 iterate 4 refine yX ?_
 refine z0j (t := 85) rfl ?_ ?_
 intro hb19; replace h := z0o hb19 h
 iterate 4 refine yX ?_
 refine z0j (t := 89) rfl ?_ ?_
 intro hb20; replace h := z0o hb20 h
 refine yX ?_
 refine z1h rfl rfl rfl rfl rfl rfl (z3t Tryz.underlying20 rfl rfl) ?_
 iterate 2 refine yX ?_
 refine z0j (t := 93) rfl ?_ ?_
 intro hb21; replace h := z0o hb21 h
 refine yX ?_
 refine z1h rfl rfl rfl rfl rfl rfl (z3t Tryz.underlying20 rfl rfl) ?_
 refine yX ?_
 refine sX ?_
 refine eX ?_
 obtain rfl := eI h; exact z04 eK
 intro hb21; replace h := z0p hb21 h
 iterate 2 refine nX ?_
 refine yX ?_
 refine sX ?_
 refine eX ?_
 obtain rfl := eI h; exact z04 eK
 intro hb20; replace h := z0p hb20 h
 iterate 2 refine nX ?_
 iterate 2 refine yX ?_
 iterate 2 refine nX ?_
 refine yX ?_
 refine sX ?_
 refine eX ?_
 obtain rfl := eI h; exact z04 eK
 intro hb19; replace h := z0p hb19 h
 iterate 2 refine nX ?_
 iterate 2 refine yX ?_
 iterate 2 refine nX ?_
 iterate 2 refine yX ?_
 iterate 2 refine nX ?_
 refine yX ?_
 refine sX ?_
 refine eX ?_
 obtain rfl := eI h; exact z04 eK
 intro hb16; replace h := z0p hb16 h
 iterate 3 refine nX ?_
 iterate 2 refine sX ?_
 iterate 4 refine yX ?_
 refine z0j (t := 85) rfl ?_ ?_
 intro hb22; replace h := z0o hb22 h
 iterate 4 refine yX ?_
 refine z0j (t := 89) rfl ?_ ?_
 intro hb23; replace h := z0o hb23 h
 refine yX ?_
 refine z1h rfl rfl rfl rfl rfl rfl (z3t Tryz.underlying20 rfl rfl) ?_
 iterate 2 refine yX ?_
 refine z0j (t := 93) rfl ?_ ?_
 intro hb24; replace h := z0o hb24 h
 refine yX ?_
 refine z1h rfl rfl rfl rfl rfl rfl (z3t Tryz.underlying20 rfl rfl) ?_
 refine yX ?_
 refine sX ?_
 refine eX ?_
 obtain rfl := eI h; exact z04 eK
 intro hb24; replace h := z0p hb24 h
 iterate 2 refine nX ?_
 refine yX ?_
 refine sX ?_
 refine eX ?_
 obtain rfl := eI h; exact z04 eK
 intro hb23; replace h := z0p hb23 h
 iterate 2 refine nX ?_
 iterate 2 refine yX ?_
 iterate 2 refine nX ?_
 refine yX ?_
 refine sX ?_
 refine eX ?_
 obtain rfl := eI h; exact z04 eK
 intro hb22; replace h := z0p hb22 h
 iterate 2 refine nX ?_
 iterate 2 refine yX ?_
 iterate 2 refine nX ?_
 iterate 2 refine yX ?_
 iterate 2 refine nX ?_
 refine yX ?_
 refine sX ?_
 refine eX ?_
 obtain rfl := eI h; exact z04 eK
 refine z2b (ι := Bool) (fun i => zc2 a1 a2 x3 x5 i = some r) (fun i => [(1, (PV.sl none 100 13 (List.map z1p a1))), (2, (I64 a2)), (7, (ofV x3)), (8, (PV.sl none 53 3 (List.map z06 x5))), (31, (BO i))]) (fun i => []) ?_ ?_ ?_
 intro i; exact ⟨lbE rfl, ⟨(z0c (z07 z45 _)), ⟨(z0c rfl), ⟨(z0c (ids_V _)), ⟨(z0c (z07 z08 _)), ⟨(z0c rfl), trivial⟩⟩⟩⟩⟩, trivial⟩
 rintro s25 h; replace h : zc2 a1 a2 x3 x5 s25 = some r := h; unfold zc2 at h
 change BW _ _ _ ⟨[(1, (PV.sl none 100 13 (List.map z1p a1))), (2, (I64 a2)), (7, (ofV x3)), (8, (PV.sl none 53 3 (List.map z06 x5))), (31, (BO s25))], [], _⟩ _
 refine cX h rfl ?_ ?_
 intro hc26 h
 refine z0g ?_
 iterate 2 refine sX ?_
 refine sX (z0d ?_)
 exact ⟨rfl, (((a1).length : Nat) : Int), h, jN⟩
 intro hc26 h
 refine z09 ?_
 exact ⟨rfl, a2, h, jN⟩
 refine z0g ?_
 iterate 3 refine sX ?_
 refine z0j (t := 26) rfl ?_ ?_
 intro hb27; replace h := z0o hb27 h
 iterate 4 refine nX ?_
 refine sX (z0d ?_)
 exact ⟨rfl, true, h, jN⟩
 intro hb27; replace h := z0p hb27 h
 iterate 4 refine yX ?_
 refine sX (z0d ?_)
 exact ⟨rfl, (decide (a2 > (((a1).length : Nat) : Int))), h, jN⟩
end Go.Proofs.YthidgpcbnieleaaGreatDoor
