/- Pure functions, and that calls answer as they say. -/
import Derived.Test.YthidgpcbnieleaaG5
namespace Go.Proofs.Ythidgpcbnieleaa
open Go Aw
set_option linter.unusedVariables false
set_option linter.unusedSimpArgs false
set_option maxRecDepth 20000
set_option maxHeartbeats 2000000
variable {ι : Type} {ρ : ι → Type}
noncomputable def zb4 (a0 : Term) (a1 : (List S_api_Step)) (a2 : Term) (s2 : Int) : Option (Term × Int) :=
 bif (s2 != 0) then (
 (z8i).bind fun x4 =>
 some (x4, s2)
 ) else (
 (z82 a0 a1 a2 false).bind fun x5 =>
 (zjt x5.1 x5.2).bind fun x6 =>
 some ((x6.1), x6.2)
 )
noncomputable def zqb (a0 : Term) (a1 : (List S_api_Step)) (a2 : Term) : Option (Term × Int) :=
 (zjy a0 a1).bind fun x1 =>
 bif (x1 == 0) then (
 (zid a2).bind fun x8 =>
 zb4 a0 a1 a2 x8.2
 ) else (
 zb4 a0 a1 a2 x1
 )
theorem Z33 (a0 : Term) (a1 : (List S_api_Step)) (a2 : Term) (r : (Term × Int)) (h : zqb a0 a1 a2 = some r) : z0o Try.prog 21 [(z0b a0), (PV.sl none 76 3 (List.map z01 a1)), (z0b a2)] (PV.tup [(z0b r.1), (I64 r.2)]) := by
 unfold zqb at h
 refine z0j Try.func21 rfl Try.ntmps21 Try.results21 rfl (z0q ?_)
 change BW _ _ _ ⟨[(0, (z0b a0)), (1, (PV.sl none 76 3 (List.map z01 a1))), (2, (z0b a2))], [], _⟩ _
 refine bR ?_
 iterate 2 refine sX ?_
 refine sS rfl rfl rfl (z1b z0v rfl) ?_
 refine eX ?_
 refine bR ?_
 iterate 2 refine sX ?_
 obtain ⟨x1, hx1, h⟩ := obind h
 refine sS rfl rfl rfl (z03 rfl zyj rfl (wkr (wkr .nil)) ⟨(z06 a0), ⟨(z0f z07 a1), trivial⟩⟩ (zx5 a0 a1 x1 hx1) rfl) ?_
 refine eX ?_
 refine z2l (ι := Int) (fun i => zb4 a0 a1 a2 i = some r) (fun i => [(1, (PV.sl none 76 3 (List.map z01 a1))), (3, (PV.rf 0 0)), (5, (PV.rf 1 0)), (6, (PV.rf 2 0)), (8, (I64 i))]) (fun i => [.box 29 (z1r a0), .box 29 (z1r a2), .box 29 z3d]) ?_ ?_ ?_
 intro i; exact ⟨lbE rfl, ⟨(z02 (z0f z07 _)), ⟨(il_rf rfl), ⟨(il_rf rfl), ⟨(il_rf rfl), ⟨(z02 rfl), trivial⟩⟩⟩⟩⟩, ⟨wfC29, ⟨wfC29, ⟨⟨(z02 rfl), ⟨(z02 rfl), ⟨(z02 rfl), ⟨(z02 rfl), ⟨(z02 rfl), ⟨(z02 rfl), ⟨(z02 rfl), ⟨(z02 rfl), ⟨(z02 rfl), ⟨(z02 rfl), ⟨(z02 rfl), trivial⟩⟩⟩⟩⟩⟩⟩⟩⟩⟩⟩, trivial⟩⟩⟩⟩
 rintro s2 h; replace h : zb4 a0 a1 a2 s2 = some r := h; unfold zb4 at h
 change BW _ _ _ ⟨[(1, (PV.sl none 76 3 (List.map z01 a1))), (3, (PV.rf 0 0)), (5, (PV.rf 1 0)), (6, (PV.rf 2 0)), (8, (I64 s2))], [.box 29 (z1r a0), .box 29 (z1r a2), .box 29 z3d], _⟩ _
 refine z0d ?_
 refine bR ?_
 refine sX ?_
 refine eX ?_
 refine cX h rfl ?_ ?_
 intro hc3 h
 refine bR ?_
 obtain ⟨x4, hx4, h⟩ := obind h
 refine sS rfl rfl rfl (z03 rfl zas rfl .nil trivial (za8  x4 hx4) (z06 x4)) ?_
 refine sX ?_
 refine z0l rfl rfl (z0g z0v rfl rfl rfl rfl rfl rfl (lbE rfl) rfl) ?_
 refine eX ?_
 obtain rfl := eI h; exact z04 ⟨_, rfl, z0p (y := (PV.tup [(z0b x4), (I64 s2)])) (Wk.refl _) (z00 (z06 x4) (z00 rfl z05)) ⟨rfl, rfl⟩⟩
 intro hc3 h
 refine z0c ?_
 refine cBx ?_
 refine bR ?_
 iterate 3 refine sX ?_
 obtain ⟨x5, hx5, h⟩ := obind h
 refine sS rfl rfl rfl (z03 rfl zyh rfl (wkr (wkr (wkr (wkr .nil)))) ⟨(z06 a0), ⟨(z0f z07 a1), ⟨(z06 a2), ⟨rfl, trivial⟩⟩⟩⟩ (Z00 a0 a1 a2 false x5 hx5) (z00 (z06 x5.1) (z00 rfl z05))) ?_
 iterate 2 refine sX ?_
 obtain ⟨x6, hx6, h⟩ := obind h
 refine sS rfl rfl rfl (z03 rfl Z1x rfl (wkr (wkr .nil)) ⟨(z06 x5.1), ⟨rfl, trivial⟩⟩ (zzx x5.1 x5.2 x6 hx6) (z00 (z06 x6.1) (z00 rfl z05))) ?_
 iterate 2 refine sX ?_
 refine z0l rfl rfl (z0g z0v rfl rfl rfl rfl rfl rfl (lbE rfl) rfl) ?_
 refine eX ?_
 obtain rfl := eI h; exact z04 ⟨_, rfl, z0p (y := (PV.tup [(z0b (x6.1)), (I64 x6.2)])) (Wk.refl _) (z00 (z06 (x6.1)) (z00 rfl z05)) ⟨rfl, rfl⟩⟩
 refine bR ?_
 refine sX ?_
 refine eX ?_
 refine cX h rfl ?_ ?_
 intro hc7 h
 refine z0e ?_
 refine sX ?_
 obtain ⟨x8, hx8, h⟩ := obind h
 refine sS rfl rfl rfl (z03 rfl zum rfl (wkr .nil) ⟨(z06 a2), trivial⟩ (ztb a2 x8 hx8) (z00 rfl (z00 rfl z05))) ?_
 iterate 3 refine sX ?_
 refine sX (z08 ?_)
 exact ⟨rfl, x8.2, h, jN⟩
 intro hc7 h
 refine z0c ?_
 exact ⟨rfl, x1, h, jN⟩
noncomputable def znj (a0 : (List (Str × V))) (a1 : S_api_Step) : Option (List (Str × V)) :=
 (zju a0 a1.f_Name).bind fun x1 =>
 (znp a0).bind fun x2 =>
 (zys x2 x1.1 (IntKind.i64.wrap (x1.1 + 1))).bind fun x3 =>
 some x3
theorem Z0b (a0 : (List (Str × V))) (a1 : S_api_Step) (r : (List (Str × V))) (h : znj a0 a1 = some r) : z0o Try.prog 75 [(PV.sl none 96 2 (List.map ofFld a0)), (PV.pt 76 (z01 a1) 0)] (PV.sl none 96 2 (List.map ofFld r)) := by
 unfold znj at h
 refine z0j Try.func75 rfl Try.ntmps75 Try.results75 rfl (z0q ?_)
 change BW _ _ _ ⟨[(0, (PV.sl none 96 2 (List.map ofFld a0))), (1, (PV.pt 76 (z01 a1) 0))], [], _⟩ _
 refine bR ?_
 refine sS rfl rfl rfl ((z7q (e := 96) (sz := 2) (.inl rfl) rfl).cast (y := (PV.rs 0 0 (([] : (List (Str × V)))).length 96 2)) (H'' := [rowM ofFld 96 ([] : (List (Str × V)))]) rfl rfl) (z08 ?_)
 refine cBx ?_
 refine bR ?_
 iterate 3 refine sX ?_
 obtain ⟨x1, hx1, h⟩ := obind h
 refine sS rfl rfl rfl (z03 rfl zyd rfl (wkr (wkr .nil)) ⟨(z0f z19 a0), ⟨rfl, trivial⟩⟩ (zx2 a0 a1.f_Name x1 hx1) (z00 rfl (z00 rfl z05))) ?_
 iterate 4 refine sX ?_
 refine eX ?_
 refine bR ?_
 refine sX ?_
 obtain ⟨x2, hx2, h⟩ := obind h
 refine sS rfl rfl rfl (z9h rfl Z1o rfl (wkr .nil) ⟨(z0f z19 a0), trivial⟩ (Z0f a0 x2 hx2) ztc (zft (z4x z19) (zl7))) ?_
 iterate 3 refine sX ?_
 obtain ⟨x3, hx3, h⟩ := obind h
 refine sS rfl rfl rfl (zlc (f := ofFld) (l := x2) Z29 Z4c rfl rfl rfl rfl rfl rfl z7i z7l rfl hx3) ?_
 refine eX ?_
 obtain rfl := eI h; exact z04 ⟨_, rfl, z0p (y := (PV.sl none 96 2 (List.map ofFld x3))) (Wk.refl _) (z0f z19 x3) ⟨rfl, rfl⟩⟩
noncomputable def zie (a0 : V) (a1 : S_api_Step) : Option V :=
 bif (a0).isList then (
 (zno ((a0).asList)).bind fun x2 =>
 (zys x2 a1.f_Index (IntKind.i64.wrap (a1.f_Index + 1))).bind fun x3 =>
 some (V.list x3)
 ) else (
 bif (a0).isDict then (
 (znj ((a0).asDict) a1).bind fun x5 =>
 some (V.dict x5)
 ) else (
 bif (a0).isRec then (
 ((a0).asRec).bind fun x7 =>
 (znj x7.fields a1).bind fun x8 =>
 some (V.record x7.cls x7.ver x8)
 ) else (
 some a0
 )
 )
 )
theorem Z3f (a0 : V) (a1 : S_api_Step) (r : V) (h : zie a0 a1 = some r) : z0o Try.prog 49 [(ofV a0), (z01 a1)] (ofV r) := by
 unfold zie at h
 refine z0j Try.func49 rfl Try.ntmps49 Try.results49 rfl (z0q ?_)
 change BW _ _ _ ⟨[(0, (ofV a0)), (1, (z01 a1))], [], _⟩ _
 refine bR ?_
 refine sX ?_
 refine eX ?_
 refine z0d ?_
 refine zav 0 3 (y := (PV.pt 76 (z01 a1) 0)) rfl rfl (Wk.pt (x := .agg [(z0k a1.f_Name), (BO a1.f_At), (I64 a1.f_Index)]) (y := (z01 a1)) (wkr (wkr (wkr .nil)))) ?_
 refine z0e ?_
 refine sS rfl rfl rfl (zvy rfl rfl rfl) ?_
 refine eX ?_
 refine z0d ?_
 refine bR ?_
 refine eX ?_
 refine z0r ?_
 refine cBx ?_
 refine bR ?_
 refine sS rfl rfl rfl (z2t rfl rfl) ?_
 refine sX ?_
 refine eX ?_
 refine cX h rfl ?_ ?_
 intro hc1 h
 refine bR ?_
 refine eX ?_
 refine z0d (z1y 7 [1] [] mo (by kernel_rfl) ?_)
 refine gX ?_
 obtain ⟨x2, hx2, h⟩ := obind h
 refine z9y rfl rfl rfl rfl (z9h rfl Z1s rfl (wkr .nil) ⟨(z0f ids_V ((a0).asList)), trivial⟩ (Z0e ((a0).asList) x2 hx2) ztc (zft (z4x ids_V) (zl7))) trivial ?_
 iterate 5 refine gX ?_
 refine z23 ?_
 change AO _ _ _ _ _
 obtain ⟨x3, hx3, h⟩ := obind h
 refine sS rfl rfl rfl (zlc (f := ofV) (l := x2) Z28 Z4b rfl rfl rfl rfl rfl rfl csz_V z8t rfl hx3) ?_
 refine sS rfl rfl rfl ((z1q Try.underlying62 rfl rfl rfl).wk ((Wk.iface (Wk.refl _)).trans (Wk.eq (zda _).symm))) ?_
 refine eX ?_
 obtain rfl := eI h; exact z04 ⟨_, rfl, z0p (y := (ofV (V.list x3))) (Wk.refl _) (ids_V (V.list x3)) ⟨rfl, rfl⟩⟩
 intro hc1 h
 refine bR ?_
 refine sS rfl rfl rfl (z3o rfl rfl) ?_
 refine sX ?_
 refine eX ?_
 refine cX h rfl ?_ ?_
 intro hc4 h
 refine bR ?_
 refine eX ?_
 refine bR ?_
 iterate 2 refine sX ?_
 obtain ⟨x5, hx5, h⟩ := obind h
 refine sS rfl rfl rfl (zap rfl rfl Z1p rfl (wkr (wkr .nil)) ⟨(z0f z19 ((a0).asDict)), ⟨(z07 a1), trivial⟩⟩ (Z0b ((a0).asDict) a1 x5 hx5) (z0f z19 x5)) ?_
 refine sS rfl rfl rfl ((z1q Try.underlying64 rfl rfl rfl).wk ((Wk.iface (Wk.refl _)).trans (Wk.eq (zg2 _).symm))) ?_
 refine eX ?_
 obtain rfl := eI h; exact z04 ⟨_, rfl, z0p (y := (ofV (V.dict x5))) (Wk.refl _) (ids_V (V.dict x5)) ⟨rfl, rfl⟩⟩
 intro hc4 h
 refine bR ?_
 refine sS rfl rfl rfl (z48 rfl rfl) ?_
 refine sX ?_
 refine eX ?_
 refine cX h rfl ?_ ?_
 intro hc6 h
 refine bR ?_
 refine eX ?_
 refine z0d (z1y 14 [] [] mo (by kernel_rfl) ?_)
 refine gX ?_
 obtain ⟨x7, hx7, h⟩ := obind h
 refine z1v rfl rfl rfl rfl (fun H hp => z2d rfl rfl hx7) ?_
 iterate 3 refine gX ?_
 refine z1v rfl rfl rfl rfl (fun H hp => z2d rfl rfl hx7) ?_
 iterate 4 refine gX ?_
 refine z1v rfl rfl rfl rfl (fun H hp => z2d rfl rfl hx7) ?_
 iterate 2 refine gX ?_
 obtain ⟨x8, hx8, h⟩ := obind h
 refine z1v rfl rfl rfl rfl (fun H hp => zap rfl rfl Z1p rfl (wkr (wkr .nil)) ⟨(z0f z19 x7.fields), ⟨(z07 a1), trivial⟩⟩ (Z0b x7.fields a1 x8 hx8) (z0f z19 x8)) ?_
 refine z23 ?_
 change AO _ _ _ _ _
 refine sS rfl rfl rfl (z1a (cs := [(z0k x7.cls), (I64 x7.ver), (PV.sl none 96 2 (List.map ofFld x8))]) zbi zix rfl rfl rfl rfl) ?_
 refine sX ?_
 refine sS rfl rfl rfl (z1q Try.underlying66 rfl rfl rfl) ?_
 refine eX ?_
 refine zav 1 4 (y := (ofV (V.record x7.cls x7.ver x8))) rfl rfl ((Wk.iface (Wk.pt (x := .agg [(z0k x7.cls), (I64 x7.ver), (PV.sl none 96 2 (List.map ofFld x8))]) (y := zio (Rec.mk x7.cls x7.ver x8)) (wkr (wkr (wkr .nil))))).trans (Wk.eq (ziq (some (Rec.mk x7.cls x7.ver x8))).symm)) ?_
 obtain rfl := eI h; exact z04 ⟨_, rfl, z0p (y := (ofV (V.record x7.cls x7.ver x8))) (Wk.refl _) (ids_V (V.record x7.cls x7.ver x8)) ⟨rfl, rfl⟩⟩
 intro hc6 h
 refine z0c ?_
 refine cBx ?_
 refine bR ?_
 refine sX ?_
 refine eX ?_
 obtain rfl := eI h; exact z04 ⟨_, rfl, z0p (y := (ofV a0)) (Wk.refl _) (ids_V a0) ⟨rfl, rfl⟩⟩
noncomputable def zi6 (a0 : V) (x1 : S_api_Step) (s4 : Int) : Option (V × Int) :=
 bif (s4 != 0) then (
 some (V.nil, s4)
 ) else (
 (zie a0 x1).bind fun x6 =>
 some (x6, 0)
 )
noncomputable def zbe (a0 : V) (x1 : S_api_Step) (x3 : (V × Int)) (s7 : Bool) : Option (V × Int) :=
 bif s7 then (
 zi6 a0 x1 0
 ) else (
 zi6 a0 x1 x3.2
 )
noncomputable def zo6 (r_q04 : V → (List S_api_Step) → Bool → Option (V × Int)) (a0 : V) (a1 : (List S_api_Step)) (a2 : Bool) : Option (V × Int) :=
 ((a1)[0]?).bind fun x1 =>
 bif ((((a1).length : Nat) : Int) == 1) then (
 (z8g a0 x1).bind fun x3 =>
 bif a2 then (
 bif (x3.2 == 40) then (
 zbe a0 x1 x3 true
 ) else (
 bif (x3.2 == 42) then (
 bif (a0).isList then (
 zbe a0 x1 x3 (x1.f_Index == ((((a0).asList).length : Nat) : Int))
 ) else (
 zbe a0 x1 x3 false
 )
 ) else (
 zbe a0 x1 x3 false
 )
 )
 ) else (
 zbe a0 x1 x3 false
 )
 ) else (
 (z8g a0 x1).bind fun x13 =>
 bif (x13.2 != 0) then (
 some (V.nil, x13.2)
 ) else (
 (z83 a1 1 ((a1).length : Int)).bind fun x15 =>
 (r_q04 x13.1 x15 a2).bind fun x16 =>
 bif (x16.2 != 0) then (
 some (V.nil, x16.2)
 ) else (
 (zdy a0 x1 x16.1).bind fun x18 =>
 some (x18, 0)
 )
 )
 )
theorem zvc (r_q04 : OF ρ → V → (List S_api_Step) → Bool → Option (V × Int)) (h_r_q04 : ∀ y0 y1 y2, CM (fun G => r_q04 G y0 y1 y2)) (a0 : V) (a1 : (List S_api_Step)) (a2 : Bool) : CM (fun G : OF ρ => zo6 (r_q04 G) a0 a1 a2) := by
 simp only [zo6]
 repeat (first | exact z0h | exact h_r_q04 _ _ _ | apply q04_j2_cm | refine z10 ?_ ?_ | refine z11 ?_ (fun _ => ?_) | intro _ | assumption)
inductive C_q04 where
 | k_q04 (a0 : V) (a1 : (List S_api_Step)) (a2 : Bool)
def C_q04.R : C_q04 → Type
 | .k_q04 _ _ _ => (V × Int)
noncomputable def C_q04.F (g : ∀ i : C_q04, Option i.R) : ∀ i : C_q04, Option i.R
 | .k_q04 a0 a1 a2 => zo6 (fun a0 a1 a2 => g (.k_q04 a0 a1 a2)) a0 a1 a2
noncomputable def znn (a0 : V) (a1 : (List S_api_Step)) (a2 : Bool) : Option (V × Int) := z3b C_q04.F (.k_q04 a0 a1 a2)
abbrev Z6n := fun (g : ∀ i : C_q04, Option i.R) a0 a1 a2 => g (.k_q04 a0 a1 a2)
theorem Z6l (a0 a1 a2 : _) : CM (ρ := C_q04.R) (fun g => g (C_q04.k_q04 a0 a1 a2)) := z1i
theorem C_q04.cm (i : C_q04) : CM (fun g : (∀ i : C_q04, Option i.R) => C_q04.F g i) := by
 cases i with
 | k_q04 a0 a1 a2 => exact zvc Z6n Z6l a0 a1 a2
theorem Z58 (a0 : V) (a1 : (List S_api_Step)) (a2 : Bool) : znn a0 a1 a2 = zo6 znn a0 a1 a2 := z1f C_q04.cm (.k_q04 a0 a1 a2)
def C_q04.Q : ∀ i : C_q04, i.R → Prop
 | .k_q04 a0 a1 a2 => fun (r : (V × Int)) => z0o Try.prog 44 [(ofV a0), (PV.sl none 76 3 (List.map z01 a1)), (BO a2), (PV.fn (.func 49) [] [])] (PV.tup [(ofV r.1), (I64 r.2)])
theorem z4s (r_q04 : V → (List S_api_Step) → Bool → Option (V × Int)) (c_q04 : ∀ (a0 : V) (a1 : (List S_api_Step)) (a2 : Bool) r, r_q04 a0 a1 a2 = some r → z0o Try.prog 44 [(ofV a0), (PV.sl none 76 3 (List.map z01 a1)), (BO a2), (PV.fn (.func 49) [] [])] (PV.tup [(ofV r.1), (I64 r.2)])) (a0 : V) (a1 : (List S_api_Step)) (a2 : Bool) (r : (V × Int)) (h : zo6 r_q04 a0 a1 a2 = some r) : z0o Try.prog 44 [(ofV a0), (PV.sl none 76 3 (List.map z01 a1)), (BO a2), (PV.fn (.func 49) [] [])] (PV.tup [(ofV r.1), (I64 r.2)]) := by
 unfold zo6 at h
 refine z0j Try.func44 rfl Try.ntmps44 Try.results44 rfl (z0q ?_)
 change BW _ _ _ ⟨[(0, (ofV a0)), (1, (PV.sl none 76 3 (List.map z01 a1))), (2, (BO a2)), (3, (PV.fn (.func 49) [] []))], [], _⟩ _
 refine bR ?_
 refine sX ?_
 refine eX ?_
 refine bR ?_
 refine sX ?_
 obtain ⟨x1, hx1, h⟩ := obind h
 refine sS rfl rfl rfl (z1d (i := 0) Try.underlying37 z1w rfl rfl rfl hx1 rfl) ?_
 refine sX ?_
 refine sS rfl rfl rfl (z1b z1w rfl) ?_
 refine z0l rfl rfl (z0g z1w rfl rfl rfl rfl rfl rfl (lbE rfl) rfl) ?_
 refine z08 ?_
 refine cBx ?_
 refine z0d ?_
 refine bR ?_
 iterate 2 refine sX ?_
 refine eX ?_
 refine cX h rfl ?_ ?_
 intro hc2 h
 refine bR ?_
 iterate 2 refine sX ?_
 obtain ⟨x3, hx3, h⟩ := obind h
 refine sS rfl rfl rfl (z03 rfl zs5 rfl (wkr (wkr .nil)) ⟨(ids_V a0), ⟨(z07 x1), trivial⟩⟩ (zos a0 x1 x3 hx3) (z00 (ids_V x3.1) (z00 rfl z05))) ?_
 iterate 4 refine sX ?_
 refine eX ?_
 refine bR ?_
 refine sX ?_
 refine sS rfl rfl rfl (z2t rfl rfl) ?_
 iterate 4 refine sX ?_
 refine eX ?_
 refine z2l (ι := Int) (fun i => zi6 a0 x1 i = some r) (fun i => [(0, (ofV a0)), (3, (PV.fn (.func 49) [] [])), (10, (PV.rf 0 0)), (12, (I64 i))]) (fun i => [.box 76 [(z0k x1.f_Name), (BO x1.f_At), (I64 x1.f_Index)]]) ?_ ?_ ?_
 intro i; exact ⟨lbE rfl, ⟨(z02 (ids_V _)), ⟨(z02 rfl), ⟨(il_rf rfl), ⟨(z02 rfl), trivial⟩⟩⟩⟩, ⟨⟨(z02 rfl), ⟨(z02 rfl), ⟨(z02 rfl), trivial⟩⟩⟩, trivial⟩⟩
 rintro s4 h; replace h : zi6 a0 x1 s4 = some r := h; unfold zi6 at h
 change BW _ _ _ ⟨[(0, (ofV a0)), (3, (PV.fn (.func 49) [] [])), (10, (PV.rf 0 0)), (12, (I64 s4))], [.box 76 [(z0k x1.f_Name), (BO x1.f_At), (I64 x1.f_Index)]], _⟩ _
 refine z0d ?_
 refine bR ?_
 refine sX ?_
 refine eX ?_
 refine cX h rfl ?_ ?_
 intro hc5 h
 refine bR ?_
 iterate 2 refine sX ?_
 refine eX ?_
 obtain rfl := eI h; exact z04 ⟨_, rfl, z0p (y := (PV.tup [(ofV V.nil), (I64 s4)])) (Wk.tup (.cons (Wk.eq mk_nil.symm) (wkr .nil))) (z00 (ids_V V.nil) (z00 rfl z05)) ⟨rfl, rfl⟩⟩
 intro hc5 h
 refine z0c ?_
 refine cBx ?_
 refine bR ?_
 iterate 3 refine sX ?_
 obtain ⟨x6, hx6, h⟩ := obind h
 refine sS rfl rfl rfl (zao rfl rfl Z4i rfl (wkr (wkr .nil)) ⟨(ids_V a0), ⟨(z07 x1), trivial⟩⟩ (Z3f a0 x1 x6 hx6) (ids_V x6)) ?_
 refine sX ?_
 refine eX ?_
 obtain rfl := eI h; exact z04 ⟨_, rfl, z0p (y := (PV.tup [(ofV x6), (I64 0)])) (Wk.refl _) (z00 (ids_V x6) (z00 rfl z05)) ⟨rfl, rfl⟩⟩
 refine z2l (ι := Bool) (fun i => zbe a0 x1 x3 i = some r) (fun i => [(0, (ofV a0)), (3, (PV.fn (.func 49) [] [])), (10, (PV.rf 0 0)), (12, (I64 x3.2)), (53, (BO i))]) (fun i => [.box 76 [(z0k x1.f_Name), (BO x1.f_At), (I64 x1.f_Index)]]) ?_ ?_ ?_
 intro i; exact ⟨lbE rfl, ⟨(z02 (ids_V _)), ⟨(z02 rfl), ⟨(il_rf rfl), ⟨(z02 rfl), ⟨(z02 rfl), trivial⟩⟩⟩⟩⟩, ⟨⟨(z02 rfl), ⟨(z02 rfl), ⟨(z02 rfl), trivial⟩⟩⟩, trivial⟩⟩
 rintro s7 h; replace h : zbe a0 x1 x3 s7 = some r := h; unfold zbe at h
 change BW _ _ _ ⟨[(0, (ofV a0)), (3, (PV.fn (.func 49) [] [])), (10, (PV.rf 0 0)), (12, (I64 x3.2)), (53, (BO s7))], [.box 76 [(z0k x1.f_Name), (BO x1.f_At), (I64 x1.f_Index)]], _⟩ _
 refine cX h rfl ?_ ?_
 intro hc8 h
 refine z0e ?_
 refine sX (z08 ?_)
 exact ⟨rfl, 0, h, jN⟩
 intro hc8 h
 refine z0c ?_
 exact ⟨rfl, x3.2, h, jN⟩
 refine z0e ?_
 iterate 2 refine sX ?_
 refine z0n (t := 36) rfl ?_ ?_
 intro hb9; replace h := z0t hb9 h
 iterate 3 refine yX ?_
 refine z0n (t := 39) rfl ?_ ?_
 intro hb10; replace h := z0t hb10 h
 iterate 12 refine nX ?_
 refine yX ?_
 refine sX (z08 ?_)
 exact ⟨rfl, true, h, jN⟩
 intro hb10; replace h := z0u hb10 h
 iterate 3 refine yX ?_
 refine z0n (t := 42) rfl ?_ ?_
 intro hb11; replace h := z0t hb11 h
 iterate 3 refine yX ?_
 refine z0n (t := 45) rfl ?_ ?_
 intro hb12; replace h := z0t hb12 h
 iterate 7 refine yX ?_
 refine sX (z08 ?_)
 exact ⟨rfl, (x1.f_Index == ((((a0).asList).length : Nat) : Int)), h, jN⟩
 intro hb12; replace h := z0u hb12 h
 iterate 5 refine nX ?_
 iterate 2 refine yX ?_
 refine sX (z08 ?_)
 exact ⟨rfl, false, h, jN⟩
 intro hb11; replace h := z0u hb11 h
 refine nX ?_
 iterate 2 refine yX ?_
 iterate 5 refine nX ?_
 iterate 2 refine yX ?_
 refine sX (z08 ?_)
 exact ⟨rfl, false, h, jN⟩
 intro hb9; replace h := z0u hb9 h
 iterate 16 refine nX ?_
 refine sX (z08 ?_)
 exact ⟨rfl, false, h, jN⟩
 intro hc2 h
 refine z0c ?_
 refine cBx ?_
 refine bR ?_
 iterate 2 refine sX ?_
 obtain ⟨x13, hx13, h⟩ := obind h
 refine sS rfl rfl rfl (z03 rfl zs5 rfl (wkr (wkr .nil)) ⟨(ids_V a0), ⟨(z07 x1), trivial⟩⟩ (zos a0 x1 x13 hx13) (z00 (ids_V x13.1) (z00 rfl z05))) ?_
 iterate 4 refine sX ?_
 refine eX ?_
 refine z0d ?_
 refine bR ?_
 refine sX ?_
 refine eX ?_
 refine cX h rfl ?_ ?_
 intro hc14 h
 refine bR ?_
 iterate 2 refine sX ?_
 refine eX ?_
 obtain rfl := eI h; exact z04 ⟨_, rfl, z0p (y := (PV.tup [(ofV V.nil), (I64 x13.2)])) (Wk.tup (.cons (Wk.eq mk_nil.symm) (wkr .nil))) (z00 (ids_V V.nil) (z00 rfl z05)) ⟨rfl, rfl⟩⟩
 intro hc14 h
 refine z0c ?_
 refine cBx ?_
 refine bR ?_
 iterate 2 refine sX ?_
 obtain ⟨x15, hx15, h⟩ := obind h
 refine sS rfl rfl rfl (z3j (a := 1) (b := ((a1).length : Int)) Try.underlying37 z1w rfl rfl rfl rfl rfl rfl hx15) ?_
 iterate 2 refine sX ?_
 obtain ⟨x16, hx16, h⟩ := obind h
 refine sS rfl rfl rfl (z03 rfl zuj rfl (wkr (wkr (wkr (wkr .nil)))) ⟨(ids_V x13.1), ⟨(z0f z07 x15), ⟨rfl, ⟨rfl, trivial⟩⟩⟩⟩ (c_q04 x13.1 x15 a2 x16 hx16) (z00 (ids_V x16.1) (z00 rfl z05))) ?_
 iterate 4 refine sX ?_
 refine eX ?_
 refine z0d ?_
 refine bR ?_
 refine sX ?_
 refine eX ?_
 refine cX h rfl ?_ ?_
 intro hc17 h
 refine bR ?_
 iterate 2 refine sX ?_
 refine eX ?_
 obtain rfl := eI h; exact z04 ⟨_, rfl, z0p (y := (PV.tup [(ofV V.nil), (I64 x16.2)])) (Wk.tup (.cons (Wk.eq mk_nil.symm) (wkr .nil))) (z00 (ids_V V.nil) (z00 rfl z05)) ⟨rfl, rfl⟩⟩
 intro hc17 h
 refine z0c ?_
 refine cBx ?_
 refine bR ?_
 iterate 3 refine sX ?_
 obtain ⟨x18, hx18, h⟩ := obind h
 refine sS rfl rfl rfl (z03 rfl zyi rfl (wkr (wkr (wkr .nil))) ⟨(ids_V a0), ⟨(z07 x1), ⟨(ids_V x16.1), trivial⟩⟩⟩ (zx1 a0 x1 x16.1 x18 hx18) (ids_V x18)) ?_
 refine sX ?_
 refine eX ?_
 obtain rfl := eI h; exact z04 ⟨_, rfl, z0p (y := (PV.tup [(ofV x18), (I64 0)])) (Wk.refl _) (z00 (ids_V x18) (z00 rfl z05)) ⟨rfl, rfl⟩⟩
theorem C_q04.sound : ∀ (i : C_q04) (r : i.R), z3b C_q04.F i = some r → C_q04.Q i r := by
 refine z42 (Φ := C_q04.F) (Q := C_q04.Q) ?_
 intro g hg i r h
 cases i with
 | k_q04 a0 a1 a2 => exact z4s (fun a0 a1 a2 => g (.k_q04 a0 a1 a2)) (fun a0 a1 a2 r hr => hg (.k_q04 a0 a1 a2) r hr) a0 a1 a2 r h
theorem Z3m (a0 : V) (a1 : (List S_api_Step)) (a2 : Bool) (r : (V × Int)) (h : znn a0 a1 a2 = some r) : z0o Try.prog 44 [(ofV a0), (PV.sl none 76 3 (List.map z01 a1)), (BO a2), (PV.fn (.func 49) [] [])] (PV.tup [(ofV r.1), (I64 r.2)]) := C_q04.sound (.k_q04 a0 a1 a2) r h
noncomputable def zqm (a0 : V) (a1 : (List S_api_Step)) : Option (V × Int) :=
 (zjw a0 a1).bind fun x1 =>
 bif (x1 != 0) then (
 some (V.nil, x1)
 ) else (
 bif ((((a1).length : Nat) : Int) == 0) then (
 some (V.nil, 1)
 ) else (
 (znn a0 a1 false).bind fun x4 =>
 bif (x4.2 != 0) then (
 some (V.nil, x4.2)
 ) else (
 (zcw x4.1).bind fun x6 =>
 some (x6.1, x6.2)
 )
 )
 )
theorem Z3c (a0 : V) (a1 : (List S_api_Step)) (r : (V × Int)) (h : zqm a0 a1 = some r) : z0o Try.prog 22 [(PV.old (ofV a0)), (PV.old (PV.sl none 76 3 (List.map z01 a1)))] (PV.tup [(ofV r.1), (I64 r.2)]) := by
 unfold zqm at h
 refine z0j Try.func22 rfl Try.ntmps22 Try.results22 rfl (z0q ?_)
 change BW _ _ _ ⟨[(0, (PV.old (ofV a0))), (1, (PV.old (PV.sl none 76 3 (List.map z01 a1))))], [], _⟩ _
 refine bR ?_
 refine sX ?_
 refine eX ?_
 refine z0d ?_
 refine bR ?_
 iterate 2 refine sX ?_
 obtain ⟨x1, hx1, h⟩ := obind h
 refine sS rfl rfl rfl (z26 (z03 rfl zyk rfl (wkr (wkr .nil)) ⟨(ids_V a0), ⟨(z0f z07 a1), trivial⟩⟩ (zx3 a0 a1 x1 hx1) rfl) Sc.v) ?_
 refine eX ?_
 refine bR ?_
 refine sX ?_
 refine eX ?_
 refine cX h rfl ?_ ?_
 intro hc2 h
 refine bR ?_
 iterate 2 refine sX ?_
 refine eX ?_
 obtain rfl := eI h; exact z04 ⟨_, rfl, z0p (y := (PV.tup [(ofV V.nil), (I64 x1)])) (Wk.tup (.cons (Wk.eq mk_nil.symm) (wkr .nil))) (z00 (ids_V V.nil) (z00 rfl z05)) ⟨rfl, rfl⟩⟩
 intro hc2 h
 refine z0c ?_
 refine cBx ?_
 refine z0d ?_
 refine bR ?_
 refine sX ?_
 refine sS rfl rfl rfl (z26 (z6i Try.underlying37 rfl rfl) Sc.v) ?_
 refine eX ?_
 refine cX h rfl ?_ ?_
 intro hc3 h
 refine bR ?_
 refine sX ?_
 refine eX ?_
 obtain rfl := eI h; exact z04 ⟨_, rfl, z0p (y := (PV.tup [(ofV V.nil), (I64 1)])) (Wk.tup (.cons (Wk.eq mk_nil.symm) (wkr .nil))) (z00 (ids_V V.nil) (z00 rfl z05)) ⟨rfl, rfl⟩⟩
 intro hc3 h
 refine z0c ?_
 refine cBx ?_
 refine bR ?_
 iterate 2 refine sX ?_
 obtain ⟨x4, hx4, h⟩ := obind h
 refine sS rfl rfl rfl (z27 (z03 rfl zuj rfl (wkr (wkr (wkr (wkr .nil)))) ⟨(ids_V a0), ⟨(z0f z07 a1), ⟨rfl, ⟨rfl, trivial⟩⟩⟩⟩ (Z3m a0 a1 false x4 hx4) (z00 (ids_V x4.1) (z00 rfl z05)))) ?_
 refine sX ?_
 refine sS rfl rfl rfl (z27 (z35 rfl rfl rfl)) ?_
 refine sS rfl rfl rfl (z26 (z35 rfl rfl rfl) Sc.v) ?_
 refine sX ?_
 refine eX ?_
 refine z0d ?_
 refine bR ?_
 refine sX ?_
 refine eX ?_
 refine cX h rfl ?_ ?_
 intro hc5 h
 refine bR ?_
 iterate 2 refine sX ?_
 refine eX ?_
 obtain rfl := eI h; exact z04 ⟨_, rfl, z0p (y := (PV.tup [(ofV V.nil), (I64 x4.2)])) (Wk.tup (.cons (Wk.eq mk_nil.symm) (wkr .nil))) (z00 (ids_V V.nil) (z00 rfl z05)) ⟨rfl, rfl⟩⟩
 intro hc5 h
 refine z0c ?_
 refine cBx ?_
 refine bR ?_
 refine sX ?_
 obtain ⟨x6, hx6, h⟩ := obind h
 refine sS rfl rfl rfl (z03 rfl zuk rfl (wkr .nil) ⟨(z4o (ids_V x4.1)), trivial⟩ (zt9 x4.1 x6 hx6) (z00 (ids_V x6.1) (z00 rfl z05))) ?_
 iterate 3 refine sX ?_
 refine eX ?_
 obtain rfl := eI h; exact z04 ⟨_, rfl, z0p (y := (PV.tup [(ofV x6.1), (I64 x6.2)])) (Wk.refl _) (z00 (ids_V x6.1) (z00 rfl z05)) ⟨rfl, rfl⟩⟩
noncomputable def zbc (a0 : Term) (a1 : (List S_api_Step)) (s2 : Int) : Option (Term × Int) :=
 bif (s2 != 0) then (
 (z8i).bind fun x4 =>
 some (x4, s2)
 ) else (
 (z8i).bind fun x5 =>
 (z82 a0 a1 x5 true).bind fun x6 =>
 (zjt x6.1 x6.2).bind fun x7 =>
 some ((x7.1), x7.2)
 )
noncomputable def zbb (a0 : Term) (a1 : (List S_api_Step)) (x1 : Int) (s8 : Bool) : Option (Term × Int) :=
 bif s8 then (
 zbc a0 a1 1
 ) else (
 zbc a0 a1 x1
 )
noncomputable def zqp (a0 : Term) (a1 : (List S_api_Step)) : Option (Term × Int) :=
 (zjy a0 a1).bind fun x1 =>
 bif (x1 == 0) then (
 zbb a0 a1 x1 ((((a1).length : Nat) : Int) == 0)
 ) else (
 zbb a0 a1 x1 false
 )
theorem Z3e (a0 : Term) (a1 : (List S_api_Step)) (r : (Term × Int)) (h : zqp a0 a1 = some r) : z0o Try.prog 23 [(z0b a0), (PV.sl none 76 3 (List.map z01 a1))] (PV.tup [(z0b r.1), (I64 r.2)]) := by
 unfold zqp at h
 refine z0j Try.func23 rfl Try.ntmps23 Try.results23 rfl (z0q ?_)
 change BW _ _ _ ⟨[(0, (z0b a0)), (1, (PV.sl none 76 3 (List.map z01 a1)))], [], _⟩ _
 refine bR ?_
 refine sX ?_
 refine sS rfl rfl rfl (z1b z0v rfl) ?_
 refine eX ?_
 refine bR ?_
 iterate 2 refine sX ?_
 obtain ⟨x1, hx1, h⟩ := obind h
 refine sS rfl rfl rfl (z03 rfl zyj rfl (wkr (wkr .nil)) ⟨(z06 a0), ⟨(z0f z07 a1), trivial⟩⟩ (zx5 a0 a1 x1 hx1) rfl) ?_
 refine eX ?_
 refine z2l (ι := Int) (fun i => zbc a0 a1 i = some r) (fun i => [(1, (PV.sl none 76 3 (List.map z01 a1))), (2, (PV.rf 0 0)), (4, (PV.rf 1 0)), (6, (I64 i))]) (fun i => [.box 29 (z1r a0), .box 29 z3d]) ?_ ?_ ?_
 intro i; exact ⟨lbE rfl, ⟨(z02 (z0f z07 _)), ⟨(il_rf rfl), ⟨(il_rf rfl), ⟨(z02 rfl), trivial⟩⟩⟩⟩, ⟨wfC29, ⟨⟨(z02 rfl), ⟨(z02 rfl), ⟨(z02 rfl), ⟨(z02 rfl), ⟨(z02 rfl), ⟨(z02 rfl), ⟨(z02 rfl), ⟨(z02 rfl), ⟨(z02 rfl), ⟨(z02 rfl), ⟨(z02 rfl), trivial⟩⟩⟩⟩⟩⟩⟩⟩⟩⟩⟩, trivial⟩⟩⟩
 rintro s2 h; replace h : zbc a0 a1 s2 = some r := h; unfold zbc at h
 change BW _ _ _ ⟨[(1, (PV.sl none 76 3 (List.map z01 a1))), (2, (PV.rf 0 0)), (4, (PV.rf 1 0)), (6, (I64 s2))], [.box 29 (z1r a0), .box 29 z3d], _⟩ _
 refine z0d ?_
 refine bR ?_
 refine sX ?_
 refine eX ?_
 refine cX h rfl ?_ ?_
 intro hc3 h
 refine bR ?_
 obtain ⟨x4, hx4, h⟩ := obind h
 refine sS rfl rfl rfl (z03 rfl zas rfl .nil trivial (za8  x4 hx4) (z06 x4)) ?_
 refine sX ?_
 refine z0l rfl rfl (z0g z0v rfl rfl rfl rfl rfl rfl (lbE rfl) rfl) ?_
 refine eX ?_
 obtain rfl := eI h; exact z04 ⟨_, rfl, z0p (y := (PV.tup [(z0b x4), (I64 s2)])) (Wk.refl _) (z00 (z06 x4) (z00 rfl z05)) ⟨rfl, rfl⟩⟩
 intro hc3 h
 refine z0c ?_
 refine cBx ?_
 refine z0d (z1y 9 [] [0] mo (by kernel_rfl) ?_)
 iterate 2 refine gX ?_
 obtain ⟨x5, hx5, h⟩ := obind h
 refine z1v rfl rfl rfl rfl (fun H hp => z03 rfl zas rfl .nil trivial (za8  x5 hx5) (z06 x5)) ?_
 obtain ⟨x6, hx6, h⟩ := obind h
 refine z1v rfl rfl rfl rfl (fun H hp => z03 rfl zyh rfl (wkr (wkr (wkr (wkr .nil)))) ⟨(z06 a0), ⟨(z0f z07 a1), ⟨(z06 x5), ⟨rfl, trivial⟩⟩⟩⟩ (Z00 a0 a1 x5 true x6 hx6) (z00 (z06 x6.1) (z00 rfl z05))) ?_
 iterate 2 refine gX ?_
 obtain ⟨x7, hx7, h⟩ := obind h
 refine z1v rfl rfl rfl rfl (fun H hp => z03 rfl Z1x rfl (wkr (wkr .nil)) ⟨(z06 x6.1), ⟨rfl, trivial⟩⟩ (zzx x6.1 x6.2 x7 hx7) (z00 (z06 x7.1) (z00 rfl z05))) ?_
 iterate 2 refine gX ?_
 refine z23 ?_
 change AO _ _ _ _ _
 refine z0l rfl rfl (z0g z0v rfl rfl rfl rfl rfl rfl (lbE rfl) rfl) ?_
 refine eX ?_
 obtain rfl := eI h; exact z04 ⟨_, rfl, z0p (y := (PV.tup [(z0b (x7.1)), (I64 x7.2)])) (Wk.refl _) (z00 (z06 (x7.1)) (z00 rfl z05)) ⟨rfl, rfl⟩⟩
 refine z2l (ι := Bool) (fun i => zbb a0 a1 x1 i = some r) (fun i => [(1, (PV.sl none 76 3 (List.map z01 a1))), (2, (PV.rf 0 0)), (4, (PV.rf 1 0)), (6, (I64 x1)), (16, (BO i))]) (fun i => [.box 29 (z1r a0), .box 29 z3d]) ?_ ?_ ?_
 intro i; exact ⟨lbE rfl, ⟨(z02 (z0f z07 _)), ⟨(il_rf rfl), ⟨(il_rf rfl), ⟨(z02 rfl), ⟨(z02 rfl), trivial⟩⟩⟩⟩⟩, ⟨wfC29, ⟨⟨(z02 rfl), ⟨(z02 rfl), ⟨(z02 rfl), ⟨(z02 rfl), ⟨(z02 rfl), ⟨(z02 rfl), ⟨(z02 rfl), ⟨(z02 rfl), ⟨(z02 rfl), ⟨(z02 rfl), ⟨(z02 rfl), trivial⟩⟩⟩⟩⟩⟩⟩⟩⟩⟩⟩, trivial⟩⟩⟩
 rintro s8 h; replace h : zbb a0 a1 x1 s8 = some r := h; unfold zbb at h
 change BW _ _ _ ⟨[(1, (PV.sl none 76 3 (List.map z01 a1))), (2, (PV.rf 0 0)), (4, (PV.rf 1 0)), (6, (I64 x1)), (16, (BO s8))], [.box 29 (z1r a0), .box 29 z3d], _⟩ _
 refine cX h rfl ?_ ?_
 intro hc9 h
 refine z0e ?_
 refine sX (z08 ?_)
 exact ⟨rfl, 1, h, jN⟩
 intro hc9 h
 refine z0c ?_
 exact ⟨rfl, x1, h, jN⟩
 refine z0e ?_
 iterate 3 refine sX ?_
 refine z0n (t := 12) rfl ?_ ?_
 intro hb10; replace h := z0t hb10 h
 iterate 3 refine yX ?_
 refine sX (z08 ?_)
 exact ⟨rfl, ((((a1).length : Nat) : Int) == 0), h, jN⟩
 intro hb10; replace h := z0u hb10 h
 iterate 3 refine nX ?_
 refine sX (z08 ?_)
 exact ⟨rfl, false, h, jN⟩
noncomputable def z59 (r_q0u : Term → Option Term) (a0 : (List (Str × Term))) (g1 : (List (Str × Term)) → Nat → Option (List (Str × Term))) (s1 : (List (Str × Term))) (s2 : Nat) : Option (List (Str × Term)) :=
 bif (decide (((s2 : Nat) : Int) < (((a0).length : Nat) : Int))) then (
 ((a0)[s2]?).bind fun x5 =>
 ((a0)[s2]?).bind fun x6 =>
 (r_q0u (x6.2)).bind fun x7 =>
 (z6x 168 s1 ([(x5.1, x7)] : (List (Str × Term)))).bind fun x8 =>
 g1 x8 (s2 + 1)
 ) else (
 some s1
 )
theorem zai (r_q0u : OF ρ → Term → Option Term) (h_r_q0u : ∀ y0, CM (fun G => r_q0u G y0)) (g1 : OF ρ → (List (Str × Term)) → Nat → Option (List (Str × Term))) (h_g1 : ∀ y0 y1, CM (fun G => g1 G y0 y1)) (a0 s1 : (List (Str × Term))) (s2 : Nat) : CM (fun G : OF ρ => z59 (r_q0u G) a0 (g1 G) s1 s2) := by
 simp only [z59]
 repeat (first | exact z0h | exact h_r_q0u _ | exact h_g1 _ _ | refine z10 ?_ ?_ | refine z11 ?_ (fun _ => ?_))
noncomputable def zeo (r_q0u : Term → Option Term) (a0 s1 : (List (Str × Term))) (s2 : Nat) : Option (List (Str × Term)) :=
 z3b (ι := ((List (Str × Term)) × Nat)) (ρ := fun _ => (List (Str × Term))) (fun g i => z59 r_q0u a0 (fun s1 s2 => g (s1, s2)) i.1 i.2) (s1, s2)
theorem zi0 (r_q0u : Term → Option Term) (a0 s1 : (List (Str × Term))) (s2 : Nat) : zeo r_q0u a0 s1 s2 = z59 r_q0u a0 (zeo r_q0u a0) s1 s2 :=
 z1f (ι := ((List (Str × Term)) × Nat)) (ρ := fun _ => (List (Str × Term))) (Φ := fun g i => z59 r_q0u a0 (fun s1 s2 => g (s1, s2)) i.1 i.2) (fun i => zai (ι := ((List (Str × Term)) × Nat)) (ρ := fun _ => (List (Str × Term))) (fun _ => r_q0u) (fun _ => z0h) (fun g => (fun s1 s2 => g (s1, s2))) (fun _ _ => z1i) a0 i.1 i.2) (s1, s2)
theorem zpo (r_q0u : OF ρ → Term → Option Term) (h_r_q0u : ∀ y0, CM (fun G => r_q0u G y0)) (a0 s1 : (List (Str × Term))) (s2 : Nat) : CM (fun G : OF ρ => zeo (r_q0u G) a0 s1 s2) :=
 z5z (κ := ((List (Str × Term)) × Nat)) (τ := fun _ => (List (Str × Term))) (Φ := fun G g i => z59 (r_q0u G) a0 (fun s1 s2 => g (s1, s2)) i.1 i.2) (fun g i => zai r_q0u h_r_q0u (fun _ => (fun s1 s2 => g (s1, s2))) (fun _ _ => z0h) a0 i.1 i.2) (fun G i => zai (ι := ((List (Str × Term)) × Nat)) (ρ := fun _ => (List (Str × Term))) (fun _ => r_q0u G) (fun _ => z0h) (fun g => (fun s1 s2 => g (s1, s2))) (fun _ _ => z1i) a0 i.1 i.2) (s1, s2)
noncomputable def zki (r_q0e : (List (Str × Term)) → Option (List (Str × Term))) (r_q0u : Term → Option Term) (a0 : (List (Str × Term))) : Option (List (Str × Term)) :=
 zeo r_q0u a0 ([] : (List (Str × Term))) 0
theorem zv6 (r_q0e : OF ρ → (List (Str × Term)) → Option (List (Str × Term))) (h_r_q0e : ∀ y0, CM (fun G => r_q0e G y0)) (r_q0u : OF ρ → Term → Option Term) (h_r_q0u : ∀ y0, CM (fun G => r_q0u G y0)) (a0 : (List (Str × Term))) : CM (fun G : OF ρ => zki (r_q0e G) (r_q0u G) a0) := by
 simp only [zki]
 repeat (first | exact z0h | exact h_r_q0e _ | exact h_r_q0u _ | apply zpo | refine z10 ?_ ?_ | refine z11 ?_ (fun _ => ?_) | intro _ | assumption)
noncomputable def z3t (a0 : Term) (s1 : Bool) (s2 : Int) (s3 : Nat) (s4 s5 : Str) (s6 : Int) (s7 : (List Term)) (s8 : (List (Str × Term))) (s9 : Str) (s10 : Int) : Option Term :=
 some (Term.mk a0.kind s1 s2 s3 s4 s5 s6 s7 s8 s9 s10)
noncomputable def z57 (r_q0u : Term → Option Term) (a0 : Term) (g1 : Nat → (List Term) → Option Term) (s19 : Nat) (s20 : (List Term)) : Option Term :=
 bif (decide (((s19 : Nat) : Int) < (((a0.list).length : Nat) : Int))) then (
 ((a0.list)[s19]?).bind fun x23 =>
 (r_q0u x23).bind fun x24 =>
 (z6x 152 s20 ([x24] : (List Term))).bind fun x25 =>
 g1 (s19 + 1) x25
 ) else (
 z3t a0 false 0 0 ([]) ([]) 0 s20 ([]) ([]) 0
 )
theorem zag (r_q0u : OF ρ → Term → Option Term) (h_r_q0u : ∀ y0, CM (fun G => r_q0u G y0)) (g1 : OF ρ → Nat → (List Term) → Option Term) (h_g1 : ∀ y0 y1, CM (fun G => g1 G y0 y1)) (a0 : Term) (s19 : Nat) (s20 : (List Term)) : CM (fun G : OF ρ => z57 (r_q0u G) a0 (g1 G) s19 s20) := by
 simp only [z57]
 repeat (first | exact z0h | exact h_r_q0u _ | exact h_g1 _ _ | apply q0u_j1_cm | refine z10 ?_ ?_ | refine z11 ?_ (fun _ => ?_) | intro _ | assumption)
noncomputable def zek (r_q0u : Term → Option Term) (a0 : Term) (s19 : Nat) (s20 : (List Term)) : Option Term :=
 z3b (ι := (Nat × (List Term))) (ρ := fun _ => Term) (fun g i => z57 r_q0u a0 (fun s19 s20 => g (s19, s20)) i.1 i.2) (s19, s20)
theorem zhs (r_q0u : Term → Option Term) (a0 : Term) (s19 : Nat) (s20 : (List Term)) : zek r_q0u a0 s19 s20 = z57 r_q0u a0 (zek r_q0u a0) s19 s20 :=
 z1f (ι := (Nat × (List Term))) (ρ := fun _ => Term) (Φ := fun g i => z57 r_q0u a0 (fun s19 s20 => g (s19, s20)) i.1 i.2) (fun i => zag (ι := (Nat × (List Term))) (ρ := fun _ => Term) (fun _ => r_q0u) (fun _ => z0h) (fun g => (fun s19 s20 => g (s19, s20))) (fun _ _ => z1i) a0 i.1 i.2) (s19, s20)
theorem zpj (r_q0u : OF ρ → Term → Option Term) (h_r_q0u : ∀ y0, CM (fun G => r_q0u G y0)) (a0 : Term) (s19 : Nat) (s20 : (List Term)) : CM (fun G : OF ρ => zek (r_q0u G) a0 s19 s20) :=
 z5z (κ := (Nat × (List Term))) (τ := fun _ => Term) (Φ := fun G g i => z57 (r_q0u G) a0 (fun s19 s20 => g (s19, s20)) i.1 i.2) (fun g i => zag r_q0u h_r_q0u (fun _ => (fun s19 s20 => g (s19, s20))) (fun _ _ => z0h) a0 i.1 i.2) (fun G i => zag (ι := (Nat × (List Term))) (ρ := fun _ => Term) (fun _ => r_q0u G) (fun _ => z0h) (fun g => (fun s19 s20 => g (s19, s20))) (fun _ _ => z1i) a0 i.1 i.2) (s19, s20)
noncomputable def zkg (r_q0e : (List (Str × Term)) → Option (List (Str × Term))) (r_q0u : Term → Option Term) (a0 : Term) : Option Term :=
 bif (a0.kind == 2) then (
 z3t a0 a0.bool 0 0 ([]) ([]) 0 ([]) ([]) ([]) 0
 ) else (
 bif (a0.kind == 3) then (
 z3t a0 false a0.int 0 ([]) ([]) 0 ([]) ([]) ([]) 0
 ) else (
 bif (a0.kind == 4) then (
 z3t a0 false 0 a0.float ([]) ([]) 0 ([]) ([]) ([]) 0
 ) else (
 bif (a0.kind == 5) then (
 z3t a0 false 0 0 a0.text ([]) 0 ([]) ([]) ([]) 0
 ) else (
 bif (a0.kind == 6) then (
 (z6x 1 ([] : Str) a0.bytes).bind fun x16 =>
 z3t a0 false 0 0 ([]) x16 0 ([]) ([]) ([]) 0
 ) else (
 bif (a0.kind == 7) then (
 z3t a0 false 0 0 ([]) ([]) a0.ref ([]) ([]) ([]) 0
 ) else (
 bif (a0.kind == 8) then (
 zek r_q0u a0 0 ([])
 ) else (
 bif (a0.kind == 10) then (
 (r_q0e a0.fields).bind fun x27 =>
 z3t a0 false 0 0 ([]) ([]) 0 ([]) x27 a0.cls a0.ver
 ) else (
 bif (a0.kind == 9) then (
 (r_q0e a0.fields).bind fun x29 =>
 z3t a0 false 0 0 ([]) ([]) 0 ([]) x29 ([]) 0
 ) else (
 z3t a0 false 0 0 ([]) ([]) 0 ([]) ([]) ([]) 0
 )
 )
 )
 )
 )
 )
 )
 )
 )
theorem zv4 (r_q0e : OF ρ → (List (Str × Term)) → Option (List (Str × Term))) (h_r_q0e : ∀ y0, CM (fun G => r_q0e G y0)) (r_q0u : OF ρ → Term → Option Term) (h_r_q0u : ∀ y0, CM (fun G => r_q0u G y0)) (a0 : Term) : CM (fun G : OF ρ => zkg (r_q0e G) (r_q0u G) a0) := by
 simp only [zkg]
 repeat (first | exact z0h | exact h_r_q0e _ | exact h_r_q0u _ | apply q0u_j1_cm | apply zpj | refine z10 ?_ ?_ | refine z11 ?_ (fun _ => ?_) | intro _ | assumption)
inductive C_q0e where
 | k_q0e (a0 : (List (Str × Term)))
 | k_q0u (a0 : Term)
def C_q0e.R : C_q0e → Type
 | .k_q0e _ => (List (Str × Term))
 | .k_q0u _ => Term
noncomputable def C_q0e.F (g : ∀ i : C_q0e, Option i.R) : ∀ i : C_q0e, Option i.R
 | .k_q0e a0 => zki (fun a0 => g (.k_q0e a0)) (fun a0 => g (.k_q0u a0)) a0
 | .k_q0u a0 => zkg (fun a0 => g (.k_q0e a0)) (fun a0 => g (.k_q0u a0)) a0
noncomputable def ztp (a0 : (List (Str × Term))) : Option (List (Str × Term)) := z3b C_q0e.F (.k_q0e a0)
noncomputable def zbk (a0 : Term) : Option Term := z3b C_q0e.F (.k_q0u a0)
abbrev Z63 := fun (g : ∀ i : C_q0e, Option i.R) a0 => g (.k_q0e a0)
theorem Z5z (a0 : _) : CM (ρ := C_q0e.R) (fun g => g (C_q0e.k_q0e a0)) := z1i
abbrev Z62 := fun (g : ∀ i : C_q0e, Option i.R) a0 => g (.k_q0u a0)
theorem Z5y (a0 : _) : CM (ρ := C_q0e.R) (fun g => g (C_q0e.k_q0u a0)) := z1i
theorem C_q0e.cm (i : C_q0e) : CM (fun g : (∀ i : C_q0e, Option i.R) => C_q0e.F g i) := by
 cases i with
 | k_q0e a0 => exact zv6 Z63 Z5z Z62 Z5y a0
 | k_q0u a0 => exact zv4 Z63 Z5z Z62 Z5y a0
theorem Z52 (a0 : (List (Str × Term))) : ztp a0 = zki ztp zbk a0 := z1f C_q0e.cm (.k_q0e a0)
theorem Z50 (a0 : Term) : zbk a0 = zkg ztp zbk a0 := z1f C_q0e.cm (.k_q0u a0)
def C_q0e.Q : ∀ i : C_q0e, i.R → Prop
 | .k_q0e a0 => fun (r : (List (Str × Term))) => z0o Try.prog 62 [(PV.sl none 94 12 (List.map z0s a0))] (PV.sl none 94 12 (List.map z0s r))
 | .k_q0u a0 => fun (r : Term) => z0o Try.prog 31 [(z0b a0)] (z0b r)
theorem zc3 (r_q0e : (List (Str × Term)) → Option (List (Str × Term))) (c_q0e : ∀ (a0 : (List (Str × Term))) r, r_q0e a0 = some r → z0o Try.prog 62 [(PV.sl none 94 12 (List.map z0s a0))] (PV.sl none 94 12 (List.map z0s r))) (r_q0u : Term → Option Term) (c_q0u : ∀ (a0 : Term) r, r_q0u a0 = some r → z0o Try.prog 31 [(z0b a0)] (z0b r)) (a0 r : (List (Str × Term))) (h : zki r_q0e r_q0u a0 = some r) : z0o Try.prog 62 [(PV.sl none 94 12 (List.map z0s a0))] (PV.sl none 94 12 (List.map z0s r)) := by
 unfold zki at h
 refine z0j Try.func62 rfl Try.ntmps62 Try.results62 rfl (z0q ?_)
 change BW _ _ _ ⟨[(0, (PV.sl none 94 12 (List.map z0s a0)))], [], _⟩ _
 refine bR ?_
 refine eX ?_
 refine bR ?_
 refine sS rfl rfl rfl ((z16 (xs := []) Try.underlying27 z22 rfl rfl rfl rfl rfl rfl ⟨lbE rfl, lbE rfl⟩ rfl).cast (y := (PV.sl (some 0) 94 12 (List.map z0s ([] : (List (Str × Term)))))) rfl rfl) ?_
 refine eX ?_
 refine z0d ?_
 refine bR ?_
 refine eX ?_
 refine z0r ?_
 refine cBx ?_
 unfold zeo at h
 refine z3c (σ := ((List (Str × Term)) × Nat)) (fun i => [(0, (PV.sl none 94 12 (List.map z0s a0))), (3, (PV.sl (some 0) 94 12 (List.map z0s i.1))), (4, (I64 (((i.2 : Nat) : Int))))]) (fun i => [.arr 94 (i.1).length]) (([] : (List (Str × Term))), 0) h ?_ ?_ ?_
 intro i; exact ⟨lbE rfl, ⟨(z02 (z0f z1l _)), ⟨(z4m rfl (z36 z1l _)), ⟨(z02 rfl), trivial⟩⟩⟩, trivial⟩
 exact jN
 rintro g1_f ⟨s1, s2⟩ h; replace h : z59 r_q0u a0 (fun y0 y1 => g1_f (y0, y1)) s1 s2 = some r := h; unfold z59 at h
 change BW _ _ _ ⟨[(0, (PV.sl none 94 12 (List.map z0s a0))), (3, (PV.sl (some 0) 94 12 (List.map z0s s1))), (4, (I64 (((s2 : Nat) : Int))))], [.arr 94 (s1).length], _⟩ _
 refine z0d ?_
 refine bR ?_
 iterate 3 refine sX ?_
 refine eX ?_
 refine z3p (t := 7) rfl fun hb4 => ?_
 try rw [List.length_map] at hb4
 refine cX h rfl ?_ ?_
 intro hc3 h
 have hc3_ := of_decide_eq_true hc3
 refine z0c ?_
 refine cBx ?_
 refine z0d ?_
 refine z0r ?_
 refine cBx ?_
 refine z1y 14 [13] [] mo (by kernel_rfl) ?_
 iterate 3 refine gX ?_
 obtain ⟨x5, hx5, h⟩ := obind h
 refine z1v rfl rfl rfl rfl (fun H hp => z1d (i := s2) Try.underlying27 z22 rfl rfl rfl hx5 (z1o _)) ?_
 iterate 4 refine gX ?_
 obtain ⟨x6, hx6, h⟩ := obind h
 refine z1v rfl rfl rfl rfl (fun H hp => z1d (i := s2) Try.underlying27 z22 rfl rfl rfl hx6 (z1o _)) ?_
 iterate 2 refine gX ?_
 obtain ⟨x7, hx7, h⟩ := obind h
 refine z1v rfl rfl rfl rfl (fun H hp => z03 rfl zul rfl (wkr .nil) ⟨(z06 (x6.2)), trivial⟩ (c_q0u (x6.2) x7 hx7) (z06 x7)) ?_
 refine z1v rfl rfl rfl rfl (fun H hp => z1a (cs := [(z0k x5.1), (I64 x7.kind), (BO x7.bool), (I64 x7.int), (PV.v (.float .f64 x7.float)), (z0k x7.text), (PV.sl none 5 1 (List.map ofB x7.bytes)), (PV.v (.int .u64 x7.ref)), (PV.sl none 29 11 (List.map z15 x7.list)), (PV.sl none 94 12 (List.map z0s x7.fields)), (z0k x7.cls), (I64 x7.ver)]) zt4 z22 rfl rfl rfl rfl) ?_
 refine z9y rfl rfl rfl rfl ((z16 (xs := [(PV.agg [(z0k x5.1), (I64 x7.kind), (BO x7.bool), (I64 x7.int), (PV.v (.float .f64 x7.float)), (z0k x7.text), (PV.sl none 5 1 (List.map ofB x7.bytes)), (PV.v (.int .u64 x7.ref)), (PV.sl none 29 11 (List.map z15 x7.list)), (PV.sl none 94 12 (List.map z0s x7.fields)), (z0k x7.cls), (I64 x7.ver)])]) Try.underlying27 z22 rfl rfl rfl rfl rfl rfl ⟨lbE rfl, lbE rfl⟩ rfl).cast (y := (PV.sl (some 1) 94 12 (List.map z0s ([(x5.1, x7)] : (List (Str × Term)))))) (by simp only [List.map_cons, List.map_nil, z1o]; try rfl) rfl) trivial ?_
 refine z23 ?_
 change AO _ _ _ _ _
 obtain ⟨x8, hx8, h⟩ := obind h
 refine sS rfl rfl rfl (z21 Try.underlying27 z22 rfl Try.underlying27 rfl rfl rfl rfl z7j z4q hx8 rfl) ?_
 refine eX ?_
 refine z0e ?_
 refine sX ?_
 refine sS rfl rfl rfl (z20 (k := s2) (c := 1) rfl rfl rfl (by omega)) ?_
 refine sX (z08 ?_)
 exact ⟨rfl, (x8, (s2 + 1)), h, jN⟩
 intro hc3 h
 refine z1z ?_
 refine cBx ?_
 refine bR ?_
 refine sX ?_
 refine eX ?_
 obtain rfl := eI h; exact z04 ⟨_, rfl, z0p (y := (PV.sl none 94 12 (List.map z0s s1))) Wk.tok (z0f z1l s1) ⟨rfl, rfl⟩⟩
theorem zfl (r_q0e : (List (Str × Term)) → Option (List (Str × Term))) (c_q0e : ∀ (a0 : (List (Str × Term))) r, r_q0e a0 = some r → z0o Try.prog 62 [(PV.sl none 94 12 (List.map z0s a0))] (PV.sl none 94 12 (List.map z0s r))) (r_q0u : Term → Option Term) (c_q0u : ∀ (a0 : Term) r, r_q0u a0 = some r → z0o Try.prog 31 [(z0b a0)] (z0b r)) (a0 r : Term) (h : zkg r_q0e r_q0u a0 = some r) : z0o Try.prog 31 [(z0b a0)] (z0b r) := by
 unfold zkg at h
 refine z0j Try.func31 rfl Try.ntmps31 Try.results31 rfl (z0q ?_)
 change BW _ _ _ ⟨[(0, (z0b a0))], [], _⟩ _
 refine bR ?_
 refine sX ?_
 refine sS rfl rfl rfl (z1b z0v rfl) (z08 ?_)
 refine cBx ?_
 refine bR ?_
 iterate 2 refine sX ?_
 refine sS rfl rfl rfl (z1a (cs := [(I64 a0.kind), (BO false), (I64 0), (PV.v (.float .f64 0)), (z0k []), (PV.v (.slice none 0 0)), (PV.v (.int .u64 0)), (PV.v (.slice none 0 0)), (PV.v (.slice none 0 0)), (z0k []), (I64 0)]) z81 z0v rfl rfl rfl rfl) ?_
 refine sS rfl rfl rfl (z1b z0v rfl) ?_
 refine z0l rfl rfl (z0g z0v rfl rfl rfl rfl rfl rfl (lbE rfl) rfl) ?_
 refine z08 ?_
 refine cBx ?_
 refine jX (ι := (Bool × Int × Nat × Str × Str × Int × (List Term) × (List (Str × Term)) × Str × Int)) (fun i => z3t a0 i.1 i.2.1 i.2.2.1 i.2.2.2.1 i.2.2.2.2.1 i.2.2.2.2.2.1 i.2.2.2.2.2.2.1 i.2.2.2.2.2.2.2.1 i.2.2.2.2.2.2.2.2.1 i.2.2.2.2.2.2.2.2.2 = some r) (fun i => [(2, (PV.rf 1 0)), (3, (PV.rf 2 0))]) (fun i => [.dead, .box 29 z3d, .box 29 [(I64 a0.kind), (BO i.1), (I64 i.2.1), (PV.v (.float .f64 i.2.2.1)), (z0k i.2.2.2.1), (PV.sl none 5 1 (List.map ofB i.2.2.2.2.1)), (PV.v (.int .u64 i.2.2.2.2.2.1)), (PV.sl none 29 11 (List.map z15 i.2.2.2.2.2.2.1)), (PV.sl none 94 12 (List.map z0s i.2.2.2.2.2.2.2.1)), (z0k i.2.2.2.2.2.2.2.2.1), (I64 i.2.2.2.2.2.2.2.2.2)]]) ?_ ?_
 rintro ⟨s1, s2, s3, s4, s5, s6, s7, s8, s9, s10⟩ h; replace h : z3t a0 s1 s2 s3 s4 s5 s6 s7 s8 s9 s10 = some r := h; unfold z3t at h
 change BW _ _ _ ⟨[(2, (PV.rf 1 0)), (3, (PV.rf 2 0))], [.dead, .box 29 z3d, .box 29 [(I64 a0.kind), (BO s1), (I64 s2), (PV.v (.float .f64 s3)), (z0k s4), (PV.sl none 5 1 (List.map ofB s5)), (PV.v (.int .u64 s6)), (PV.sl none 29 11 (List.map z15 s7)), (PV.sl none 94 12 (List.map z0s s8)), (z0k s9), (I64 s10)]], _⟩ _
 refine bR ?_
 refine sX ?_
 refine z0l rfl rfl (z0g z0v rfl rfl rfl rfl rfl rfl (lbE rfl) rfl) ?_
 refine z08 ?_
 refine cBx ?_
 obtain rfl := eI h; exact z04 ⟨_, rfl, z0p (y := (z0b (Term.mk a0.kind s1 s2 s3 s4 s5 s6 s7 s8 s9 s10))) (Wk.refl _) (z06 (Term.mk a0.kind s1 s2 s3 s4 s5 s6 s7 s8 s9 s10)) ⟨rfl, rfl⟩⟩
 refine bR ?_
 refine sX ?_
 refine eX ?_
 refine z0r ?_
 refine cBx ?_
 refine bR ?_
 refine sX ?_
 refine eX ?_
 refine cX h rfl ?_ ?_
 intro hc11 h
 refine z0e ?_
 iterate 3 refine sX ?_
 refine z0l rfl rfl (z0g zrq rfl rfl rfl rfl rfl rfl (lbE rfl) rfl) ?_
 refine z08 ?_
 exact ⟨rfl, (a0.bool, 0, 0, [], [], 0, [], [], [], 0), h, ⟨(.cons .dead (.cons .same (.cons (.box (wkr (wkr (wkr (wkr (wkr (wkn (wkr (wkn (wkn (wkr (wkr .nil)))))))))))) .nil))), (sC rfl (sC rfl z2a))⟩⟩
 intro hc11 h
 refine bR ?_
 refine sX ?_
 refine eX ?_
 refine cX h rfl ?_ ?_
 intro hc12 h
 refine z0e ?_
 iterate 3 refine sX ?_
 refine z0l rfl rfl (z0g zrt rfl rfl rfl rfl rfl rfl (lbE rfl) rfl) ?_
 refine z08 ?_
 exact ⟨rfl, (false, a0.int, 0, [], [], 0, [], [], [], 0), h, ⟨(.cons .dead (.cons .same (.cons (.box (wkr (wkr (wkr (wkr (wkr (wkn (wkr (wkn (wkn (wkr (wkr .nil)))))))))))) .nil))), (sC rfl (sC rfl z2a))⟩⟩
 intro hc12 h
 refine bR ?_
 refine sX ?_
 refine eX ?_
 refine cX h rfl ?_ ?_
 intro hc13 h
 refine z0e ?_
 iterate 3 refine sX ?_
 refine z0l rfl rfl (z0g zj2 rfl rfl rfl rfl rfl rfl (lbE rfl) rfl) ?_
 refine z08 ?_
 exact ⟨rfl, (false, 0, a0.float, [], [], 0, [], [], [], 0), h, ⟨(.cons .dead (.cons .same (.cons (.box (wkr (wkr (wkr (wkr (wkr (wkn (wkr (wkn (wkn (wkr (wkr .nil)))))))))))) .nil))), (sC rfl (sC rfl z2a))⟩⟩
 intro hc13 h
 refine bR ?_
 refine sX ?_
 refine eX ?_
 refine cX h rfl ?_ ?_
 intro hc14 h
 refine z0e ?_
 iterate 3 refine sX ?_
 refine z0l rfl rfl (z0g zk3 rfl rfl rfl rfl rfl rfl (lbE rfl) rfl) ?_
 refine z08 ?_
 exact ⟨rfl, (false, 0, 0, a0.text, [], 0, [], [], [], 0), h, ⟨(.cons .dead (.cons .same (.cons (.box (wkr (wkr (wkr (wkr (wkr (wkn (wkr (wkn (wkn (wkr (wkr .nil)))))))))))) .nil))), (sC rfl (sC rfl z2a))⟩⟩
 intro hc14 h
 refine bR ?_
 refine sX ?_
 refine eX ?_
 refine cX h rfl ?_ ?_
 intro hc15 h
 refine z0e ?_
 refine sS rfl rfl rfl ((z16 (xs := []) Try.underlying23 inf_5 rfl rfl rfl rfl rfl rfl ⟨lbE rfl, lbE rfl⟩ rfl).cast (y := (PV.sl (some 3) 5 1 (List.map ofB ([] : Str)))) rfl rfl) ?_
 iterate 2 refine sX ?_
 obtain ⟨x16, hx16, h⟩ := obind h
 refine sS rfl rfl rfl (z21 Try.underlying23 inf_5 rfl Try.underlying23 rfl rfl rfl rfl (fun _ => rfl) (fun _ => rfl) hx16 rfl) ?_
 refine sX ?_
 refine z0l rfl rfl (z0g zf2 rfl rfl rfl rfl rfl rfl (lbE rfl) rfl) ?_
 refine z08 ?_
 exact ⟨rfl, (false, 0, 0, [], x16, 0, [], [], [], 0), h, ⟨(.cons .dead (.cons .same (.cons (.box (wkr (wkr (wkr (wkr (wkr (.cons Wk.tok (wkr (wkn (wkn (wkr (wkr .nil)))))))))))) .nil))), (sC rfl (sC rfl z2a))⟩⟩
 intro hc15 h
 refine bR ?_
 refine sX ?_
 refine eX ?_
 refine cX h rfl ?_ ?_
 intro hc17 h
 refine z0e ?_
 iterate 3 refine sX ?_
 refine z0l rfl rfl (z0g zj1 rfl rfl rfl rfl rfl rfl (lbE rfl) rfl) ?_
 refine z08 ?_
 exact ⟨rfl, (false, 0, 0, [], [], a0.ref, [], [], [], 0), h, ⟨(.cons .dead (.cons .same (.cons (.box (wkr (wkr (wkr (wkr (wkr (wkn (wkr (wkn (wkn (wkr (wkr .nil)))))))))))) .nil))), (sC rfl (sC rfl z2a))⟩⟩
 intro hc17 h
 refine bR ?_
 refine sX ?_
 refine eX ?_
 refine cX h rfl ?_ ?_
 intro hc18 h
 refine bR ?_
 refine eX ?_
 refine z0r ?_
 refine cBx ?_
 refine zjb (s := ⟨_, _, _⟩) 2 7 29 (sz := 11) rfl rfl rfl ?_
 unfold zek at h
 refine z3c (σ := (Nat × (List Term))) (fun i => [(1, (PV.rf 0 0)), (2, (PV.rf 1 0)), (3, (PV.rf 2 0)), (4, (I64 (((i.1 : Nat) : Int))))]) (fun i => [.box 29 (z1r a0), .box 29 z3d, .box 29 [(I64 a0.kind), (BO false), (I64 0), (PV.v (.float .f64 0)), (z0k []), (PV.v (.slice none 0 0)), (PV.v (.int .u64 0)), (PV.sl (some 3) 29 11 (List.map z15 i.2)), (PV.v (.slice none 0 0)), (z0k []), (I64 0)], .arr 29 (i.2).length]) (0, []) h ?_ ?_ ?_
 intro i; exact ⟨lbE rfl, ⟨(il_rf rfl), ⟨(il_rf rfl), ⟨(il_rf rfl), ⟨(z02 rfl), trivial⟩⟩⟩⟩, ⟨wfC29, ⟨⟨(z02 rfl), ⟨(z02 rfl), ⟨(z02 rfl), ⟨(z02 rfl), ⟨(z02 rfl), ⟨(z02 rfl), ⟨(z02 rfl), ⟨(z02 rfl), ⟨(z02 rfl), ⟨(z02 rfl), ⟨(z02 rfl), trivial⟩⟩⟩⟩⟩⟩⟩⟩⟩⟩⟩, ⟨⟨(z02 rfl), ⟨(z02 rfl), ⟨(z02 rfl), ⟨(z02 rfl), ⟨(z02 rfl), ⟨(z02 rfl), ⟨(z02 rfl), ⟨(z4m rfl (z36 z2e _)), ⟨(z02 rfl), ⟨(z02 rfl), ⟨(z02 rfl), trivial⟩⟩⟩⟩⟩⟩⟩⟩⟩⟩⟩, trivial⟩⟩⟩⟩
 exact jN
 rintro g1_f ⟨s19, s20⟩ h; replace h : z57 r_q0u a0 (fun y0 y1 => g1_f (y0, y1)) s19 s20 = some r := h; unfold z57 at h
 change BW _ _ _ ⟨[(1, (PV.rf 0 0)), (2, (PV.rf 1 0)), (3, (PV.rf 2 0)), (4, (I64 (((s19 : Nat) : Int))))], [.box 29 (z1r a0), .box 29 z3d, .box 29 [(I64 a0.kind), (BO false), (I64 0), (PV.v (.float .f64 0)), (z0k []), (PV.v (.slice none 0 0)), (PV.v (.int .u64 0)), (PV.sl (some 3) 29 11 (List.map z15 s20)), (PV.v (.slice none 0 0)), (z0k []), (I64 0)], .arr 29 (s20).length], _⟩ _
 refine z0d ?_
 refine bR ?_
 iterate 4 refine sX ?_
 refine eX ?_
 refine z3p (t := 46) rfl fun hb22 => ?_
 try rw [List.length_map] at hb22
 refine cX h rfl ?_ ?_
 intro hc21 h
 have hc21_ := of_decide_eq_true hc21
 refine z0c ?_
 refine cBx ?_
 refine z0d ?_
 refine z0r ?_
 refine cBx ?_
 refine z1y 9 [8] [0, 2] mo (by kernel_rfl) ?_
 iterate 5 refine gX ?_
 obtain ⟨x23, hx23, h⟩ := obind h
 refine z1v rfl rfl rfl rfl (fun H hp => z1d (i := s19) Try.underlying26 z0v rfl rfl rfl hx23 (z2b _)) ?_
 refine gX ?_
 obtain ⟨x24, hx24, h⟩ := obind h
 refine z1v rfl rfl rfl rfl (fun H hp => z03 rfl zul rfl (wkr .nil) ⟨(z06 x23), trivial⟩ (c_q0u x23 x24 hx24) (z06 x24)) ?_
 refine z9y rfl rfl rfl rfl ((z16 (xs := [(z0b x24)]) Try.underlying26 z0v rfl rfl rfl rfl rfl rfl ⟨lbE rfl, lbE rfl⟩ rfl).cast (y := (PV.sl (some 4) 29 11 (List.map z15 ([x24] : (List Term))))) (by simp only [List.map_cons, List.map_nil, z2b]; try rfl) rfl) ⟨rfl, ⟨rfl, trivial⟩⟩ ?_
 refine z23 ?_
 change AO _ _ _ _ _
 obtain ⟨x25, hx25, h⟩ := obind h
 refine sS rfl rfl rfl (z21 Try.underlying26 z0v rfl Try.underlying26 rfl rfl rfl rfl z7y z4g hx25 rfl) ?_
 refine sX ?_
 refine z0l rfl rfl (z0g zrs rfl rfl rfl rfl rfl rfl (lbE rfl) rfl) ?_
 refine z08 ?_
 refine cBx ?_
 refine z0e ?_
 refine sX ?_
 refine sS rfl rfl rfl (z20 (k := s19) (c := 1) rfl rfl rfl (by omega)) ?_
 refine sX (z08 ?_)
 exact ⟨rfl, ((s19 + 1), x25), h, jN⟩
 intro hc21 h
 refine z1z ?_
 exact ⟨rfl, (false, 0, 0, [], [], 0, s20, [], [], 0), h, ⟨(.cons .dead (.cons .same (.cons (.box (wkr (wkr (wkr (wkr (wkr (wkn (wkr (.cons Wk.tok (wkn (wkr (wkr .nil)))))))))))) .nil))), (sC rfl (sC rfl z2a))⟩⟩
 intro hc18 h
 refine bR ?_
 refine sX ?_
 refine eX ?_
 refine cX h rfl ?_ ?_
 intro hc26 h
 refine z0d (z1y 6 [5] [0] mo (by kernel_rfl) ?_)
 iterate 5 refine gX ?_
 refine zko rfl rfl rfl (z0g zk3 rfl rfl rfl rfl rfl rfl (lbE rfl) rfl) ⟨rfl, trivial⟩ ?_
 refine z23 ?_
 change AO _ _ _ _ _
 refine sX ?_
 refine z0l rfl rfl (z0g zg8 rfl rfl rfl rfl rfl rfl (lbE rfl) rfl) ?_
 refine z08 ?_
 refine cBx ?_
 refine z0e ?_
 iterate 2 refine sX ?_
 obtain ⟨x27, hx27, h⟩ := obind h
 refine sS rfl rfl rfl (z03 rfl Z1v rfl (wkr .nil) ⟨(z0f z1l a0.fields), trivial⟩ (c_q0e a0.fields x27 hx27) (z0f z1l x27)) ?_
 refine sX ?_
 refine z0l rfl rfl (z0g zrr rfl rfl rfl rfl rfl rfl (lbE rfl) rfl) ?_
 refine z08 ?_
 exact ⟨rfl, (false, 0, 0, [], [], 0, [], x27, a0.cls, a0.ver), h, ⟨(.cons .dead (.cons .same (.cons (.box (wkr (wkr (wkr (wkr (wkr (wkn (wkr (wkn (wkr (wkr (wkr .nil)))))))))))) .nil))), (sC rfl (sC rfl z2a))⟩⟩
 intro hc26 h
 refine bR ?_
 refine sX ?_
 refine eX ?_
 refine cX h rfl ?_ ?_
 intro hc28 h
 refine z0e ?_
 iterate 2 refine sX ?_
 obtain ⟨x29, hx29, h⟩ := obind h
 refine sS rfl rfl rfl (z03 rfl Z1v rfl (wkr .nil) ⟨(z0f z1l a0.fields), trivial⟩ (c_q0e a0.fields x29 hx29) (z0f z1l x29)) ?_
 refine sX ?_
 refine z0l rfl rfl (z0g zrr rfl rfl rfl rfl rfl rfl (lbE rfl) rfl) ?_
 refine z08 ?_
 exact ⟨rfl, (false, 0, 0, [], [], 0, [], x29, [], 0), h, ⟨(.cons .dead (.cons .same (.cons (.box (wkr (wkr (wkr (wkr (wkr (wkn (wkr (wkn (wkr (wkr (wkr .nil)))))))))))) .nil))), (sC rfl (sC rfl z2a))⟩⟩
 intro hc28 h
 refine z0c ?_
 exact ⟨rfl, (false, 0, 0, [], [], 0, [], [], [], 0), h, ⟨(.cons .dead (.cons .same (.cons (.box (wkr (wkr (wkr (wkr (wkr (wkn (wkr (wkn (wkn (wkr (wkr .nil)))))))))))) .nil))), (sC rfl (sC rfl z2a))⟩⟩
theorem C_q0e.sound : ∀ (i : C_q0e) (r : i.R), z3b C_q0e.F i = some r → C_q0e.Q i r := by
 refine z42 (Φ := C_q0e.F) (Q := C_q0e.Q) ?_
 intro g hg i r h
 cases i with
 | k_q0e a0 => exact zc3 (fun a0 => g (.k_q0e a0)) (fun a0 r hr => hg (.k_q0e a0) r hr) (fun a0 => g (.k_q0u a0)) (fun a0 r hr => hg (.k_q0u a0) r hr) a0 r h
 | k_q0u a0 => exact zfl (fun a0 => g (.k_q0e a0)) (fun a0 r hr => hg (.k_q0e a0) r hr) (fun a0 => g (.k_q0u a0)) (fun a0 r hr => hg (.k_q0u a0) r hr) a0 r h
theorem Z05 (a0 r : Term) (h : zbk a0 = some r) : z0o Try.prog 31 [(z0b a0)] (z0b r) := C_q0e.sound (.k_q0u a0) r h
end Go.Proofs.Ythidgpcbnieleaa
