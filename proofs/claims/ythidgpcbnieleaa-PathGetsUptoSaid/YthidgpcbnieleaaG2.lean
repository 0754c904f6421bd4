/- Pure functions, and that calls answer as they say. -/
import Derived.Test.YthidgpcbnieleaaG1
namespace Go.Proofs.Ythidgpcbnieleaa
open Go Aw
set_option linter.unusedVariables false
set_option linter.unusedSimpArgs false
set_option maxRecDepth 20000
set_option maxHeartbeats 2000000
variable {ι : Type} {ρ : ι → Type}
noncomputable def z6c (a0 : (List (Str × V))) (a1 : Str) (g1 : Int → Int → Option (Int × Bool)) (s1 s2 : Int) : Option (Int × Bool) :=
 bif (decide (s1 < s2)) then (
 (z8x a0 (IntKind.i64.wrap (zt7 .u64 (IntKind.u64.wrap (IntKind.i64.wrap (s1 + s2))) 1))).bind fun x4 =>
 (zni x4 a1).bind fun x5 =>
 bif (decide (x5 < 0)) then (
 g1 (IntKind.i64.wrap ((IntKind.i64.wrap (zt7 .u64 (IntKind.u64.wrap (IntKind.i64.wrap (s1 + s2))) 1)) + 1)) s2
 ) else (
 g1 s1 (IntKind.i64.wrap (zt7 .u64 (IntKind.u64.wrap (IntKind.i64.wrap (s1 + s2))) 1))
 )
 ) else (
 bif (decide (s1 < (((a0).length : Nat) : Int))) then (
 (z8x a0 s1).bind fun x8 =>
 (zni x8 a1).bind fun x9 =>
 some (s1, (x9 == 0))
 ) else (
 some (s1, false)
 )
 )
theorem znb (g1 : OF ρ → Int → Int → Option (Int × Bool)) (h_g1 : ∀ y0 y1, CM (fun G => g1 G y0 y1)) (a0 : (List (Str × V))) (a1 : Str) (s1 s2 : Int) : CM (fun G : OF ρ => z6c a0 a1 (g1 G) s1 s2) := by
 simp only [z6c]
 repeat (first | exact z0h | exact h_g1 _ _ | refine z10 ?_ ?_ | refine z11 ?_ (fun _ => ?_))
noncomputable def zi8 (a0 : (List (Str × V))) (a1 : Str) (s1 s2 : Int) : Option (Int × Bool) :=
 z3b (ι := (Int × Int)) (ρ := fun _ => (Int × Bool)) (fun g i => z6c a0 a1 (fun s1 s2 => g (s1, s2)) i.1 i.2) (s1, s2)
theorem zi7 (a0 : (List (Str × V))) (a1 : Str) (s1 s2 : Int) : zi8 a0 a1 s1 s2 = z6c a0 a1 (zi8 a0 a1) s1 s2 :=
 z1f (ι := (Int × Int)) (ρ := fun _ => (Int × Bool)) (Φ := fun g i => z6c a0 a1 (fun s1 s2 => g (s1, s2)) i.1 i.2) (fun i => znb (ι := (Int × Int)) (ρ := fun _ => (Int × Bool)) (fun g => (fun s1 s2 => g (s1, s2))) (fun _ _ => z1i) a0 a1 i.1 i.2) (s1, s2)
noncomputable def zts (a0 : (List (Str × V))) (a1 : Str) : Option (Int × Bool) :=
 zi8 a0 a1 0 (((a0).length : Nat) : Int)
theorem Z3o (a0 : (List (Str × V))) (a1 : Str) (r : (Int × Bool)) (h : zts a0 a1 = some r) : z0o Try.prog 92 [(PV.sl none 96 2 (List.map ofFld a0)), (z0k a1), (PV.fn (.func 93) [] [])] (PV.tup [(I64 r.1), (BO r.2)]) := by
 unfold zts at h
 refine z0j Try.func92 rfl Try.ntmps92 Try.results92 rfl (z0q ?_)
 change BW _ _ _ ⟨[(0, (PV.sl none 96 2 (List.map ofFld a0))), (1, (z0k a1)), (2, (PV.fn (.func 93) [] []))], [], _⟩ _
 refine bR ?_
 refine sX ?_
 refine eX ?_
 refine bR ?_
 iterate 2 refine sX ?_
 refine eX ?_
 refine bR ?_
 iterate 2 refine sX ?_
 refine eX ?_
 refine z0d ?_
 refine z0r ?_
 refine cBx ?_
 unfold zi8 at h
 refine lX (σ := (Int × Int)) (fun i => [(0, (PV.sl none 96 2 (List.map ofFld a0))), (1, (z0k a1)), (2, (PV.fn (.func 93) [] [])), (8, (I64 ((((a0).length : Nat) : Int)))), (9, (I64 i.1)), (10, (I64 i.2))]) (fun i => []) (0, (((a0).length : Nat) : Int)) h ?_ ?_
 exact jN
 rintro g1_f ⟨s1, s2⟩ h; replace h : z6c a0 a1 (fun y0 y1 => g1_f (y0, y1)) s1 s2 = some r := h; unfold z6c at h
 change BW _ _ _ ⟨[(0, (PV.sl none 96 2 (List.map ofFld a0))), (1, (z0k a1)), (2, (PV.fn (.func 93) [] [])), (8, (I64 ((((a0).length : Nat) : Int)))), (9, (I64 s1)), (10, (I64 s2))], [], _⟩ _
 refine z0d ?_
 refine bR ?_
 iterate 2 refine sX ?_
 refine eX ?_
 refine cX h rfl ?_ ?_
 intro hc3 h
 refine z0c ?_
 refine cBx ?_
 refine z0r ?_
 refine cBx ?_
 refine bR ?_
 iterate 3 refine sX ?_
 refine sS rfl rfl rfl (zil Try.underlying3 Try.underlying152 rfl rfl) ?_
 refine sS rfl rfl rfl ((zxj rfl rfl rfl (by decide)).cast (y := (PV.v (.int .u64 (zt7 .u64 (IntKind.u64.wrap (IntKind.i64.wrap (s1 + s2))) 1)))) rfl rfl) ?_
 refine sS rfl rfl rfl (zil Try.underlying152 Try.underlying3 rfl rfl) ?_
 refine eX ?_
 refine bR ?_
 iterate 3 refine sX ?_
 obtain ⟨x4, hx4, h⟩ := obind h
 refine sS rfl rfl rfl (z41 Try.underlying64 z1c rfl rfl rfl hx4 rfl) ?_
 iterate 2 refine sX ?_
 obtain ⟨x5, hx5, h⟩ := obind h
 refine sS rfl rfl rfl (zao rfl rfl Z1k rfl (wkr (wkr .nil)) ⟨(z19 x4), ⟨rfl, trivial⟩⟩ (Z08 x4 a1 x5 hx5) rfl) ?_
 refine eX ?_
 refine cX h rfl ?_ ?_
 intro hc6 h
 refine z0e ?_
 iterate 2 refine sX ?_
 refine sX (z08 ?_)
 exact ⟨rfl, ((IntKind.i64.wrap ((IntKind.i64.wrap (zt7 .u64 (IntKind.u64.wrap (IntKind.i64.wrap (s1 + s2))) 1)) + 1)), s2), h, jN⟩
 intro hc6 h
 refine z0e ?_
 refine sX ?_
 refine sX (z08 ?_)
 exact ⟨rfl, (s1, (IntKind.i64.wrap (zt7 .u64 (IntKind.u64.wrap (IntKind.i64.wrap (s1 + s2))) 1))), h, jN⟩
 intro hc3 h
 refine z1z ?_
 refine cBx ?_
 refine bR ?_
 iterate 5 refine sX ?_
 refine z0n (t := 39) rfl ?_ ?_
 intro hb7; replace h := z0t hb7 h
 iterate 3 refine yX ?_
 obtain ⟨x8, hx8, h⟩ := obind h
 refine z1t rfl rfl rfl rfl rfl rfl (z41 Try.underlying64 z1c rfl rfl rfl hx8 rfl) ?_
 iterate 2 refine yX ?_
 obtain ⟨x9, hx9, h⟩ := obind h
 refine z1t rfl rfl rfl rfl rfl rfl (zao rfl rfl Z1k rfl (wkr (wkr .nil)) ⟨(z19 x8), ⟨rfl, trivial⟩⟩ (Z08 x8 a1 x9 hx9) rfl) ?_
 refine yX ?_
 iterate 2 refine sX ?_
 refine eX ?_
 obtain rfl := eI h; exact z04 eK
 intro hb7; replace h := z0u hb7 h
 iterate 8 refine nX ?_
 iterate 2 refine sX ?_
 refine eX ?_
 obtain rfl := eI h; exact z04 eK
noncomputable def zju (a0 : (List (Str × V))) (a1 : Str) : Option (Int × Bool) :=
 (zts a0 a1).bind fun x1 =>
 some (x1.1, x1.2)
theorem zx2 (a0 : (List (Str × V))) (a1 : Str) (r : (Int × Bool)) (h : zju a0 a1 = some r) : z0o Try.prog 76 [(PV.sl none 96 2 (List.map ofFld a0)), (z0k a1)] (PV.tup [(I64 r.1), (BO r.2)]) := by
 unfold zju at h
 refine z0j Try.func76 rfl Try.ntmps76 Try.results76 rfl (z0q ?_)
 change BW _ _ _ ⟨[(0, (PV.sl none 96 2 (List.map ofFld a0))), (1, (z0k a1))], [], _⟩ _
 refine bR ?_
 refine sX ?_
 refine eX ?_
 refine bR ?_
 iterate 2 refine sX ?_
 obtain ⟨x1, hx1, h⟩ := obind h
 refine sS rfl rfl rfl (z03 rfl Z46 rfl (wkr (wkr (wkr .nil))) ⟨(z0f z19 a0), ⟨rfl, ⟨rfl, trivial⟩⟩⟩ (Z3o a0 a1 x1 hx1) (z00 rfl (z00 rfl z05))) ?_
 iterate 3 refine sX ?_
 refine eX ?_
 obtain rfl := eI h; exact z04 eK
noncomputable def zed (a1 : S_api_Step) (x5 : ((List (Str × V)) × Bool)) (s6 : Bool) : Option (V × Int) :=
 bif s6 then (
 some (V.nil, 41)
 ) else (
 (zju x5.1 a1.f_Name).bind fun x8 =>
 bif (!x8.2) then (
 some (V.nil, 40)
 ) else (
 (z8x x5.1 x8.1).bind fun x10 =>
 some (x10.2, 0)
 )
 )
noncomputable def zb1 (a0 : V) (a1 : S_api_Step) (s1 : Bool) : Option (V × Int) :=
 bif s1 then (
 bif (decide (a1.f_Index ≥ ((((a0).asList).length : Nat) : Int))) then (
 some (V.nil, 42)
 ) else (
 (z8x ((a0).asList) a1.f_Index).bind fun x4 =>
 some (x4, 0)
 )
 ) else (
 (zto a0).bind fun x5 =>
 bif (!x5.2) then (
 zed a1 x5 true
 ) else (
 zed a1 x5 a1.f_At
 )
 )
noncomputable def z8g (a0 : V) (a1 : S_api_Step) : Option (V × Int) :=
 bif (a0).isList then (
 zb1 a0 a1 a1.f_At
 ) else (
 zb1 a0 a1 false
 )
theorem zos (a0 : V) (a1 : S_api_Step) (r : (V × Int)) (h : z8g a0 a1 = some r) : z0o Try.prog 67 [(ofV a0), (z01 a1)] (PV.tup [(ofV r.1), (I64 r.2)]) := by
 unfold z8g at h
 refine z0j Try.func67 rfl Try.ntmps67 Try.results67 rfl (z0q ?_)
 change BW _ _ _ ⟨[(0, (ofV a0)), (1, (z01 a1))], [], _⟩ _
 refine bR ?_
 iterate 2 refine sX ?_
 refine eX ?_
 refine z0d ?_
 refine bR ?_
 refine sX ?_
 refine sS rfl rfl rfl (z2t rfl rfl) ?_
 iterate 4 refine sX ?_
 refine eX ?_
 refine z2l (ι := Bool) (fun i => zb1 a0 a1 i = some r) (fun i => [(0, (ofV a0)), (3, (PV.rf 0 0)), (6, (PV.sl none 20 1 (List.map ofV (a0).asList))), (21, (BO i))]) (fun i => [.box 76 [(z0k a1.f_Name), (BO a1.f_At), (I64 a1.f_Index)]]) ?_ ?_ ?_
 intro i; exact ⟨lbE rfl, ⟨(z02 (ids_V _)), ⟨(il_rf rfl), ⟨(z02 (z0f ids_V _)), ⟨(z02 rfl), trivial⟩⟩⟩⟩, ⟨⟨(z02 rfl), ⟨(z02 rfl), ⟨(z02 rfl), trivial⟩⟩⟩, trivial⟩⟩
 rintro s1 h; replace h : zb1 a0 a1 s1 = some r := h; unfold zb1 at h
 change BW _ _ _ ⟨[(0, (ofV a0)), (3, (PV.rf 0 0)), (6, (PV.sl none 20 1 (List.map ofV (a0).asList))), (21, (BO s1))], [.box 76 [(z0k a1.f_Name), (BO a1.f_At), (I64 a1.f_Index)]], _⟩ _
 refine cX h rfl ?_ ?_
 intro hc2 h
 refine z0d ?_
 refine bR ?_
 iterate 4 refine sX ?_
 refine eX ?_
 refine cX h rfl ?_ ?_
 intro hc3 h
 refine bR ?_
 refine sX ?_
 refine eX ?_
 obtain rfl := eI h; exact z04 ⟨_, rfl, z0p (y := (PV.tup [(ofV V.nil), (I64 42)])) (Wk.tup (.cons (Wk.eq mk_nil.symm) (wkr .nil))) (z00 (ids_V V.nil) (z00 rfl z05)) ⟨rfl, rfl⟩⟩
 intro hc3 h
 refine z0c ?_
 refine cBx ?_
 refine bR ?_
 iterate 3 refine sX ?_
 obtain ⟨x4, hx4, h⟩ := obind h
 refine sS rfl rfl rfl (z41 Try.underlying62 z2g rfl rfl rfl hx4 rfl) ?_
 refine sS rfl rfl rfl (z6j (y := (ofV x4)) Try.underlying20 rfl rfl rfl (by rw [z1x]; rfl)) ?_
 refine sX ?_
 refine eX ?_
 obtain rfl := eI h; exact z04 ⟨_, rfl, z0p (y := (PV.tup [(ofV x4), (I64 0)])) (Wk.refl _) (z00 (ids_V x4) (z00 rfl z05)) ⟨rfl, rfl⟩⟩
 intro hc2 h
 refine z0c ?_
 refine cBx ?_
 refine bR ?_
 refine sX ?_
 obtain ⟨x5, hx5, h⟩ := obind h
 refine sS rfl rfl rfl (z03 rfl Z4a rfl (wkr .nil) ⟨(ids_V a0), trivial⟩ (Z3h a0 x5 hx5) (z00 (z0f z19 x5.1) (z00 rfl z05))) ?_
 iterate 4 refine sX ?_
 refine eX ?_
 refine z0d ?_
 refine jX (ι := Bool) (fun i => zed a1 x5 i = some r) (fun i => [(3, (PV.rf 0 0)), (8, (PV.sl none 96 2 (List.map ofFld x5.1))), (42, (BO i))]) (fun i => [.box 76 [(z0k a1.f_Name), (BO a1.f_At), (I64 a1.f_Index)]]) ?_ ?_
 rintro s6 h; replace h : zed a1 x5 s6 = some r := h; unfold zed at h
 change BW _ _ _ ⟨[(3, (PV.rf 0 0)), (8, (PV.sl none 96 2 (List.map ofFld x5.1))), (42, (BO s6))], [.box 76 [(z0k a1.f_Name), (BO a1.f_At), (I64 a1.f_Index)]], _⟩ _
 refine cX h rfl ?_ ?_
 intro hc7 h
 refine bR ?_
 refine sX ?_
 refine eX ?_
 obtain rfl := eI h; exact z04 ⟨_, rfl, z0p (y := (PV.tup [(ofV V.nil), (I64 41)])) (Wk.tup (.cons (Wk.eq mk_nil.symm) (wkr .nil))) (z00 (ids_V V.nil) (z00 rfl z05)) ⟨rfl, rfl⟩⟩
 intro hc7 h
 refine z0c ?_
 refine cBx ?_
 refine bR ?_
 iterate 3 refine sX ?_
 obtain ⟨x8, hx8, h⟩ := obind h
 refine sS rfl rfl rfl (z03 rfl zyd rfl (wkr (wkr .nil)) ⟨(z0f z19 x5.1), ⟨rfl, trivial⟩⟩ (zx2 x5.1 a1.f_Name x8 hx8) (z00 rfl (z00 rfl z05))) ?_
 iterate 4 refine sX ?_
 refine eX ?_
 refine z0d ?_
 refine bR ?_
 refine sX ?_
 refine eX ?_
 refine cX h rfl ?_ ?_
 intro hc9 h
 refine bR ?_
 refine sX ?_
 refine eX ?_
 obtain rfl := eI h; exact z04 ⟨_, rfl, z0p (y := (PV.tup [(ofV V.nil), (I64 40)])) (Wk.tup (.cons (Wk.eq mk_nil.symm) (wkr .nil))) (z00 (ids_V V.nil) (z00 rfl z05)) ⟨rfl, rfl⟩⟩
 intro hc9 h
 refine z0c ?_
 refine cBx ?_
 refine bR ?_
 iterate 2 refine sX ?_
 obtain ⟨x10, hx10, h⟩ := obind h
 refine sS rfl rfl rfl (z41 Try.underlying64 z1c rfl rfl rfl hx10 rfl) ?_
 iterate 3 refine sX ?_
 refine eX ?_
 obtain rfl := eI h; exact z04 ⟨_, rfl, z0p (y := (PV.tup [(ofV x10.2), (I64 0)])) (Wk.refl _) (z00 (ids_V x10.2) (z00 rfl z05)) ⟨rfl, rfl⟩⟩
 refine z0e ?_
 iterate 3 refine sX ?_
 refine z0n (t := 39) rfl ?_ ?_
 intro hb11; replace h := z0t hb11 h
 iterate 2 refine nX ?_
 refine sX (z08 ?_)
 exact ⟨rfl, true, h, jN⟩
 intro hb11; replace h := z0u hb11 h
 iterate 2 refine yX ?_
 refine sX (z08 ?_)
 exact ⟨rfl, a1.f_At, h, jN⟩
 refine z0e ?_
 iterate 2 refine sX ?_
 refine z0n (t := 18) rfl ?_ ?_
 intro hb12; replace h := z0t hb12 h
 iterate 2 refine yX ?_
 refine sX (z08 ?_)
 exact ⟨rfl, a1.f_At, h, jN⟩
 intro hb12; replace h := z0u hb12 h
 iterate 2 refine nX ?_
 refine sX (z08 ?_)
 exact ⟨rfl, false, h, jN⟩
noncomputable def z61 (a1 : (List S_api_Step)) (g1 : V → Nat → Option (V × Int)) (s1 : V) (s2 : Nat) : Option (V × Int) :=
 bif (decide (((s2 : Nat) : Int) < (((a1).length : Nat) : Int))) then (
 ((a1)[s2]?).bind fun x5 =>
 (z8g s1 x5).bind fun x6 =>
 bif (x6.2 != 0) then (
 some (V.nil, x6.2)
 ) else (
 g1 x6.1 (s2 + 1)
 )
 ) else (
 some (s1, 0)
 )
theorem zmy (g1 : OF ρ → V → Nat → Option (V × Int)) (h_g1 : ∀ y0 y1, CM (fun G => g1 G y0 y1)) (a1 : (List S_api_Step)) (s1 : V) (s2 : Nat) : CM (fun G : OF ρ => z61 a1 (g1 G) s1 s2) := by
 simp only [z61]
 repeat (first | exact z0h | exact h_g1 _ _ | refine z10 ?_ ?_ | refine z11 ?_ (fun _ => ?_))
noncomputable def zha (a1 : (List S_api_Step)) (s1 : V) (s2 : Nat) : Option (V × Int) :=
 z3b (ι := (V × Nat)) (ρ := fun _ => (V × Int)) (fun g i => z61 a1 (fun s1 s2 => g (s1, s2)) i.1 i.2) (s1, s2)
theorem zh9 (a1 : (List S_api_Step)) (s1 : V) (s2 : Nat) : zha a1 s1 s2 = z61 a1 (zha a1) s1 s2 :=
 z1f (ι := (V × Nat)) (ρ := fun _ => (V × Int)) (Φ := fun g i => z61 a1 (fun s1 s2 => g (s1, s2)) i.1 i.2) (fun i => zmy (ι := (V × Nat)) (ρ := fun _ => (V × Int)) (fun g => (fun s1 s2 => g (s1, s2))) (fun _ _ => z1i) a1 i.1 i.2) (s1, s2)
noncomputable def zq4 (a0 : V) (a1 : (List S_api_Step)) : Option (V × Int) :=
 zha a1 a0 0
theorem Z2w (a0 : V) (a1 : (List S_api_Step)) (r : (V × Int)) (h : zq4 a0 a1 = some r) : z0o Try.prog 39 [(ofV a0), (PV.sl none 76 3 (List.map z01 a1))] (PV.tup [(ofV r.1), (I64 r.2)]) := by
 unfold zq4 at h
 refine z0j Try.func39 rfl Try.ntmps39 Try.results39 rfl (z0q ?_)
 change BW _ _ _ ⟨[(0, (ofV a0)), (1, (PV.sl none 76 3 (List.map z01 a1)))], [], _⟩ _
 refine bR ?_
 refine sX ?_
 refine eX ?_
 refine z0d ?_
 refine bR ?_
 iterate 2 refine sX ?_
 refine eX ?_
 refine z0r ?_
 refine cBx ?_
 unfold zha at h
 refine z3c (σ := (V × Nat)) (fun i => [(0, (ofV i.1)), (10, (PV.sl none 76 3 (List.map z01 a1))), (11, (I64 ((((a1).length : Nat) : Int)))), (12, (I64 (((i.2 : Nat) : Int))))]) (fun i => []) (a0, 0) h ?_ ?_ ?_
 intro i; exact ⟨lbE rfl, ⟨(z02 (ids_V _)), ⟨(z02 (z0f z07 _)), ⟨(z02 rfl), ⟨(z02 rfl), trivial⟩⟩⟩⟩, trivial⟩
 exact jN
 rintro g1_f ⟨s1, s2⟩ h; replace h : z61 a1 (fun y0 y1 => g1_f (y0, y1)) s1 s2 = some r := h; unfold z61 at h
 change BW _ _ _ ⟨[(0, (ofV s1)), (10, (PV.sl none 76 3 (List.map z01 a1))), (11, (I64 ((((a1).length : Nat) : Int)))), (12, (I64 (((s2 : Nat) : Int))))], [], _⟩ _
 refine bR ?_
 refine eX ?_
 refine z0d ?_
 refine z3p (t := 10) rfl fun hb4 => ?_
 try rw [List.length_map] at hb4
 refine cX h rfl ?_ ?_
 intro hc3 h
 have hc3_ := of_decide_eq_true hc3
 refine z0c ?_
 refine cBx ?_
 refine z0d ?_
 refine z0r ?_
 refine cBx ?_
 refine bR ?_
 obtain ⟨x5, hx5, h⟩ := obind h
 refine sS rfl rfl rfl (z1d (i := s2) Try.underlying37 z1w rfl rfl rfl hx5 rfl) ?_
 refine sX ?_
 refine sS rfl rfl rfl (z1b z1w rfl) ?_
 refine z0l rfl rfl (z0g z1w rfl rfl rfl rfl rfl rfl (lbE rfl) rfl) ?_
 refine z08 ?_
 refine cBx ?_
 refine bR ?_
 iterate 2 refine sX ?_
 obtain ⟨x6, hx6, h⟩ := obind h
 refine sS rfl rfl rfl (z03 rfl zs5 rfl (wkr (wkr .nil)) ⟨(ids_V s1), ⟨(z07 x5), trivial⟩⟩ (zos s1 x5 x6 hx6) (z00 (ids_V x6.1) (z00 rfl z05))) ?_
 iterate 4 refine sX ?_
 refine eX ?_
 refine z0d ?_
 refine bR ?_
 refine sX ?_
 refine eX ?_
 refine cX h rfl ?_ ?_
 intro hc7 h
 refine bR ?_
 iterate 2 refine sX ?_
 refine eX ?_
 obtain rfl := eI h; exact z04 ⟨_, rfl, z0p (y := (PV.tup [(ofV V.nil), (I64 x6.2)])) (Wk.tup (.cons (Wk.eq mk_nil.symm) (wkr .nil))) (z00 (ids_V V.nil) (z00 rfl z05)) ⟨rfl, rfl⟩⟩
 intro hc7 h
 refine z0c ?_
 refine cBx ?_
 refine z0e ?_
 refine sX ?_
 refine eX ?_
 refine z0e ?_
 refine sS rfl rfl rfl (z20 (k := s2) (c := 1) rfl rfl rfl (by omega)) ?_
 refine sX (z08 ?_)
 exact ⟨rfl, (x6.1, (s2 + 1)), h, jN⟩
 intro hc3 h
 refine z1z ?_
 refine cBx ?_
 refine bR ?_
 iterate 2 refine sX ?_
 refine eX ?_
 obtain rfl := eI h; exact z04 ⟨_, rfl, z0p (y := (PV.tup [(ofV s1), (I64 0)])) (Wk.refl _) (z00 (ids_V s1) (z00 rfl z05)) ⟨rfl, rfl⟩⟩
noncomputable def z5d (r_q0g : V → Option V) (a0 : (List (Str × V))) (g1 : (List (Str × V)) → Nat → Option (List (Str × V))) (s2 : (List (Str × V))) (s3 : Nat) : Option (List (Str × V)) :=
 bif (decide (((s3 : Nat) : Int) < (((a0).length : Nat) : Int))) then (
 ((a0)[s3]?).bind fun x6 =>
 (r_q0g x6.2).bind fun x7 =>
 (z6x 32 s2 ([(x6.1, x7)] : (List (Str × V)))).bind fun x8 =>
 g1 x8 (s3 + 1)
 ) else (
 some s2
 )
theorem zam (r_q0g : OF ρ → V → Option V) (h_r_q0g : ∀ y0, CM (fun G => r_q0g G y0)) (g1 : OF ρ → (List (Str × V)) → Nat → Option (List (Str × V))) (h_g1 : ∀ y0 y1, CM (fun G => g1 G y0 y1)) (a0 s2 : (List (Str × V))) (s3 : Nat) : CM (fun G : OF ρ => z5d (r_q0g G) a0 (g1 G) s2 s3) := by
 simp only [z5d]
 repeat (first | exact z0h | exact h_r_q0g _ | exact h_g1 _ _ | refine z10 ?_ ?_ | refine z11 ?_ (fun _ => ?_))
noncomputable def zes (r_q0g : V → Option V) (a0 s2 : (List (Str × V))) (s3 : Nat) : Option (List (Str × V)) :=
 z3b (ι := ((List (Str × V)) × Nat)) (ρ := fun _ => (List (Str × V))) (fun g i => z5d r_q0g a0 (fun s2 s3 => g (s2, s3)) i.1 i.2) (s2, s3)
theorem zi4 (r_q0g : V → Option V) (a0 s2 : (List (Str × V))) (s3 : Nat) : zes r_q0g a0 s2 s3 = z5d r_q0g a0 (zes r_q0g a0) s2 s3 :=
 z1f (ι := ((List (Str × V)) × Nat)) (ρ := fun _ => (List (Str × V))) (Φ := fun g i => z5d r_q0g a0 (fun s2 s3 => g (s2, s3)) i.1 i.2) (fun i => zam (ι := ((List (Str × V)) × Nat)) (ρ := fun _ => (List (Str × V))) (fun _ => r_q0g) (fun _ => z0h) (fun g => (fun s2 s3 => g (s2, s3))) (fun _ _ => z1i) a0 i.1 i.2) (s2, s3)
theorem zpu (r_q0g : OF ρ → V → Option V) (h_r_q0g : ∀ y0, CM (fun G => r_q0g G y0)) (a0 s2 : (List (Str × V))) (s3 : Nat) : CM (fun G : OF ρ => zes (r_q0g G) a0 s2 s3) :=
 z5z (κ := ((List (Str × V)) × Nat)) (τ := fun _ => (List (Str × V))) (Φ := fun G g i => z5d (r_q0g G) a0 (fun s2 s3 => g (s2, s3)) i.1 i.2) (fun g i => zam r_q0g h_r_q0g (fun _ => (fun s2 s3 => g (s2, s3))) (fun _ _ => z0h) a0 i.1 i.2) (fun G i => zam (ι := ((List (Str × V)) × Nat)) (ρ := fun _ => (List (Str × V))) (fun _ => r_q0g G) (fun _ => z0h) (fun g => (fun s2 s3 => g (s2, s3))) (fun _ _ => z1i) a0 i.1 i.2) (s2, s3)
noncomputable def zkm (r_q07 : (List (Str × V)) → Option (List (Str × V))) (r_q0g : V → Option V) (a0 : (List (Str × V))) : Option (List (Str × V)) :=
 (zjo ((a0).length) 32).bind fun x1 =>
 zes r_q0g a0 ([] : (List (Str × V))) 0
theorem zva (r_q07 : OF ρ → (List (Str × V)) → Option (List (Str × V))) (h_r_q07 : ∀ y0, CM (fun G => r_q07 G y0)) (r_q0g : OF ρ → V → Option V) (h_r_q0g : ∀ y0, CM (fun G => r_q0g G y0)) (a0 : (List (Str × V))) : CM (fun G : OF ρ => zkm (r_q07 G) (r_q0g G) a0) := by
 simp only [zkm]
 repeat (first | exact z0h | exact h_r_q07 _ | exact h_r_q0g _ | apply zpu | refine z10 ?_ ?_ | refine z11 ?_ (fun _ => ?_) | intro _ | assumption)
noncomputable def z58 (r_q0g : V → Option V) (a0 : V) (g1 : (List V) → Nat → Option V) (s5 : (List V)) (s6 : Nat) : Option V :=
 bif (decide (((s6 : Nat) : Int) < ((((a0).asList).length : Nat) : Int))) then (
 (((a0).asList)[s6]?).bind fun x9 =>
 (r_q0g x9).bind fun x10 =>
 (z6x 16 s5 ([x10] : (List V))).bind fun x11 =>
 g1 x11 (s6 + 1)
 ) else (
 some (V.list s5)
 )
theorem zah (r_q0g : OF ρ → V → Option V) (h_r_q0g : ∀ y0, CM (fun G => r_q0g G y0)) (g1 : OF ρ → (List V) → Nat → Option V) (h_g1 : ∀ y0 y1, CM (fun G => g1 G y0 y1)) (a0 : V) (s5 : (List V)) (s6 : Nat) : CM (fun G : OF ρ => z58 (r_q0g G) a0 (g1 G) s5 s6) := by
 simp only [z58]
 repeat (first | exact z0h | exact h_r_q0g _ | exact h_g1 _ _ | refine z10 ?_ ?_ | refine z11 ?_ (fun _ => ?_))
noncomputable def zen (r_q0g : V → Option V) (a0 : V) (s5 : (List V)) (s6 : Nat) : Option V :=
 z3b (ι := ((List V) × Nat)) (ρ := fun _ => V) (fun g i => z58 r_q0g a0 (fun s5 s6 => g (s5, s6)) i.1 i.2) (s5, s6)
theorem zhz (r_q0g : V → Option V) (a0 : V) (s5 : (List V)) (s6 : Nat) : zen r_q0g a0 s5 s6 = z58 r_q0g a0 (zen r_q0g a0) s5 s6 :=
 z1f (ι := ((List V) × Nat)) (ρ := fun _ => V) (Φ := fun g i => z58 r_q0g a0 (fun s5 s6 => g (s5, s6)) i.1 i.2) (fun i => zah (ι := ((List V) × Nat)) (ρ := fun _ => V) (fun _ => r_q0g) (fun _ => z0h) (fun g => (fun s5 s6 => g (s5, s6))) (fun _ _ => z1i) a0 i.1 i.2) (s5, s6)
theorem zpn (r_q0g : OF ρ → V → Option V) (h_r_q0g : ∀ y0, CM (fun G => r_q0g G y0)) (a0 : V) (s5 : (List V)) (s6 : Nat) : CM (fun G : OF ρ => zen (r_q0g G) a0 s5 s6) :=
 z5z (κ := ((List V) × Nat)) (τ := fun _ => V) (Φ := fun G g i => z58 (r_q0g G) a0 (fun s5 s6 => g (s5, s6)) i.1 i.2) (fun g i => zah r_q0g h_r_q0g (fun _ => (fun s5 s6 => g (s5, s6))) (fun _ _ => z0h) a0 i.1 i.2) (fun G i => zah (ι := ((List V) × Nat)) (ρ := fun _ => V) (fun _ => r_q0g G) (fun _ => z0h) (fun g => (fun s5 s6 => g (s5, s6))) (fun _ _ => z1i) a0 i.1 i.2) (s5, s6)
noncomputable def zkh (r_q07 : (List (Str × V)) → Option (List (Str × V))) (r_q0g : V → Option V) (a0 : V) : Option V :=
 bif (a0).isBytes then (
 (z6x 1 ([] : Str) ((a0).asBytes)).bind fun x2 =>
 some (V.bytes x2)
 ) else (
 bif (a0).isList then (
 (zjo (((a0).asList).length) 16).bind fun x4 =>
 zen r_q0g a0 ([] : (List V)) 0
 ) else (
 bif (a0).isDict then (
 (r_q07 ((a0).asDict)).bind fun x13 =>
 some (V.dict x13)
 ) else (
 bif (a0).isRec then (
 ((a0).asRec).bind fun x15 =>
 (r_q07 x15.fields).bind fun x16 =>
 some (V.record x15.cls x15.ver x16)
 ) else (
 (Z1c a0).bind fun _ =>
 some a0
 )
 )
 )
 )
theorem zv5 (r_q07 : OF ρ → (List (Str × V)) → Option (List (Str × V))) (h_r_q07 : ∀ y0, CM (fun G => r_q07 G y0)) (r_q0g : OF ρ → V → Option V) (h_r_q0g : ∀ y0, CM (fun G => r_q0g G y0)) (a0 : V) : CM (fun G : OF ρ => zkh (r_q07 G) (r_q0g G) a0) := by
 simp only [zkh]
 repeat (first | exact z0h | exact h_r_q07 _ | exact h_r_q0g _ | apply zpn | refine z10 ?_ ?_ | refine z11 ?_ (fun _ => ?_) | intro _ | assumption)
inductive C_q07 where
 | k_q07 (a0 : (List (Str × V)))
 | k_q0g (a0 : V)
def C_q07.R : C_q07 → Type
 | .k_q07 _ => (List (Str × V))
 | .k_q0g _ => V
noncomputable def C_q07.F (g : ∀ i : C_q07, Option i.R) : ∀ i : C_q07, Option i.R
 | .k_q07 a0 => zkm (fun a0 => g (.k_q07 a0)) (fun a0 => g (.k_q0g a0)) a0
 | .k_q0g a0 => zkh (fun a0 => g (.k_q07 a0)) (fun a0 => g (.k_q0g a0)) a0
noncomputable def ztr (a0 : (List (Str × V))) : Option (List (Str × V)) := z3b C_q07.F (.k_q07 a0)
noncomputable def zcy (a0 : V) : Option V := z3b C_q07.F (.k_q0g a0)
abbrev gg5 := fun (g : ∀ i : C_q07, Option i.R) a0 => g (.k_q07 a0)
theorem hh5 (a0 : _) : CM (ρ := C_q07.R) (fun g => g (C_q07.k_q07 a0)) := z1i
abbrev gg6 := fun (g : ∀ i : C_q07, Option i.R) a0 => g (.k_q0g a0)
theorem hh6 (a0 : _) : CM (ρ := C_q07.R) (fun g => g (C_q07.k_q0g a0)) := z1i
theorem C_q07.cm (i : C_q07) : CM (fun g : (∀ i : C_q07, Option i.R) => C_q07.F g i) := by
 cases i with
 | k_q07 a0 => exact zva gg5 hh5 gg6 hh6 a0
 | k_q0g a0 => exact zv5 gg5 hh5 gg6 hh6 a0
theorem Z56 (a0 : (List (Str × V))) : ztr a0 = zkm ztr zcy a0 := z1f C_q07.cm (.k_q07 a0)
theorem Z51 (a0 : V) : zcy a0 = zkh ztr zcy a0 := z1f C_q07.cm (.k_q0g a0)
def C_q07.Q : ∀ i : C_q07, i.R → Prop
 | .k_q07 a0 => fun (r : (List (Str × V))) => z0o Try.prog 90 [(PV.old (PV.sl none 96 2 (List.map ofFld a0)))] (PV.sl none 96 2 (List.map ofFld r))
 | .k_q0g a0 => fun (r : V) => z0o Try.prog 68 [(PV.old (ofV a0))] (ofV r)
theorem z92 (r_q07 : (List (Str × V)) → Option (List (Str × V))) (c_q07 : ∀ (a0 : (List (Str × V))) r, r_q07 a0 = some r → z0o Try.prog 90 [(PV.old (PV.sl none 96 2 (List.map ofFld a0)))] (PV.sl none 96 2 (List.map ofFld r))) (r_q0g : V → Option V) (c_q0g : ∀ (a0 : V) r, r_q0g a0 = some r → z0o Try.prog 68 [(PV.old (ofV a0))] (ofV r)) (a0 r : (List (Str × V))) (h : zkm r_q07 r_q0g a0 = some r) : z0o Try.prog 90 [(PV.old (PV.sl none 96 2 (List.map ofFld a0)))] (PV.sl none 96 2 (List.map ofFld r)) := by
 unfold zkm at h
 refine z0j Try.func90 rfl Try.ntmps90 Try.results90 rfl (z0q ?_)
 change BW _ _ _ ⟨[(0, (PV.old (PV.sl none 96 2 (List.map ofFld a0))))], [], _⟩ _
 refine bR ?_
 refine eX ?_
 refine bR ?_
 refine sX ?_
 refine sS rfl rfl rfl (z26 (z6i Try.underlying64 rfl rfl) Sc.v) ?_
 obtain ⟨x1, hx1, h⟩ := obind h
 refine sS rfl rfl rfl ((zqy (f := ofFld) (c := ((a0).length)) Try.underlying64 z1c rfl rfl rfl rfl hx1 (p := (PV.agg [(z0k []), (PV.v .nilIface)])) rfl).cast (y := (PV.sl (some 0) 96 2 (List.map ofFld ([] : (List (Str × V)))))) rfl rfl) ?_
 refine eX ?_
 refine z0d ?_
 refine bR ?_
 refine sX ?_
 refine sS rfl rfl rfl (z26 (z6i Try.underlying64 rfl rfl) Sc.v) ?_
 refine eX ?_
 refine z0r ?_
 refine cBx ?_
 unfold zes at h
 refine z3c (σ := ((List (Str × V)) × Nat)) (fun i => [(3, (PV.sl (some 0) 96 2 (List.map ofFld i.1))), (9, (PV.old (PV.sl none 96 2 (List.map ofFld a0)))), (10, (I64 ((((a0).length : Nat) : Int)))), (11, (I64 (((i.2 : Nat) : Int))))]) (fun i => [.arr 96 (i.1).length]) (([] : (List (Str × V))), 0) h ?_ ?_ ?_
 intro i; exact ⟨lbE rfl, ⟨(z4m rfl (z36 z19 _)), ⟨(z02 (z4o (z0f z19 _))), ⟨(z02 rfl), ⟨(z02 rfl), trivial⟩⟩⟩⟩, trivial⟩
 exact jN
 rintro g1_f ⟨s2, s3⟩ h; replace h : z5d r_q0g a0 (fun y0 y1 => g1_f (y0, y1)) s2 s3 = some r := h; unfold z5d at h
 change BW _ _ _ ⟨[(3, (PV.sl (some 0) 96 2 (List.map ofFld s2))), (9, (PV.old (PV.sl none 96 2 (List.map ofFld a0)))), (10, (I64 ((((a0).length : Nat) : Int)))), (11, (I64 (((s3 : Nat) : Int))))], [.arr 96 (s2).length], _⟩ _
 refine bR ?_
 refine eX ?_
 refine z0d ?_
 refine zsl (t := 9) rfl fun hb5 => ?_
 try rw [List.length_map] at hb5
 refine cX h rfl ?_ ?_
 intro hc4 h
 have hc4_ := of_decide_eq_true hc4
 refine z0c ?_
 refine cBx ?_
 refine z0d ?_
 refine z0r ?_
 refine cBx ?_
 refine bR ?_
 obtain ⟨x6, hx6, h⟩ := obind h
 refine sS rfl rfl rfl (z27 (z1d (i := s3) Try.underlying64 z1c rfl rfl rfl hx6 rfl)) ?_
 refine sS rfl rfl rfl (Op1.wk (x := (PV.old (ofFld x6))) (z27 (zle z1c Try.underlying96 rfl rfl rfl rfl rfl)) (Wk.opened (cs := [(z0k x6.1), (ofV x6.2)]) (.cons (Wk.oldSc Sc.v) (wkr .nil)))) ?_
 refine sS rfl rfl rfl ((z1b z1c rfl).cast (H'' := [.arr 96 (s2).length, .box 96 [(z0k []), (ofV V.nil)]]) rfl (by simp only [mk_nil]; rfl)) ?_
 refine z0l rfl rfl (z0g z1c rfl rfl rfl rfl rfl rfl (lbE rfl) (by show List.all [(z0k x6.1), (PV.old (ofV x6.2))] z6w = true; simp only [List.all_cons, List.all_nil, zxs, zk1, zbq, Bool.and_true, Bool.true_and]; try rfl)) ?_
 refine z08 ?_
 refine cBx ?_
 refine z1y 8 [7] [1] mo (by kernel_rfl) ?_
 iterate 5 refine gX ?_
 obtain ⟨x7, hx7, h⟩ := obind h
 refine z1v rfl rfl rfl rfl (fun H hp => z03 rfl zyf rfl (wkr .nil) ⟨(z4o (ids_V x6.2)), trivial⟩ (c_q0g x6.2 x7 hx7) (ids_V x7)) ?_
 refine z1v rfl rfl rfl rfl (fun H hp => z1a (cs := [(z0k x6.1), (ofV x7)]) zgv z1c rfl rfl (by simp only [List.all_cons, List.all_nil, zbm, z44, Bool.and_true, Bool.true_and]; try rfl) (by simp only [z6y, List.getElem?_cons_zero, List.getElem?_cons_succ, z1x, z1u]; rfl)) ?_
 refine z9y rfl rfl rfl rfl ((z16 (xs := [(PV.agg [(z0k x6.1), (ofV x7)])]) Try.underlying64 z1c rfl rfl rfl (by simp only [List.all_cons, List.all_nil, zbm, z44, Bool.and_true, Bool.true_and]; try rfl) (by simp only [List.all_cons, List.all_nil, csz_V, z6r, z1x, z1u]; try rfl) rfl ⟨lbE rfl, lbE rfl⟩ (by simp only [zgl, z6y, List.flatMap_cons, List.flatMap_nil, z1x, z1u]; try rfl)).cast (y := (PV.sl (some 2) 96 2 (List.map ofFld ([(x6.1, x7)] : (List (Str × V)))))) rfl rfl) ⟨rfl, trivial⟩ ?_
 refine z23 ?_
 change AO _ _ _ _ _
 obtain ⟨x8, hx8, h⟩ := obind h
 refine sS rfl rfl rfl (z21 Try.underlying64 z1c rfl Try.underlying64 rfl rfl rfl rfl z7i z7l hx8 rfl) ?_
 refine eX ?_
 refine z0e ?_
 refine sS rfl rfl rfl (z20 (k := s3) (c := 1) rfl rfl rfl (by omega)) ?_
 refine sX (z08 ?_)
 exact ⟨rfl, (x8, (s3 + 1)), h, jN⟩
 intro hc4 h
 refine z1z ?_
 refine cBx ?_
 refine bR ?_
 refine sX ?_
 refine eX ?_
 obtain rfl := eI h; exact z04 ⟨_, rfl, z0p (y := (PV.sl none 96 2 (List.map ofFld s2))) Wk.tok (z0f z19 s2) ⟨rfl, rfl⟩⟩
theorem zdw (r_q07 : (List (Str × V)) → Option (List (Str × V))) (c_q07 : ∀ (a0 : (List (Str × V))) r, r_q07 a0 = some r → z0o Try.prog 90 [(PV.old (PV.sl none 96 2 (List.map ofFld a0)))] (PV.sl none 96 2 (List.map ofFld r))) (r_q0g : V → Option V) (c_q0g : ∀ (a0 : V) r, r_q0g a0 = some r → z0o Try.prog 68 [(PV.old (ofV a0))] (ofV r)) (a0 r : V) (h : zkh r_q07 r_q0g a0 = some r) : z0o Try.prog 68 [(PV.old (ofV a0))] (ofV r) := by
 unfold zkh at h
 refine z0j Try.func68 rfl Try.ntmps68 Try.results68 rfl (z0q ?_)
 change BW _ _ _ ⟨[(0, (PV.old (ofV a0)))], [], _⟩ _
 refine bR ?_
 refine eX ?_
 refine z0d ?_
 refine bR ?_
 refine eX ?_
 refine z0r ?_
 refine cBx ?_
 refine bR ?_
 refine sS rfl rfl rfl (z27 (z6g rfl rfl)) ?_
 refine sS rfl rfl rfl (z26 (z35 rfl rfl rfl) Sc.v) ?_
 refine sS rfl rfl rfl (z27 (z35 rfl rfl rfl)) (z08 ?_)
 refine cBx ?_
 refine cX h rfl ?_ ?_
 intro hc1 h
 refine bR ?_
 refine eX ?_
 refine bR ?_
 refine sS rfl rfl rfl ((z16 (xs := []) Try.underlying23 inf_5 rfl rfl rfl rfl rfl rfl ⟨lbE rfl, lbE rfl⟩ rfl).cast (y := (PV.sl (some 0) 5 1 (List.map ofB ([] : Str)))) rfl rfl) ?_
 refine sX ?_
 obtain ⟨x2, hx2, h⟩ := obind h
 refine sS rfl rfl rfl (zr4 Try.underlying23 inf_5 rfl Try.underlying23 rfl rfl rfl rfl (fun _ => rfl) (fun _ => rfl) hx2 rfl (fun _ => (z8e Sc.v zh0))) ?_
 refine sS rfl rfl rfl ((z1q Try.underlying23 rfl rfl rfl).wk ((Wk.iface Wk.tok).trans (Wk.eq (zll _).symm))) ?_
 refine eX ?_
 obtain rfl := eI h; exact z04 ⟨_, rfl, z0p (y := (ofV (V.bytes x2))) (Wk.refl _) (ids_V (V.bytes x2)) ⟨rfl, rfl⟩⟩
 intro hc1 h
 refine bR ?_
 refine sS rfl rfl rfl (z27 (z2t rfl rfl)) ?_
 refine sS rfl rfl rfl (z26 (z35 rfl rfl rfl) Sc.v) ?_
 refine sS rfl rfl rfl (z27 (z35 rfl rfl rfl)) (z08 ?_)
 refine cBx ?_
 refine cX h rfl ?_ ?_
 intro hc3 h
 refine bR ?_
 refine eX ?_
 refine bR ?_
 refine sX ?_
 refine sS rfl rfl rfl (z26 (z6i Try.underlying62 rfl rfl) Sc.v) ?_
 obtain ⟨x4, hx4, h⟩ := obind h
 refine sS rfl rfl rfl ((zqy (f := ofV) (c := (((a0).asList).length)) Try.underlying62 z2g rfl rfl rfl rfl hx4 (p := (PV.v .nilIface)) rfl).cast (y := (PV.sl (some 0) 20 1 (List.map ofV ([] : (List V))))) rfl rfl) ?_
 refine eX ?_
 refine z0d ?_
 refine bR ?_
 refine sX ?_
 refine sS rfl rfl rfl (z26 (z6i Try.underlying62 rfl rfl) Sc.v) ?_
 refine eX ?_
 refine z0r ?_
 refine cBx ?_
 unfold zen at h
 refine z3c (σ := ((List V) × Nat)) (fun i => [(5, (PV.sl (some 0) 20 1 (List.map ofV i.1))), (24, (PV.old (PV.sl none 20 1 (List.map ofV (a0).asList)))), (25, (I64 (((((a0).asList).length : Nat) : Int)))), (26, (I64 (((i.2 : Nat) : Int))))]) (fun i => [.arr 20 (i.1).length]) (([] : (List V)), 0) h ?_ ?_ ?_
 intro i; exact ⟨lbE rfl, ⟨(z4m rfl (z36 ids_V _)), ⟨(z02 (z4o (z0f ids_V _))), ⟨(z02 rfl), ⟨(z02 rfl), trivial⟩⟩⟩⟩, trivial⟩
 exact jN
 rintro g1_f ⟨s5, s6⟩ h; replace h : z58 r_q0g a0 (fun y0 y1 => g1_f (y0, y1)) s5 s6 = some r := h; unfold z58 at h
 change BW _ _ _ ⟨[(5, (PV.sl (some 0) 20 1 (List.map ofV s5))), (24, (PV.old (PV.sl none 20 1 (List.map ofV (a0).asList)))), (25, (I64 (((((a0).asList).length : Nat) : Int)))), (26, (I64 (((s6 : Nat) : Int))))], [.arr 20 (s5).length], _⟩ _
 refine bR ?_
 refine eX ?_
 refine z0d ?_
 refine zsl (t := 24) rfl fun hb8 => ?_
 try rw [List.length_map] at hb8
 refine cX h rfl ?_ ?_
 intro hc7 h
 have hc7_ := of_decide_eq_true hc7
 refine z0c ?_
 refine cBx ?_
 refine z0d ?_
 refine z0r ?_
 refine cBx ?_
 refine bR ?_
 obtain ⟨x9, hx9, h⟩ := obind h
 refine sS rfl rfl rfl (z27 (z1d (i := s6) Try.underlying62 z2g rfl rfl rfl hx9 rfl)) ?_
 refine sS rfl rfl rfl (z27 (z6j (y := (ofV x9)) Try.underlying20 rfl rfl rfl (by rw [z1x]; rfl))) ?_
 refine eX ?_
 refine z0e ?_
 iterate 2 refine sX ?_
 obtain ⟨x10, hx10, h⟩ := obind h
 refine sS rfl rfl rfl (z03 rfl zyf rfl (wkr .nil) ⟨(z4o (ids_V x9)), trivial⟩ (c_q0g x9 x10 hx10) (ids_V x10)) ?_
 refine sS rfl rfl rfl ((z16 (xs := [(ofV x10)]) Try.underlying62 z2g rfl rfl rfl (by simp only [List.all_cons, List.all_nil, zbm, z44, Bool.and_true, Bool.true_and]; try rfl) (by simp only [List.all_cons, List.all_nil, csz_V, z6r, z1x, z1u]; try rfl) rfl ⟨lbE rfl, lbE rfl⟩ (by simp only [zgl, z6y, List.flatMap_cons, List.flatMap_nil, z1x, z1u]; try rfl)).cast (y := (PV.sl (some 1) 20 1 (List.map ofV ([x10] : (List V))))) rfl rfl) ?_
 obtain ⟨x11, hx11, h⟩ := obind h
 refine sS rfl rfl rfl (z21 Try.underlying62 z2g rfl Try.underlying62 rfl rfl rfl rfl csz_V z8t hx11 rfl) ?_
 refine eX ?_
 refine z0e ?_
 refine sS rfl rfl rfl (z20 (k := s6) (c := 1) rfl rfl rfl (by omega)) ?_
 refine sX (z08 ?_)
 exact ⟨rfl, (x11, (s6 + 1)), h, jN⟩
 intro hc7 h
 refine z1z ?_
 refine cBx ?_
 refine bR ?_
 refine sX ?_
 refine sS rfl rfl rfl ((z1q Try.underlying62 rfl rfl rfl).wk ((Wk.iface Wk.tok).trans (Wk.eq (zda _).symm))) ?_
 refine eX ?_
 obtain rfl := eI h; exact z04 ⟨_, rfl, z0p (y := (ofV (V.list s5))) (Wk.refl _) (ids_V (V.list s5)) ⟨rfl, rfl⟩⟩
 intro hc3 h
 refine bR ?_
 refine sS rfl rfl rfl (z27 (z3o rfl rfl)) ?_
 refine sS rfl rfl rfl (z26 (z35 rfl rfl rfl) Sc.v) ?_
 refine sS rfl rfl rfl (z27 (z35 rfl rfl rfl)) (z08 ?_)
 refine cBx ?_
 refine cX h rfl ?_ ?_
 intro hc12 h
 refine bR ?_
 refine eX ?_
 refine bR ?_
 refine sX ?_
 obtain ⟨x13, hx13, h⟩ := obind h
 refine sS rfl rfl rfl (z03 rfl Z1l rfl (wkr .nil) ⟨(z4o (z0f z19 ((a0).asDict))), trivial⟩ (c_q07 ((a0).asDict) x13 hx13) (z0f z19 x13)) ?_
 refine sS rfl rfl rfl ((z1q Try.underlying64 rfl rfl rfl).wk ((Wk.iface (Wk.refl _)).trans (Wk.eq (zg2 _).symm))) ?_
 refine eX ?_
 obtain rfl := eI h; exact z04 ⟨_, rfl, z0p (y := (ofV (V.dict x13))) (Wk.refl _) (ids_V (V.dict x13)) ⟨rfl, rfl⟩⟩
 intro hc12 h
 refine bR ?_
 refine sS rfl rfl rfl (z27 (z48 rfl rfl)) ?_
 refine sS rfl rfl rfl (z26 (z35 rfl rfl rfl) Sc.v) ?_
 refine sS rfl rfl rfl (z27 (z35 rfl rfl rfl)) (z08 ?_)
 refine cBx ?_
 refine cX h rfl ?_ ?_
 intro hc14 h
 refine bR ?_
 refine eX ?_
 refine z0d (z1y 13 [] [] mo (by kernel_rfl) ?_)
 refine gX ?_
 obtain ⟨x15, hx15, h⟩ := obind h
 refine z1v rfl rfl rfl rfl (fun H hp => z27 (z2d rfl rfl hx15)) ?_
 refine z1v rfl rfl rfl rfl (fun H hp => z27 (zfx zbi (i := 0) rfl rfl rfl)) ?_
 refine z1v rfl rfl rfl rfl (fun H hp => z26 (z6j (y := (z0k x15.cls)) Try.underlying9 rfl rfl rfl rfl) Sc.v) ?_
 refine gX ?_
 refine z1v rfl rfl rfl rfl (fun H hp => z27 (z2d rfl rfl hx15)) ?_
 refine z1v rfl rfl rfl rfl (fun H hp => z27 (zfx zbi (i := 1) rfl rfl rfl)) ?_
 refine z1v rfl rfl rfl rfl (fun H hp => z26 (z6j (y := (I64 x15.ver)) Try.underlying3 rfl rfl rfl rfl) Sc.v) ?_
 refine gX ?_
 refine z1v rfl rfl rfl rfl (fun H hp => z27 (z2d rfl rfl hx15)) ?_
 refine z1v rfl rfl rfl rfl (fun H hp => z27 (zfx zbi (i := 2) rfl rfl rfl)) ?_
 refine z1v rfl rfl rfl rfl (fun H hp => z27 (z6j (y := (PV.sl none 96 2 (List.map ofFld x15.fields))) Try.underlying64 rfl rfl rfl rfl)) ?_
 obtain ⟨x16, hx16, h⟩ := obind h
 refine z1v rfl rfl rfl rfl (fun H hp => z03 rfl Z1l rfl (wkr .nil) ⟨(z4o (z0f z19 x15.fields)), trivial⟩ (c_q07 x15.fields x16 hx16) (z0f z19 x16)) ?_
 refine z23 ?_
 change AO _ _ _ _ _
 refine sS rfl rfl rfl (z1a (cs := [(z0k x15.cls), (I64 x15.ver), (PV.sl none 96 2 (List.map ofFld x16))]) zbi zix rfl rfl rfl rfl) ?_
 refine sX ?_
 refine sS rfl rfl rfl (z1q Try.underlying66 rfl rfl rfl) ?_
 refine eX ?_
 refine zav 0 2 (y := (ofV (V.record x15.cls x15.ver x16))) rfl rfl ((Wk.iface (Wk.pt (x := .agg [(z0k x15.cls), (I64 x15.ver), (PV.sl none 96 2 (List.map ofFld x16))]) (y := zio (Rec.mk x15.cls x15.ver x16)) (wkr (wkr (wkr .nil))))).trans (Wk.eq (ziq (some (Rec.mk x15.cls x15.ver x16))).symm)) ?_
 obtain rfl := eI h; exact z04 ⟨_, rfl, z0p (y := (ofV (V.record x15.cls x15.ver x16))) (Wk.refl _) (ids_V (V.record x15.cls x15.ver x16)) ⟨rfl, rfl⟩⟩
 intro hc14 h
 refine z0c ?_
 refine cBx ?_
 refine bR ?_
 refine sX ?_
 refine eX ?_
 obtain ⟨_, f17, h⟩ := obind h
 obtain rfl := eI h; exact z04 ⟨_, rfl, z0p (y := (ofV a0)) (Wk.oldSc (zy7 f17)) (ids_V a0) ⟨rfl, rfl⟩⟩
theorem C_q07.sound : ∀ (i : C_q07) (r : i.R), z3b C_q07.F i = some r → C_q07.Q i r := by
 refine z42 (Φ := C_q07.F) (Q := C_q07.Q) ?_
 intro g hg i r h
 cases i with
 | k_q07 a0 => exact z92 (fun a0 => g (.k_q07 a0)) (fun a0 r hr => hg (.k_q07 a0) r hr) (fun a0 => g (.k_q0g a0)) (fun a0 r hr => hg (.k_q0g a0) r hr) a0 r h
 | k_q0g a0 => exact zdw (fun a0 => g (.k_q07 a0)) (fun a0 r hr => hg (.k_q07 a0) r hr) (fun a0 => g (.k_q0g a0)) (fun a0 r hr => hg (.k_q0g a0) r hr) a0 r h
theorem Z3g (a0 r : V) (h : zcy a0 = some r) : z0o Try.prog 68 [(PV.old (ofV a0))] (ofV r) := C_q07.sound (.k_q0g a0) r h
noncomputable def zcw (a0 : V) : Option (V × Int) :=
 (znh a0).bind fun x1 =>
 bif (x1.2 != 0) then (
 some (V.nil, x1.2)
 ) else (
 (zcy a0).bind fun x3 =>
 some (x3, 0)
 )
theorem zt9 (a0 : V) (r : (V × Int)) (h : zcw a0 = some r) : z0o Try.prog 40 [(PV.old (ofV a0))] (PV.tup [(ofV r.1), (I64 r.2)]) := by
 unfold zcw at h
 refine z0j Try.func40 rfl Try.ntmps40 Try.results40 rfl (z0q ?_)
 change BW _ _ _ ⟨[(0, (PV.old (ofV a0)))], [], _⟩ _
 refine bR ?_
 refine sX ?_
 refine eX ?_
 refine z0d ?_
 refine bR ?_
 refine sX ?_
 obtain ⟨x1, hx1, h⟩ := obind h
 refine sS rfl rfl rfl (z26 (z03 rfl Z1w rfl (wkr .nil) ⟨(ids_V a0), trivial⟩ (Z07 a0 x1 hx1) (z00 rfl (z00 rfl z05))) (Sc.tup (z8e Sc.v (z8e Sc.v zh0)))) ?_
 iterate 4 refine sX ?_
 refine eX ?_
 refine bR ?_
 refine sX ?_
 refine eX ?_
 refine cX h rfl ?_ ?_
 intro hc2 h
 refine bR ?_
 iterate 2 refine sX ?_
 refine eX ?_
 obtain rfl := eI h; exact z04 ⟨_, rfl, z0p (y := (PV.tup [(ofV V.nil), (I64 x1.2)])) (Wk.tup (.cons (Wk.eq mk_nil.symm) (wkr .nil))) (z00 (ids_V V.nil) (z00 rfl z05)) ⟨rfl, rfl⟩⟩
 intro hc2 h
 refine z0c ?_
 refine cBx ?_
 refine bR ?_
 refine sX ?_
 obtain ⟨x3, hx3, h⟩ := obind h
 refine sS rfl rfl rfl (z03 rfl zyf rfl (wkr .nil) ⟨(z4o (ids_V a0)), trivial⟩ (Z3g a0 x3 hx3) (ids_V x3)) ?_
 refine sX ?_
 refine eX ?_
 obtain rfl := eI h; exact z04 ⟨_, rfl, z0p (y := (PV.tup [(ofV x3), (I64 0)])) (Wk.refl _) (z00 (ids_V x3) (z00 rfl z05)) ⟨rfl, rfl⟩⟩
noncomputable def zq7 (a0 : V) (a1 : (List S_api_Step)) : Option (V × Int) :=
 (zjw a0 a1).bind fun x1 =>
 bif (x1 != 0) then (
 some (V.nil, x1)
 ) else (
 (zq4 a0 a1).bind fun x3 =>
 bif (x3.2 != 0) then (
 some (V.nil, x3.2)
 ) else (
 (zcw x3.1).bind fun x5 =>
 some (x5.1, x5.2)
 )
 )
theorem Z2y (a0 : V) (a1 : (List S_api_Step)) (r : (V × Int)) (h : zq7 a0 a1 = some r) : z0o Try.prog 18 [(PV.old (ofV a0)), (PV.old (PV.sl none 76 3 (List.map z01 a1)))] (PV.tup [(ofV r.1), (I64 r.2)]) := by
 unfold zq7 at h
 refine z0j Try.func18 rfl Try.ntmps18 Try.results18 rfl (z0q ?_)
 change BW _ _ _ ⟨[(0, (PV.old (ofV a0))), (1, (PV.old (PV.sl none 76 3 (List.map z01 a1))))], [], _⟩ _
 refine bR ?_
 refine sX ?_
 refine eX ?_
 refine z0d ?_
 refine bR ?_
 iterate 2 refine sX ?_
 obtain ⟨x1, hx1, h⟩ := obind h
 refine sS rfl rfl rfl (z26 (z03 rfl zyk rfl (wkr (wkr .nil)) ⟨(ids_V a0), ⟨(z0f z07 a1), trivial⟩⟩ (zx3 a0 a1 x1 hx1) rfl) Sc.v) ?_
 refine eX ?_
 refine bR ?_
 refine sX ?_
 refine eX ?_
 refine cX h rfl ?_ ?_
 intro hc2 h
 refine bR ?_
 iterate 2 refine sX ?_
 refine eX ?_
 obtain rfl := eI h; exact z04 ⟨_, rfl, z0p (y := (PV.tup [(ofV V.nil), (I64 x1)])) (Wk.tup (.cons (Wk.eq mk_nil.symm) (wkr .nil))) (z00 (ids_V V.nil) (z00 rfl z05)) ⟨rfl, rfl⟩⟩
 intro hc2 h
 refine z0c ?_
 refine cBx ?_
 refine bR ?_
 iterate 2 refine sX ?_
 obtain ⟨x3, hx3, h⟩ := obind h
 refine sS rfl rfl rfl (z27 (z03 rfl Z4k rfl (wkr (wkr .nil)) ⟨(ids_V a0), ⟨(z0f z07 a1), trivial⟩⟩ (Z2w a0 a1 x3 hx3) (z00 (ids_V x3.1) (z00 rfl z05)))) ?_
 refine sX ?_
 refine sS rfl rfl rfl (z27 (z35 rfl rfl rfl)) ?_
 refine sS rfl rfl rfl (z26 (z35 rfl rfl rfl) Sc.v) ?_
 refine sX ?_
 refine eX ?_
 refine z0d ?_
 refine bR ?_
 refine sX ?_
 refine eX ?_
 refine cX h rfl ?_ ?_
 intro hc4 h
 refine bR ?_
 iterate 2 refine sX ?_
 refine eX ?_
 obtain rfl := eI h; exact z04 ⟨_, rfl, z0p (y := (PV.tup [(ofV V.nil), (I64 x3.2)])) (Wk.tup (.cons (Wk.eq mk_nil.symm) (wkr .nil))) (z00 (ids_V V.nil) (z00 rfl z05)) ⟨rfl, rfl⟩⟩
 intro hc4 h
 refine z0c ?_
 refine cBx ?_
 refine bR ?_
 refine sX ?_
 obtain ⟨x5, hx5, h⟩ := obind h
 refine sS rfl rfl rfl (z03 rfl zuk rfl (wkr .nil) ⟨(z4o (ids_V x3.1)), trivial⟩ (zt9 x3.1 x5 hx5) (z00 (ids_V x5.1) (z00 rfl z05))) ?_
 iterate 3 refine sX ?_
 refine eX ?_
 obtain rfl := eI h; exact z04 ⟨_, rfl, z0p (y := (PV.tup [(ofV x5.1), (I64 x5.2)])) (Wk.refl _) (z00 (ids_V x5.1) (z00 rfl z05)) ⟨rfl, rfl⟩⟩
noncomputable def z75 (g1 : Int → Option Bool) (s3 : Int) (s6 : Bool) : Option Bool :=
 bif s6 then (
 some false
 ) else (
 g1 (IntKind.i64.wrap (s3 + 1))
 )
theorem zpc (g1 : OF ρ → Int → Option Bool) (h_g1 : ∀ y0, CM (fun G => g1 G y0)) (s3 : Int) (s6 : Bool) : CM (fun G : OF ρ => z75 (g1 G) s3 s6) := by
 simp only [z75]
 repeat (first | exact z0h | exact h_g1 _ | refine z10 ?_ ?_ | refine z11 ?_ (fun _ => ?_))
noncomputable def zb7 (g1 : Int → Option Bool) (a0 : Str) (s3 : Int) (s5 : Bool) : Option Bool :=
 bif (!s5) then (
 bif (s3 == 0) then (
 z75 g1 s3 true
 ) else (
 (z8x a0 s3).bind fun x10 =>
 bif (((x10).toNat : Int) != (((95 : UInt8)).toNat : Int)) then (
 (z8x a0 s3).bind fun x12 =>
 bif (decide (((x12).toNat : Int) < (((48 : UInt8)).toNat : Int))) then (
 z75 g1 s3 true
 ) else (
 (z8x a0 s3).bind fun x14 =>
 z75 g1 s3 (decide (((x14).toNat : Int) > (((57 : UInt8)).toNat : Int)))
 )
 ) else (
 z75 g1 s3 false
 )
 )
 ) else (
 z75 g1 s3 false
 )
theorem zpd (g1 : OF ρ → Int → Option Bool) (h_g1 : ∀ y0, CM (fun G => g1 G y0)) (a0 : Str) (s3 : Int) (s5 : Bool) : CM (fun G : OF ρ => zb7 (g1 G) a0 s3 s5) := by
 simp only [zb7]
 repeat (first | exact z0h | exact h_g1 _ | apply zpc | refine z10 ?_ ?_ | refine z11 ?_ (fun _ => ?_) | intro _ | assumption)
noncomputable def z4i (a0 : Str) (g1 : Int → Option Bool) (s3 : Int) : Option Bool :=
 bif (decide (s3 < (((a0).length : Nat) : Int))) then (
 (z8x a0 s3).bind fun x15 =>
 bif (decide (((x15).toNat : Int) ≥ (((97 : UInt8)).toNat : Int))) then (
 (z8x a0 s3).bind fun x17 =>
 zb7 g1 a0 s3 (decide (((x17).toNat : Int) ≤ (((122 : UInt8)).toNat : Int)))
 ) else (
 zb7 g1 a0 s3 false
 )
 ) else (
 some true
 )
theorem zn3 (g1 : OF ρ → Int → Option Bool) (h_g1 : ∀ y0, CM (fun G => g1 G y0)) (a0 : Str) (s3 : Int) : CM (fun G : OF ρ => z4i a0 (g1 G) s3) := by
 simp only [z4i]
 repeat (first | exact z0h | exact h_g1 _ | apply zpd | refine z10 ?_ ?_ | refine z11 ?_ (fun _ => ?_) | intro _ | assumption)
noncomputable def zb6 (a0 : Str) (s3 : Int) : Option Bool :=
 z3b (ι := Int) (ρ := fun _ => Bool) (fun g i => z4i a0 (fun s3 => g s3) i) s3
theorem zck (a0 : Str) (s3 : Int) : zb6 a0 s3 = z4i a0 (zb6 a0) s3 :=
 z1f (ι := Int) (ρ := fun _ => Bool) (Φ := fun g i => z4i a0 (fun s3 => g s3) i) (fun i => zn3 (ι := Int) (ρ := fun _ => Bool) (fun g => (fun s3 => g s3)) (fun _ => z1i) a0 i) s3
noncomputable def zeh (a0 : Str) (s1 : Bool) : Option Bool :=
 bif s1 then (
 some false
 ) else (
 zb6 a0 0
 )
noncomputable def zib (a0 : Str) : Option Bool :=
 bif (decide ((((a0).length : Nat) : Int) < 1)) then (
 zeh a0 true
 ) else (
 zeh a0 (decide ((((a0).length : Nat) : Int) > 32))
 )
theorem zta (a0 : Str) (r : Bool) (h : zib a0 = some r) : z0o Try.prog 88 [(z0k a0)] (BO r) := by
 unfold zib at h
 refine z0j Try.func88 rfl Try.ntmps88 Try.results88 rfl (z0q ?_)
 change BW _ _ _ ⟨[(0, (z0k a0))], [], _⟩ _
 refine bR ?_
 refine eX ?_
 refine z0d ?_
 refine jX (ι := Bool) (fun i => zeh a0 i = some r) (fun i => [(0, (z0k a0)), (12, (BO i))]) (fun i => []) ?_ ?_
 rintro s1 h; replace h : zeh a0 s1 = some r := h; unfold zeh at h
 change BW _ _ _ ⟨[(0, (z0k a0)), (12, (BO s1))], [], _⟩ _
 refine cX h rfl ?_ ?_
 intro hc2 h
 refine bR ?_
 refine eX ?_
 obtain rfl := eI h; exact z04 eK
 intro hc2 h
 refine z0c ?_
 refine cBx ?_
 refine z0d ?_
 refine bR ?_
 refine eX ?_
 refine z0r ?_
 refine cBx ?_
 unfold zb6 at h
 refine lX (σ := Int) (fun i => [(0, (z0k a0)), (3, (I64 i))]) (fun i => []) 0 h ?_ ?_
 exact jN
 rintro g1_f s3 h; replace h : z4i a0 (fun y0 => g1_f y0) s3 = some r := h; unfold z4i at h
 change BW _ _ _ ⟨[(0, (z0k a0)), (3, (I64 s3))], [], _⟩ _
 refine z0d ?_
 refine bR ?_
 iterate 2 refine sX ?_
 refine sS rfl rfl rfl (z4w (s := a0) Try.underlying9 rfl rfl) ?_
 refine eX ?_
 refine cX h rfl ?_ ?_
 intro hc4 h
 refine z0c ?_
 refine cBx ?_
 refine z0d ?_
 refine z0r ?_
 refine cBx ?_
 refine jX (ι := Bool) (fun i => zb7 (fun y0 => g1_f y0) a0 s3 i = some r) (fun i => [(0, (z0k a0)), (3, (I64 s3)), (4, (BO i))]) (fun i => []) ?_ ?_
 rintro s5 h; replace h : zb7 (fun y0 => g1_f y0) a0 s3 s5 = some r := h; unfold zb7 at h
 change BW _ _ _ ⟨[(0, (z0k a0)), (3, (I64 s3)), (4, (BO s5))], [], _⟩ _
 refine jX (ι := Bool) (fun i => z75 (fun y0 => g1_f y0) s3 i = some r) (fun i => [(0, (z0k a0)), (3, (I64 s3)), (52, (BO i))]) (fun i => []) ?_ ?_
 rintro s6 h; replace h : z75 (fun y0 => g1_f y0) s3 s6 = some r := h; unfold z75 at h
 change BW _ _ _ ⟨[(0, (z0k a0)), (3, (I64 s3)), (52, (BO s6))], [], _⟩ _
 refine cX h rfl ?_ ?_
 intro hc7 h
 refine bR ?_
 refine eX ?_
 obtain rfl := eI h; exact z04 eK
 intro hc7 h
 refine z0c ?_
 refine cBx ?_
 refine z0e ?_
 iterate 2 refine sX ?_
 refine sX (z08 ?_)
 exact ⟨rfl, (IntKind.i64.wrap (s3 + 1)), h, jN⟩
 refine z0e ?_
 iterate 3 refine sX ?_
 refine z0n (t := 31) rfl ?_ ?_
 intro hb8; replace h := z0t hb8 h
 iterate 3 refine yX ?_
 refine z0n (t := 34) rfl ?_ ?_
 intro hb9; replace h := z0t hb9 h
 iterate 16 refine nX ?_
 refine yX ?_
 refine sX (z08 ?_)
 exact ⟨rfl, true, h, jN⟩
 intro hb9; replace h := z0u hb9 h
 iterate 2 refine yX ?_
 obtain ⟨x10, hx10, h⟩ := obind h
 refine z1t rfl rfl rfl rfl rfl rfl (z6k (s := a0) Try.underlying9 rfl rfl rfl hx10) ?_
 iterate 2 refine yX ?_
 refine z0n (t := 39) rfl ?_ ?_
 intro hb11; replace h := z0t hb11 h
 iterate 2 refine yX ?_
 obtain ⟨x12, hx12, h⟩ := obind h
 refine z1t rfl rfl rfl rfl rfl rfl (z6k (s := a0) Try.underlying9 rfl rfl rfl hx12) ?_
 iterate 2 refine yX ?_
 refine z0n (t := 44) rfl ?_ ?_
 intro hb13; replace h := z0t hb13 h
 iterate 4 refine nX ?_
 iterate 3 refine yX ?_
 refine sX (z08 ?_)
 exact ⟨rfl, true, h, jN⟩
 intro hb13; replace h := z0u hb13 h
 iterate 2 refine yX ?_
 obtain ⟨x14, hx14, h⟩ := obind h
 refine z1t rfl rfl rfl rfl rfl rfl (z6k (s := a0) Try.underlying9 rfl rfl rfl hx14) ?_
 iterate 4 refine yX ?_
 refine sX (z08 ?_)
 exact ⟨rfl, (decide (((x14).toNat : Int) > (((57 : UInt8)).toNat : Int))), h, jN⟩
 intro hb11; replace h := z0u hb11 h
 iterate 10 refine nX ?_
 iterate 2 refine yX ?_
 refine sX (z08 ?_)
 exact ⟨rfl, false, h, jN⟩
 intro hb8; replace h := z0u hb8 h
 iterate 20 refine nX ?_
 refine sX (z08 ?_)
 exact ⟨rfl, false, h, jN⟩
 refine z0e ?_
 iterate 2 refine sX ?_
 obtain ⟨x15, hx15, h⟩ := obind h
 refine sS rfl rfl rfl (z6k (s := a0) Try.underlying9 rfl rfl rfl hx15) ?_
 iterate 2 refine sX ?_
 refine z0n (t := 23) rfl ?_ ?_
 intro hb16; replace h := z0t hb16 h
 iterate 2 refine yX ?_
 obtain ⟨x17, hx17, h⟩ := obind h
 refine z1t rfl rfl rfl rfl rfl rfl (z6k (s := a0) Try.underlying9 rfl rfl rfl hx17) ?_
 refine yX ?_
 refine sX ?_
 refine sX (z08 ?_)
 exact ⟨rfl, (decide (((x17).toNat : Int) ≤ (((122 : UInt8)).toNat : Int))), h, jN⟩
 intro hb16; replace h := z0u hb16 h
 iterate 4 refine nX ?_
 refine sX ?_
 refine sX (z08 ?_)
 exact ⟨rfl, false, h, jN⟩
 intro hc4 h
 refine z1z ?_
 refine cBx ?_
 refine bR ?_
 refine eX ?_
 obtain rfl := eI h; exact z04 eK
 refine z0e ?_
 refine sX ?_
 refine sS rfl rfl rfl (z4w (s := a0) Try.underlying9 rfl rfl) ?_
 iterate 2 refine sX ?_
 refine z0n (t := 8) rfl ?_ ?_
 intro hb18; replace h := z0t hb18 h
 iterate 3 refine nX ?_
 refine sX (z08 ?_)
 exact ⟨rfl, true, h, jN⟩
 intro hb18; replace h := z0u hb18 h
 refine yX ?_
 refine z1t rfl rfl rfl rfl rfl rfl (z4w (s := a0) Try.underlying9 rfl rfl) ?_
 refine yX ?_
 refine sX (z08 ?_)
 exact ⟨rfl, (decide ((((a0).length : Nat) : Int) > 32)), h, jN⟩
end Go.Proofs.Ythidgpcbnieleaa
