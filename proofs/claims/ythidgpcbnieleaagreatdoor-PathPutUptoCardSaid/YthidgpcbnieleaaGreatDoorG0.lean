/- Pure functions, and that calls answer as they say. -/
import Derived.Test.YthidgpcbnieleaaGreatDoorGS
namespace Go.Proofs.YthidgpcbnieleaaGreatDoor
open Go Aw
set_option linter.unusedVariables false
set_option linter.unusedSimpArgs false
set_option maxRecDepth 20000
set_option maxHeartbeats 2000000
variable {ι : Type} {ρ : ι → Type}
noncomputable def zvu (a0 : Str) (a1 : UInt8) : Option Int :=
 some (ixB a0 a1)
theorem Z1k (a0 : Str) (a1 : UInt8) (r : Int) (h : zvu a0 a1 = some r) : z0l Tryz.prog 120 [(z0k a0), (ofB a1)] (I64 r) := by
 unfold zvu at h
 refine z0c Tryz.func120 rfl Tryz.ntmps120 Tryz.results120 rfl (z0i ?_)
 change BW _ _ _ ⟨[(0, (z0k a0)), (1, (ofB a1))], [], _⟩ _
 refine bR ?_
 refine eX ?_
 refine bR ?_
 iterate 2 refine sX ?_
 refine sS rfl rfl rfl (zvz (s := a0) (c := a1) rfl rfl rfl) ?_
 refine eX ?_
 obtain rfl := eI h; exact z04 eK
noncomputable def zom (a0 : Str) (a1 : UInt8) : Option Int :=
 (zvu a0 a1).bind fun x1 =>
 some x1
theorem zyi (a0 : Str) (a1 : UInt8) (r : Int) (h : zom a0 a1 = some r) : z0l Tryz.prog 103 [(z0k a0), (ofB a1)] (I64 r) := by
 unfold zom at h
 refine z0c Tryz.func103 rfl Tryz.ntmps103 Tryz.results103 rfl (z0i ?_)
 change BW _ _ _ ⟨[(0, (z0k a0)), (1, (ofB a1))], [], _⟩ _
 refine bR ?_
 refine eX ?_
 refine bR ?_
 iterate 2 refine sX ?_
 obtain ⟨x1, hx1, h⟩ := obind h
 refine sS rfl rfl rfl (z05 rfl Z07 rfl (wkr (wkr .nil)) ⟨rfl, ⟨rfl, trivial⟩⟩ (Z1k a0 a1 x1 hx1) rfl) ?_
 refine eX ?_
 obtain rfl := eI h; exact z04 eK
noncomputable def z8k (g1 : Int → Option Str) (a0 : Str) (a1 s1 : Int) (s2 : Bool) : Option Str :=
 bif s2 then (
 g1 (IntKind.i64.wrap (s1 + 1))
 ) else (
 (zhe a0 a1 s1).bind fun x4 =>
 some x4
 )
theorem zni (g1 : OF ρ → Int → Option Str) (h_g1 : ∀ y0, CM (fun G => g1 G y0)) (a0 : Str) (a1 s1 : Int) (s2 : Bool) : CM (fun G : OF ρ => z8k (g1 G) a0 a1 s1 s2) := by
 simp only [z8k]
 repeat (first | exact z0e | exact h_g1 _ | refine z13 ?_ ?_ | refine z14 ?_ (fun _ => ?_))
noncomputable def z5w (a0 : Str) (a1 : Int) (a2 : Str) (g1 : Int → Option Str) (s1 : Int) : Option Str :=
 bif (decide (s1 < (((a0).length : Nat) : Int))) then (
 (z5s a0 s1).bind fun x6 =>
 (zom a2 x6).bind fun x7 =>
 z8k g1 a0 a1 s1 (decide (x7 ≥ 0))
 ) else (
 z8k g1 a0 a1 s1 false
 )
theorem zla (g1 : OF ρ → Int → Option Str) (h_g1 : ∀ y0, CM (fun G => g1 G y0)) (a0 : Str) (a1 : Int) (a2 : Str) (s1 : Int) : CM (fun G : OF ρ => z5w a0 a1 a2 (g1 G) s1) := by
 simp only [z5w]
 repeat (first | exact z0e | exact h_g1 _ | apply zni | refine z13 ?_ ?_ | refine z14 ?_ (fun _ => ?_) | intro _ | assumption)
noncomputable def zfr (a0 : Str) (a1 : Int) (a2 : Str) (s1 : Int) : Option Str :=
 z3r (ι := Int) (ρ := fun _ => Str) (fun g i => z5w a0 a1 a2 (fun s1 => g s1) i) s1
theorem zfq (a0 : Str) (a1 : Int) (a2 : Str) (s1 : Int) : zfr a0 a1 a2 s1 = z5w a0 a1 a2 (zfr a0 a1 a2) s1 :=
 z1f (ι := Int) (ρ := fun _ => Str) (Φ := fun g i => z5w a0 a1 a2 (fun s1 => g s1) i) (fun i => zla (ι := Int) (ρ := fun _ => Str) (fun g => (fun s1 => g s1)) (fun _ => z1h) a0 a1 a2 i) s1
noncomputable def zbr (a0 : Str) (a1 : Int) (a2 : Str) : Option Str :=
 zfr a0 a1 a2 a1
theorem zva (a0 : Str) (a1 : Int) (a2 r : Str) (h : zbr a0 a1 a2 = some r) : z0l Tryz.prog 74 [(z0k a0), (I64 a1), (z0k a2)] (z0k r) := by
 unfold zbr at h
 refine z0c Tryz.func74 rfl Tryz.ntmps74 Tryz.results74 rfl (z0i ?_)
 change BW _ _ _ ⟨[(0, (z0k a0)), (1, (I64 a1)), (2, (z0k a2))], [], _⟩ _
 refine bR ?_
 refine eX ?_
 refine bR ?_
 refine sX ?_
 refine eX ?_
 refine z09 ?_
 refine z0j ?_
 refine cBx ?_
 unfold zfr at h
 refine lX (σ := Int) (fun i => [(0, (z0k a0)), (1, (I64 a1)), (2, (z0k a2)), (7, (I64 i))]) (fun i => []) a1 h ?_ ?_
 exact jN
 rintro g1_f s1 h; replace h : z5w a0 a1 a2 (fun y0 => g1_f y0) s1 = some r := h; unfold z5w at h
 change BW _ _ _ ⟨[(0, (z0k a0)), (1, (I64 a1)), (2, (z0k a2)), (7, (I64 s1))], [], _⟩ _
 refine z09 ?_
 refine jX (ι := Bool) (fun i => z8k (fun y0 => g1_f y0) a0 a1 s1 i = some r) (fun i => [(0, (z0k a0)), (1, (I64 a1)), (2, (z0k a2)), (7, (I64 s1)), (20, (BO i))]) (fun i => []) ?_ ?_
 rintro s2 h; replace h : z8k (fun y0 => g1_f y0) a0 a1 s1 s2 = some r := h; unfold z8k at h
 change BW _ _ _ ⟨[(0, (z0k a0)), (1, (I64 a1)), (2, (z0k a2)), (7, (I64 s1)), (20, (BO s2))], [], _⟩ _
 refine cX h rfl ?_ ?_
 intro hc3 h
 refine z08 ?_
 refine cBx ?_
 refine z0j ?_
 refine cBx ?_
 refine z0f ?_
 iterate 2 refine sX ?_
 refine sX (z0b ?_)
 exact ⟨rfl, (IntKind.i64.wrap (s1 + 1)), h, jN⟩
 intro hc3 h
 refine z2b ?_
 refine cBx ?_
 refine bR ?_
 iterate 3 refine sX ?_
 obtain ⟨x4, hx4, h⟩ := obind h
 refine sS rfl rfl rfl (zs5 (s := a0) (l := a1) (h := s1) Tryz.underlying9 rfl rfl rfl rfl rfl rfl hx4) ?_
 refine eX ?_
 obtain rfl := eI h; exact z04 eK
 refine z0f ?_
 iterate 2 refine sX ?_
 refine sS rfl rfl rfl (z42 (s := a0) Tryz.underlying9 rfl rfl) ?_
 iterate 2 refine sX ?_
 refine z0p (t := 13) rfl ?_ ?_
 intro hb5; replace h := z0r hb5 h
 iterate 3 refine yX ?_
 obtain ⟨x6, hx6, h⟩ := obind h
 refine z1i rfl rfl rfl rfl rfl rfl (z67 (s := a0) Tryz.underlying9 rfl rfl rfl hx6) ?_
 obtain ⟨x7, hx7, h⟩ := obind h
 refine z1i rfl rfl rfl rfl rfl rfl (z05 rfl zun rfl (wkr (wkr .nil)) ⟨rfl, ⟨rfl, trivial⟩⟩ (zyi a2 x6 x7 hx7) rfl) ?_
 refine yX ?_
 refine sX (z0b ?_)
 exact ⟨rfl, (decide (x7 ≥ 0)), h, jN⟩
 intro hb5; replace h := z0s hb5 h
 iterate 6 refine nX ?_
 refine sX (z0b ?_)
 exact ⟨rfl, false, h, jN⟩
noncomputable def zi4 (a0 : Str) : Option Bool :=
 bif (!(a0 == ([] : Str))) then (
 bif (decide ((((a0).length : Nat) : Int) ≤ 32)) then (
 ((a0)[0]?).bind fun x3 =>
 (zom ([97, 98, 99, 100, 101, 102, 103, 104, 105, 106, 107, 108, 109, 110, 111, 112, 113, 114, 115, 116, 117, 118, 119, 120, 121, 122] : Str) x3).bind fun x4 =>
 bif (decide (x4 ≥ 0)) then (
 (zbr a0 0 ([97, 98, 99, 100, 101, 102, 103, 104, 105, 106, 107, 108, 109, 110, 111, 112, 113, 114, 115, 116, 117, 118, 119, 120, 121, 122, 48, 49, 50, 51, 52, 53, 54, 55, 56, 57, 95] : Str)).bind fun x6 =>
 some (x6 == a0)
 ) else (
 some false
 )
 ) else (
 some false
 )
 ) else (
 some false
 )
theorem zya (a0 : Str) (r : Bool) (h : zi4 a0 = some r) : z0l Tryz.prog 76 [(z0k a0)] (BO r) := by
 unfold zi4 at h
 refine z0c Tryz.func76 rfl Tryz.ntmps76 Tryz.results76 rfl (z0i ?_)
 change BW _ _ _ ⟨[(0, (z0k a0))], [], _⟩ _
 refine bR ?_
 refine eX ?_
 refine bR ?_
 refine sX ?_
 refine sS rfl rfl rfl ((z2e (a := a0) (b := ([] : Str)) rfl rfl rfl rfl).cast (y := (BO ((!(a0 == ([] : Str)))))) rfl rfl) ?_
 refine sX ?_
 refine z0p (t := 5) rfl ?_ ?_
 intro hb1; replace h := z0r hb1 h
 refine yX ?_
 refine z1i rfl rfl rfl rfl rfl rfl (z42 (s := a0) Tryz.underlying9 rfl rfl) ?_
 refine yX ?_
 iterate 2 refine sX ?_
 refine z0p (t := 10) rfl ?_ ?_
 intro hb2; replace h := z0r hb2 h
 refine yX ?_
 obtain ⟨x3, hx3, h⟩ := obind h
 refine z1i rfl rfl rfl rfl rfl rfl (z8z (s := a0) (i := 0) Tryz.underlying9 rfl rfl rfl hx3) ?_
 obtain ⟨x4, hx4, h⟩ := obind h
 refine z1i rfl rfl rfl rfl rfl rfl (z05 rfl zun rfl (wkr (wkr .nil)) ⟨rfl, ⟨rfl, trivial⟩⟩ (zyi ([97, 98, 99, 100, 101, 102, 103, 104, 105, 106, 107, 108, 109, 110, 111, 112, 113, 114, 115, 116, 117, 118, 119, 120, 121, 122] : Str) x3 x4 hx4) rfl) ?_
 refine yX ?_
 iterate 2 refine sX ?_
 refine z0p (t := 16) rfl ?_ ?_
 intro hb5; replace h := z0r hb5 h
 refine yX ?_
 obtain ⟨x6, hx6, h⟩ := obind h
 refine z1i rfl rfl rfl rfl rfl rfl (z05 rfl zwu rfl (wkr (wkr (wkr .nil))) ⟨rfl, ⟨rfl, ⟨rfl, trivial⟩⟩⟩ (zva a0 0 ([97, 98, 99, 100, 101, 102, 103, 104, 105, 106, 107, 108, 109, 110, 111, 112, 113, 114, 115, 116, 117, 118, 119, 120, 121, 122, 48, 49, 50, 51, 52, 53, 54, 55, 56, 57, 95] : Str) x6 hx6) rfl) ?_
 refine yX ?_
 refine z1i rfl rfl rfl rfl rfl rfl ((z2e (a := x6) (b := a0) rfl rfl rfl rfl).cast (y := (BO ((x6 == a0)))) rfl rfl) ?_
 refine sX ?_
 refine eX ?_
 obtain rfl := eI h; exact z04 eK
 intro hb5; replace h := z0s hb5 h
 iterate 4 refine nX ?_
 refine sX ?_
 refine eX ?_
 obtain rfl := eI h; exact z04 eK
 intro hb2; replace h := z0s hb2 h
 iterate 4 refine nX ?_
 iterate 2 refine sX ?_
 iterate 4 refine nX ?_
 refine sX ?_
 refine eX ?_
 obtain rfl := eI h; exact z04 eK
 intro hb1; replace h := z0s hb1 h
 iterate 3 refine nX ?_
 iterate 2 refine sX ?_
 iterate 4 refine nX ?_
 iterate 2 refine sX ?_
 iterate 4 refine nX ?_
 refine sX ?_
 refine eX ?_
 obtain rfl := eI h; exact z04 eK
noncomputable def z6n (a1 : Int) (x3 : Str) (s5 : Bool) : Option (S_api_Step × Int × Int × Int) :=
 bif s5 then (
 some ((S_api_Step.mk [] false 0), 0, a1, 3)
 ) else (
 (zxh x3).bind fun x7 =>
 bif (decide (x7 ≥ 4096)) then (
 some ((S_api_Step.mk [] false 0), 0, a1, 1)
 ) else (
 some ((S_api_Step.mk [] true x7), (IntKind.i64.wrap ((IntKind.i64.wrap ((IntKind.i64.wrap (a1 + 1)) + (((x3).length : Nat) : Int))) + 1)), 0, 0)
 )
 )
noncomputable def z8l (s15 : Int) (x16 : Str) (s17 : Bool) : Option (S_api_Step × Int × Int × Int) :=
 bif s17 then (
 some ((S_api_Step.mk [] false 0), 0, s15, 4)
 ) else (
 bif (x16 == ([] : Str)) then (
 some ((S_api_Step.mk [] false 0), 0, s15, 3)
 ) else (
 (zi4 x16).bind fun x20 =>
 bif (!x20) then (
 some ((S_api_Step.mk [] false 0), 0, s15, 8)
 ) else (
 some ((S_api_Step.mk x16 false 0), (IntKind.i64.wrap (s15 + (((x16).length : Nat) : Int))), 0, 0)
 )
 )
 )
noncomputable def zfs (a0 : Str) (s15 : Int) : Option (S_api_Step × Int × Int × Int) :=
 (zbr a0 s15 ([97, 98, 99, 100, 101, 102, 103, 104, 105, 106, 107, 108, 109, 110, 111, 112, 113, 114, 115, 116, 117, 118, 119, 120, 121, 122, 48, 49, 50, 51, 52, 53, 54, 55, 56, 57, 95] : Str)).bind fun x16 =>
 bif (x16 == ([] : Str)) then (
 z8l s15 x16 (s15 == (((a0).length : Nat) : Int))
 ) else (
 z8l s15 x16 false
 )
noncomputable def zeh (a0 : Str) (a1 : Int) (a2 : Bool) : Option (S_api_Step × Int × Int × Int) :=
 (z5s a0 a1).bind fun x1 =>
 bif (((x1).toNat : Int) == (((91 : UInt8)).toNat : Int)) then (
 (zbr a0 (IntKind.i64.wrap (a1 + 1)) ([48, 49, 50, 51, 52, 53, 54, 55, 56, 57] : Str)).bind fun x3 =>
 bif ((IntKind.i64.wrap ((IntKind.i64.wrap (a1 + 1)) + (((x3).length : Nat) : Int))) == (((a0).length : Nat) : Int)) then (
 some ((S_api_Step.mk [] false 0), 0, (IntKind.i64.wrap ((IntKind.i64.wrap (a1 + 1)) + (((x3).length : Nat) : Int))), 4)
 ) else (
 bif (x3 == ([] : Str)) then (
 z6n a1 x3 true
 ) else (
 ((x3)[0]?).bind fun x10 =>
 bif (((x10).toNat : Int) == (((48 : UInt8)).toNat : Int)) then (
 bif (!(x3 == ([48] : Str))) then (
 z6n a1 x3 true
 ) else (
 (z5s a0 (IntKind.i64.wrap ((IntKind.i64.wrap (a1 + 1)) + (((x3).length : Nat) : Int)))).bind fun x13 =>
 z6n a1 x3 (((x13).toNat : Int) != (((93 : UInt8)).toNat : Int))
 )
 ) else (
 (z5s a0 (IntKind.i64.wrap ((IntKind.i64.wrap (a1 + 1)) + (((x3).length : Nat) : Int)))).bind fun x14 =>
 z6n a1 x3 (((x14).toNat : Int) != (((93 : UInt8)).toNat : Int))
 )
 )
 )
 ) else (
 bif a2 then (
 zfs a0 (IntKind.i64.wrap (a1 + 1))
 ) else (
 zfs a0 a1
 )
 )
theorem Z0t (a0 : Str) (a1 : Int) (a2 : Bool) (r : (S_api_Step × Int × Int × Int)) (h : zeh a0 a1 a2 = some r) : z0l Tryz.prog 43 [(z0k a0), (I64 a1), (BO a2)] (PV.tup [(z02 r.1), (I64 r.2.1), (I64 r.2.2.1), (I64 r.2.2.2)]) := by
 unfold zeh at h
 refine z0c Tryz.func43 rfl Tryz.ntmps43 Tryz.results43 rfl (z0i ?_)
 change BW _ _ _ ⟨[(0, (z0k a0)), (1, (I64 a1)), (2, (BO a2))], [], _⟩ _
 refine bR ?_
 refine sS rfl rfl rfl (z28 z19 rfl) ?_
 iterate 2 refine sX ?_
 refine eX ?_
 refine bR ?_
 refine sS rfl rfl rfl (z1k (cs := [(z0k []), (BO false), (I64 0)]) zcl z19 rfl rfl rfl rfl) ?_
 refine sS rfl rfl rfl (z28 z19 rfl) ?_
 refine z1l rfl rfl (z1b z19 rfl rfl rfl rfl rfl rfl (lbE rfl) rfl) ?_
 refine z0b ?_
 refine cBx ?_
 refine z09 ?_
 refine bR ?_
 iterate 2 refine sX ?_
 obtain ⟨x1, hx1, h⟩ := obind h
 refine sS rfl rfl rfl (z67 (s := a0) Tryz.underlying9 rfl rfl rfl hx1) ?_
 refine eX ?_
 refine cX h rfl ?_ ?_
 intro hc2 h
 refine bR ?_
 iterate 3 refine sX ?_
 obtain ⟨x3, hx3, h⟩ := obind h
 refine sS rfl rfl rfl (z05 rfl zwu rfl (wkr (wkr (wkr .nil))) ⟨rfl, ⟨rfl, ⟨rfl, trivial⟩⟩⟩ (zva a0 (IntKind.i64.wrap (a1 + 1)) ([48, 49, 50, 51, 52, 53, 54, 55, 56, 57] : Str) x3 hx3) rfl) ?_
 refine eX ?_
 refine bR ?_
 iterate 3 refine sX ?_
 refine sS rfl rfl rfl (z42 (s := x3) Tryz.underlying9 rfl rfl) ?_
 refine sX ?_
 refine eX ?_
 refine z09 ?_
 refine z0j ?_
 refine cBx ?_
 refine bR ?_
 iterate 2 refine sX ?_
 refine sS rfl rfl rfl (z42 (s := a0) Tryz.underlying9 rfl rfl) ?_
 refine sX ?_
 refine eX ?_
 refine cX h rfl ?_ ?_
 intro hc4 h
 refine bR ?_
 iterate 2 refine sX ?_
 refine z1l rfl rfl (z1b z19 rfl rfl rfl rfl rfl rfl (lbE rfl) rfl) ?_
 iterate 2 refine sX ?_
 refine eX ?_
 obtain rfl := eI h; exact z04 ⟨_, rfl, z0n (y := (PV.tup [(z02 (S_api_Step.mk [] false 0)), (I64 0), (I64 ((IntKind.i64.wrap ((IntKind.i64.wrap (a1 + 1)) + (((x3).length : Nat) : Int))))), (I64 4)])) (Wk.refl _) (z00 (z01 (S_api_Step.mk [] false 0)) (z00 rfl (z00 rfl (z00 rfl z03)))) ⟨rfl, rfl⟩⟩
 intro hc4 h
 refine jX (ι := Bool) (fun i => z6n a1 x3 i = some r) (fun i => [(1, (I64 a1)), (6, (PV.rf 0 0)), (10, (PV.rf 1 0)), (11, (z0k x3)), (12, (I64 ((IntKind.i64.wrap ((IntKind.i64.wrap (a1 + 1)) + (((x3).length : Nat) : Int)))))), (37, (BO i))]) (fun i => [.box 83 [(z0k []), (BO false), (I64 0)], .box 83 [(z0k []), (BO false), (I64 0)]]) ?_ ?_
 rintro s5 h; replace h : z6n a1 x3 s5 = some r := h; unfold z6n at h
 change BW _ _ _ ⟨[(1, (I64 a1)), (6, (PV.rf 0 0)), (10, (PV.rf 1 0)), (11, (z0k x3)), (12, (I64 ((IntKind.i64.wrap ((IntKind.i64.wrap (a1 + 1)) + (((x3).length : Nat) : Int)))))), (37, (BO s5))], [.box 83 [(z0k []), (BO false), (I64 0)], .box 83 [(z0k []), (BO false), (I64 0)]], _⟩ _
 refine cX h rfl ?_ ?_
 intro hc6 h
 refine bR ?_
 iterate 2 refine sX ?_
 refine z1l rfl rfl (z1b z19 rfl rfl rfl rfl rfl rfl (lbE rfl) rfl) ?_
 iterate 2 refine sX ?_
 refine eX ?_
 obtain rfl := eI h; exact z04 ⟨_, rfl, z0n (y := (PV.tup [(z02 (S_api_Step.mk [] false 0)), (I64 0), (I64 a1), (I64 3)])) (Wk.refl _) (z00 (z01 (S_api_Step.mk [] false 0)) (z00 rfl (z00 rfl (z00 rfl z03)))) ⟨rfl, rfl⟩⟩
 intro hc6 h
 refine z08 ?_
 refine cBx ?_
 refine bR ?_
 refine sX ?_
 obtain ⟨x7, hx7, h⟩ := obind h
 refine sS rfl rfl rfl (z05 rfl Z2a rfl (wkr .nil) ⟨rfl, trivial⟩ (zyl x3 x7 hx7) rfl) ?_
 iterate 4 refine sX ?_
 refine eX ?_
 refine z09 ?_
 refine bR ?_
 refine sX ?_
 refine sS rfl rfl rfl (zrt Tryz.underlying92 rfl rfl) ?_
 refine sX ?_
 iterate 2 refine yX ?_
 refine eX ?_
 refine cX h rfl ?_ ?_
 intro hc8 h
 refine bR ?_
 iterate 2 refine sX ?_
 refine z1l rfl rfl (z1b z19 rfl rfl rfl rfl rfl rfl (lbE rfl) rfl) ?_
 iterate 2 refine sX ?_
 refine eX ?_
 obtain rfl := eI h; exact z04 ⟨_, rfl, z0n (y := (PV.tup [(z02 (S_api_Step.mk [] false 0)), (I64 0), (I64 a1), (I64 1)])) (Wk.refl _) (z00 (z01 (S_api_Step.mk [] false 0)) (z00 rfl (z00 rfl (z00 rfl z03)))) ⟨rfl, rfl⟩⟩
 intro hc8 h
 refine z08 ?_
 refine cBx ?_
 refine bR ?_
 refine sX ?_
 refine sS rfl rfl rfl (z1k (cs := [(z0k []), (BO true), (I64 x7)]) zcl z19 rfl rfl rfl rfl) ?_
 iterate 2 refine sX ?_
 refine z1l rfl rfl (z1b z19 rfl rfl rfl rfl rfl rfl (lbE rfl) rfl) ?_
 iterate 2 refine sX ?_
 refine eX ?_
 obtain rfl := eI h; exact z04 ⟨_, rfl, z0n (y := (PV.tup [(z02 (S_api_Step.mk [] true x7)), (I64 ((IntKind.i64.wrap ((IntKind.i64.wrap ((IntKind.i64.wrap (a1 + 1)) + (((x3).length : Nat) : Int))) + 1)))), (I64 0), (I64 0)])) (Wk.refl _) (z00 (z01 (S_api_Step.mk [] true x7)) (z00 rfl (z00 rfl (z00 rfl z03)))) ⟨rfl, rfl⟩⟩
 refine z0f ?_
 refine sX ?_
 refine sS rfl rfl rfl ((z2e (a := x3) (b := ([] : Str)) rfl rfl rfl rfl).cast (y := (BO ((x3 == ([] : Str))))) rfl rfl) ?_
 refine sX ?_
 refine z0p (t := 40) rfl ?_ ?_
 intro hb9; replace h := z0r hb9 h
 iterate 7 refine nX ?_
 iterate 2 refine sX ?_
 iterate 4 refine nX ?_
 refine sX ?_
 refine sX (z0b ?_)
 exact ⟨rfl, true, h, jN⟩
 intro hb9; replace h := z0s hb9 h
 refine yX ?_
 obtain ⟨x10, hx10, h⟩ := obind h
 refine z1i rfl rfl rfl rfl rfl rfl (z8z (s := x3) (i := 0) Tryz.underlying9 rfl rfl rfl hx10) ?_
 iterate 2 refine yX ?_
 refine z0p (t := 44) rfl ?_ ?_
 intro hb11; replace h := z0r hb11 h
 refine yX ?_
 refine z1i rfl rfl rfl rfl rfl rfl ((z2e (a := x3) (b := ([48] : Str)) rfl rfl rfl rfl).cast (y := (BO ((!(x3 == ([48] : Str)))))) rfl rfl) ?_
 refine yX ?_
 iterate 2 refine sX ?_
 refine z0p (t := 49) rfl ?_ ?_
 intro hb12; replace h := z0r hb12 h
 iterate 4 refine nX ?_
 refine sX ?_
 refine sX (z0b ?_)
 exact ⟨rfl, true, h, jN⟩
 intro hb12; replace h := z0s hb12 h
 iterate 2 refine yX ?_
 obtain ⟨x13, hx13, h⟩ := obind h
 refine z1i rfl rfl rfl rfl rfl rfl (z67 (s := a0) Tryz.underlying9 rfl rfl rfl hx13) ?_
 refine yX ?_
 refine sX ?_
 refine sX (z0b ?_)
 exact ⟨rfl, (((x13).toNat : Int) != (((93 : UInt8)).toNat : Int)), h, jN⟩
 intro hb11; replace h := z0s hb11 h
 iterate 2 refine nX ?_
 refine yX ?_
 iterate 2 refine sX ?_
 iterate 2 refine yX ?_
 obtain ⟨x14, hx14, h⟩ := obind h
 refine z1i rfl rfl rfl rfl rfl rfl (z67 (s := a0) Tryz.underlying9 rfl rfl rfl hx14) ?_
 refine yX ?_
 refine sX ?_
 refine sX (z0b ?_)
 exact ⟨rfl, (((x14).toNat : Int) != (((93 : UInt8)).toNat : Int)), h, jN⟩
 intro hc2 h
 refine z08 ?_
 refine cBx ?_
 refine jX (ι := Int) (fun i => zfs a0 i = some r) (fun i => [(0, (z0k a0)), (1, (I64 i)), (6, (PV.rf 0 0)), (10, (PV.rf 1 0))]) (fun i => [.box 83 [(z0k []), (BO false), (I64 0)], .box 83 [(z0k []), (BO false), (I64 0)]]) ?_ ?_
 rintro s15 h; replace h : zfs a0 s15 = some r := h; unfold zfs at h
 change BW _ _ _ ⟨[(0, (z0k a0)), (1, (I64 s15)), (6, (PV.rf 0 0)), (10, (PV.rf 1 0))], [.box 83 [(z0k []), (BO false), (I64 0)], .box 83 [(z0k []), (BO false), (I64 0)]], _⟩ _
 refine bR ?_
 iterate 2 refine sX ?_
 obtain ⟨x16, hx16, h⟩ := obind h
 refine sS rfl rfl rfl (z05 rfl zwu rfl (wkr (wkr (wkr .nil))) ⟨rfl, ⟨rfl, ⟨rfl, trivial⟩⟩⟩ (zva a0 s15 ([97, 98, 99, 100, 101, 102, 103, 104, 105, 106, 107, 108, 109, 110, 111, 112, 113, 114, 115, 116, 117, 118, 119, 120, 121, 122, 48, 49, 50, 51, 52, 53, 54, 55, 56, 57, 95] : Str) x16 hx16) rfl) ?_
 refine eX ?_
 refine z09 ?_
 refine z0j ?_
 refine cBx ?_
 refine jX (ι := Bool) (fun i => z8l s15 x16 i = some r) (fun i => [(1, (I64 s15)), (6, (PV.rf 0 0)), (10, (PV.rf 1 0)), (15, (z0k x16)), (80, (BO i))]) (fun i => [.box 83 [(z0k []), (BO false), (I64 0)], .box 83 [(z0k []), (BO false), (I64 0)]]) ?_ ?_
 rintro s17 h; replace h : z8l s15 x16 s17 = some r := h; unfold z8l at h
 change BW _ _ _ ⟨[(1, (I64 s15)), (6, (PV.rf 0 0)), (10, (PV.rf 1 0)), (15, (z0k x16)), (80, (BO s17))], [.box 83 [(z0k []), (BO false), (I64 0)], .box 83 [(z0k []), (BO false), (I64 0)]], _⟩ _
 refine cX h rfl ?_ ?_
 intro hc18 h
 refine bR ?_
 iterate 2 refine sX ?_
 refine z1l rfl rfl (z1b z19 rfl rfl rfl rfl rfl rfl (lbE rfl) rfl) ?_
 iterate 2 refine sX ?_
 refine eX ?_
 obtain rfl := eI h; exact z04 ⟨_, rfl, z0n (y := (PV.tup [(z02 (S_api_Step.mk [] false 0)), (I64 0), (I64 s15), (I64 4)])) (Wk.refl _) (z00 (z01 (S_api_Step.mk [] false 0)) (z00 rfl (z00 rfl (z00 rfl z03)))) ⟨rfl, rfl⟩⟩
 intro hc18 h
 refine bR ?_
 refine sX ?_
 refine sS rfl rfl rfl ((z2e (a := x16) (b := ([] : Str)) rfl rfl rfl rfl).cast (y := (BO ((x16 == ([] : Str))))) rfl rfl) ?_
 refine eX ?_
 refine cX h rfl ?_ ?_
 intro hc19 h
 refine bR ?_
 iterate 2 refine sX ?_
 refine z1l rfl rfl (z1b z19 rfl rfl rfl rfl rfl rfl (lbE rfl) rfl) ?_
 iterate 2 refine sX ?_
 refine eX ?_
 obtain rfl := eI h; exact z04 ⟨_, rfl, z0n (y := (PV.tup [(z02 (S_api_Step.mk [] false 0)), (I64 0), (I64 s15), (I64 3)])) (Wk.refl _) (z00 (z01 (S_api_Step.mk [] false 0)) (z00 rfl (z00 rfl (z00 rfl z03)))) ⟨rfl, rfl⟩⟩
 intro hc19 h
 refine bR ?_
 refine sX ?_
 obtain ⟨x20, hx20, h⟩ := obind h
 refine sS rfl rfl rfl (z05 rfl Z00 rfl (wkr .nil) ⟨rfl, trivial⟩ (zya x16 x20 hx20) rfl) ?_
 refine sX ?_
 refine eX ?_
 refine cX h rfl ?_ ?_
 intro hc21 h
 refine bR ?_
 iterate 2 refine sX ?_
 refine z1l rfl rfl (z1b z19 rfl rfl rfl rfl rfl rfl (lbE rfl) rfl) ?_
 iterate 2 refine sX ?_
 refine eX ?_
 obtain rfl := eI h; exact z04 ⟨_, rfl, z0n (y := (PV.tup [(z02 (S_api_Step.mk [] false 0)), (I64 0), (I64 s15), (I64 8)])) (Wk.refl _) (z00 (z01 (S_api_Step.mk [] false 0)) (z00 rfl (z00 rfl (z00 rfl z03)))) ⟨rfl, rfl⟩⟩
 intro hc21 h
 refine z08 ?_
 refine cBx ?_
 refine bR ?_
 refine sX ?_
 refine sS rfl rfl rfl (z1k (cs := [(z0k x16), (BO false), (I64 0)]) zcl z19 rfl rfl rfl rfl) ?_
 iterate 2 refine sX ?_
 refine sS rfl rfl rfl (z42 (s := x16) Tryz.underlying9 rfl rfl) ?_
 refine sX ?_
 refine z1l rfl rfl (z1b z19 rfl rfl rfl rfl rfl rfl (lbE rfl) rfl) ?_
 iterate 2 refine sX ?_
 refine eX ?_
 obtain rfl := eI h; exact z04 ⟨_, rfl, z0n (y := (PV.tup [(z02 (S_api_Step.mk x16 false 0)), (I64 ((IntKind.i64.wrap (s15 + (((x16).length : Nat) : Int))))), (I64 0), (I64 0)])) (Wk.refl _) (z00 (z01 (S_api_Step.mk x16 false 0)) (z00 rfl (z00 rfl (z00 rfl z03)))) ⟨rfl, rfl⟩⟩
 refine z0f ?_
 refine sX ?_
 refine sS rfl rfl rfl ((z2e (a := x16) (b := ([] : Str)) rfl rfl rfl rfl).cast (y := (BO ((x16 == ([] : Str))))) rfl rfl) ?_
 refine sX ?_
 refine z0p (t := 83) rfl ?_ ?_
 intro hb22; replace h := z0r hb22 h
 iterate 2 refine yX ?_
 refine z1i rfl rfl rfl rfl rfl rfl (z42 (s := a0) Tryz.underlying9 rfl rfl) ?_
 refine yX ?_
 refine sX ?_
 refine sX (z0b ?_)
 exact ⟨rfl, (s15 == (((a0).length : Nat) : Int)), h, jN⟩
 intro hb22; replace h := z0s hb22 h
 iterate 4 refine nX ?_
 refine sX ?_
 refine sX (z0b ?_)
 exact ⟨rfl, false, h, jN⟩
 refine bR ?_
 refine eX ?_
 refine cX h rfl ?_ ?_
 intro hc23 h
 refine z0f ?_
 iterate 2 refine sX ?_
 refine sX (z0b ?_)
 exact ⟨rfl, (IntKind.i64.wrap (a1 + 1)), h, jN⟩
 intro hc23 h
 refine z08 ?_
 exact ⟨rfl, a1, h, jN⟩
noncomputable def za9 (g1 : (List S_api_Step) → Int → Option ((List S_api_Step) × Int × Int)) (a0 : Str) (s1 : (List S_api_Step)) (s2 : Int) (s4 : Bool) : Option ((List S_api_Step) × Int × Int) :=
 bif s4 then (
 some ([], s2, 3)
 ) else (
 bif (decide ((((s1).length : Nat) : Int) ≥ 64)) then (
 some ([], s2, 2)
 ) else (
 (zeh a0 s2 (decide ((((s1).length : Nat) : Int) > 0))).bind fun x7 =>
 bif (x7.2.2.2 != 0) then (
 some ([], x7.2.2.1, x7.2.2.2)
 ) else (
 (zal 32 s1 ([(x7.1)] : (List S_api_Step))).bind fun x9 =>
 g1 x9 x7.2.1
 )
 )
 )
theorem znj (g1 : OF ρ → (List S_api_Step) → Int → Option ((List S_api_Step) × Int × Int)) (h_g1 : ∀ y0 y1, CM (fun G => g1 G y0 y1)) (a0 : Str) (s1 : (List S_api_Step)) (s2 : Int) (s4 : Bool) : CM (fun G : OF ρ => za9 (g1 G) a0 s1 s2 s4) := by
 simp only [za9]
 repeat (first | exact z0e | exact h_g1 _ _ | refine z13 ?_ ?_ | refine z14 ?_ (fun _ => ?_))
noncomputable def z4x (a0 : Str) (g1 : (List S_api_Step) → Int → Option ((List S_api_Step) × Int × Int)) (s1 : (List S_api_Step)) (s2 : Int) : Option ((List S_api_Step) × Int × Int) :=
 bif (decide (s2 < (((a0).length : Nat) : Int))) then (
 bif (decide ((((s1).length : Nat) : Int) > 0)) then (
 (z5s a0 s2).bind fun x11 =>
 bif (((x11).toNat : Int) != (((46 : UInt8)).toNat : Int)) then (
 (z5s a0 s2).bind fun x13 =>
 za9 g1 a0 s1 s2 (((x13).toNat : Int) != (((91 : UInt8)).toNat : Int))
 ) else (
 za9 g1 a0 s1 s2 false
 )
 ) else (
 za9 g1 a0 s1 s2 false
 )
 ) else (
 some (s1, 0, 0)
 )
theorem zlb (g1 : OF ρ → (List S_api_Step) → Int → Option ((List S_api_Step) × Int × Int)) (h_g1 : ∀ y0 y1, CM (fun G => g1 G y0 y1)) (a0 : Str) (s1 : (List S_api_Step)) (s2 : Int) : CM (fun G : OF ρ => z4x a0 (g1 G) s1 s2) := by
 simp only [z4x]
 repeat (first | exact z0e | exact h_g1 _ _ | apply znj | refine z13 ?_ ?_ | refine z14 ?_ (fun _ => ?_) | intro _ | assumption)
noncomputable def zjj (a0 : Str) (s1 : (List S_api_Step)) (s2 : Int) : Option ((List S_api_Step) × Int × Int) :=
 z3r (ι := ((List S_api_Step) × Int)) (ρ := fun _ => ((List S_api_Step) × Int × Int)) (fun g i => z4x a0 (fun s1 s2 => g (s1, s2)) i.1 i.2) (s1, s2)
theorem zbg (a0 : Str) (s1 : (List S_api_Step)) (s2 : Int) : zjj a0 s1 s2 = z4x a0 (zjj a0) s1 s2 :=
 z1f (ι := ((List S_api_Step) × Int)) (ρ := fun _ => ((List S_api_Step) × Int × Int)) (Φ := fun g i => z4x a0 (fun s1 s2 => g (s1, s2)) i.1 i.2) (fun i => zlb (ι := ((List S_api_Step) × Int)) (ρ := fun _ => ((List S_api_Step) × Int × Int)) (fun g => (fun s1 s2 => g (s1, s2))) (fun _ _ => z1h) a0 i.1 i.2) (s1, s2)
noncomputable def zof (a0 : Str) : Option ((List S_api_Step) × Int × Int) :=
 zjj a0 ([]) 0
theorem Z0w (a0 : Str) (r : ((List S_api_Step) × Int × Int)) (h : zof a0 = some r) : z0l Tryz.prog 15 [(z0k a0)] (PV.tup [(PV.sl none 83 3 (List.map z02 r.1)), (I64 r.2.1), (I64 r.2.2)]) := by
 unfold zof at h
 refine z0c Tryz.func15 rfl Tryz.ntmps15 Tryz.results15 rfl (z0i ?_)
 change BW _ _ _ ⟨[(0, (z0k a0))], [], _⟩ _
 refine bR ?_
 iterate 2 refine sX ?_
 refine eX ?_
 refine bR ?_
 refine eX ?_
 refine z09 ?_
 refine bR ?_
 refine eX ?_
 refine z0j ?_
 refine cBx ?_
 refine ztb (s := ⟨_, _, _⟩) 5 83 (sz := 3) rfl rfl ?_
 unfold zjj at h
 refine z3n (σ := ((List S_api_Step) × Int)) (fun i => [(0, (z0k a0)), (5, (PV.sl (some 0) 83 3 (List.map z02 i.1))), (6, (I64 i.2))]) (fun i => [.arr 83 (i.1).length]) ([], 0) h ?_ ?_ ?_
 intro i; exact ⟨lbE rfl, ⟨(z0a rfl), ⟨(z4r rfl (z17 z01 _)), ⟨(z0a rfl), trivial⟩⟩⟩, trivial⟩
 exact jN
 rintro g1_f ⟨s1, s2⟩ h; replace h : z4x a0 (fun y0 y1 => g1_f (y0, y1)) s1 s2 = some r := h; unfold z4x at h
 change BW _ _ _ ⟨[(0, (z0k a0)), (5, (PV.sl (some 0) 83 3 (List.map z02 s1))), (6, (I64 s2))], [.arr 83 (s1).length], _⟩ _
 refine z09 ?_
 refine bR ?_
 iterate 2 refine sX ?_
 refine sS rfl rfl rfl (z42 (s := a0) Tryz.underlying9 rfl rfl) ?_
 refine eX ?_
 refine cX h rfl ?_ ?_
 intro hc3 h
 refine z08 ?_
 refine cBx ?_
 refine z0j ?_
 refine cBx ?_
 refine z09 ?_
 refine z2h (ι := Bool) (fun i => za9 (fun y0 y1 => g1_f (y0, y1)) a0 s1 s2 i = some r) (fun i => [(0, (z0k a0)), (5, (PV.sl (some 0) 83 3 (List.map z02 s1))), (6, (I64 s2)), (29, (BO i))]) (fun i => [.arr 83 (s1).length]) ?_ ?_ ?_
 intro i; exact ⟨lbE rfl, ⟨(z0a rfl), ⟨(z4r rfl (z17 z01 _)), ⟨(z0a rfl), ⟨(z0a rfl), trivial⟩⟩⟩⟩, trivial⟩
 rintro s4 h; replace h : za9 (fun y0 y1 => g1_f (y0, y1)) a0 s1 s2 s4 = some r := h; unfold za9 at h
 change BW _ _ _ ⟨[(0, (z0k a0)), (5, (PV.sl (some 0) 83 3 (List.map z02 s1))), (6, (I64 s2)), (29, (BO s4))], [.arr 83 (s1).length], _⟩ _
 refine cX h rfl ?_ ?_
 intro hc5 h
 refine bR ?_
 iterate 3 refine sX ?_
 refine eX ?_
 obtain rfl := eI h; exact z04 ⟨_, rfl, z0n (y := (PV.tup [(PV.sl none 83 3 (List.map z02 [])), (I64 s2), (I64 3)])) (Wk.tup (.cons Wk.nil (wkr (wkr .nil)))) (z00 (z06 z01 ([])) (z00 rfl (z00 rfl z03))) ⟨rfl, rfl⟩⟩
 intro hc5 h
 refine z08 ?_
 refine cBx ?_
 refine z09 ?_
 refine bR ?_
 iterate 2 refine sX ?_
 refine eX ?_
 refine cX h rfl ?_ ?_
 intro hc6 h
 refine bR ?_
 iterate 3 refine sX ?_
 refine eX ?_
 obtain rfl := eI h; exact z04 ⟨_, rfl, z0n (y := (PV.tup [(PV.sl none 83 3 (List.map z02 [])), (I64 s2), (I64 2)])) (Wk.tup (.cons Wk.nil (wkr (wkr .nil)))) (z00 (z06 z01 ([])) (z00 rfl (z00 rfl z03))) ⟨rfl, rfl⟩⟩
 intro hc6 h
 refine z08 ?_
 refine cBx ?_
 refine bR ?_
 iterate 5 refine sX ?_
 obtain ⟨x7, hx7, h⟩ := obind h
 refine sS rfl rfl rfl (z05 rfl Z2l rfl (wkr (wkr (wkr .nil))) ⟨rfl, ⟨rfl, ⟨rfl, trivial⟩⟩⟩ (Z0t a0 s2 (decide ((((s1).length : Nat) : Int) > 0)) x7 hx7) (z00 (z01 x7.1) (z00 rfl (z00 rfl (z00 rfl z03))))) ?_
 iterate 5 refine sX ?_
 refine sS rfl rfl rfl (z28 z19 rfl) ?_
 refine z1l rfl rfl (z1b z19 rfl rfl rfl rfl rfl rfl (lbE rfl) rfl) ?_
 iterate 2 refine sX ?_
 refine eX ?_
 refine z09 ?_
 refine bR ?_
 refine sX ?_
 refine eX ?_
 refine cX h rfl ?_ ?_
 intro hc8 h
 refine bR ?_
 iterate 4 refine sX ?_
 refine eX ?_
 obtain rfl := eI h; exact z04 ⟨_, rfl, z0n (y := (PV.tup [(PV.sl none 83 3 (List.map z02 [])), (I64 x7.2.2.1), (I64 x7.2.2.2)])) (Wk.tup (.cons Wk.nil (wkr (wkr .nil)))) (z00 (z06 z01 ([])) (z00 rfl (z00 rfl z03))) ⟨rfl, rfl⟩⟩
 intro hc8 h
 refine z08 ?_
 refine cBx ?_
 refine z0f ?_
 iterate 2 refine sX ?_
 refine sS rfl rfl rfl ((z1d (xs := [(PV.agg [(z0k (x7.1).f_Name), (BO ((x7.1).f_At)), (I64 ((x7.1).f_Index))])]) Tryz.underlying30 z19 rfl rfl rfl rfl rfl rfl ⟨lbE rfl, lbE rfl⟩ rfl).cast (y := (PV.sl (some 2) 83 3 (List.map z02 ([(x7.1)] : (List S_api_Step))))) rfl rfl) ?_
 obtain ⟨x9, hx9, h⟩ := obind h
 refine sS rfl rfl rfl (z3q Tryz.underlying30 z19 rfl Tryz.underlying30 rfl rfl rfl rfl z5b z40 hx9 rfl) ?_
 iterate 2 refine sX ?_
 refine sX (z0b ?_)
 exact ⟨rfl, (x9, x7.2.1), h, jN⟩
 refine z0f ?_
 iterate 4 refine sX ?_
 refine z0p (t := 18) rfl ?_ ?_
 intro hb10; replace h := z0r hb10 h
 iterate 2 refine yX ?_
 obtain ⟨x11, hx11, h⟩ := obind h
 refine z1i rfl rfl rfl rfl rfl rfl (z67 (s := a0) Tryz.underlying9 rfl rfl rfl hx11) ?_
 refine yX ?_
 iterate 2 refine sX ?_
 refine z0p (t := 24) rfl ?_ ?_
 intro hb12; replace h := z0r hb12 h
 iterate 2 refine yX ?_
 obtain ⟨x13, hx13, h⟩ := obind h
 refine z1i rfl rfl rfl rfl rfl rfl (z67 (s := a0) Tryz.underlying9 rfl rfl rfl hx13) ?_
 refine yX ?_
 refine sX (z0b ?_)
 exact ⟨rfl, (((x13).toNat : Int) != (((91 : UInt8)).toNat : Int)), h, jN⟩
 intro hb12; replace h := z0s hb12 h
 iterate 4 refine nX ?_
 refine sX (z0b ?_)
 exact ⟨rfl, false, h, jN⟩
 intro hb10; replace h := z0s hb10 h
 iterate 4 refine nX ?_
 iterate 2 refine sX ?_
 iterate 4 refine nX ?_
 refine sX (z0b ?_)
 exact ⟨rfl, false, h, jN⟩
 intro hc3 h
 refine z2b ?_
 refine cBx ?_
 refine bR ?_
 iterate 3 refine sX ?_
 refine eX ?_
 obtain rfl := eI h; exact z04 ⟨_, rfl, z0n (y := (PV.tup [(PV.sl none 83 3 (List.map z02 s1)), (I64 0), (I64 0)])) (Wk.tup (.cons Wk.tok (wkr (wkr .nil)))) (z00 (z06 z01 s1) (z00 rfl (z00 rfl z03))) ⟨rfl, rfl⟩⟩
noncomputable def zi1 (a0 : V) : Option Int :=
 bif (a0).isNil then (
 some 1
 ) else (
 bif (a0).isBool then (
 some 2
 ) else (
 bif (a0).isInt then (
 some 3
 ) else (
 bif (a0).isFloat then (
 some 4
 ) else (
 bif (a0).isText then (
 some 5
 ) else (
 bif (a0).isBytes then (
 some 6
 ) else (
 bif (a0).isRef then (
 some 7
 ) else (
 bif (a0).isList then (
 some 8
 ) else (
 bif (a0).isDict then (
 some 9
 ) else (
 bif (a0).isRec then (
 bif ((a0).asRec).isNone then (
 some 11
 ) else (
 some 10
 )
 ) else (
 some 0
 )
 )
 )
 )
 )
 )
 )
 )
 )
 )
theorem zqs (a0 : V) (r : Int) (h : zi1 a0 = some r) : z0l Tryz.prog 60 [(ofV a0)] (I64 r) := by
 unfold zi1 at h
 refine z0c Tryz.func60 rfl Tryz.ntmps60 Tryz.results60 rfl (z0i ?_)
 change BW _ _ _ ⟨[(0, (ofV a0))], [], _⟩ _
 refine bR ?_
 refine eX ?_
 refine z09 ?_
 refine bR ?_
 refine eX ?_
 refine z0j ?_
 refine cBx ?_
 refine bR ?_
 refine sS rfl rfl rfl (zdf Tryz.underlying20 rfl rfl) (z0b ?_)
 refine cBx ?_
 refine cX h rfl ?_ ?_
 intro hc1 h
 refine bR ?_
 refine eX ?_
 refine bR ?_
 refine eX ?_
 obtain rfl := eI h; exact z04 eK
 intro hc1 h
 refine bR ?_
 refine sS rfl rfl rfl (zdg rfl rfl) ?_
 refine sX ?_
 refine eX ?_
 refine cX h rfl ?_ ?_
 intro hc2 h
 refine bR ?_
 refine eX ?_
 refine bR ?_
 refine eX ?_
 obtain rfl := eI h; exact z04 eK
 intro hc2 h
 refine bR ?_
 refine sS rfl rfl rfl (zgn rfl rfl) ?_
 refine sX ?_
 refine eX ?_
 refine cX h rfl ?_ ?_
 intro hc3 h
 refine bR ?_
 refine eX ?_
 refine bR ?_
 refine eX ?_
 obtain rfl := eI h; exact z04 eK
 intro hc3 h
 refine bR ?_
 refine sS rfl rfl rfl (zbu rfl rfl) ?_
 refine sX ?_
 refine eX ?_
 refine cX h rfl ?_ ?_
 intro hc4 h
 refine bR ?_
 refine eX ?_
 refine bR ?_
 refine eX ?_
 obtain rfl := eI h; exact z04 eK
 intro hc4 h
 refine bR ?_
 refine sS rfl rfl rfl (z9y rfl rfl) ?_
 refine sX ?_
 refine eX ?_
 refine cX h rfl ?_ ?_
 intro hc5 h
 refine bR ?_
 refine eX ?_
 refine bR ?_
 refine eX ?_
 obtain rfl := eI h; exact z04 eK
 intro hc5 h
 refine bR ?_
 refine sS rfl rfl rfl (z64 rfl rfl) ?_
 refine sX ?_
 refine eX ?_
 refine cX h rfl ?_ ?_
 intro hc6 h
 refine bR ?_
 refine eX ?_
 refine bR ?_
 refine eX ?_
 obtain rfl := eI h; exact z04 eK
 intro hc6 h
 refine bR ?_
 refine sS rfl rfl rfl (zgm rfl rfl) ?_
 refine sX ?_
 refine eX ?_
 refine cX h rfl ?_ ?_
 intro hc7 h
 refine bR ?_
 refine eX ?_
 refine bR ?_
 refine eX ?_
 obtain rfl := eI h; exact z04 eK
 intro hc7 h
 refine bR ?_
 refine sS rfl rfl rfl (z27 rfl rfl) ?_
 refine sX ?_
 refine eX ?_
 refine cX h rfl ?_ ?_
 intro hc8 h
 refine bR ?_
 refine eX ?_
 refine bR ?_
 refine eX ?_
 obtain rfl := eI h; exact z04 eK
 intro hc8 h
 refine bR ?_
 refine sS rfl rfl rfl (z2m rfl rfl) ?_
 refine sX ?_
 refine eX ?_
 refine cX h rfl ?_ ?_
 intro hc9 h
 refine bR ?_
 refine eX ?_
 refine bR ?_
 refine eX ?_
 obtain rfl := eI h; exact z04 eK
 intro hc9 h
 refine bR ?_
 refine sS rfl rfl rfl (z32 rfl rfl) ?_
 refine sX ?_
 refine eX ?_
 refine cX h rfl ?_ ?_
 intro hc10 h
 refine bR ?_
 refine eX ?_
 refine z09 ?_
 refine bR ?_
 refine sX ?_
 refine sS rfl rfl rfl (zdh Tryz.underlying73 rfl rfl) (z0b ?_)
 refine cBx ?_
 refine cX h rfl ?_ ?_
 intro hc11 h
 refine bR ?_
 refine eX ?_
 obtain rfl := eI h; exact z04 eK
 intro hc11 h
 refine z08 ?_
 refine cBx ?_
 refine bR ?_
 refine eX ?_
 obtain rfl := eI h; exact z04 eK
 intro hc10 h
 refine z08 ?_
 refine cBx ?_
 refine bR ?_
 refine eX ?_
 obtain rfl := eI h; exact z04 eK
noncomputable def z5i (g1 : Nat → Option Bool) (s4 : Nat) (s8 : Bool) : Option Bool :=
 bif s8 then (
 some false
 ) else (
 g1 (s4 + 1)
 )
theorem znk (g1 : OF ρ → Nat → Option Bool) (h_g1 : ∀ y0, CM (fun G => g1 G y0)) (s4 : Nat) (s8 : Bool) : CM (fun G : OF ρ => z5i (g1 G) s4 s8) := by
 simp only [z5i]
 repeat (first | exact z0e | exact h_g1 _ | refine z13 ?_ ?_ | refine z14 ?_ (fun _ => ?_))
noncomputable def z4y (a0 : Str) (g1 : Nat → Option Bool) (s4 : Nat) : Option Bool :=
 bif (decide (((s4 : Nat) : Int) < (((a0).length : Nat) : Int))) then (
 ((a0)[s4]?).bind fun x7 =>
 bif (decide (((x7).toNat : Int) < (((97 : UInt8)).toNat : Int))) then (
 bif (decide (((x7).toNat : Int) < (((48 : UInt8)).toNat : Int))) then (
 z5i g1 s4 (((x7).toNat : Int) != (((95 : UInt8)).toNat : Int))
 ) else (
 bif (decide (((x7).toNat : Int) > (((57 : UInt8)).toNat : Int))) then (
 z5i g1 s4 (((x7).toNat : Int) != (((95 : UInt8)).toNat : Int))
 ) else (
 z5i g1 s4 false
 )
 )
 ) else (
 bif (decide (((x7).toNat : Int) > (((122 : UInt8)).toNat : Int))) then (
 bif (decide (((x7).toNat : Int) < (((48 : UInt8)).toNat : Int))) then (
 z5i g1 s4 (((x7).toNat : Int) != (((95 : UInt8)).toNat : Int))
 ) else (
 bif (decide (((x7).toNat : Int) > (((57 : UInt8)).toNat : Int))) then (
 z5i g1 s4 (((x7).toNat : Int) != (((95 : UInt8)).toNat : Int))
 ) else (
 z5i g1 s4 false
 )
 )
 ) else (
 z5i g1 s4 false
 )
 )
 ) else (
 some true
 )
theorem zld (g1 : OF ρ → Nat → Option Bool) (h_g1 : ∀ y0, CM (fun G => g1 G y0)) (a0 : Str) (s4 : Nat) : CM (fun G : OF ρ => z4y a0 (g1 G) s4) := by
 simp only [z4y]
 repeat (first | exact z0e | exact h_g1 _ | apply znk | refine z13 ?_ ?_ | refine z14 ?_ (fun _ => ?_) | intro _ | assumption)
noncomputable def zfw (a0 : Str) (s4 : Nat) : Option Bool :=
 z3r (ι := Nat) (ρ := fun _ => Bool) (fun g i => z4y a0 (fun s4 => g s4) i) s4
theorem zfv (a0 : Str) (s4 : Nat) : zfw a0 s4 = z4y a0 (zfw a0) s4 :=
 z1f (ι := Nat) (ρ := fun _ => Bool) (Φ := fun g i => z4y a0 (fun s4 => g s4) i) (fun i => zld (ι := Nat) (ρ := fun _ => Bool) (fun g => (fun s4 => g s4)) (fun _ => z1h) a0 i) s4
noncomputable def zaa (a0 : Str) (s1 : Bool) : Option Bool :=
 bif s1 then (
 some false
 ) else (
 (zcx (a0).length).bind fun x3 =>
 zfw a0 0
 )
noncomputable def zi3 (a0 : Str) : Option Bool :=
 bif (a0 == ([] : Str)) then (
 zaa a0 true
 ) else (
 bif (decide ((((a0).length : Nat) : Int) > 32)) then (
 zaa a0 true
 ) else (
 ((a0)[0]?).bind fun x18 =>
 bif (decide (((x18).toNat : Int) < (((97 : UInt8)).toNat : Int))) then (
 zaa a0 true
 ) else (
 ((a0)[0]?).bind fun x20 =>
 zaa a0 (decide (((x20).toNat : Int) > (((122 : UInt8)).toNat : Int)))
 )
 )
 )
theorem zy9 (a0 : Str) (r : Bool) (h : zi3 a0 = some r) : z0l Tryz.prog 108 [(z0k a0)] (BO r) := by
 unfold zi3 at h
 refine z0c Tryz.func108 rfl Tryz.ntmps108 Tryz.results108 rfl (z0i ?_)
 change BW _ _ _ ⟨[(0, (z0k a0))], [], _⟩ _
 refine bR ?_
 refine eX ?_
 refine z09 ?_
 refine jX (ι := Bool) (fun i => zaa a0 i = some r) (fun i => [(0, (z0k a0)), (21, (BO i))]) (fun i => []) ?_ ?_
 rintro s1 h; replace h : zaa a0 s1 = some r := h; unfold zaa at h
 change BW _ _ _ ⟨[(0, (z0k a0)), (21, (BO s1))], [], _⟩ _
 refine cX h rfl ?_ ?_
 intro hc2 h
 refine bR ?_
 refine eX ?_
 obtain rfl := eI h; exact z04 eK
 intro hc2 h
 refine z08 ?_
 refine cBx ?_
 refine z09 ?_
 refine bR ?_
 refine sX ?_
 obtain ⟨x3, hx3, h⟩ := obind h
 refine sS rfl rfl rfl (zp0 Tryz.underlying9 Tryz.underlying23 Tryz.underlying5 rfl rfl hx3) ?_
 refine sX ?_
 refine eX ?_
 refine z0j ?_
 refine cBx ?_
 unfold zfw at h
 refine lX (σ := Nat) (fun i => [(23, (PV.sl none 5 1 (List.map ofB a0))), (24, (I64 ((((a0).length : Nat) : Int)))), (25, (I64 (((i : Nat) : Int))))]) (fun i => []) 0 h ?_ ?_
 exact jN
 rintro g1_f s4 h; replace h : z4y a0 (fun y0 => g1_f y0) s4 = some r := h; unfold z4y at h
 change BW _ _ _ ⟨[(23, (PV.sl none 5 1 (List.map ofB a0))), (24, (I64 ((((a0).length : Nat) : Int)))), (25, (I64 (((s4 : Nat) : Int))))], [], _⟩ _
 refine bR ?_
 refine eX ?_
 refine z09 ?_
 refine z5r (t := 23) rfl fun hb6 => ?_
 try rw [List.length_map] at hb6
 refine cX h rfl ?_ ?_
 intro hc5 h
 have hc5_ := of_decide_eq_true hc5
 refine z08 ?_
 refine cBx ?_
 refine z09 ?_
 refine z0j ?_
 refine cBx ?_
 refine bR ?_
 obtain ⟨x7, hx7, h⟩ := obind h
 refine sS rfl rfl rfl (z1v (i := s4) Tryz.underlying23 inf_5 rfl rfl rfl hx7 rfl) ?_
 refine sX ?_
 refine eX ?_
 refine jX (ι := Bool) (fun i => z5i (fun y0 => g1_f y0) s4 i = some r) (fun i => [(23, (PV.sl none 5 1 (List.map ofB a0))), (24, (I64 ((((a0).length : Nat) : Int)))), (25, (I64 (((s4 : Nat) : Int)))), (46, (BO i))]) (fun i => []) ?_ ?_
 rintro s8 h; replace h : z5i (fun y0 => g1_f y0) s4 s8 = some r := h; unfold z5i at h
 change BW _ _ _ ⟨[(23, (PV.sl none 5 1 (List.map ofB a0))), (24, (I64 ((((a0).length : Nat) : Int)))), (25, (I64 (((s4 : Nat) : Int)))), (46, (BO s8))], [], _⟩ _
 refine cX h rfl ?_ ?_
 intro hc9 h
 refine bR ?_
 refine eX ?_
 obtain rfl := eI h; exact z04 eK
 intro hc9 h
 refine z08 ?_
 refine cBx ?_
 refine z0f ?_
 refine sS rfl rfl rfl (z2v (k := s4) (c := 1) rfl rfl rfl (by omega)) ?_
 refine sX (z0b ?_)
 exact ⟨rfl, (s4 + 1), h, jN⟩
 refine z0f ?_
 iterate 3 refine sX ?_
 refine z0p (t := 31) rfl ?_ ?_
 intro hb10; replace h := z0r hb10 h
 iterate 2 refine nX ?_
 iterate 2 refine sX ?_
 iterate 3 refine yX ?_
 refine z0p (t := 38) rfl ?_ ?_
 intro hb11; replace h := z0r hb11 h
 iterate 2 refine nX ?_
 refine yX ?_
 iterate 2 refine sX ?_
 iterate 2 refine yX ?_
 refine sX (z0b ?_)
 exact ⟨rfl, (((x7).toNat : Int) != (((95 : UInt8)).toNat : Int)), h, jN⟩
 intro hb11; replace h := z0s hb11 h
 iterate 3 refine yX ?_
 iterate 2 refine sX ?_
 refine z0p (t := 43) rfl ?_ ?_
 intro hb12; replace h := z0r hb12 h
 iterate 2 refine yX ?_
 refine sX (z0b ?_)
 exact ⟨rfl, (((x7).toNat : Int) != (((95 : UInt8)).toNat : Int)), h, jN⟩
 intro hb12; replace h := z0s hb12 h
 iterate 2 refine nX ?_
 refine sX (z0b ?_)
 exact ⟨rfl, false, h, jN⟩
 intro hb10; replace h := z0s hb10 h
 iterate 2 refine yX ?_
 iterate 2 refine sX ?_
 refine z0p (t := 35) rfl ?_ ?_
 intro hb13; replace h := z0r hb13 h
 iterate 3 refine yX ?_
 refine z0p (t := 38) rfl ?_ ?_
 intro hb14; replace h := z0r hb14 h
 iterate 2 refine nX ?_
 refine yX ?_
 iterate 2 refine sX ?_
 iterate 2 refine yX ?_
 refine sX (z0b ?_)
 exact ⟨rfl, (((x7).toNat : Int) != (((95 : UInt8)).toNat : Int)), h, jN⟩
 intro hb14; replace h := z0s hb14 h
 iterate 3 refine yX ?_
 iterate 2 refine sX ?_
 refine z0p (t := 43) rfl ?_ ?_
 intro hb15; replace h := z0r hb15 h
 iterate 2 refine yX ?_
 refine sX (z0b ?_)
 exact ⟨rfl, (((x7).toNat : Int) != (((95 : UInt8)).toNat : Int)), h, jN⟩
 intro hb15; replace h := z0s hb15 h
 iterate 2 refine nX ?_
 refine sX (z0b ?_)
 exact ⟨rfl, false, h, jN⟩
 intro hb13; replace h := z0s hb13 h
 iterate 6 refine nX ?_
 iterate 2 refine sX ?_
 iterate 2 refine nX ?_
 refine sX (z0b ?_)
 exact ⟨rfl, false, h, jN⟩
 intro hc5 h
 refine z2b ?_
 refine cBx ?_
 refine bR ?_
 refine eX ?_
 obtain rfl := eI h; exact z04 eK
 refine z0f ?_
 refine sX ?_
 refine sS rfl rfl rfl ((z2e (a := a0) (b := ([] : Str)) rfl rfl rfl rfl).cast (y := (BO ((a0 == ([] : Str))))) rfl rfl) ?_
 refine sX ?_
 refine z0p (t := 7) rfl ?_ ?_
 intro hb16; replace h := z0r hb16 h
 iterate 3 refine nX ?_
 iterate 2 refine sX ?_
 iterate 3 refine nX ?_
 iterate 2 refine sX ?_
 iterate 3 refine nX ?_
 refine sX (z0b ?_)
 exact ⟨rfl, true, h, jN⟩
 intro hb16; replace h := z0s hb16 h
 refine yX ?_
 refine z1i rfl rfl rfl rfl rfl rfl (z42 (s := a0) Tryz.underlying9 rfl rfl) ?_
 refine yX ?_
 iterate 2 refine sX ?_
 refine z0p (t := 12) rfl ?_ ?_
 intro hb17; replace h := z0r hb17 h
 iterate 3 refine nX ?_
 iterate 2 refine sX ?_
 iterate 3 refine nX ?_
 refine sX (z0b ?_)
 exact ⟨rfl, true, h, jN⟩
 intro hb17; replace h := z0s hb17 h
 refine yX ?_
 obtain ⟨x18, hx18, h⟩ := obind h
 refine z1i rfl rfl rfl rfl rfl rfl (z8z (s := a0) (i := 0) Tryz.underlying9 rfl rfl rfl hx18) ?_
 refine yX ?_
 iterate 2 refine sX ?_
 refine z0p (t := 17) rfl ?_ ?_
 intro hb19; replace h := z0r hb19 h
 iterate 3 refine nX ?_
 refine sX (z0b ?_)
 exact ⟨rfl, true, h, jN⟩
 intro hb19; replace h := z0s hb19 h
 refine yX ?_
 obtain ⟨x20, hx20, h⟩ := obind h
 refine z1i rfl rfl rfl rfl rfl rfl (z8z (s := a0) (i := 0) Tryz.underlying9 rfl rfl rfl hx20) ?_
 refine yX ?_
 refine sX (z0b ?_)
 exact ⟨rfl, (decide (((x20).toNat : Int) > (((122 : UInt8)).toNat : Int))), h, jN⟩
noncomputable def z8o (g1 : Nat → Option Int) (s2 : Nat) (s6 : Bool) : Option Int :=
 bif s6 then (
 some 8
 ) else (
 g1 (s2 + 1)
 )
theorem znn (g1 : OF ρ → Nat → Option Int) (h_g1 : ∀ y0, CM (fun G => g1 G y0)) (s2 : Nat) (s6 : Bool) : CM (fun G : OF ρ => z8o (g1 G) s2 s6) := by
 simp only [z8o]
 repeat (first | exact z0e | exact h_g1 _ | refine z13 ?_ ?_ | refine z14 ?_ (fun _ => ?_))
noncomputable def z5z (a0 : (List (Str × V))) (g1 : Nat → Option Int) (s2 : Nat) : Option Int :=
 bif (decide (((s2 : Nat) : Int) < (((a0).length : Nat) : Int))) then (
 ((a0)[s2]?).bind fun x5 =>
 (zi3 x5.1).bind fun x8 =>
 bif (!x8) then (
 z8o g1 s2 true
 ) else (
 bif (decide (((s2 : Nat) : Int) > 0)) then (
 (z5s a0 (IntKind.i64.wrap (((s2 : Nat) : Int) - 1))).bind fun x11 =>
 z8o g1 s2 (Op.bytesLess x5.1 x11.1 || x5.1 == x11.1)
 ) else (
 z8o g1 s2 false
 )
 )
 ) else (
 some 0
 )
theorem zlf (g1 : OF ρ → Nat → Option Int) (h_g1 : ∀ y0, CM (fun G => g1 G y0)) (a0 : (List (Str × V))) (s2 : Nat) : CM (fun G : OF ρ => z5z a0 (g1 G) s2) := by
 simp only [z5z]
 repeat (first | exact z0e | exact h_g1 _ | apply znn | refine z13 ?_ ?_ | refine z14 ?_ (fun _ => ?_) | intro _ | assumption)
noncomputable def zg2 (a0 : (List (Str × V))) (s2 : Nat) : Option Int :=
 z3r (ι := Nat) (ρ := fun _ => Int) (fun g i => z5z a0 (fun s2 => g s2) i) s2
theorem zg1 (a0 : (List (Str × V))) (s2 : Nat) : zg2 a0 s2 = z5z a0 (zg2 a0) s2 :=
 z1f (ι := Nat) (ρ := fun _ => Int) (Φ := fun g i => z5z a0 (fun s2 => g s2) i) (fun i => zlf (ι := Nat) (ρ := fun _ => Int) (fun g => (fun s2 => g s2)) (fun _ => z1h) a0 i) s2
noncomputable def zi6 (a0 : (List (Str × V))) : Option Int :=
 bif (decide ((((a0).length : Nat) : Int) > 4096)) then (
 some 2
 ) else (
 zg2 a0 0
 )
theorem zye (a0 : (List (Str × V))) (r : Int) (h : zi6 a0 = some r) : z0l Tryz.prog 107 [(PV.sl none 69 2 (List.map ofFld a0))] (I64 r) := by
 unfold zi6 at h
 refine z0c Tryz.func107 rfl Tryz.ntmps107 Tryz.results107 rfl (z0i ?_)
 change BW _ _ _ ⟨[(0, (PV.sl none 69 2 (List.map ofFld a0)))], [], _⟩ _
 refine bR ?_
 refine eX ?_
 refine z09 ?_
 refine bR ?_
 iterate 2 refine sX ?_
 refine eX ?_
 refine cX h rfl ?_ ?_
 intro hc1 h
 refine bR ?_
 refine eX ?_
 obtain rfl := eI h; exact z04 eK
 intro hc1 h
 refine z08 ?_
 refine cBx ?_
 refine z09 ?_
 refine bR ?_
 iterate 2 refine sX ?_
 refine eX ?_
 refine z0j ?_
 refine cBx ?_
 unfold zg2 at h
 refine lX (σ := Nat) (fun i => [(0, (PV.sl none 69 2 (List.map ofFld a0))), (8, (PV.sl none 69 2 (List.map ofFld a0))), (9, (I64 ((((a0).length : Nat) : Int)))), (10, (I64 (((i : Nat) : Int))))]) (fun i => []) 0 h ?_ ?_
 exact jN
 rintro g1_f s2 h; replace h : z5z a0 (fun y0 => g1_f y0) s2 = some r := h; unfold z5z at h
 change BW _ _ _ ⟨[(0, (PV.sl none 69 2 (List.map ofFld a0))), (8, (PV.sl none 69 2 (List.map ofFld a0))), (9, (I64 ((((a0).length : Nat) : Int)))), (10, (I64 (((s2 : Nat) : Int))))], [], _⟩ _
 refine bR ?_
 refine eX ?_
 refine z09 ?_
 refine z5r (t := 8) rfl fun hb4 => ?_
 try rw [List.length_map] at hb4
 refine cX h rfl ?_ ?_
 intro hc3 h
 have hc3_ := of_decide_eq_true hc3
 refine z08 ?_
 refine cBx ?_
 refine z09 ?_
 refine z0j ?_
 refine cBx ?_
 refine bR ?_
 refine sX ?_
 obtain ⟨x5, hx5, h⟩ := obind h
 refine sS rfl rfl rfl (z1v (i := s2) Tryz.underlying71 z0w rfl rfl rfl hx5 rfl) ?_
 refine sX ?_
 refine sS rfl rfl rfl ((z28 z0w rfl).cast (H'' := [.box 69 [(z0k []), (ofV V.nil)]]) rfl (by simp only [mk_nil]; rfl)) ?_
 refine sX ?_
 refine z1l rfl rfl (z1b z0w rfl rfl rfl rfl rfl rfl (lbE rfl) (by show List.all [(z0k x5.1), (ofV x5.2)] z6h = true; simp only [List.all_cons, List.all_nil, zeo, z68, Bool.and_true, Bool.true_and]; try rfl)) ?_
 refine z0b ?_
 refine cBx ?_
 refine jX (ι := Bool) (fun i => z8o (fun y0 => g1_f y0) s2 i = some r) (fun i => [(0, (PV.sl none 69 2 (List.map ofFld a0))), (8, (PV.sl none 69 2 (List.map ofFld a0))), (9, (I64 ((((a0).length : Nat) : Int)))), (10, (I64 (((s2 : Nat) : Int)))), (33, (BO i))]) (fun i => []) ?_ ?_
 rintro s6 h; replace h : z8o (fun y0 => g1_f y0) s2 s6 = some r := h; unfold z8o at h
 change BW _ _ _ ⟨[(0, (PV.sl none 69 2 (List.map ofFld a0))), (8, (PV.sl none 69 2 (List.map ofFld a0))), (9, (I64 ((((a0).length : Nat) : Int)))), (10, (I64 (((s2 : Nat) : Int)))), (33, (BO s6))], [], _⟩ _
 refine cX h rfl ?_ ?_
 intro hc7 h
 refine bR ?_
 refine eX ?_
 obtain rfl := eI h; exact z04 eK
 intro hc7 h
 refine z08 ?_
 refine cBx ?_
 refine z0f ?_
 refine sS rfl rfl rfl (z2v (k := s2) (c := 1) rfl rfl rfl (by omega)) ?_
 refine sX (z0b ?_)
 exact ⟨rfl, (s2 + 1), h, jN⟩
 refine z1t 16 [] [0] mo (by kernel_rfl) ?_
 iterate 2 refine gX ?_
 obtain ⟨x8, hx8, h⟩ := obind h
 refine z1m rfl rfl rfl rfl (fun H hp => z05 rfl zul rfl (wkr .nil) ⟨rfl, trivial⟩ (zy9 x5.1 x8 hx8) rfl) ?_
 iterate 2 refine gX ?_
 refine z6d 19 rfl ?_ ?_
 intro hb9; replace h := z0r hb9 h
 iterate 11 refine mX ?_
 refine z1y ?_
 change AO _ _ _ _ _
 iterate 2 refine nX ?_
 refine sX (z0b ?_)
 exact ⟨rfl, true, h, jN⟩
 intro hb9; replace h := z0s hb9 h
 iterate 3 refine wX ?_
 refine z6d 22 rfl ?_ ?_
 intro hb10; replace h := z0r hb10 h
 iterate 4 refine wX ?_
 refine z6f rfl rfl rfl rfl rfl rfl rfl (fun H hp => zej rfl rfl rfl) ?_
 obtain ⟨x11, hx11, h⟩ := obind h
 refine z6f rfl rfl rfl rfl rfl rfl rfl (fun H hp => z1w Tryz.underlying71 z0w rfl rfl rfl hx11 rfl) ?_
 iterate 2 refine wX ?_
 refine z1y ?_
 change AO _ _ _ _ _
 refine z1i rfl rfl rfl rfl rfl rfl ((z2e (a := x5.1) (b := x11.1) rfl rfl rfl rfl).cast (y := (BO ((Op.bytesLess x5.1 x11.1 || x5.1 == x11.1)))) rfl rfl) ?_
 refine yX ?_
 refine sX (z0b ?_)
 exact ⟨rfl, (Op.bytesLess x5.1 x11.1 || x5.1 == x11.1), h, jN⟩
 intro hb10; replace h := z0s hb10 h
 iterate 8 refine mX ?_
 refine z1y ?_
 change AO _ _ _ _ _
 refine nX ?_
 refine yX ?_
 refine sX (z0b ?_)
 exact ⟨rfl, false, h, jN⟩
 intro hc3 h
 refine z2b ?_
 refine cBx ?_
 refine bR ?_
 refine eX ?_
 obtain rfl := eI h; exact z04 eK
end Go.Proofs.YthidgpcbnieleaaGreatDoor
