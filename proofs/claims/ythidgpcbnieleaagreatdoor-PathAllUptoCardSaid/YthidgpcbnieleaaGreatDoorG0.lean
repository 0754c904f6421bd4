/- Pure functions, and that calls answer as they say. -/
import Derived.Test.YthidgpcbnieleaaGreatDoorGS
namespace Go.Proofs.YthidgpcbnieleaaGreatDoor
open Go Aw
set_option linter.unusedVariables false
set_option linter.unusedSimpArgs false
set_option maxRecDepth 20000
set_option maxHeartbeats 2000000
variable {ι : Type} {ρ : ι → Type}
noncomputable def zz1 (a0 : Str) (a1 : UInt8) : Option Int :=
 some (ixB a0 a1)
theorem Z5q (a0 : Str) (a1 : UInt8) (r : Int) (h : zz1 a0 a1 = some r) : z0m Tryz.prog 120 [(z0i a0), (ofB a1)] (I64 r) := by
 unfold zz1 at h
 refine z0d Tryz.func120 rfl Tryz.ntmps120 Tryz.results120 rfl (z0g ?_)
 change BW _ _ _ ⟨[(0, (z0i a0)), (1, (ofB a1))], [], _⟩ _
 refine bR ?_
 refine eX ?_
 refine bR ?_
 iterate 2 refine sX ?_
 refine sS rfl rfl rfl (zz5 (s := a0) (c := a1) rfl rfl rfl) ?_
 refine eX ?_
 obtain rfl := eI h; exact z05 eK
noncomputable def zqs (a0 : Str) (a1 : UInt8) : Option Int :=
 (zz1 a0 a1).bind fun x1 =>
 some x1
theorem Z20 (a0 : Str) (a1 : UInt8) (r : Int) (h : zqs a0 a1 = some r) : z0m Tryz.prog 103 [(z0i a0), (ofB a1)] (I64 r) := by
 unfold zqs at h
 refine z0d Tryz.func103 rfl Tryz.ntmps103 Tryz.results103 rfl (z0g ?_)
 change BW _ _ _ ⟨[(0, (z0i a0)), (1, (ofB a1))], [], _⟩ _
 refine bR ?_
 refine eX ?_
 refine bR ?_
 iterate 2 refine sX ?_
 obtain ⟨x1, hx1, h⟩ := obind h
 refine sS rfl rfl rfl (z06 rfl Z3t rfl (wkr (wkr .nil)) ⟨rfl, ⟨rfl, trivial⟩⟩ (Z5q a0 a1 x1 hx1) rfl) ?_
 refine eX ?_
 obtain rfl := eI h; exact z05 eK
noncomputable def z9b (g1 : Int → Option Str) (a0 : Str) (a1 s1 : Int) (s2 : Bool) : Option Str :=
 bif s2 then (
 g1 (IntKind.i64.wrap (s1 + 1))
 ) else (
 (ziz a0 a1 s1).bind fun x4 =>
 some x4
 )
theorem zpi (g1 : OF ρ → Int → Option Str) (h_g1 : ∀ y0, CM (fun G => g1 G y0)) (a0 : Str) (a1 s1 : Int) (s2 : Bool) : CM (fun G : OF ρ => z9b (g1 G) a0 a1 s1 s2) := by
 simp only [z9b]
 repeat (first | exact z0c | exact h_g1 _ | refine z11 ?_ ?_ | refine z12 ?_ (fun _ => ?_))
noncomputable def z6t (a0 : Str) (a1 : Int) (a2 : Str) (g1 : Int → Option Str) (s1 : Int) : Option Str :=
 bif (decide (s1 < (((a0).length : Nat) : Int))) then (
 (z7g a0 s1).bind fun x6 =>
 (zqs a2 x6).bind fun x7 =>
 z9b g1 a0 a1 s1 (decide (x7 ≥ 0))
 ) else (
 z9b g1 a0 a1 s1 false
 )
theorem znk (g1 : OF ρ → Int → Option Str) (h_g1 : ∀ y0, CM (fun G => g1 G y0)) (a0 : Str) (a1 : Int) (a2 : Str) (s1 : Int) : CM (fun G : OF ρ => z6t a0 a1 a2 (g1 G) s1) := by
 simp only [z6t]
 repeat (first | exact z0c | exact h_g1 _ | apply zpi | refine z11 ?_ ?_ | refine z12 ?_ (fun _ => ?_) | intro _ | assumption)
noncomputable def zh6 (a0 : Str) (a1 : Int) (a2 : Str) (s1 : Int) : Option Str :=
 z2w (ι := Int) (ρ := fun _ => Str) (fun g i => z6t a0 a1 a2 (fun s1 => g s1) i) s1
theorem zh5 (a0 : Str) (a1 : Int) (a2 : Str) (s1 : Int) : zh6 a0 a1 a2 s1 = z6t a0 a1 a2 (zh6 a0 a1 a2) s1 :=
 z19 (ι := Int) (ρ := fun _ => Str) (Φ := fun g i => z6t a0 a1 a2 (fun s1 => g s1) i) (fun i => znk (ι := Int) (ρ := fun _ => Str) (fun g => (fun s1 => g s1)) (fun _ => z17) a0 a1 a2 i) s1
noncomputable def zd1 (a0 : Str) (a1 : Int) (a2 : Str) : Option Str :=
 zh6 a0 a1 a2 a1
theorem zyc (a0 : Str) (a1 : Int) (a2 r : Str) (h : zd1 a0 a1 a2 = some r) : z0m Tryz.prog 74 [(z0i a0), (I64 a1), (z0i a2)] (z0i r) := by
 unfold zd1 at h
 refine z0d Tryz.func74 rfl Tryz.ntmps74 Tryz.results74 rfl (z0g ?_)
 change BW _ _ _ ⟨[(0, (z0i a0)), (1, (I64 a1)), (2, (z0i a2))], [], _⟩ _
 refine bR ?_
 refine eX ?_
 refine bR ?_
 refine sX ?_
 refine eX ?_
 refine z08 ?_
 refine z0h ?_
 refine cBx ?_
 unfold zh6 at h
 refine lX (σ := Int) (fun i => [(0, (z0i a0)), (1, (I64 a1)), (2, (z0i a2)), (7, (I64 i))]) (fun i => []) a1 h ?_ ?_
 exact jN
 rintro g1_f s1 h; replace h : z6t a0 a1 a2 (fun y0 => g1_f y0) s1 = some r := h; unfold z6t at h
 change BW _ _ _ ⟨[(0, (z0i a0)), (1, (I64 a1)), (2, (z0i a2)), (7, (I64 s1))], [], _⟩ _
 refine z08 ?_
 refine jX (ι := Bool) (fun i => z9b (fun y0 => g1_f y0) a0 a1 s1 i = some r) (fun i => [(0, (z0i a0)), (1, (I64 a1)), (2, (z0i a2)), (7, (I64 s1)), (20, (BO i))]) (fun i => []) ?_ ?_
 rintro s2 h; replace h : z9b (fun y0 => g1_f y0) a0 a1 s1 s2 = some r := h; unfold z9b at h
 change BW _ _ _ ⟨[(0, (z0i a0)), (1, (I64 a1)), (2, (z0i a2)), (7, (I64 s1)), (20, (BO s2))], [], _⟩ _
 refine cX h rfl ?_ ?_
 intro hc3 h
 refine z07 ?_
 refine cBx ?_
 refine z0h ?_
 refine cBx ?_
 refine z0f ?_
 iterate 2 refine sX ?_
 refine sX (z0a ?_)
 exact ⟨rfl, (IntKind.i64.wrap (s1 + 1)), h, jN⟩
 intro hc3 h
 refine z1z ?_
 refine cBx ?_
 refine bR ?_
 iterate 3 refine sX ?_
 obtain ⟨x4, hx4, h⟩ := obind h
 refine sS rfl rfl rfl (zuv (s := a0) (l := a1) (h := s1) Tryz.underlying9 rfl rfl rfl rfl rfl rfl hx4) ?_
 refine eX ?_
 obtain rfl := eI h; exact z05 eK
 refine z0f ?_
 iterate 2 refine sX ?_
 refine sS rfl rfl rfl (z4m (s := a0) Tryz.underlying9 rfl rfl) ?_
 iterate 2 refine sX ?_
 refine z0q (t := 13) rfl ?_ ?_
 intro hb5; replace h := z0x hb5 h
 iterate 3 refine yX ?_
 obtain ⟨x6, hx6, h⟩ := obind h
 refine z1q rfl rfl rfl rfl rfl rfl (z74 (s := a0) Tryz.underlying9 rfl rfl rfl hx6) ?_
 obtain ⟨x7, hx7, h⟩ := obind h
 refine z1q rfl rfl rfl rfl rfl rfl (z06 rfl zxs rfl (wkr (wkr .nil)) ⟨rfl, ⟨rfl, trivial⟩⟩ (Z20 a2 x6 x7 hx7) rfl) ?_
 refine yX ?_
 refine sX (z0a ?_)
 exact ⟨rfl, (decide (x7 ≥ 0)), h, jN⟩
 intro hb5; replace h := z0y hb5 h
 iterate 6 refine nX ?_
 refine sX (z0a ?_)
 exact ⟨rfl, false, h, jN⟩
noncomputable def zju (a0 : Str) : Option Bool :=
 bif (!(a0 == ([] : Str))) then (
 bif (decide ((((a0).length : Nat) : Int) ≤ 32)) then (
 ((a0)[0]?).bind fun x3 =>
 (zqs ([97, 98, 99, 100, 101, 102, 103, 104, 105, 106, 107, 108, 109, 110, 111, 112, 113, 114, 115, 116, 117, 118, 119, 120, 121, 122] : Str) x3).bind fun x4 =>
 bif (decide (x4 ≥ 0)) then (
 (zd1 a0 0 ([97, 98, 99, 100, 101, 102, 103, 104, 105, 106, 107, 108, 109, 110, 111, 112, 113, 114, 115, 116, 117, 118, 119, 120, 121, 122, 48, 49, 50, 51, 52, 53, 54, 55, 56, 57, 95] : Str)).bind fun x6 =>
 some (x6 == a0)
 ) else (
 some false
 )
 ) else (
 some false
 )
 ) else (
 some false
 )
theorem Z1r (a0 : Str) (r : Bool) (h : zju a0 = some r) : z0m Tryz.prog 76 [(z0i a0)] (BO r) := by
 unfold zju at h
 refine z0d Tryz.func76 rfl Tryz.ntmps76 Tryz.results76 rfl (z0g ?_)
 change BW _ _ _ ⟨[(0, (z0i a0))], [], _⟩ _
 refine bR ?_
 refine eX ?_
 refine bR ?_
 refine sX ?_
 refine sS rfl rfl rfl ((z2p (a := a0) (b := ([] : Str)) rfl rfl rfl rfl).cast (y := (BO ((!(a0 == ([] : Str)))))) rfl rfl) ?_
 refine sX ?_
 refine z0q (t := 5) rfl ?_ ?_
 intro hb1; replace h := z0x hb1 h
 refine yX ?_
 refine z1q rfl rfl rfl rfl rfl rfl (z4m (s := a0) Tryz.underlying9 rfl rfl) ?_
 refine yX ?_
 iterate 2 refine sX ?_
 refine z0q (t := 10) rfl ?_ ?_
 intro hb2; replace h := z0x hb2 h
 refine yX ?_
 obtain ⟨x3, hx3, h⟩ := obind h
 refine z1q rfl rfl rfl rfl rfl rfl (z9v (s := a0) (i := 0) Tryz.underlying9 rfl rfl rfl hx3) ?_
 obtain ⟨x4, hx4, h⟩ := obind h
 refine z1q rfl rfl rfl rfl rfl rfl (z06 rfl zxs rfl (wkr (wkr .nil)) ⟨rfl, ⟨rfl, trivial⟩⟩ (Z20 ([97, 98, 99, 100, 101, 102, 103, 104, 105, 106, 107, 108, 109, 110, 111, 112, 113, 114, 115, 116, 117, 118, 119, 120, 121, 122] : Str) x3 x4 hx4) rfl) ?_
 refine yX ?_
 iterate 2 refine sX ?_
 refine z0q (t := 16) rfl ?_ ?_
 intro hb5; replace h := z0x hb5 h
 refine yX ?_
 obtain ⟨x6, hx6, h⟩ := obind h
 refine z1q rfl rfl rfl rfl rfl rfl (z06 rfl Z03 rfl (wkr (wkr (wkr .nil))) ⟨rfl, ⟨rfl, ⟨rfl, trivial⟩⟩⟩ (zyc a0 0 ([97, 98, 99, 100, 101, 102, 103, 104, 105, 106, 107, 108, 109, 110, 111, 112, 113, 114, 115, 116, 117, 118, 119, 120, 121, 122, 48, 49, 50, 51, 52, 53, 54, 55, 56, 57, 95] : Str) x6 hx6) rfl) ?_
 refine yX ?_
 refine z1q rfl rfl rfl rfl rfl rfl ((z2p (a := x6) (b := a0) rfl rfl rfl rfl).cast (y := (BO ((x6 == a0)))) rfl rfl) ?_
 refine sX ?_
 refine eX ?_
 obtain rfl := eI h; exact z05 eK
 intro hb5; replace h := z0y hb5 h
 iterate 4 refine nX ?_
 refine sX ?_
 refine eX ?_
 obtain rfl := eI h; exact z05 eK
 intro hb2; replace h := z0y hb2 h
 iterate 4 refine nX ?_
 iterate 2 refine sX ?_
 iterate 4 refine nX ?_
 refine sX ?_
 refine eX ?_
 obtain rfl := eI h; exact z05 eK
 intro hb1; replace h := z0y hb1 h
 iterate 3 refine nX ?_
 iterate 2 refine sX ?_
 iterate 4 refine nX ?_
 iterate 2 refine sX ?_
 iterate 4 refine nX ?_
 refine sX ?_
 refine eX ?_
 obtain rfl := eI h; exact z05 eK
noncomputable def z7q (a1 : Int) (x3 : Str) (s5 : Bool) : Option (S_api_Step × Int × Int × Int) :=
 bif s5 then (
 some ((S_api_Step.mk [] false 0), 0, a1, 3)
 ) else (
 (Z0o x3).bind fun x7 =>
 bif (decide (x7 ≥ 4096)) then (
 some ((S_api_Step.mk [] false 0), 0, a1, 1)
 ) else (
 some ((S_api_Step.mk [] true x7), (IntKind.i64.wrap ((IntKind.i64.wrap ((IntKind.i64.wrap (a1 + 1)) + (((x3).length : Nat) : Int))) + 1)), 0, 0)
 )
 )
noncomputable def z9a (s15 : Int) (x16 : Str) (s17 : Bool) : Option (S_api_Step × Int × Int × Int) :=
 bif s17 then (
 some ((S_api_Step.mk [] false 0), 0, s15, 4)
 ) else (
 bif (x16 == ([] : Str)) then (
 some ((S_api_Step.mk [] false 0), 0, s15, 3)
 ) else (
 (zju x16).bind fun x20 =>
 bif (!x20) then (
 some ((S_api_Step.mk [] false 0), 0, s15, 8)
 ) else (
 some ((S_api_Step.mk x16 false 0), (IntKind.i64.wrap (s15 + (((x16).length : Nat) : Int))), 0, 0)
 )
 )
 )
noncomputable def zh4 (a0 : Str) (s15 : Int) : Option (S_api_Step × Int × Int × Int) :=
 (zd1 a0 s15 ([97, 98, 99, 100, 101, 102, 103, 104, 105, 106, 107, 108, 109, 110, 111, 112, 113, 114, 115, 116, 117, 118, 119, 120, 121, 122, 48, 49, 50, 51, 52, 53, 54, 55, 56, 57, 95] : Str)).bind fun x16 =>
 bif (x16 == ([] : Str)) then (
 z9a s15 x16 (s15 == (((a0).length : Nat) : Int))
 ) else (
 z9a s15 x16 false
 )
noncomputable def zfp (a0 : Str) (a1 : Int) (a2 : Bool) : Option (S_api_Step × Int × Int × Int) :=
 (z7g a0 a1).bind fun x1 =>
 bif (((x1).toNat : Int) == (((91 : UInt8)).toNat : Int)) then (
 (zd1 a0 (IntKind.i64.wrap (a1 + 1)) ([48, 49, 50, 51, 52, 53, 54, 55, 56, 57] : Str)).bind fun x3 =>
 bif ((IntKind.i64.wrap ((IntKind.i64.wrap (a1 + 1)) + (((x3).length : Nat) : Int))) == (((a0).length : Nat) : Int)) then (
 some ((S_api_Step.mk [] false 0), 0, (IntKind.i64.wrap ((IntKind.i64.wrap (a1 + 1)) + (((x3).length : Nat) : Int))), 4)
 ) else (
 bif (x3 == ([] : Str)) then (
 z7q a1 x3 true
 ) else (
 ((x3)[0]?).bind fun x10 =>
 bif (((x10).toNat : Int) == (((48 : UInt8)).toNat : Int)) then (
 bif (!(x3 == ([48] : Str))) then (
 z7q a1 x3 true
 ) else (
 (z7g a0 (IntKind.i64.wrap ((IntKind.i64.wrap (a1 + 1)) + (((x3).length : Nat) : Int)))).bind fun x13 =>
 z7q a1 x3 (((x13).toNat : Int) != (((93 : UInt8)).toNat : Int))
 )
 ) else (
 (z7g a0 (IntKind.i64.wrap ((IntKind.i64.wrap (a1 + 1)) + (((x3).length : Nat) : Int)))).bind fun x14 =>
 z7q a1 x3 (((x14).toNat : Int) != (((93 : UInt8)).toNat : Int))
 )
 )
 )
 ) else (
 bif a2 then (
 zh4 a0 (IntKind.i64.wrap (a1 + 1))
 ) else (
 zh4 a0 a1
 )
 )
theorem Z4m (a0 : Str) (a1 : Int) (a2 : Bool) (r : (S_api_Step × Int × Int × Int)) (h : zfp a0 a1 a2 = some r) : z0m Tryz.prog 43 [(z0i a0), (I64 a1), (BO a2)] (PV.tup [(z00 r.1), (I64 r.2.1), (I64 r.2.2.1), (I64 r.2.2.2)]) := by
 unfold zfp at h
 refine z0d Tryz.func43 rfl Tryz.ntmps43 Tryz.results43 rfl (z0g ?_)
 change BW _ _ _ ⟨[(0, (z0i a0)), (1, (I64 a1)), (2, (BO a2))], [], _⟩ _
 refine bR ?_
 refine sS rfl rfl rfl (z14 z1h rfl) ?_
 iterate 2 refine sX ?_
 refine eX ?_
 refine bR ?_
 refine sS rfl rfl rfl (z1g (cs := [(z0i []), (BO false), (I64 0)]) z8e z1h rfl rfl rfl rfl) ?_
 refine sS rfl rfl rfl (z14 z1h rfl) ?_
 refine z0j rfl rfl (z0e z1h rfl rfl rfl rfl rfl rfl (lbE rfl) rfl) ?_
 refine z0a ?_
 refine cBx ?_
 refine z08 ?_
 refine bR ?_
 iterate 2 refine sX ?_
 obtain ⟨x1, hx1, h⟩ := obind h
 refine sS rfl rfl rfl (z74 (s := a0) Tryz.underlying9 rfl rfl rfl hx1) ?_
 refine eX ?_
 refine cX h rfl ?_ ?_
 intro hc2 h
 refine bR ?_
 iterate 3 refine sX ?_
 obtain ⟨x3, hx3, h⟩ := obind h
 refine sS rfl rfl rfl (z06 rfl Z03 rfl (wkr (wkr (wkr .nil))) ⟨rfl, ⟨rfl, ⟨rfl, trivial⟩⟩⟩ (zyc a0 (IntKind.i64.wrap (a1 + 1)) ([48, 49, 50, 51, 52, 53, 54, 55, 56, 57] : Str) x3 hx3) rfl) ?_
 refine eX ?_
 refine bR ?_
 iterate 3 refine sX ?_
 refine sS rfl rfl rfl (z4m (s := x3) Tryz.underlying9 rfl rfl) ?_
 refine sX ?_
 refine eX ?_
 refine z08 ?_
 refine z0h ?_
 refine cBx ?_
 refine bR ?_
 iterate 2 refine sX ?_
 refine sS rfl rfl rfl (z4m (s := a0) Tryz.underlying9 rfl rfl) ?_
 refine sX ?_
 refine eX ?_
 refine cX h rfl ?_ ?_
 intro hc4 h
 refine bR ?_
 iterate 2 refine sX ?_
 refine z0j rfl rfl (z0e z1h rfl rfl rfl rfl rfl rfl (lbE rfl) rfl) ?_
 iterate 2 refine sX ?_
 refine eX ?_
 obtain rfl := eI h; exact z05 ⟨_, rfl, z0p (y := (PV.tup [(z00 (S_api_Step.mk [] false 0)), (I64 0), (I64 ((IntKind.i64.wrap ((IntKind.i64.wrap (a1 + 1)) + (((x3).length : Nat) : Int))))), (I64 4)])) (Wk.refl _) (z01 (z02 (S_api_Step.mk [] false 0)) (z01 rfl (z01 rfl (z01 rfl z04)))) ⟨rfl, rfl⟩⟩
 intro hc4 h
 refine jX (ι := Bool) (fun i => z7q a1 x3 i = some r) (fun i => [(1, (I64 a1)), (6, (PV.rf 0 0)), (10, (PV.rf 1 0)), (11, (z0i x3)), (12, (I64 ((IntKind.i64.wrap ((IntKind.i64.wrap (a1 + 1)) + (((x3).length : Nat) : Int)))))), (37, (BO i))]) (fun i => [.box 83 [(z0i []), (BO false), (I64 0)], .box 83 [(z0i []), (BO false), (I64 0)]]) ?_ ?_
 rintro s5 h; replace h : z7q a1 x3 s5 = some r := h; unfold z7q at h
 change BW _ _ _ ⟨[(1, (I64 a1)), (6, (PV.rf 0 0)), (10, (PV.rf 1 0)), (11, (z0i x3)), (12, (I64 ((IntKind.i64.wrap ((IntKind.i64.wrap (a1 + 1)) + (((x3).length : Nat) : Int)))))), (37, (BO s5))], [.box 83 [(z0i []), (BO false), (I64 0)], .box 83 [(z0i []), (BO false), (I64 0)]], _⟩ _
 refine cX h rfl ?_ ?_
 intro hc6 h
 refine bR ?_
 iterate 2 refine sX ?_
 refine z0j rfl rfl (z0e z1h rfl rfl rfl rfl rfl rfl (lbE rfl) rfl) ?_
 iterate 2 refine sX ?_
 refine eX ?_
 obtain rfl := eI h; exact z05 ⟨_, rfl, z0p (y := (PV.tup [(z00 (S_api_Step.mk [] false 0)), (I64 0), (I64 a1), (I64 3)])) (Wk.refl _) (z01 (z02 (S_api_Step.mk [] false 0)) (z01 rfl (z01 rfl (z01 rfl z04)))) ⟨rfl, rfl⟩⟩
 intro hc6 h
 refine z07 ?_
 refine cBx ?_
 refine bR ?_
 refine sX ?_
 obtain ⟨x7, hx7, h⟩ := obind h
 refine sS rfl rfl rfl (z06 rfl Z70 rfl (wkr .nil) ⟨rfl, trivial⟩ (Z23 x3 x7 hx7) rfl) ?_
 iterate 4 refine sX ?_
 refine eX ?_
 refine z08 ?_
 refine bR ?_
 refine sX ?_
 refine sS rfl rfl rfl (zuk Tryz.underlying92 rfl rfl) ?_
 refine sX ?_
 iterate 2 refine yX ?_
 refine eX ?_
 refine cX h rfl ?_ ?_
 intro hc8 h
 refine bR ?_
 iterate 2 refine sX ?_
 refine z0j rfl rfl (z0e z1h rfl rfl rfl rfl rfl rfl (lbE rfl) rfl) ?_
 iterate 2 refine sX ?_
 refine eX ?_
 obtain rfl := eI h; exact z05 ⟨_, rfl, z0p (y := (PV.tup [(z00 (S_api_Step.mk [] false 0)), (I64 0), (I64 a1), (I64 1)])) (Wk.refl _) (z01 (z02 (S_api_Step.mk [] false 0)) (z01 rfl (z01 rfl (z01 rfl z04)))) ⟨rfl, rfl⟩⟩
 intro hc8 h
 refine z07 ?_
 refine cBx ?_
 refine bR ?_
 refine sX ?_
 refine sS rfl rfl rfl (z1g (cs := [(z0i []), (BO true), (I64 x7)]) z8e z1h rfl rfl rfl rfl) ?_
 iterate 2 refine sX ?_
 refine z0j rfl rfl (z0e z1h rfl rfl rfl rfl rfl rfl (lbE rfl) rfl) ?_
 iterate 2 refine sX ?_
 refine eX ?_
 obtain rfl := eI h; exact z05 ⟨_, rfl, z0p (y := (PV.tup [(z00 (S_api_Step.mk [] true x7)), (I64 ((IntKind.i64.wrap ((IntKind.i64.wrap ((IntKind.i64.wrap (a1 + 1)) + (((x3).length : Nat) : Int))) + 1)))), (I64 0), (I64 0)])) (Wk.refl _) (z01 (z02 (S_api_Step.mk [] true x7)) (z01 rfl (z01 rfl (z01 rfl z04)))) ⟨rfl, rfl⟩⟩
 refine z0f ?_
 refine sX ?_
 refine sS rfl rfl rfl ((z2p (a := x3) (b := ([] : Str)) rfl rfl rfl rfl).cast (y := (BO ((x3 == ([] : Str))))) rfl rfl) ?_
 refine sX ?_
 refine z0q (t := 40) rfl ?_ ?_
 intro hb9; replace h := z0x hb9 h
 iterate 7 refine nX ?_
 iterate 2 refine sX ?_
 iterate 4 refine nX ?_
 refine sX ?_
 refine sX (z0a ?_)
 exact ⟨rfl, true, h, jN⟩
 intro hb9; replace h := z0y hb9 h
 refine yX ?_
 obtain ⟨x10, hx10, h⟩ := obind h
 refine z1q rfl rfl rfl rfl rfl rfl (z9v (s := x3) (i := 0) Tryz.underlying9 rfl rfl rfl hx10) ?_
 iterate 2 refine yX ?_
 refine z0q (t := 44) rfl ?_ ?_
 intro hb11; replace h := z0x hb11 h
 refine yX ?_
 refine z1q rfl rfl rfl rfl rfl rfl ((z2p (a := x3) (b := ([48] : Str)) rfl rfl rfl rfl).cast (y := (BO ((!(x3 == ([48] : Str)))))) rfl rfl) ?_
 refine yX ?_
 iterate 2 refine sX ?_
 refine z0q (t := 49) rfl ?_ ?_
 intro hb12; replace h := z0x hb12 h
 iterate 4 refine nX ?_
 refine sX ?_
 refine sX (z0a ?_)
 exact ⟨rfl, true, h, jN⟩
 intro hb12; replace h := z0y hb12 h
 iterate 2 refine yX ?_
 obtain ⟨x13, hx13, h⟩ := obind h
 refine z1q rfl rfl rfl rfl rfl rfl (z74 (s := a0) Tryz.underlying9 rfl rfl rfl hx13) ?_
 refine yX ?_
 refine sX ?_
 refine sX (z0a ?_)
 exact ⟨rfl, (((x13).toNat : Int) != (((93 : UInt8)).toNat : Int)), h, jN⟩
 intro hb11; replace h := z0y hb11 h
 iterate 2 refine nX ?_
 refine yX ?_
 iterate 2 refine sX ?_
 iterate 2 refine yX ?_
 obtain ⟨x14, hx14, h⟩ := obind h
 refine z1q rfl rfl rfl rfl rfl rfl (z74 (s := a0) Tryz.underlying9 rfl rfl rfl hx14) ?_
 refine yX ?_
 refine sX ?_
 refine sX (z0a ?_)
 exact ⟨rfl, (((x14).toNat : Int) != (((93 : UInt8)).toNat : Int)), h, jN⟩
 intro hc2 h
 refine z07 ?_
 refine cBx ?_
 refine jX (ι := Int) (fun i => zh4 a0 i = some r) (fun i => [(0, (z0i a0)), (1, (I64 i)), (6, (PV.rf 0 0)), (10, (PV.rf 1 0))]) (fun i => [.box 83 [(z0i []), (BO false), (I64 0)], .box 83 [(z0i []), (BO false), (I64 0)]]) ?_ ?_
 rintro s15 h; replace h : zh4 a0 s15 = some r := h; unfold zh4 at h
 change BW _ _ _ ⟨[(0, (z0i a0)), (1, (I64 s15)), (6, (PV.rf 0 0)), (10, (PV.rf 1 0))], [.box 83 [(z0i []), (BO false), (I64 0)], .box 83 [(z0i []), (BO false), (I64 0)]], _⟩ _
 refine bR ?_
 iterate 2 refine sX ?_
 obtain ⟨x16, hx16, h⟩ := obind h
 refine sS rfl rfl rfl (z06 rfl Z03 rfl (wkr (wkr (wkr .nil))) ⟨rfl, ⟨rfl, ⟨rfl, trivial⟩⟩⟩ (zyc a0 s15 ([97, 98, 99, 100, 101, 102, 103, 104, 105, 106, 107, 108, 109, 110, 111, 112, 113, 114, 115, 116, 117, 118, 119, 120, 121, 122, 48, 49, 50, 51, 52, 53, 54, 55, 56, 57, 95] : Str) x16 hx16) rfl) ?_
 refine eX ?_
 refine z08 ?_
 refine z0h ?_
 refine cBx ?_
 refine jX (ι := Bool) (fun i => z9a s15 x16 i = some r) (fun i => [(1, (I64 s15)), (6, (PV.rf 0 0)), (10, (PV.rf 1 0)), (15, (z0i x16)), (80, (BO i))]) (fun i => [.box 83 [(z0i []), (BO false), (I64 0)], .box 83 [(z0i []), (BO false), (I64 0)]]) ?_ ?_
 rintro s17 h; replace h : z9a s15 x16 s17 = some r := h; unfold z9a at h
 change BW _ _ _ ⟨[(1, (I64 s15)), (6, (PV.rf 0 0)), (10, (PV.rf 1 0)), (15, (z0i x16)), (80, (BO s17))], [.box 83 [(z0i []), (BO false), (I64 0)], .box 83 [(z0i []), (BO false), (I64 0)]], _⟩ _
 refine cX h rfl ?_ ?_
 intro hc18 h
 refine bR ?_
 iterate 2 refine sX ?_
 refine z0j rfl rfl (z0e z1h rfl rfl rfl rfl rfl rfl (lbE rfl) rfl) ?_
 iterate 2 refine sX ?_
 refine eX ?_
 obtain rfl := eI h; exact z05 ⟨_, rfl, z0p (y := (PV.tup [(z00 (S_api_Step.mk [] false 0)), (I64 0), (I64 s15), (I64 4)])) (Wk.refl _) (z01 (z02 (S_api_Step.mk [] false 0)) (z01 rfl (z01 rfl (z01 rfl z04)))) ⟨rfl, rfl⟩⟩
 intro hc18 h
 refine bR ?_
 refine sX ?_
 refine sS rfl rfl rfl ((z2p (a := x16) (b := ([] : Str)) rfl rfl rfl rfl).cast (y := (BO ((x16 == ([] : Str))))) rfl rfl) ?_
 refine eX ?_
 refine cX h rfl ?_ ?_
 intro hc19 h
 refine bR ?_
 iterate 2 refine sX ?_
 refine z0j rfl rfl (z0e z1h rfl rfl rfl rfl rfl rfl (lbE rfl) rfl) ?_
 iterate 2 refine sX ?_
 refine eX ?_
 obtain rfl := eI h; exact z05 ⟨_, rfl, z0p (y := (PV.tup [(z00 (S_api_Step.mk [] false 0)), (I64 0), (I64 s15), (I64 3)])) (Wk.refl _) (z01 (z02 (S_api_Step.mk [] false 0)) (z01 rfl (z01 rfl (z01 rfl z04)))) ⟨rfl, rfl⟩⟩
 intro hc19 h
 refine bR ?_
 refine sX ?_
 obtain ⟨x20, hx20, h⟩ := obind h
 refine sS rfl rfl rfl (z06 rfl Z3l rfl (wkr .nil) ⟨rfl, trivial⟩ (Z1r x16 x20 hx20) rfl) ?_
 refine sX ?_
 refine eX ?_
 refine cX h rfl ?_ ?_
 intro hc21 h
 refine bR ?_
 iterate 2 refine sX ?_
 refine z0j rfl rfl (z0e z1h rfl rfl rfl rfl rfl rfl (lbE rfl) rfl) ?_
 iterate 2 refine sX ?_
 refine eX ?_
 obtain rfl := eI h; exact z05 ⟨_, rfl, z0p (y := (PV.tup [(z00 (S_api_Step.mk [] false 0)), (I64 0), (I64 s15), (I64 8)])) (Wk.refl _) (z01 (z02 (S_api_Step.mk [] false 0)) (z01 rfl (z01 rfl (z01 rfl z04)))) ⟨rfl, rfl⟩⟩
 intro hc21 h
 refine z07 ?_
 refine cBx ?_
 refine bR ?_
 refine sX ?_
 refine sS rfl rfl rfl (z1g (cs := [(z0i x16), (BO false), (I64 0)]) z8e z1h rfl rfl rfl rfl) ?_
 iterate 2 refine sX ?_
 refine sS rfl rfl rfl (z4m (s := x16) Tryz.underlying9 rfl rfl) ?_
 refine sX ?_
 refine z0j rfl rfl (z0e z1h rfl rfl rfl rfl rfl rfl (lbE rfl) rfl) ?_
 iterate 2 refine sX ?_
 refine eX ?_
 obtain rfl := eI h; exact z05 ⟨_, rfl, z0p (y := (PV.tup [(z00 (S_api_Step.mk x16 false 0)), (I64 ((IntKind.i64.wrap (s15 + (((x16).length : Nat) : Int))))), (I64 0), (I64 0)])) (Wk.refl _) (z01 (z02 (S_api_Step.mk x16 false 0)) (z01 rfl (z01 rfl (z01 rfl z04)))) ⟨rfl, rfl⟩⟩
 refine z0f ?_
 refine sX ?_
 refine sS rfl rfl rfl ((z2p (a := x16) (b := ([] : Str)) rfl rfl rfl rfl).cast (y := (BO ((x16 == ([] : Str))))) rfl rfl) ?_
 refine sX ?_
 refine z0q (t := 83) rfl ?_ ?_
 intro hb22; replace h := z0x hb22 h
 iterate 2 refine yX ?_
 refine z1q rfl rfl rfl rfl rfl rfl (z4m (s := a0) Tryz.underlying9 rfl rfl) ?_
 refine yX ?_
 refine sX ?_
 refine sX (z0a ?_)
 exact ⟨rfl, (s15 == (((a0).length : Nat) : Int)), h, jN⟩
 intro hb22; replace h := z0y hb22 h
 iterate 4 refine nX ?_
 refine sX ?_
 refine sX (z0a ?_)
 exact ⟨rfl, false, h, jN⟩
 refine bR ?_
 refine eX ?_
 refine cX h rfl ?_ ?_
 intro hc23 h
 refine z0f ?_
 iterate 2 refine sX ?_
 refine sX (z0a ?_)
 exact ⟨rfl, (IntKind.i64.wrap (a1 + 1)), h, jN⟩
 intro hc23 h
 refine z07 ?_
 exact ⟨rfl, a1, h, jN⟩
noncomputable def zbh (g1 : (List S_api_Step) → Int → Option ((List S_api_Step) × Int × Int)) (a0 : Str) (s1 : (List S_api_Step)) (s2 : Int) (s4 : Bool) : Option ((List S_api_Step) × Int × Int) :=
 bif s4 then (
 some ([], s2, 3)
 ) else (
 bif (decide ((((s1).length : Nat) : Int) ≥ 64)) then (
 some ([], s2, 2)
 ) else (
 (zfp a0 s2 (decide ((((s1).length : Nat) : Int) > 0))).bind fun x7 =>
 bif (x7.2.2.2 != 0) then (
 some ([], x7.2.2.1, x7.2.2.2)
 ) else (
 (z8k 32 s1 ([(x7.1)] : (List S_api_Step))).bind fun x9 =>
 g1 x9 x7.2.1
 )
 )
 )
theorem zpj (g1 : OF ρ → (List S_api_Step) → Int → Option ((List S_api_Step) × Int × Int)) (h_g1 : ∀ y0 y1, CM (fun G => g1 G y0 y1)) (a0 : Str) (s1 : (List S_api_Step)) (s2 : Int) (s4 : Bool) : CM (fun G : OF ρ => zbh (g1 G) a0 s1 s2 s4) := by
 simp only [zbh]
 repeat (first | exact z0c | exact h_g1 _ _ | refine z11 ?_ ?_ | refine z12 ?_ (fun _ => ?_))
noncomputable def z5i (a0 : Str) (g1 : (List S_api_Step) → Int → Option ((List S_api_Step) × Int × Int)) (s1 : (List S_api_Step)) (s2 : Int) : Option ((List S_api_Step) × Int × Int) :=
 bif (decide (s2 < (((a0).length : Nat) : Int))) then (
 bif (decide ((((s1).length : Nat) : Int) > 0)) then (
 (z7g a0 s2).bind fun x11 =>
 bif (((x11).toNat : Int) != (((46 : UInt8)).toNat : Int)) then (
 (z7g a0 s2).bind fun x13 =>
 zbh g1 a0 s1 s2 (((x13).toNat : Int) != (((91 : UInt8)).toNat : Int))
 ) else (
 zbh g1 a0 s1 s2 false
 )
 ) else (
 zbh g1 a0 s1 s2 false
 )
 ) else (
 some (s1, 0, 0)
 )
theorem znl (g1 : OF ρ → (List S_api_Step) → Int → Option ((List S_api_Step) × Int × Int)) (h_g1 : ∀ y0 y1, CM (fun G => g1 G y0 y1)) (a0 : Str) (s1 : (List S_api_Step)) (s2 : Int) : CM (fun G : OF ρ => z5i a0 (g1 G) s1 s2) := by
 simp only [z5i]
 repeat (first | exact z0c | exact h_g1 _ _ | apply zpj | refine z11 ?_ ?_ | refine z12 ?_ (fun _ => ?_) | intro _ | assumption)
noncomputable def zls (a0 : Str) (s1 : (List S_api_Step)) (s2 : Int) : Option ((List S_api_Step) × Int × Int) :=
 z2w (ι := ((List S_api_Step) × Int)) (ρ := fun _ => ((List S_api_Step) × Int × Int)) (fun g i => z5i a0 (fun s1 s2 => g (s1, s2)) i.1 i.2) (s1, s2)
theorem zcs (a0 : Str) (s1 : (List S_api_Step)) (s2 : Int) : zls a0 s1 s2 = z5i a0 (zls a0) s1 s2 :=
 z19 (ι := ((List S_api_Step) × Int)) (ρ := fun _ => ((List S_api_Step) × Int × Int)) (Φ := fun g i => z5i a0 (fun s1 s2 => g (s1, s2)) i.1 i.2) (fun i => znl (ι := ((List S_api_Step) × Int)) (ρ := fun _ => ((List S_api_Step) × Int × Int)) (fun g => (fun s1 s2 => g (s1, s2))) (fun _ _ => z17) a0 i.1 i.2) (s1, s2)
noncomputable def zqm (a0 : Str) : Option ((List S_api_Step) × Int × Int) :=
 zls a0 ([]) 0
theorem Z4p (a0 : Str) (r : ((List S_api_Step) × Int × Int)) (h : zqm a0 = some r) : z0m Tryz.prog 15 [(z0i a0)] (PV.tup [(PV.sl none 83 3 (List.map z00 r.1)), (I64 r.2.1), (I64 r.2.2)]) := by
 unfold zqm at h
 refine z0d Tryz.func15 rfl Tryz.ntmps15 Tryz.results15 rfl (z0g ?_)
 change BW _ _ _ ⟨[(0, (z0i a0))], [], _⟩ _
 refine bR ?_
 iterate 2 refine sX ?_
 refine eX ?_
 refine bR ?_
 refine eX ?_
 refine z08 ?_
 refine bR ?_
 refine eX ?_
 refine z0h ?_
 refine cBx ?_
 refine zw1 (s := ⟨_, _, _⟩) 5 83 (sz := 3) rfl rfl ?_
 unfold zls at h
 refine z2u (σ := ((List S_api_Step) × Int)) (fun i => [(0, (z0i a0)), (5, (PV.sl (some 0) 83 3 (List.map z00 i.1))), (6, (I64 i.2))]) (fun i => [.arr 83 (i.1).length]) ([], 0) h ?_ ?_ ?_
 intro i; exact ⟨lbE rfl, ⟨(z09 rfl), ⟨(z3r rfl (z0u z02 _)), ⟨(z09 rfl), trivial⟩⟩⟩, trivial⟩
 exact jN
 rintro g1_f ⟨s1, s2⟩ h; replace h : z5i a0 (fun y0 y1 => g1_f (y0, y1)) s1 s2 = some r := h; unfold z5i at h
 change BW _ _ _ ⟨[(0, (z0i a0)), (5, (PV.sl (some 0) 83 3 (List.map z00 s1))), (6, (I64 s2))], [.arr 83 (s1).length], _⟩ _
 refine z08 ?_
 refine bR ?_
 iterate 2 refine sX ?_
 refine sS rfl rfl rfl (z4m (s := a0) Tryz.underlying9 rfl rfl) ?_
 refine eX ?_
 refine cX h rfl ?_ ?_
 intro hc3 h
 refine z07 ?_
 refine cBx ?_
 refine z0h ?_
 refine cBx ?_
 refine z08 ?_
 refine z2t (ι := Bool) (fun i => zbh (fun y0 y1 => g1_f (y0, y1)) a0 s1 s2 i = some r) (fun i => [(0, (z0i a0)), (5, (PV.sl (some 0) 83 3 (List.map z00 s1))), (6, (I64 s2)), (29, (BO i))]) (fun i => [.arr 83 (s1).length]) ?_ ?_ ?_
 intro i; exact ⟨lbE rfl, ⟨(z09 rfl), ⟨(z3r rfl (z0u z02 _)), ⟨(z09 rfl), ⟨(z09 rfl), trivial⟩⟩⟩⟩, trivial⟩
 rintro s4 h; replace h : zbh (fun y0 y1 => g1_f (y0, y1)) a0 s1 s2 s4 = some r := h; unfold zbh at h
 change BW _ _ _ ⟨[(0, (z0i a0)), (5, (PV.sl (some 0) 83 3 (List.map z00 s1))), (6, (I64 s2)), (29, (BO s4))], [.arr 83 (s1).length], _⟩ _
 refine cX h rfl ?_ ?_
 intro hc5 h
 refine bR ?_
 iterate 3 refine sX ?_
 refine eX ?_
 obtain rfl := eI h; exact z05 ⟨_, rfl, z0p (y := (PV.tup [(PV.sl none 83 3 (List.map z00 [])), (I64 s2), (I64 3)])) (Wk.tup (.cons Wk.nil (wkr (wkr .nil)))) (z01 (z03 z02 ([])) (z01 rfl (z01 rfl z04))) ⟨rfl, rfl⟩⟩
 intro hc5 h
 refine z07 ?_
 refine cBx ?_
 refine z08 ?_
 refine bR ?_
 iterate 2 refine sX ?_
 refine eX ?_
 refine cX h rfl ?_ ?_
 intro hc6 h
 refine bR ?_
 iterate 3 refine sX ?_
 refine eX ?_
 obtain rfl := eI h; exact z05 ⟨_, rfl, z0p (y := (PV.tup [(PV.sl none 83 3 (List.map z00 [])), (I64 s2), (I64 2)])) (Wk.tup (.cons Wk.nil (wkr (wkr .nil)))) (z01 (z03 z02 ([])) (z01 rfl (z01 rfl z04))) ⟨rfl, rfl⟩⟩
 intro hc6 h
 refine z07 ?_
 refine cBx ?_
 refine bR ?_
 iterate 5 refine sX ?_
 obtain ⟨x7, hx7, h⟩ := obind h
 refine sS rfl rfl rfl (z06 rfl Z7a rfl (wkr (wkr (wkr .nil))) ⟨rfl, ⟨rfl, ⟨rfl, trivial⟩⟩⟩ (Z4m a0 s2 (decide ((((s1).length : Nat) : Int) > 0)) x7 hx7) (z01 (z02 x7.1) (z01 rfl (z01 rfl (z01 rfl z04))))) ?_
 iterate 5 refine sX ?_
 refine sS rfl rfl rfl (z14 z1h rfl) ?_
 refine z0j rfl rfl (z0e z1h rfl rfl rfl rfl rfl rfl (lbE rfl) rfl) ?_
 iterate 2 refine sX ?_
 refine eX ?_
 refine z08 ?_
 refine bR ?_
 refine sX ?_
 refine eX ?_
 refine cX h rfl ?_ ?_
 intro hc8 h
 refine bR ?_
 iterate 4 refine sX ?_
 refine eX ?_
 obtain rfl := eI h; exact z05 ⟨_, rfl, z0p (y := (PV.tup [(PV.sl none 83 3 (List.map z00 [])), (I64 x7.2.2.1), (I64 x7.2.2.2)])) (Wk.tup (.cons Wk.nil (wkr (wkr .nil)))) (z01 (z03 z02 ([])) (z01 rfl (z01 rfl z04))) ⟨rfl, rfl⟩⟩
 intro hc8 h
 refine z07 ?_
 refine cBx ?_
 refine z0f ?_
 iterate 2 refine sX ?_
 refine sS rfl rfl rfl ((z1e (xs := [(PV.agg [(z0i (x7.1).f_Name), (BO ((x7.1).f_At)), (I64 ((x7.1).f_Index))])]) Tryz.underlying30 z1h rfl rfl rfl rfl rfl rfl ⟨lbE rfl, lbE rfl⟩ rfl).cast (y := (PV.sl (some 2) 83 3 (List.map z00 ([(x7.1)] : (List S_api_Step))))) rfl rfl) ?_
 obtain ⟨x9, hx9, h⟩ := obind h
 refine sS rfl rfl rfl (z2l Tryz.underlying30 z1h rfl Tryz.underlying30 rfl rfl rfl rfl z2x z2j hx9 rfl) ?_
 iterate 2 refine sX ?_
 refine sX (z0a ?_)
 exact ⟨rfl, (x9, x7.2.1), h, jN⟩
 refine z0f ?_
 iterate 4 refine sX ?_
 refine z0q (t := 18) rfl ?_ ?_
 intro hb10; replace h := z0x hb10 h
 iterate 2 refine yX ?_
 obtain ⟨x11, hx11, h⟩ := obind h
 refine z1q rfl rfl rfl rfl rfl rfl (z74 (s := a0) Tryz.underlying9 rfl rfl rfl hx11) ?_
 refine yX ?_
 iterate 2 refine sX ?_
 refine z0q (t := 24) rfl ?_ ?_
 intro hb12; replace h := z0x hb12 h
 iterate 2 refine yX ?_
 obtain ⟨x13, hx13, h⟩ := obind h
 refine z1q rfl rfl rfl rfl rfl rfl (z74 (s := a0) Tryz.underlying9 rfl rfl rfl hx13) ?_
 refine yX ?_
 refine sX (z0a ?_)
 exact ⟨rfl, (((x13).toNat : Int) != (((91 : UInt8)).toNat : Int)), h, jN⟩
 intro hb12; replace h := z0y hb12 h
 iterate 4 refine nX ?_
 refine sX (z0a ?_)
 exact ⟨rfl, false, h, jN⟩
 intro hb10; replace h := z0y hb10 h
 iterate 4 refine nX ?_
 iterate 2 refine sX ?_
 iterate 4 refine nX ?_
 refine sX (z0a ?_)
 exact ⟨rfl, false, h, jN⟩
 intro hc3 h
 refine z1z ?_
 refine cBx ?_
 refine bR ?_
 iterate 3 refine sX ?_
 refine eX ?_
 obtain rfl := eI h; exact z05 ⟨_, rfl, z0p (y := (PV.tup [(PV.sl none 83 3 (List.map z00 s1)), (I64 0), (I64 0)])) (Wk.tup (.cons Wk.tok (wkr (wkr .nil)))) (z01 (z03 z02 s1) (z01 rfl (z01 rfl z04))) ⟨rfl, rfl⟩⟩
noncomputable def zjt (a0 : V) : Option Int :=
 bif (a0).isNil then (
 some 1
 ) else (
 bif (a0).isBool then (
 some 2
 ) else (
 bif (a0).isInt then (
 some 3
 ) else (
 bif (a0).isFloat then (
 some 4
 ) else (
 bif (a0).isText then (
 some 5
 ) else (
 bif (a0).isBytes then (
 some 6
 ) else (
 bif (a0).isRef then (
 some 7
 ) else (
 bif (a0).isList then (
 some 8
 ) else (
 bif (a0).isDict then (
 some 9
 ) else (
 bif (a0).isRec then (
 bif ((a0).asRec).isNone then (
 some 11
 ) else (
 some 10
 )
 ) else (
 some 0
 )
 )
 )
 )
 )
 )
 )
 )
 )
 )
theorem ztd (a0 : V) (r : Int) (h : zjt a0 = some r) : z0m Tryz.prog 60 [(ofV a0)] (I64 r) := by
 unfold zjt at h
 refine z0d Tryz.func60 rfl Tryz.ntmps60 Tryz.results60 rfl (z0g ?_)
 change BW _ _ _ ⟨[(0, (ofV a0))], [], _⟩ _
 refine bR ?_
 refine eX ?_
 refine z08 ?_
 refine bR ?_
 refine eX ?_
 refine z0h ?_
 refine cBx ?_
 refine bR ?_
 refine sS rfl rfl rfl (zob Tryz.underlying20 rfl rfl) (z0a ?_)
 refine cBx ?_
 refine cX h rfl ?_ ?_
 intro hc1 h
 refine bR ?_
 refine eX ?_
 refine bR ?_
 refine eX ?_
 obtain rfl := eI h; exact z05 eK
 intro hc1 h
 refine bR ?_
 refine sS rfl rfl rfl (zeq rfl rfl) ?_
 refine sX ?_
 refine eX ?_
 refine cX h rfl ?_ ?_
 intro hc2 h
 refine bR ?_
 refine eX ?_
 refine bR ?_
 refine eX ?_
 obtain rfl := eI h; exact z05 eK
 intro hc2 h
 refine bR ?_
 refine sS rfl rfl rfl (zi9 rfl rfl) ?_
 refine sX ?_
 refine eX ?_
 refine cX h rfl ?_ ?_
 intro hc3 h
 refine bR ?_
 refine eX ?_
 refine bR ?_
 refine eX ?_
 obtain rfl := eI h; exact z05 eK
 intro hc3 h
 refine bR ?_
 refine sS rfl rfl rfl (zd5 rfl rfl) ?_
 refine sX ?_
 refine eX ?_
 refine cX h rfl ?_ ?_
 intro hc4 h
 refine bR ?_
 refine eX ?_
 refine bR ?_
 refine eX ?_
 obtain rfl := eI h; exact z05 eK
 intro hc4 h
 refine bR ?_
 refine sS rfl rfl rfl (zb3 rfl rfl) ?_
 refine sX ?_
 refine eX ?_
 refine cX h rfl ?_ ?_
 intro hc5 h
 refine bR ?_
 refine eX ?_
 refine bR ?_
 refine eX ?_
 obtain rfl := eI h; exact z05 eK
 intro hc5 h
 refine bR ?_
 refine sS rfl rfl rfl (z4z rfl rfl) ?_
 refine sX ?_
 refine eX ?_
 refine cX h rfl ?_ ?_
 intro hc6 h
 refine bR ?_
 refine eX ?_
 refine bR ?_
 refine eX ?_
 obtain rfl := eI h; exact z05 eK
 intro hc6 h
 refine bR ?_
 refine sS rfl rfl rfl (zi8 rfl rfl) ?_
 refine sX ?_
 refine eX ?_
 refine cX h rfl ?_ ?_
 intro hc7 h
 refine bR ?_
 refine eX ?_
 refine bR ?_
 refine eX ?_
 obtain rfl := eI h; exact z05 eK
 intro hc7 h
 refine bR ?_
 refine sS rfl rfl rfl (z1w rfl rfl) ?_
 refine sX ?_
 refine eX ?_
 refine cX h rfl ?_ ?_
 intro hc8 h
 refine bR ?_
 refine eX ?_
 refine bR ?_
 refine eX ?_
 obtain rfl := eI h; exact z05 eK
 intro hc8 h
 refine bR ?_
 refine sS rfl rfl rfl (z2r rfl rfl) ?_
 refine sX ?_
 refine eX ?_
 refine cX h rfl ?_ ?_
 intro hc9 h
 refine bR ?_
 refine eX ?_
 refine bR ?_
 refine eX ?_
 obtain rfl := eI h; exact z05 eK
 intro hc9 h
 refine bR ?_
 refine sS rfl rfl rfl (z35 rfl rfl) ?_
 refine sX ?_
 refine eX ?_
 refine cX h rfl ?_ ?_
 intro hc10 h
 refine bR ?_
 refine eX ?_
 refine z08 ?_
 refine bR ?_
 refine sX ?_
 refine sS rfl rfl rfl (zer Tryz.underlying73 rfl rfl) (z0a ?_)
 refine cBx ?_
 refine cX h rfl ?_ ?_
 intro hc11 h
 refine bR ?_
 refine eX ?_
 obtain rfl := eI h; exact z05 eK
 intro hc11 h
 refine z07 ?_
 refine cBx ?_
 refine bR ?_
 refine eX ?_
 obtain rfl := eI h; exact z05 eK
 intro hc10 h
 refine z07 ?_
 refine cBx ?_
 refine bR ?_
 refine eX ?_
 obtain rfl := eI h; exact z05 eK
noncomputable def z68 (g1 : Nat → Option Bool) (s4 : Nat) (s8 : Bool) : Option Bool :=
 bif s8 then (
 some false
 ) else (
 g1 (s4 + 1)
 )
theorem zpl (g1 : OF ρ → Nat → Option Bool) (h_g1 : ∀ y0, CM (fun G => g1 G y0)) (s4 : Nat) (s8 : Bool) : CM (fun G : OF ρ => z68 (g1 G) s4 s8) := by
 simp only [z68]
 repeat (first | exact z0c | exact h_g1 _ | refine z11 ?_ ?_ | refine z12 ?_ (fun _ => ?_))
noncomputable def z5k (a0 : Str) (g1 : Nat → Option Bool) (s4 : Nat) : Option Bool :=
 bif (decide (((s4 : Nat) : Int) < (((a0).length : Nat) : Int))) then (
 ((a0)[s4]?).bind fun x7 =>
 bif (decide (((x7).toNat : Int) < (((97 : UInt8)).toNat : Int))) then (
 bif (decide (((x7).toNat : Int) < (((48 : UInt8)).toNat : Int))) then (
 z68 g1 s4 (((x7).toNat : Int) != (((95 : UInt8)).toNat : Int))
 ) else (
 bif (decide (((x7).toNat : Int) > (((57 : UInt8)).toNat : Int))) then (
 z68 g1 s4 (((x7).toNat : Int) != (((95 : UInt8)).toNat : Int))
 ) else (
 z68 g1 s4 false
 )
 )
 ) else (
 bif (decide (((x7).toNat : Int) > (((122 : UInt8)).toNat : Int))) then (
 bif (decide (((x7).toNat : Int) < (((48 : UInt8)).toNat : Int))) then (
 z68 g1 s4 (((x7).toNat : Int) != (((95 : UInt8)).toNat : Int))
 ) else (
 bif (decide (((x7).toNat : Int) > (((57 : UInt8)).toNat : Int))) then (
 z68 g1 s4 (((x7).toNat : Int) != (((95 : UInt8)).toNat : Int))
 ) else (
 z68 g1 s4 false
 )
 )
 ) else (
 z68 g1 s4 false
 )
 )
 ) else (
 some true
 )
theorem znm (g1 : OF ρ → Nat → Option Bool) (h_g1 : ∀ y0, CM (fun G => g1 G y0)) (a0 : Str) (s4 : Nat) : CM (fun G : OF ρ => z5k a0 (g1 G) s4) := by
 simp only [z5k]
 repeat (first | exact z0c | exact h_g1 _ | apply zpl | refine z11 ?_ ?_ | refine z12 ?_ (fun _ => ?_) | intro _ | assumption)
noncomputable def zha (a0 : Str) (s4 : Nat) : Option Bool :=
 z2w (ι := Nat) (ρ := fun _ => Bool) (fun g i => z5k a0 (fun s4 => g s4) i) s4
theorem zh9 (a0 : Str) (s4 : Nat) : zha a0 s4 = z5k a0 (zha a0) s4 :=
 z19 (ι := Nat) (ρ := fun _ => Bool) (Φ := fun g i => z5k a0 (fun s4 => g s4) i) (fun i => znm (ι := Nat) (ρ := fun _ => Bool) (fun g => (fun s4 => g s4)) (fun _ => z17) a0 i) s4
noncomputable def zbi (a0 : Str) (s1 : Bool) : Option Bool :=
 bif s1 then (
 some false
 ) else (
 (ze4 (a0).length).bind fun x3 =>
 zha a0 0
 )
noncomputable def zjs (a0 : Str) : Option Bool :=
 bif (a0 == ([] : Str)) then (
 zbi a0 true
 ) else (
 bif (decide ((((a0).length : Nat) : Int) > 32)) then (
 zbi a0 true
 ) else (
 ((a0)[0]?).bind fun x18 =>
 bif (decide (((x18).toNat : Int) < (((97 : UInt8)).toNat : Int))) then (
 zbi a0 true
 ) else (
 ((a0)[0]?).bind fun x20 =>
 zbi a0 (decide (((x20).toNat : Int) > (((122 : UInt8)).toNat : Int)))
 )
 )
 )
theorem Z1q (a0 : Str) (r : Bool) (h : zjs a0 = some r) : z0m Tryz.prog 108 [(z0i a0)] (BO r) := by
 unfold zjs at h
 refine z0d Tryz.func108 rfl Tryz.ntmps108 Tryz.results108 rfl (z0g ?_)
 change BW _ _ _ ⟨[(0, (z0i a0))], [], _⟩ _
 refine bR ?_
 refine eX ?_
 refine z08 ?_
 refine jX (ι := Bool) (fun i => zbi a0 i = some r) (fun i => [(0, (z0i a0)), (21, (BO i))]) (fun i => []) ?_ ?_
 rintro s1 h; replace h : zbi a0 s1 = some r := h; unfold zbi at h
 change BW _ _ _ ⟨[(0, (z0i a0)), (21, (BO s1))], [], _⟩ _
 refine cX h rfl ?_ ?_
 intro hc2 h
 refine bR ?_
 refine eX ?_
 obtain rfl := eI h; exact z05 eK
 intro hc2 h
 refine z07 ?_
 refine cBx ?_
 refine z08 ?_
 refine bR ?_
 refine sX ?_
 obtain ⟨x3, hx3, h⟩ := obind h
 refine sS rfl rfl rfl (zrd Tryz.underlying9 Tryz.underlying23 Tryz.underlying5 rfl rfl hx3) ?_
 refine sX ?_
 refine eX ?_
 refine z0h ?_
 refine cBx ?_
 unfold zha at h
 refine lX (σ := Nat) (fun i => [(23, (PV.sl none 5 1 (List.map ofB a0))), (24, (I64 ((((a0).length : Nat) : Int)))), (25, (I64 (((i : Nat) : Int))))]) (fun i => []) 0 h ?_ ?_
 exact jN
 rintro g1_f s4 h; replace h : z5k a0 (fun y0 => g1_f y0) s4 = some r := h; unfold z5k at h
 change BW _ _ _ ⟨[(23, (PV.sl none 5 1 (List.map ofB a0))), (24, (I64 ((((a0).length : Nat) : Int)))), (25, (I64 (((s4 : Nat) : Int))))], [], _⟩ _
 refine bR ?_
 refine eX ?_
 refine z08 ?_
 refine z3j (t := 23) rfl fun hb6 => ?_
 try rw [List.length_map] at hb6
 refine cX h rfl ?_ ?_
 intro hc5 h
 have hc5_ := of_decide_eq_true hc5
 refine z07 ?_
 refine cBx ?_
 refine z08 ?_
 refine z0h ?_
 refine cBx ?_
 refine bR ?_
 obtain ⟨x7, hx7, h⟩ := obind h
 refine sS rfl rfl rfl (z1r (i := s4) Tryz.underlying23 inf_5 rfl rfl rfl hx7 rfl) ?_
 refine sX ?_
 refine eX ?_
 refine jX (ι := Bool) (fun i => z68 (fun y0 => g1_f y0) s4 i = some r) (fun i => [(23, (PV.sl none 5 1 (List.map ofB a0))), (24, (I64 ((((a0).length : Nat) : Int)))), (25, (I64 (((s4 : Nat) : Int)))), (46, (BO i))]) (fun i => []) ?_ ?_
 rintro s8 h; replace h : z68 (fun y0 => g1_f y0) s4 s8 = some r := h; unfold z68 at h
 change BW _ _ _ ⟨[(23, (PV.sl none 5 1 (List.map ofB a0))), (24, (I64 ((((a0).length : Nat) : Int)))), (25, (I64 (((s4 : Nat) : Int)))), (46, (BO s8))], [], _⟩ _
 refine cX h rfl ?_ ?_
 intro hc9 h
 refine bR ?_
 refine eX ?_
 obtain rfl := eI h; exact z05 eK
 intro hc9 h
 refine z07 ?_
 refine cBx ?_
 refine z0f ?_
 refine sS rfl rfl rfl (z27 (k := s4) (c := 1) rfl rfl rfl (by omega)) ?_
 refine sX (z0a ?_)
 exact ⟨rfl, (s4 + 1), h, jN⟩
 refine z0f ?_
 iterate 3 refine sX ?_
 refine z0q (t := 31) rfl ?_ ?_
 intro hb10; replace h := z0x hb10 h
 iterate 2 refine nX ?_
 iterate 2 refine sX ?_
 iterate 3 refine yX ?_
 refine z0q (t := 38) rfl ?_ ?_
 intro hb11; replace h := z0x hb11 h
 iterate 2 refine nX ?_
 refine yX ?_
 iterate 2 refine sX ?_
 iterate 2 refine yX ?_
 refine sX (z0a ?_)
 exact ⟨rfl, (((x7).toNat : Int) != (((95 : UInt8)).toNat : Int)), h, jN⟩
 intro hb11; replace h := z0y hb11 h
 iterate 3 refine yX ?_
 iterate 2 refine sX ?_
 refine z0q (t := 43) rfl ?_ ?_
 intro hb12; replace h := z0x hb12 h
 iterate 2 refine yX ?_
 refine sX (z0a ?_)
 exact ⟨rfl, (((x7).toNat : Int) != (((95 : UInt8)).toNat : Int)), h, jN⟩
 intro hb12; replace h := z0y hb12 h
 iterate 2 refine nX ?_
 refine sX (z0a ?_)
 exact ⟨rfl, false, h, jN⟩
 intro hb10; replace h := z0y hb10 h
 iterate 2 refine yX ?_
 iterate 2 refine sX ?_
 refine z0q (t := 35) rfl ?_ ?_
 intro hb13; replace h := z0x hb13 h
 iterate 3 refine yX ?_
 refine z0q (t := 38) rfl ?_ ?_
 intro hb14; replace h := z0x hb14 h
 iterate 2 refine nX ?_
 refine yX ?_
 iterate 2 refine sX ?_
 iterate 2 refine yX ?_
 refine sX (z0a ?_)
 exact ⟨rfl, (((x7).toNat : Int) != (((95 : UInt8)).toNat : Int)), h, jN⟩
 intro hb14; replace h := z0y hb14 h
 iterate 3 refine yX ?_
 iterate 2 refine sX ?_
 refine z0q (t := 43) rfl ?_ ?_
 intro hb15; replace h := z0x hb15 h
 iterate 2 refine yX ?_
 refine sX (z0a ?_)
 exact ⟨rfl, (((x7).toNat : Int) != (((95 : UInt8)).toNat : Int)), h, jN⟩
 intro hb15; replace h := z0y hb15 h
 iterate 2 refine nX ?_
 refine sX (z0a ?_)
 exact ⟨rfl, false, h, jN⟩
 intro hb13; replace h := z0y hb13 h
 iterate 6 refine nX ?_
 iterate 2 refine sX ?_
 iterate 2 refine nX ?_
 refine sX (z0a ?_)
 exact ⟨rfl, false, h, jN⟩
 intro hc5 h
 refine z1z ?_
 refine cBx ?_
 refine bR ?_
 refine eX ?_
 obtain rfl := eI h; exact z05 eK
 refine z0f ?_
 refine sX ?_
 refine sS rfl rfl rfl ((z2p (a := a0) (b := ([] : Str)) rfl rfl rfl rfl).cast (y := (BO ((a0 == ([] : Str))))) rfl rfl) ?_
 refine sX ?_
 refine z0q (t := 7) rfl ?_ ?_
 intro hb16; replace h := z0x hb16 h
 iterate 3 refine nX ?_
 iterate 2 refine sX ?_
 iterate 3 refine nX ?_
 iterate 2 refine sX ?_
 iterate 3 refine nX ?_
 refine sX (z0a ?_)
 exact ⟨rfl, true, h, jN⟩
 intro hb16; replace h := z0y hb16 h
 refine yX ?_
 refine z1q rfl rfl rfl rfl rfl rfl (z4m (s := a0) Tryz.underlying9 rfl rfl) ?_
 refine yX ?_
 iterate 2 refine sX ?_
 refine z0q (t := 12) rfl ?_ ?_
 intro hb17; replace h := z0x hb17 h
 iterate 3 refine nX ?_
 iterate 2 refine sX ?_
 iterate 3 refine nX ?_
 refine sX (z0a ?_)
 exact ⟨rfl, true, h, jN⟩
 intro hb17; replace h := z0y hb17 h
 refine yX ?_
 obtain ⟨x18, hx18, h⟩ := obind h
 refine z1q rfl rfl rfl rfl rfl rfl (z9v (s := a0) (i := 0) Tryz.underlying9 rfl rfl rfl hx18) ?_
 refine yX ?_
 iterate 2 refine sX ?_
 refine z0q (t := 17) rfl ?_ ?_
 intro hb19; replace h := z0x hb19 h
 iterate 3 refine nX ?_
 refine sX (z0a ?_)
 exact ⟨rfl, true, h, jN⟩
 intro hb19; replace h := z0y hb19 h
 refine yX ?_
 obtain ⟨x20, hx20, h⟩ := obind h
 refine z1q rfl rfl rfl rfl rfl rfl (z9v (s := a0) (i := 0) Tryz.underlying9 rfl rfl rfl hx20) ?_
 refine yX ?_
 refine sX (z0a ?_)
 exact ⟨rfl, (decide (((x20).toNat : Int) > (((122 : UInt8)).toNat : Int))), h, jN⟩
noncomputable def z9c (g1 : Nat → Option Int) (s2 : Nat) (s6 : Bool) : Option Int :=
 bif s6 then (
 some 8
 ) else (
 g1 (s2 + 1)
 )
theorem zpn (g1 : OF ρ → Nat → Option Int) (h_g1 : ∀ y0, CM (fun G => g1 G y0)) (s2 : Nat) (s6 : Bool) : CM (fun G : OF ρ => z9c (g1 G) s2 s6) := by
 simp only [z9c]
 repeat (first | exact z0c | exact h_g1 _ | refine z11 ?_ ?_ | refine z12 ?_ (fun _ => ?_))
noncomputable def z6v (a0 : (List (Str × V))) (g1 : Nat → Option Int) (s2 : Nat) : Option Int :=
 bif (decide (((s2 : Nat) : Int) < (((a0).length : Nat) : Int))) then (
 ((a0)[s2]?).bind fun x5 =>
 (zjs x5.1).bind fun x8 =>
 bif (!x8) then (
 z9c g1 s2 true
 ) else (
 bif (decide (((s2 : Nat) : Int) > 0)) then (
 (z7g a0 (IntKind.i64.wrap (((s2 : Nat) : Int) - 1))).bind fun x11 =>
 z9c g1 s2 (Op.bytesLess x5.1 x11.1 || x5.1 == x11.1)
 ) else (
 z9c g1 s2 false
 )
 )
 ) else (
 some 0
 )
theorem zno (g1 : OF ρ → Nat → Option Int) (h_g1 : ∀ y0, CM (fun G => g1 G y0)) (a0 : (List (Str × V))) (s2 : Nat) : CM (fun G : OF ρ => z6v a0 (g1 G) s2) := by
 simp only [z6v]
 repeat (first | exact z0c | exact h_g1 _ | apply zpn | refine z11 ?_ ?_ | refine z12 ?_ (fun _ => ?_) | intro _ | assumption)
noncomputable def zhg (a0 : (List (Str × V))) (s2 : Nat) : Option Int :=
 z2w (ι := Nat) (ρ := fun _ => Int) (fun g i => z6v a0 (fun s2 => g s2) i) s2
theorem zhf (a0 : (List (Str × V))) (s2 : Nat) : zhg a0 s2 = z6v a0 (zhg a0) s2 :=
 z19 (ι := Nat) (ρ := fun _ => Int) (Φ := fun g i => z6v a0 (fun s2 => g s2) i) (fun i => zno (ι := Nat) (ρ := fun _ => Int) (fun g => (fun s2 => g s2)) (fun _ => z17) a0 i) s2
noncomputable def zjx (a0 : (List (Str × V))) : Option Int :=
 bif (decide ((((a0).length : Nat) : Int) > 4096)) then (
 some 2
 ) else (
 zhg a0 0
 )
theorem Z1v (a0 : (List (Str × V))) (r : Int) (h : zjx a0 = some r) : z0m Tryz.prog 107 [(PV.sl none 69 2 (List.map ofFld a0))] (I64 r) := by
 unfold zjx at h
 refine z0d Tryz.func107 rfl Tryz.ntmps107 Tryz.results107 rfl (z0g ?_)
 change BW _ _ _ ⟨[(0, (PV.sl none 69 2 (List.map ofFld a0)))], [], _⟩ _
 refine bR ?_
 refine eX ?_
 refine z08 ?_
 refine bR ?_
 iterate 2 refine sX ?_
 refine eX ?_
 refine cX h rfl ?_ ?_
 intro hc1 h
 refine bR ?_
 refine eX ?_
 obtain rfl := eI h; exact z05 eK
 intro hc1 h
 refine z07 ?_
 refine cBx ?_
 refine z08 ?_
 refine bR ?_
 iterate 2 refine sX ?_
 refine eX ?_
 refine z0h ?_
 refine cBx ?_
 unfold zhg at h
 refine lX (σ := Nat) (fun i => [(0, (PV.sl none 69 2 (List.map ofFld a0))), (8, (PV.sl none 69 2 (List.map ofFld a0))), (9, (I64 ((((a0).length : Nat) : Int)))), (10, (I64 (((i : Nat) : Int))))]) (fun i => []) 0 h ?_ ?_
 exact jN
 rintro g1_f s2 h; replace h : z6v a0 (fun y0 => g1_f y0) s2 = some r := h; unfold z6v at h
 change BW _ _ _ ⟨[(0, (PV.sl none 69 2 (List.map ofFld a0))), (8, (PV.sl none 69 2 (List.map ofFld a0))), (9, (I64 ((((a0).length : Nat) : Int)))), (10, (I64 (((s2 : Nat) : Int))))], [], _⟩ _
 refine bR ?_
 refine eX ?_
 refine z08 ?_
 refine z3j (t := 8) rfl fun hb4 => ?_
 try rw [List.length_map] at hb4
 refine cX h rfl ?_ ?_
 intro hc3 h
 have hc3_ := of_decide_eq_true hc3
 refine z07 ?_
 refine cBx ?_
 refine z08 ?_
 refine z0h ?_
 refine cBx ?_
 refine bR ?_
 refine sX ?_
 obtain ⟨x5, hx5, h⟩ := obind h
 refine sS rfl rfl rfl (z1r (i := s2) Tryz.underlying71 z0z rfl rfl rfl hx5 rfl) ?_
 refine sX ?_
 refine sS rfl rfl rfl ((z14 z0z rfl).cast (H'' := [.box 69 [(z0i []), (ofV V.nil)]]) rfl (by simp only [mk_nil]; rfl)) ?_
 refine sX ?_
 refine z0j rfl rfl (z0e z0z rfl rfl rfl rfl rfl rfl (lbE rfl) (by show List.all [(z0i x5.1), (ofV x5.2)] z6n = true; simp only [List.all_cons, List.all_nil, zb5, z3v, Bool.and_true, Bool.true_and]; try rfl)) ?_
 refine z0a ?_
 refine cBx ?_
 refine jX (ι := Bool) (fun i => z9c (fun y0 => g1_f y0) s2 i = some r) (fun i => [(0, (PV.sl none 69 2 (List.map ofFld a0))), (8, (PV.sl none 69 2 (List.map ofFld a0))), (9, (I64 ((((a0).length : Nat) : Int)))), (10, (I64 (((s2 : Nat) : Int)))), (33, (BO i))]) (fun i => []) ?_ ?_
 rintro s6 h; replace h : z9c (fun y0 => g1_f y0) s2 s6 = some r := h; unfold z9c at h
 change BW _ _ _ ⟨[(0, (PV.sl none 69 2 (List.map ofFld a0))), (8, (PV.sl none 69 2 (List.map ofFld a0))), (9, (I64 ((((a0).length : Nat) : Int)))), (10, (I64 (((s2 : Nat) : Int)))), (33, (BO s6))], [], _⟩ _
 refine cX h rfl ?_ ?_
 intro hc7 h
 refine bR ?_
 refine eX ?_
 obtain rfl := eI h; exact z05 eK
 intro hc7 h
 refine z07 ?_
 refine cBx ?_
 refine z0f ?_
 refine sS rfl rfl rfl (z27 (k := s2) (c := 1) rfl rfl rfl (by omega)) ?_
 refine sX (z0a ?_)
 exact ⟨rfl, (s2 + 1), h, jN⟩
 refine z1l 16 [] [0] mo (by kernel_rfl) ?_
 iterate 2 refine gX ?_
 obtain ⟨x8, hx8, h⟩ := obind h
 refine z1p rfl rfl rfl rfl (fun H hp => z06 rfl zxq rfl (wkr .nil) ⟨rfl, trivial⟩ (Z1q x5.1 x8 hx8) rfl) ?_
 iterate 2 refine gX ?_
 refine z7e 19 rfl ?_ ?_
 intro hb9; replace h := z0x hb9 h
 iterate 11 refine mX ?_
 refine z1u ?_
 change AO _ _ _ _ _
 iterate 2 refine nX ?_
 refine sX (z0a ?_)
 exact ⟨rfl, true, h, jN⟩
 intro hb9; replace h := z0y hb9 h
 iterate 3 refine wX ?_
 refine z7e 22 rfl ?_ ?_
 intro hb10; replace h := z0x hb10 h
 iterate 4 refine wX ?_
 refine z7h rfl rfl rfl rfl rfl rfl rfl (fun H hp => zfu rfl rfl rfl) ?_
 obtain ⟨x11, hx11, h⟩ := obind h
 refine z7h rfl rfl rfl rfl rfl rfl rfl (fun H hp => z2h Tryz.underlying71 z0z rfl rfl rfl hx11 rfl) ?_
 iterate 2 refine wX ?_
 refine z1u ?_
 change AO _ _ _ _ _
 refine z1q rfl rfl rfl rfl rfl rfl ((z2p (a := x5.1) (b := x11.1) rfl rfl rfl rfl).cast (y := (BO ((Op.bytesLess x5.1 x11.1 || x5.1 == x11.1)))) rfl rfl) ?_
 refine yX ?_
 refine sX (z0a ?_)
 exact ⟨rfl, (Op.bytesLess x5.1 x11.1 || x5.1 == x11.1), h, jN⟩
 intro hb10; replace h := z0y hb10 h
 iterate 8 refine mX ?_
 refine z1u ?_
 change AO _ _ _ _ _
 refine nX ?_
 refine yX ?_
 refine sX (z0a ?_)
 exact ⟨rfl, false, h, jN⟩
 intro hc3 h
 refine z1z ?_
 refine cBx ?_
 refine bR ?_
 refine eX ?_
 obtain rfl := eI h; exact z05 eK
end Go.Proofs.YthidgpcbnieleaaGreatDoor
