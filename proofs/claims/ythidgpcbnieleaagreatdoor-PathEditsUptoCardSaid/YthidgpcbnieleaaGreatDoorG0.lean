/- Pure functions, and that calls answer as they say. -/
import Derived.Test.YthidgpcbnieleaaGreatDoorGS
namespace Go.Proofs.YthidgpcbnieleaaGreatDoor
open Go Aw
set_option linter.unusedVariables false
set_option linter.unusedSimpArgs false
set_option maxRecDepth 20000
set_option maxHeartbeats 2000000
variable {ι : Type} {ρ : ι → Type}
noncomputable def zwr (a0 : Str) (a1 : UInt8) : Option Int :=
 some (ixB a0 a1)
theorem Z2r (a0 : Str) (a1 : UInt8) (r : Int) (h : zwr a0 a1 = some r) : z0k Tryz.prog 120 [(z0n a0), (ofB a1)] (I64 r) := by
 unfold zwr at h
 refine z0e Tryz.func120 rfl Tryz.ntmps120 Tryz.results120 rfl (z0i ?_)
 change BW _ _ _ ⟨[(0, (z0n a0)), (1, (ofB a1))], [], _⟩ _
 refine bR ?_
 refine eX ?_
 refine bR ?_
 iterate 2 refine sX ?_
 refine sS rfl rfl rfl (zww (s := a0) (c := a1) rfl rfl rfl) ?_
 refine eX ?_
 obtain rfl := eI h; exact z04 eK
noncomputable def zpa (a0 : Str) (a1 : UInt8) : Option Int :=
 (zwr a0 a1).bind fun x1 =>
 some x1
theorem zzd (a0 : Str) (a1 : UInt8) (r : Int) (h : zpa a0 a1 = some r) : z0k Tryz.prog 103 [(z0n a0), (ofB a1)] (I64 r) := by
 unfold zpa at h
 refine z0e Tryz.func103 rfl Tryz.ntmps103 Tryz.results103 rfl (z0i ?_)
 change BW _ _ _ ⟨[(0, (z0n a0)), (1, (ofB a1))], [], _⟩ _
 refine bR ?_
 refine eX ?_
 refine bR ?_
 iterate 2 refine sX ?_
 obtain ⟨x1, hx1, h⟩ := obind h
 refine sS rfl rfl rfl (z05 rfl Z14 rfl (wkr (wkr .nil)) ⟨rfl, ⟨rfl, trivial⟩⟩ (Z2r a0 a1 x1 hx1) rfl) ?_
 refine eX ?_
 obtain rfl := eI h; exact z04 eK
noncomputable def z8y (g1 : Int → Option Str) (a0 : Str) (a1 s1 : Int) (s2 : Bool) : Option Str :=
 bif s2 then (
 g1 (IntKind.i64.wrap (s1 + 1))
 ) else (
 (zah a0 a1 s1).bind fun x4 =>
 some x4
 )
theorem zo5 (g1 : OF ρ → Int → Option Str) (h_g1 : ∀ y0, CM (fun G => g1 G y0)) (a0 : Str) (a1 s1 : Int) (s2 : Bool) : CM (fun G : OF ρ => z8y (g1 G) a0 a1 s1 s2) := by
 simp only [z8y]
 repeat (first | exact z0h | exact h_g1 _ | refine z14 ?_ ?_ | refine z15 ?_ (fun _ => ?_))
noncomputable def z68 (a0 : Str) (a1 : Int) (a2 : Str) (g1 : Int → Option Str) (s1 : Int) : Option Str :=
 bif (decide (s1 < (((a0).length : Nat) : Int))) then (
 (z6n a0 s1).bind fun x6 =>
 (zpa a2 x6).bind fun x7 =>
 z8y g1 a0 a1 s1 (decide (x7 ≥ 0))
 ) else (
 z8y g1 a0 a1 s1 false
 )
theorem zlz (g1 : OF ρ → Int → Option Str) (h_g1 : ∀ y0, CM (fun G => g1 G y0)) (a0 : Str) (a1 : Int) (a2 : Str) (s1 : Int) : CM (fun G : OF ρ => z68 a0 a1 a2 (g1 G) s1) := by
 simp only [z68]
 repeat (first | exact z0h | exact h_g1 _ | apply zo5 | refine z14 ?_ ?_ | refine z15 ?_ (fun _ => ?_) | intro _ | assumption)
noncomputable def zg4 (a0 : Str) (a1 : Int) (a2 : Str) (s1 : Int) : Option Str :=
 z3n (ι := Int) (ρ := fun _ => Str) (fun g i => z68 a0 a1 a2 (fun s1 => g s1) i) s1
theorem zg3 (a0 : Str) (a1 : Int) (a2 : Str) (s1 : Int) : zg4 a0 a1 a2 s1 = z68 a0 a1 a2 (zg4 a0 a1 a2) s1 :=
 z1f (ι := Int) (ρ := fun _ => Str) (Φ := fun g i => z68 a0 a1 a2 (fun s1 => g s1) i) (fun i => zlz (ι := Int) (ρ := fun _ => Str) (fun g => (fun s1 => g s1)) (fun _ => z1j) a0 a1 a2 i) s1
noncomputable def zcd (a0 : Str) (a1 : Int) (a2 : Str) : Option Str :=
 zg4 a0 a1 a2 a1
theorem zw7 (a0 : Str) (a1 : Int) (a2 r : Str) (h : zcd a0 a1 a2 = some r) : z0k Tryz.prog 74 [(z0n a0), (I64 a1), (z0n a2)] (z0n r) := by
 unfold zcd at h
 refine z0e Tryz.func74 rfl Tryz.ntmps74 Tryz.results74 rfl (z0i ?_)
 change BW _ _ _ ⟨[(0, (z0n a0)), (1, (I64 a1)), (2, (z0n a2))], [], _⟩ _
 refine bR ?_
 refine eX ?_
 refine bR ?_
 refine sX ?_
 refine eX ?_
 refine z0b ?_
 refine z0m ?_
 refine cBx ?_
 unfold zg4 at h
 refine lX (σ := Int) (fun i => [(0, (z0n a0)), (1, (I64 a1)), (2, (z0n a2)), (7, (I64 i))]) (fun i => []) a1 h ?_ ?_
 exact jN
 rintro g1_f s1 h; replace h : z68 a0 a1 a2 (fun y0 => g1_f y0) s1 = some r := h; unfold z68 at h
 change BW _ _ _ ⟨[(0, (z0n a0)), (1, (I64 a1)), (2, (z0n a2)), (7, (I64 s1))], [], _⟩ _
 refine z0b ?_
 refine jX (ι := Bool) (fun i => z8y (fun y0 => g1_f y0) a0 a1 s1 i = some r) (fun i => [(0, (z0n a0)), (1, (I64 a1)), (2, (z0n a2)), (7, (I64 s1)), (20, (BO i))]) (fun i => []) ?_ ?_
 rintro s2 h; replace h : z8y (fun y0 => g1_f y0) a0 a1 s1 s2 = some r := h; unfold z8y at h
 change BW _ _ _ ⟨[(0, (z0n a0)), (1, (I64 a1)), (2, (z0n a2)), (7, (I64 s1)), (20, (BO s2))], [], _⟩ _
 refine cX h rfl ?_ ?_
 intro hc3 h
 refine z09 ?_
 refine cBx ?_
 refine z0m ?_
 refine cBx ?_
 refine z0g ?_
 iterate 2 refine sX ?_
 refine sX (z0d ?_)
 exact ⟨rfl, (IntKind.i64.wrap (s1 + 1)), h, jN⟩
 intro hc3 h
 refine z2c ?_
 refine cBx ?_
 refine bR ?_
 iterate 3 refine sX ?_
 obtain ⟨x4, hx4, h⟩ := obind h
 refine sS rfl rfl rfl (zt2 (s := a0) (l := a1) (h := s1) Tryz.underlying9 rfl rfl rfl rfl rfl rfl hx4) ?_
 refine eX ?_
 obtain rfl := eI h; exact z04 eK
 refine z0g ?_
 iterate 2 refine sX ?_
 refine sS rfl rfl rfl (z48 (s := a0) Tryz.underlying9 rfl rfl) ?_
 iterate 2 refine sX ?_
 refine z0j (t := 13) rfl ?_ ?_
 intro hb5; replace h := z0o hb5 h
 iterate 3 refine yX ?_
 obtain ⟨x6, hx6, h⟩ := obind h
 refine z1h rfl rfl rfl rfl rfl rfl (z6l (s := a0) Tryz.underlying9 rfl rfl rfl hx6) ?_
 obtain ⟨x7, hx7, h⟩ := obind h
 refine z1h rfl rfl rfl rfl rfl rfl (z05 rfl zvo rfl (wkr (wkr .nil)) ⟨rfl, ⟨rfl, trivial⟩⟩ (zzd a2 x6 x7 hx7) rfl) ?_
 refine yX ?_
 refine sX (z0d ?_)
 exact ⟨rfl, (decide (x7 ≥ 0)), h, jN⟩
 intro hb5; replace h := z0p hb5 h
 iterate 6 refine nX ?_
 refine sX (z0d ?_)
 exact ⟨rfl, false, h, jN⟩
noncomputable def zis (a0 : Str) : Option Bool :=
 bif (!(a0 == ([] : Str))) then (
 bif (decide ((((a0).length : Nat) : Int) ≤ 32)) then (
 ((a0)[0]?).bind fun x3 =>
 (zpa ([97, 98, 99, 100, 101, 102, 103, 104, 105, 106, 107, 108, 109, 110, 111, 112, 113, 114, 115, 116, 117, 118, 119, 120, 121, 122] : Str) x3).bind fun x4 =>
 bif (decide (x4 ≥ 0)) then (
 (zcd a0 0 ([97, 98, 99, 100, 101, 102, 103, 104, 105, 106, 107, 108, 109, 110, 111, 112, 113, 114, 115, 116, 117, 118, 119, 120, 121, 122, 48, 49, 50, 51, 52, 53, 54, 55, 56, 57, 95] : Str)).bind fun x6 =>
 some (x6 == a0)
 ) else (
 some false
 )
 ) else (
 some false
 )
 ) else (
 some false
 )
theorem zz8 (a0 : Str) (r : Bool) (h : zis a0 = some r) : z0k Tryz.prog 76 [(z0n a0)] (BO r) := by
 unfold zis at h
 refine z0e Tryz.func76 rfl Tryz.ntmps76 Tryz.results76 rfl (z0i ?_)
 change BW _ _ _ ⟨[(0, (z0n a0))], [], _⟩ _
 refine bR ?_
 refine eX ?_
 refine bR ?_
 refine sX ?_
 refine sS rfl rfl rfl ((z2h (a := a0) (b := ([] : Str)) rfl rfl rfl rfl).cast (y := (BO ((!(a0 == ([] : Str)))))) rfl rfl) ?_
 refine sX ?_
 refine z0j (t := 5) rfl ?_ ?_
 intro hb1; replace h := z0o hb1 h
 refine yX ?_
 refine z1h rfl rfl rfl rfl rfl rfl (z48 (s := a0) Tryz.underlying9 rfl rfl) ?_
 refine yX ?_
 iterate 2 refine sX ?_
 refine z0j (t := 10) rfl ?_ ?_
 intro hb2; replace h := z0o hb2 h
 refine yX ?_
 obtain ⟨x3, hx3, h⟩ := obind h
 refine z1h rfl rfl rfl rfl rfl rfl (z9a (s := a0) (i := 0) Tryz.underlying9 rfl rfl rfl hx3) ?_
 obtain ⟨x4, hx4, h⟩ := obind h
 refine z1h rfl rfl rfl rfl rfl rfl (z05 rfl zvo rfl (wkr (wkr .nil)) ⟨rfl, ⟨rfl, trivial⟩⟩ (zzd ([97, 98, 99, 100, 101, 102, 103, 104, 105, 106, 107, 108, 109, 110, 111, 112, 113, 114, 115, 116, 117, 118, 119, 120, 121, 122] : Str) x3 x4 hx4) rfl) ?_
 refine yX ?_
 iterate 2 refine sX ?_
 refine z0j (t := 16) rfl ?_ ?_
 intro hb5; replace h := z0o hb5 h
 refine yX ?_
 obtain ⟨x6, hx6, h⟩ := obind h
 refine z1h rfl rfl rfl rfl rfl rfl (z05 rfl zxq rfl (wkr (wkr (wkr .nil))) ⟨rfl, ⟨rfl, ⟨rfl, trivial⟩⟩⟩ (zw7 a0 0 ([97, 98, 99, 100, 101, 102, 103, 104, 105, 106, 107, 108, 109, 110, 111, 112, 113, 114, 115, 116, 117, 118, 119, 120, 121, 122, 48, 49, 50, 51, 52, 53, 54, 55, 56, 57, 95] : Str) x6 hx6) rfl) ?_
 refine yX ?_
 refine z1h rfl rfl rfl rfl rfl rfl ((z2h (a := x6) (b := a0) rfl rfl rfl rfl).cast (y := (BO ((x6 == a0)))) rfl rfl) ?_
 refine sX ?_
 refine eX ?_
 obtain rfl := eI h; exact z04 eK
 intro hb5; replace h := z0p hb5 h
 iterate 4 refine nX ?_
 refine sX ?_
 refine eX ?_
 obtain rfl := eI h; exact z04 eK
 intro hb2; replace h := z0p hb2 h
 iterate 4 refine nX ?_
 iterate 2 refine sX ?_
 iterate 4 refine nX ?_
 refine sX ?_
 refine eX ?_
 obtain rfl := eI h; exact z04 eK
 intro hb1; replace h := z0p hb1 h
 iterate 3 refine nX ?_
 iterate 2 refine sX ?_
 iterate 4 refine nX ?_
 iterate 2 refine sX ?_
 iterate 4 refine nX ?_
 refine sX ?_
 refine eX ?_
 obtain rfl := eI h; exact z04 eK
noncomputable def z70 (a1 : Int) (x3 : Str) (s5 : Bool) : Option (S_api_Step × Int × Int × Int) :=
 bif s5 then (
 some ((S_api_Step.mk [] false 0), 0, a1, 3)
 ) else (
 (zyd x3).bind fun x7 =>
 bif (decide (x7 ≥ 4096)) then (
 some ((S_api_Step.mk [] false 0), 0, a1, 1)
 ) else (
 some ((S_api_Step.mk [] true x7), (IntKind.i64.wrap ((IntKind.i64.wrap ((IntKind.i64.wrap (a1 + 1)) + (((x3).length : Nat) : Int))) + 1)), 0, 0)
 )
 )
noncomputable def z8x (s15 : Int) (x16 : Str) (s17 : Bool) : Option (S_api_Step × Int × Int × Int) :=
 bif s17 then (
 some ((S_api_Step.mk [] false 0), 0, s15, 4)
 ) else (
 bif (x16 == ([] : Str)) then (
 some ((S_api_Step.mk [] false 0), 0, s15, 3)
 ) else (
 (zis x16).bind fun x20 =>
 bif (!x20) then (
 some ((S_api_Step.mk [] false 0), 0, s15, 8)
 ) else (
 some ((S_api_Step.mk x16 false 0), (IntKind.i64.wrap (s15 + (((x16).length : Nat) : Int))), 0, 0)
 )
 )
 )
noncomputable def zg2 (a0 : Str) (s15 : Int) : Option (S_api_Step × Int × Int × Int) :=
 (zcd a0 s15 ([97, 98, 99, 100, 101, 102, 103, 104, 105, 106, 107, 108, 109, 110, 111, 112, 113, 114, 115, 116, 117, 118, 119, 120, 121, 122, 48, 49, 50, 51, 52, 53, 54, 55, 56, 57, 95] : Str)).bind fun x16 =>
 bif (x16 == ([] : Str)) then (
 z8x s15 x16 (s15 == (((a0).length : Nat) : Int))
 ) else (
 z8x s15 x16 false
 )
noncomputable def zev (a0 : Str) (a1 : Int) (a2 : Bool) : Option (S_api_Step × Int × Int × Int) :=
 (z6n a0 a1).bind fun x1 =>
 bif (((x1).toNat : Int) == (((91 : UInt8)).toNat : Int)) then (
 (zcd a0 (IntKind.i64.wrap (a1 + 1)) ([48, 49, 50, 51, 52, 53, 54, 55, 56, 57] : Str)).bind fun x3 =>
 bif ((IntKind.i64.wrap ((IntKind.i64.wrap (a1 + 1)) + (((x3).length : Nat) : Int))) == (((a0).length : Nat) : Int)) then (
 some ((S_api_Step.mk [] false 0), 0, (IntKind.i64.wrap ((IntKind.i64.wrap (a1 + 1)) + (((x3).length : Nat) : Int))), 4)
 ) else (
 bif (x3 == ([] : Str)) then (
 z70 a1 x3 true
 ) else (
 ((x3)[0]?).bind fun x10 =>
 bif (((x10).toNat : Int) == (((48 : UInt8)).toNat : Int)) then (
 bif (!(x3 == ([48] : Str))) then (
 z70 a1 x3 true
 ) else (
 (z6n a0 (IntKind.i64.wrap ((IntKind.i64.wrap (a1 + 1)) + (((x3).length : Nat) : Int)))).bind fun x13 =>
 z70 a1 x3 (((x13).toNat : Int) != (((93 : UInt8)).toNat : Int))
 )
 ) else (
 (z6n a0 (IntKind.i64.wrap ((IntKind.i64.wrap (a1 + 1)) + (((x3).length : Nat) : Int)))).bind fun x14 =>
 z70 a1 x3 (((x14).toNat : Int) != (((93 : UInt8)).toNat : Int))
 )
 )
 )
 ) else (
 bif a2 then (
 zg2 a0 (IntKind.i64.wrap (a1 + 1))
 ) else (
 zg2 a0 a1
 )
 )
theorem Z1y (a0 : Str) (a1 : Int) (a2 : Bool) (r : (S_api_Step × Int × Int × Int)) (h : zev a0 a1 a2 = some r) : z0k Tryz.prog 43 [(z0n a0), (I64 a1), (BO a2)] (PV.tup [(z03 r.1), (I64 r.2.1), (I64 r.2.2.1), (I64 r.2.2.2)]) := by
 unfold zev at h
 refine z0e Tryz.func43 rfl Tryz.ntmps43 Tryz.results43 rfl (z0i ?_)
 change BW _ _ _ ⟨[(0, (z0n a0)), (1, (I64 a1)), (2, (BO a2))], [], _⟩ _
 refine bR ?_
 refine sS rfl rfl rfl (z1t z13 rfl) ?_
 iterate 2 refine sX ?_
 refine eX ?_
 refine bR ?_
 refine sS rfl rfl rfl (z1i (cs := [(z0n []), (BO false), (I64 0)]) zd3 z13 rfl rfl rfl rfl) ?_
 refine sS rfl rfl rfl (z1t z13 rfl) ?_
 refine z1g rfl rfl (z18 z13 rfl rfl rfl rfl rfl rfl (lbE rfl) rfl) ?_
 refine z0d ?_
 refine cBx ?_
 refine z0b ?_
 refine bR ?_
 iterate 2 refine sX ?_
 obtain ⟨x1, hx1, h⟩ := obind h
 refine sS rfl rfl rfl (z6l (s := a0) Tryz.underlying9 rfl rfl rfl hx1) ?_
 refine eX ?_
 refine cX h rfl ?_ ?_
 intro hc2 h
 refine bR ?_
 iterate 3 refine sX ?_
 obtain ⟨x3, hx3, h⟩ := obind h
 refine sS rfl rfl rfl (z05 rfl zxq rfl (wkr (wkr (wkr .nil))) ⟨rfl, ⟨rfl, ⟨rfl, trivial⟩⟩⟩ (zw7 a0 (IntKind.i64.wrap (a1 + 1)) ([48, 49, 50, 51, 52, 53, 54, 55, 56, 57] : Str) x3 hx3) rfl) ?_
 refine eX ?_
 refine bR ?_
 iterate 3 refine sX ?_
 refine sS rfl rfl rfl (z48 (s := x3) Tryz.underlying9 rfl rfl) ?_
 refine sX ?_
 refine eX ?_
 refine z0b ?_
 refine z0m ?_
 refine cBx ?_
 refine bR ?_
 iterate 2 refine sX ?_
 refine sS rfl rfl rfl (z48 (s := a0) Tryz.underlying9 rfl rfl) ?_
 refine sX ?_
 refine eX ?_
 refine cX h rfl ?_ ?_
 intro hc4 h
 refine bR ?_
 iterate 2 refine sX ?_
 refine z1g rfl rfl (z18 z13 rfl rfl rfl rfl rfl rfl (lbE rfl) rfl) ?_
 iterate 2 refine sX ?_
 refine eX ?_
 obtain rfl := eI h; exact z04 ⟨_, rfl, z0f (y := (PV.tup [(z03 (S_api_Step.mk [] false 0)), (I64 0), (I64 ((IntKind.i64.wrap ((IntKind.i64.wrap (a1 + 1)) + (((x3).length : Nat) : Int))))), (I64 4)])) (Wk.refl _) (z00 (z01 (S_api_Step.mk [] false 0)) (z00 rfl (z00 rfl (z00 rfl z02)))) ⟨rfl, rfl⟩⟩
 intro hc4 h
 refine jX (ι := Bool) (fun i => z70 a1 x3 i = some r) (fun i => [(1, (I64 a1)), (6, (PV.rf 0 0)), (10, (PV.rf 1 0)), (11, (z0n x3)), (12, (I64 ((IntKind.i64.wrap ((IntKind.i64.wrap (a1 + 1)) + (((x3).length : Nat) : Int)))))), (37, (BO i))]) (fun i => [.box 83 [(z0n []), (BO false), (I64 0)], .box 83 [(z0n []), (BO false), (I64 0)]]) ?_ ?_
 rintro s5 h; replace h : z70 a1 x3 s5 = some r := h; unfold z70 at h
 change BW _ _ _ ⟨[(1, (I64 a1)), (6, (PV.rf 0 0)), (10, (PV.rf 1 0)), (11, (z0n x3)), (12, (I64 ((IntKind.i64.wrap ((IntKind.i64.wrap (a1 + 1)) + (((x3).length : Nat) : Int)))))), (37, (BO s5))], [.box 83 [(z0n []), (BO false), (I64 0)], .box 83 [(z0n []), (BO false), (I64 0)]], _⟩ _
 refine cX h rfl ?_ ?_
 intro hc6 h
 refine bR ?_
 iterate 2 refine sX ?_
 refine z1g rfl rfl (z18 z13 rfl rfl rfl rfl rfl rfl (lbE rfl) rfl) ?_
 iterate 2 refine sX ?_
 refine eX ?_
 obtain rfl := eI h; exact z04 ⟨_, rfl, z0f (y := (PV.tup [(z03 (S_api_Step.mk [] false 0)), (I64 0), (I64 a1), (I64 3)])) (Wk.refl _) (z00 (z01 (S_api_Step.mk [] false 0)) (z00 rfl (z00 rfl (z00 rfl z02)))) ⟨rfl, rfl⟩⟩
 intro hc6 h
 refine z09 ?_
 refine cBx ?_
 refine bR ?_
 refine sX ?_
 obtain ⟨x7, hx7, h⟩ := obind h
 refine sS rfl rfl rfl (z05 rfl Z3i rfl (wkr .nil) ⟨rfl, trivial⟩ (zzh x3 x7 hx7) rfl) ?_
 iterate 4 refine sX ?_
 refine eX ?_
 refine z0b ?_
 refine bR ?_
 refine sX ?_
 refine sS rfl rfl rfl (zsq Tryz.underlying92 rfl rfl) ?_
 refine sX ?_
 iterate 2 refine yX ?_
 refine eX ?_
 refine cX h rfl ?_ ?_
 intro hc8 h
 refine bR ?_
 iterate 2 refine sX ?_
 refine z1g rfl rfl (z18 z13 rfl rfl rfl rfl rfl rfl (lbE rfl) rfl) ?_
 iterate 2 refine sX ?_
 refine eX ?_
 obtain rfl := eI h; exact z04 ⟨_, rfl, z0f (y := (PV.tup [(z03 (S_api_Step.mk [] false 0)), (I64 0), (I64 a1), (I64 1)])) (Wk.refl _) (z00 (z01 (S_api_Step.mk [] false 0)) (z00 rfl (z00 rfl (z00 rfl z02)))) ⟨rfl, rfl⟩⟩
 intro hc8 h
 refine z09 ?_
 refine cBx ?_
 refine bR ?_
 refine sX ?_
 refine sS rfl rfl rfl (z1i (cs := [(z0n []), (BO true), (I64 x7)]) zd3 z13 rfl rfl rfl rfl) ?_
 iterate 2 refine sX ?_
 refine z1g rfl rfl (z18 z13 rfl rfl rfl rfl rfl rfl (lbE rfl) rfl) ?_
 iterate 2 refine sX ?_
 refine eX ?_
 obtain rfl := eI h; exact z04 ⟨_, rfl, z0f (y := (PV.tup [(z03 (S_api_Step.mk [] true x7)), (I64 ((IntKind.i64.wrap ((IntKind.i64.wrap ((IntKind.i64.wrap (a1 + 1)) + (((x3).length : Nat) : Int))) + 1)))), (I64 0), (I64 0)])) (Wk.refl _) (z00 (z01 (S_api_Step.mk [] true x7)) (z00 rfl (z00 rfl (z00 rfl z02)))) ⟨rfl, rfl⟩⟩
 refine z0g ?_
 refine sX ?_
 refine sS rfl rfl rfl ((z2h (a := x3) (b := ([] : Str)) rfl rfl rfl rfl).cast (y := (BO ((x3 == ([] : Str))))) rfl rfl) ?_
 refine sX ?_
 refine z0j (t := 40) rfl ?_ ?_
 intro hb9; replace h := z0o hb9 h
 iterate 7 refine nX ?_
 iterate 2 refine sX ?_
 iterate 4 refine nX ?_
 refine sX ?_
 refine sX (z0d ?_)
 exact ⟨rfl, true, h, jN⟩
 intro hb9; replace h := z0p hb9 h
 refine yX ?_
 obtain ⟨x10, hx10, h⟩ := obind h
 refine z1h rfl rfl rfl rfl rfl rfl (z9a (s := x3) (i := 0) Tryz.underlying9 rfl rfl rfl hx10) ?_
 iterate 2 refine yX ?_
 refine z0j (t := 44) rfl ?_ ?_
 intro hb11; replace h := z0o hb11 h
 refine yX ?_
 refine z1h rfl rfl rfl rfl rfl rfl ((z2h (a := x3) (b := ([48] : Str)) rfl rfl rfl rfl).cast (y := (BO ((!(x3 == ([48] : Str)))))) rfl rfl) ?_
 refine yX ?_
 iterate 2 refine sX ?_
 refine z0j (t := 49) rfl ?_ ?_
 intro hb12; replace h := z0o hb12 h
 iterate 4 refine nX ?_
 refine sX ?_
 refine sX (z0d ?_)
 exact ⟨rfl, true, h, jN⟩
 intro hb12; replace h := z0p hb12 h
 iterate 2 refine yX ?_
 obtain ⟨x13, hx13, h⟩ := obind h
 refine z1h rfl rfl rfl rfl rfl rfl (z6l (s := a0) Tryz.underlying9 rfl rfl rfl hx13) ?_
 refine yX ?_
 refine sX ?_
 refine sX (z0d ?_)
 exact ⟨rfl, (((x13).toNat : Int) != (((93 : UInt8)).toNat : Int)), h, jN⟩
 intro hb11; replace h := z0p hb11 h
 iterate 2 refine nX ?_
 refine yX ?_
 iterate 2 refine sX ?_
 iterate 2 refine yX ?_
 obtain ⟨x14, hx14, h⟩ := obind h
 refine z1h rfl rfl rfl rfl rfl rfl (z6l (s := a0) Tryz.underlying9 rfl rfl rfl hx14) ?_
 refine yX ?_
 refine sX ?_
 refine sX (z0d ?_)
 exact ⟨rfl, (((x14).toNat : Int) != (((93 : UInt8)).toNat : Int)), h, jN⟩
 intro hc2 h
 refine z09 ?_
 refine cBx ?_
 refine jX (ι := Int) (fun i => zg2 a0 i = some r) (fun i => [(0, (z0n a0)), (1, (I64 i)), (6, (PV.rf 0 0)), (10, (PV.rf 1 0))]) (fun i => [.box 83 [(z0n []), (BO false), (I64 0)], .box 83 [(z0n []), (BO false), (I64 0)]]) ?_ ?_
 rintro s15 h; replace h : zg2 a0 s15 = some r := h; unfold zg2 at h
 change BW _ _ _ ⟨[(0, (z0n a0)), (1, (I64 s15)), (6, (PV.rf 0 0)), (10, (PV.rf 1 0))], [.box 83 [(z0n []), (BO false), (I64 0)], .box 83 [(z0n []), (BO false), (I64 0)]], _⟩ _
 refine bR ?_
 iterate 2 refine sX ?_
 obtain ⟨x16, hx16, h⟩ := obind h
 refine sS rfl rfl rfl (z05 rfl zxq rfl (wkr (wkr (wkr .nil))) ⟨rfl, ⟨rfl, ⟨rfl, trivial⟩⟩⟩ (zw7 a0 s15 ([97, 98, 99, 100, 101, 102, 103, 104, 105, 106, 107, 108, 109, 110, 111, 112, 113, 114, 115, 116, 117, 118, 119, 120, 121, 122, 48, 49, 50, 51, 52, 53, 54, 55, 56, 57, 95] : Str) x16 hx16) rfl) ?_
 refine eX ?_
 refine z0b ?_
 refine z0m ?_
 refine cBx ?_
 refine jX (ι := Bool) (fun i => z8x s15 x16 i = some r) (fun i => [(1, (I64 s15)), (6, (PV.rf 0 0)), (10, (PV.rf 1 0)), (15, (z0n x16)), (80, (BO i))]) (fun i => [.box 83 [(z0n []), (BO false), (I64 0)], .box 83 [(z0n []), (BO false), (I64 0)]]) ?_ ?_
 rintro s17 h; replace h : z8x s15 x16 s17 = some r := h; unfold z8x at h
 change BW _ _ _ ⟨[(1, (I64 s15)), (6, (PV.rf 0 0)), (10, (PV.rf 1 0)), (15, (z0n x16)), (80, (BO s17))], [.box 83 [(z0n []), (BO false), (I64 0)], .box 83 [(z0n []), (BO false), (I64 0)]], _⟩ _
 refine cX h rfl ?_ ?_
 intro hc18 h
 refine bR ?_
 iterate 2 refine sX ?_
 refine z1g rfl rfl (z18 z13 rfl rfl rfl rfl rfl rfl (lbE rfl) rfl) ?_
 iterate 2 refine sX ?_
 refine eX ?_
 obtain rfl := eI h; exact z04 ⟨_, rfl, z0f (y := (PV.tup [(z03 (S_api_Step.mk [] false 0)), (I64 0), (I64 s15), (I64 4)])) (Wk.refl _) (z00 (z01 (S_api_Step.mk [] false 0)) (z00 rfl (z00 rfl (z00 rfl z02)))) ⟨rfl, rfl⟩⟩
 intro hc18 h
 refine bR ?_
 refine sX ?_
 refine sS rfl rfl rfl ((z2h (a := x16) (b := ([] : Str)) rfl rfl rfl rfl).cast (y := (BO ((x16 == ([] : Str))))) rfl rfl) ?_
 refine eX ?_
 refine cX h rfl ?_ ?_
 intro hc19 h
 refine bR ?_
 iterate 2 refine sX ?_
 refine z1g rfl rfl (z18 z13 rfl rfl rfl rfl rfl rfl (lbE rfl) rfl) ?_
 iterate 2 refine sX ?_
 refine eX ?_
 obtain rfl := eI h; exact z04 ⟨_, rfl, z0f (y := (PV.tup [(z03 (S_api_Step.mk [] false 0)), (I64 0), (I64 s15), (I64 3)])) (Wk.refl _) (z00 (z01 (S_api_Step.mk [] false 0)) (z00 rfl (z00 rfl (z00 rfl z02)))) ⟨rfl, rfl⟩⟩
 intro hc19 h
 refine bR ?_
 refine sX ?_
 obtain ⟨x20, hx20, h⟩ := obind h
 refine sS rfl rfl rfl (z05 rfl Z0w rfl (wkr .nil) ⟨rfl, trivial⟩ (zz8 x16 x20 hx20) rfl) ?_
 refine sX ?_
 refine eX ?_
 refine cX h rfl ?_ ?_
 intro hc21 h
 refine bR ?_
 iterate 2 refine sX ?_
 refine z1g rfl rfl (z18 z13 rfl rfl rfl rfl rfl rfl (lbE rfl) rfl) ?_
 iterate 2 refine sX ?_
 refine eX ?_
 obtain rfl := eI h; exact z04 ⟨_, rfl, z0f (y := (PV.tup [(z03 (S_api_Step.mk [] false 0)), (I64 0), (I64 s15), (I64 8)])) (Wk.refl _) (z00 (z01 (S_api_Step.mk [] false 0)) (z00 rfl (z00 rfl (z00 rfl z02)))) ⟨rfl, rfl⟩⟩
 intro hc21 h
 refine z09 ?_
 refine cBx ?_
 refine bR ?_
 refine sX ?_
 refine sS rfl rfl rfl (z1i (cs := [(z0n x16), (BO false), (I64 0)]) zd3 z13 rfl rfl rfl rfl) ?_
 iterate 2 refine sX ?_
 refine sS rfl rfl rfl (z48 (s := x16) Tryz.underlying9 rfl rfl) ?_
 refine sX ?_
 refine z1g rfl rfl (z18 z13 rfl rfl rfl rfl rfl rfl (lbE rfl) rfl) ?_
 iterate 2 refine sX ?_
 refine eX ?_
 obtain rfl := eI h; exact z04 ⟨_, rfl, z0f (y := (PV.tup [(z03 (S_api_Step.mk x16 false 0)), (I64 ((IntKind.i64.wrap (s15 + (((x16).length : Nat) : Int))))), (I64 0), (I64 0)])) (Wk.refl _) (z00 (z01 (S_api_Step.mk x16 false 0)) (z00 rfl (z00 rfl (z00 rfl z02)))) ⟨rfl, rfl⟩⟩
 refine z0g ?_
 refine sX ?_
 refine sS rfl rfl rfl ((z2h (a := x16) (b := ([] : Str)) rfl rfl rfl rfl).cast (y := (BO ((x16 == ([] : Str))))) rfl rfl) ?_
 refine sX ?_
 refine z0j (t := 83) rfl ?_ ?_
 intro hb22; replace h := z0o hb22 h
 iterate 2 refine yX ?_
 refine z1h rfl rfl rfl rfl rfl rfl (z48 (s := a0) Tryz.underlying9 rfl rfl) ?_
 refine yX ?_
 refine sX ?_
 refine sX (z0d ?_)
 exact ⟨rfl, (s15 == (((a0).length : Nat) : Int)), h, jN⟩
 intro hb22; replace h := z0p hb22 h
 iterate 4 refine nX ?_
 refine sX ?_
 refine sX (z0d ?_)
 exact ⟨rfl, false, h, jN⟩
 refine bR ?_
 refine eX ?_
 refine cX h rfl ?_ ?_
 intro hc23 h
 refine z0g ?_
 iterate 2 refine sX ?_
 refine sX (z0d ?_)
 exact ⟨rfl, (IntKind.i64.wrap (a1 + 1)), h, jN⟩
 intro hc23 h
 refine z09 ?_
 exact ⟨rfl, a1, h, jN⟩
noncomputable def zap (g1 : (List S_api_Step) → Int → Option ((List S_api_Step) × Int × Int)) (a0 : Str) (s1 : (List S_api_Step)) (s2 : Int) (s4 : Bool) : Option ((List S_api_Step) × Int × Int) :=
 bif s4 then (
 some ([], s2, 3)
 ) else (
 bif (decide ((((s1).length : Nat) : Int) ≥ 64)) then (
 some ([], s2, 2)
 ) else (
 (zev a0 s2 (decide ((((s1).length : Nat) : Int) > 0))).bind fun x7 =>
 bif (x7.2.2.2 != 0) then (
 some ([], x7.2.2.1, x7.2.2.2)
 ) else (
 (z9p 32 s1 ([(x7.1)] : (List S_api_Step))).bind fun x9 =>
 g1 x9 x7.2.1
 )
 )
 )
theorem zo7 (g1 : OF ρ → (List S_api_Step) → Int → Option ((List S_api_Step) × Int × Int)) (h_g1 : ∀ y0 y1, CM (fun G => g1 G y0 y1)) (a0 : Str) (s1 : (List S_api_Step)) (s2 : Int) (s4 : Bool) : CM (fun G : OF ρ => zap (g1 G) a0 s1 s2 s4) := by
 simp only [zap]
 repeat (first | exact z0h | exact h_g1 _ _ | refine z14 ?_ ?_ | refine z15 ?_ (fun _ => ?_))
noncomputable def z5d (a0 : Str) (g1 : (List S_api_Step) → Int → Option ((List S_api_Step) × Int × Int)) (s1 : (List S_api_Step)) (s2 : Int) : Option ((List S_api_Step) × Int × Int) :=
 bif (decide (s2 < (((a0).length : Nat) : Int))) then (
 bif (decide ((((s1).length : Nat) : Int) > 0)) then (
 (z6n a0 s2).bind fun x11 =>
 bif (((x11).toNat : Int) != (((46 : UInt8)).toNat : Int)) then (
 (z6n a0 s2).bind fun x13 =>
 zap g1 a0 s1 s2 (((x13).toNat : Int) != (((91 : UInt8)).toNat : Int))
 ) else (
 zap g1 a0 s1 s2 false
 )
 ) else (
 zap g1 a0 s1 s2 false
 )
 ) else (
 some (s1, 0, 0)
 )
theorem zm2 (g1 : OF ρ → (List S_api_Step) → Int → Option ((List S_api_Step) × Int × Int)) (h_g1 : ∀ y0 y1, CM (fun G => g1 G y0 y1)) (a0 : Str) (s1 : (List S_api_Step)) (s2 : Int) : CM (fun G : OF ρ => z5d a0 (g1 G) s1 s2) := by
 simp only [z5d]
 repeat (first | exact z0h | exact h_g1 _ _ | apply zo7 | refine z14 ?_ ?_ | refine z15 ?_ (fun _ => ?_) | intro _ | assumption)
noncomputable def zk6 (a0 : Str) (s1 : (List S_api_Step)) (s2 : Int) : Option ((List S_api_Step) × Int × Int) :=
 z3n (ι := ((List S_api_Step) × Int)) (ρ := fun _ => ((List S_api_Step) × Int × Int)) (fun g i => z5d a0 (fun s1 s2 => g (s1, s2)) i.1 i.2) (s1, s2)
theorem zbz (a0 : Str) (s1 : (List S_api_Step)) (s2 : Int) : zk6 a0 s1 s2 = z5d a0 (zk6 a0) s1 s2 :=
 z1f (ι := ((List S_api_Step) × Int)) (ρ := fun _ => ((List S_api_Step) × Int × Int)) (Φ := fun g i => z5d a0 (fun s1 s2 => g (s1, s2)) i.1 i.2) (fun i => zm2 (ι := ((List S_api_Step) × Int)) (ρ := fun _ => ((List S_api_Step) × Int × Int)) (fun g => (fun s1 s2 => g (s1, s2))) (fun _ _ => z1j) a0 i.1 i.2) (s1, s2)
noncomputable def zp4 (a0 : Str) : Option ((List S_api_Step) × Int × Int) :=
 zk6 a0 ([]) 0
theorem Z23 (a0 : Str) (r : ((List S_api_Step) × Int × Int)) (h : zp4 a0 = some r) : z0k Tryz.prog 15 [(z0n a0)] (PV.tup [(PV.sl none 83 3 (List.map z03 r.1)), (I64 r.2.1), (I64 r.2.2)]) := by
 unfold zp4 at h
 refine z0e Tryz.func15 rfl Tryz.ntmps15 Tryz.results15 rfl (z0i ?_)
 change BW _ _ _ ⟨[(0, (z0n a0))], [], _⟩ _
 refine bR ?_
 iterate 2 refine sX ?_
 refine eX ?_
 refine bR ?_
 refine eX ?_
 refine z0b ?_
 refine bR ?_
 refine eX ?_
 refine z0m ?_
 refine cBx ?_
 refine zl4 (s := ⟨_, _, _⟩) 5 83 (sz := 3) rfl rfl ?_
 unfold zk6 at h
 refine z3o (σ := ((List S_api_Step) × Int)) (fun i => [(0, (z0n a0)), (5, (PV.sl (some 0) 83 3 (List.map z03 i.1))), (6, (I64 i.2))]) (fun i => [.arr 83 (i.1).length]) ([], 0) h ?_ ?_ ?_
 intro i; exact ⟨lbE rfl, ⟨(z0c rfl), ⟨(z4o rfl (z1a z01 _)), ⟨(z0c rfl), trivial⟩⟩⟩, trivial⟩
 exact jN
 rintro g1_f ⟨s1, s2⟩ h; replace h : z5d a0 (fun y0 y1 => g1_f (y0, y1)) s1 s2 = some r := h; unfold z5d at h
 change BW _ _ _ ⟨[(0, (z0n a0)), (5, (PV.sl (some 0) 83 3 (List.map z03 s1))), (6, (I64 s2))], [.arr 83 (s1).length], _⟩ _
 refine z0b ?_
 refine bR ?_
 iterate 2 refine sX ?_
 refine sS rfl rfl rfl (z48 (s := a0) Tryz.underlying9 rfl rfl) ?_
 refine eX ?_
 refine cX h rfl ?_ ?_
 intro hc3 h
 refine z09 ?_
 refine cBx ?_
 refine z0m ?_
 refine cBx ?_
 refine z0b ?_
 refine z2b (ι := Bool) (fun i => zap (fun y0 y1 => g1_f (y0, y1)) a0 s1 s2 i = some r) (fun i => [(0, (z0n a0)), (5, (PV.sl (some 0) 83 3 (List.map z03 s1))), (6, (I64 s2)), (29, (BO i))]) (fun i => [.arr 83 (s1).length]) ?_ ?_ ?_
 intro i; exact ⟨lbE rfl, ⟨(z0c rfl), ⟨(z4o rfl (z1a z01 _)), ⟨(z0c rfl), ⟨(z0c rfl), trivial⟩⟩⟩⟩, trivial⟩
 rintro s4 h; replace h : zap (fun y0 y1 => g1_f (y0, y1)) a0 s1 s2 s4 = some r := h; unfold zap at h
 change BW _ _ _ ⟨[(0, (z0n a0)), (5, (PV.sl (some 0) 83 3 (List.map z03 s1))), (6, (I64 s2)), (29, (BO s4))], [.arr 83 (s1).length], _⟩ _
 refine cX h rfl ?_ ?_
 intro hc5 h
 refine bR ?_
 iterate 3 refine sX ?_
 refine eX ?_
 obtain rfl := eI h; exact z04 ⟨_, rfl, z0f (y := (PV.tup [(PV.sl none 83 3 (List.map z03 [])), (I64 s2), (I64 3)])) (Wk.tup (.cons Wk.nil (wkr (wkr .nil)))) (z00 (z07 z01 ([])) (z00 rfl (z00 rfl z02))) ⟨rfl, rfl⟩⟩
 intro hc5 h
 refine z09 ?_
 refine cBx ?_
 refine z0b ?_
 refine bR ?_
 iterate 2 refine sX ?_
 refine eX ?_
 refine cX h rfl ?_ ?_
 intro hc6 h
 refine bR ?_
 iterate 3 refine sX ?_
 refine eX ?_
 obtain rfl := eI h; exact z04 ⟨_, rfl, z0f (y := (PV.tup [(PV.sl none 83 3 (List.map z03 [])), (I64 s2), (I64 2)])) (Wk.tup (.cons Wk.nil (wkr (wkr .nil)))) (z00 (z07 z01 ([])) (z00 rfl (z00 rfl z02))) ⟨rfl, rfl⟩⟩
 intro hc6 h
 refine z09 ?_
 refine cBx ?_
 refine bR ?_
 iterate 5 refine sX ?_
 obtain ⟨x7, hx7, h⟩ := obind h
 refine sS rfl rfl rfl (z05 rfl Z3u rfl (wkr (wkr (wkr .nil))) ⟨rfl, ⟨rfl, ⟨rfl, trivial⟩⟩⟩ (Z1y a0 s2 (decide ((((s1).length : Nat) : Int) > 0)) x7 hx7) (z00 (z01 x7.1) (z00 rfl (z00 rfl (z00 rfl z02))))) ?_
 iterate 5 refine sX ?_
 refine sS rfl rfl rfl (z1t z13 rfl) ?_
 refine z1g rfl rfl (z18 z13 rfl rfl rfl rfl rfl rfl (lbE rfl) rfl) ?_
 iterate 2 refine sX ?_
 refine eX ?_
 refine z0b ?_
 refine bR ?_
 refine sX ?_
 refine eX ?_
 refine cX h rfl ?_ ?_
 intro hc8 h
 refine bR ?_
 iterate 4 refine sX ?_
 refine eX ?_
 obtain rfl := eI h; exact z04 ⟨_, rfl, z0f (y := (PV.tup [(PV.sl none 83 3 (List.map z03 [])), (I64 x7.2.2.1), (I64 x7.2.2.2)])) (Wk.tup (.cons Wk.nil (wkr (wkr .nil)))) (z00 (z07 z01 ([])) (z00 rfl (z00 rfl z02))) ⟨rfl, rfl⟩⟩
 intro hc8 h
 refine z09 ?_
 refine cBx ?_
 refine z0g ?_
 iterate 2 refine sX ?_
 refine sS rfl rfl rfl ((z19 (xs := [(PV.agg [(z0n (x7.1).f_Name), (BO ((x7.1).f_At)), (I64 ((x7.1).f_Index))])]) Tryz.underlying30 z13 rfl rfl rfl rfl rfl rfl ⟨lbE rfl, lbE rfl⟩ rfl).cast (y := (PV.sl (some 2) 83 3 (List.map z03 ([(x7.1)] : (List S_api_Step))))) rfl rfl) ?_
 obtain ⟨x9, hx9, h⟩ := obind h
 refine sS rfl rfl rfl (z34 Tryz.underlying30 z13 rfl Tryz.underlying30 rfl rfl rfl rfl z3x z3f hx9 rfl) ?_
 iterate 2 refine sX ?_
 refine sX (z0d ?_)
 exact ⟨rfl, (x9, x7.2.1), h, jN⟩
 refine z0g ?_
 iterate 4 refine sX ?_
 refine z0j (t := 18) rfl ?_ ?_
 intro hb10; replace h := z0o hb10 h
 iterate 2 refine yX ?_
 obtain ⟨x11, hx11, h⟩ := obind h
 refine z1h rfl rfl rfl rfl rfl rfl (z6l (s := a0) Tryz.underlying9 rfl rfl rfl hx11) ?_
 refine yX ?_
 iterate 2 refine sX ?_
 refine z0j (t := 24) rfl ?_ ?_
 intro hb12; replace h := z0o hb12 h
 iterate 2 refine yX ?_
 obtain ⟨x13, hx13, h⟩ := obind h
 refine z1h rfl rfl rfl rfl rfl rfl (z6l (s := a0) Tryz.underlying9 rfl rfl rfl hx13) ?_
 refine yX ?_
 refine sX (z0d ?_)
 exact ⟨rfl, (((x13).toNat : Int) != (((91 : UInt8)).toNat : Int)), h, jN⟩
 intro hb12; replace h := z0p hb12 h
 iterate 4 refine nX ?_
 refine sX (z0d ?_)
 exact ⟨rfl, false, h, jN⟩
 intro hb10; replace h := z0p hb10 h
 iterate 4 refine nX ?_
 iterate 2 refine sX ?_
 iterate 4 refine nX ?_
 refine sX (z0d ?_)
 exact ⟨rfl, false, h, jN⟩
 intro hc3 h
 refine z2c ?_
 refine cBx ?_
 refine bR ?_
 iterate 3 refine sX ?_
 refine eX ?_
 obtain rfl := eI h; exact z04 ⟨_, rfl, z0f (y := (PV.tup [(PV.sl none 83 3 (List.map z03 s1)), (I64 0), (I64 0)])) (Wk.tup (.cons Wk.tok (wkr (wkr .nil)))) (z00 (z07 z01 s1) (z00 rfl (z00 rfl z02))) ⟨rfl, rfl⟩⟩
noncomputable def zio (a0 : V) : Option Int :=
 bif (a0).isNil then (
 some 1
 ) else (
 bif (a0).isBool then (
 some 2
 ) else (
 bif (a0).isInt then (
 some 3
 ) else (
 bif (a0).isFloat then (
 some 4
 ) else (
 bif (a0).isText then (
 some 5
 ) else (
 bif (a0).isBytes then (
 some 6
 ) else (
 bif (a0).isRef then (
 some 7
 ) else (
 bif (a0).isList then (
 some 8
 ) else (
 bif (a0).isDict then (
 some 9
 ) else (
 bif (a0).isRec then (
 bif ((a0).asRec).isNone then (
 some 11
 ) else (
 some 10
 )
 ) else (
 some 0
 )
 )
 )
 )
 )
 )
 )
 )
 )
 )
theorem zrn (a0 : V) (r : Int) (h : zio a0 = some r) : z0k Tryz.prog 60 [(ofV a0)] (I64 r) := by
 unfold zio at h
 refine z0e Tryz.func60 rfl Tryz.ntmps60 Tryz.results60 rfl (z0i ?_)
 change BW _ _ _ ⟨[(0, (ofV a0))], [], _⟩ _
 refine bR ?_
 refine eX ?_
 refine z0b ?_
 refine bR ?_
 refine eX ?_
 refine z0m ?_
 refine cBx ?_
 refine bR ?_
 refine sS rfl rfl rfl (z3t Tryz.underlying20 rfl rfl) (z0d ?_)
 refine cBx ?_
 refine cX h rfl ?_ ?_
 intro hc1 h
 refine bR ?_
 refine eX ?_
 refine bR ?_
 refine eX ?_
 obtain rfl := eI h; exact z04 eK
 intro hc1 h
 refine bR ?_
 refine sS rfl rfl rfl (zdt rfl rfl) ?_
 refine sX ?_
 refine eX ?_
 refine cX h rfl ?_ ?_
 intro hc2 h
 refine bR ?_
 refine eX ?_
 refine bR ?_
 refine eX ?_
 obtain rfl := eI h; exact z04 eK
 intro hc2 h
 refine bR ?_
 refine sS rfl rfl rfl (zh3 rfl rfl) ?_
 refine sX ?_
 refine eX ?_
 refine cX h rfl ?_ ?_
 intro hc3 h
 refine bR ?_
 refine eX ?_
 refine bR ?_
 refine eX ?_
 obtain rfl := eI h; exact z04 eK
 intro hc3 h
 refine bR ?_
 refine sS rfl rfl rfl (zcf rfl rfl) ?_
 refine sX ?_
 refine eX ?_
 refine cX h rfl ?_ ?_
 intro hc4 h
 refine bR ?_
 refine eX ?_
 refine bR ?_
 refine eX ?_
 obtain rfl := eI h; exact z04 eK
 intro hc4 h
 refine bR ?_
 refine sS rfl rfl rfl (zaa rfl rfl) ?_
 refine sX ?_
 refine eX ?_
 refine cX h rfl ?_ ?_
 intro hc5 h
 refine bR ?_
 refine eX ?_
 refine bR ?_
 refine eX ?_
 obtain rfl := eI h; exact z04 eK
 intro hc5 h
 refine bR ?_
 refine sS rfl rfl rfl (z6i rfl rfl) ?_
 refine sX ?_
 refine eX ?_
 refine cX h rfl ?_ ?_
 intro hc6 h
 refine bR ?_
 refine eX ?_
 refine bR ?_
 refine eX ?_
 obtain rfl := eI h; exact z04 eK
 intro hc6 h
 refine bR ?_
 refine sS rfl rfl rfl (zh2 rfl rfl) ?_
 refine sX ?_
 refine eX ?_
 refine cX h rfl ?_ ?_
 intro hc7 h
 refine bR ?_
 refine eX ?_
 refine bR ?_
 refine eX ?_
 obtain rfl := eI h; exact z04 eK
 intro hc7 h
 refine bR ?_
 refine sS rfl rfl rfl (z1u rfl rfl) ?_
 refine sX ?_
 refine eX ?_
 refine cX h rfl ?_ ?_
 intro hc8 h
 refine bR ?_
 refine eX ?_
 refine bR ?_
 refine eX ?_
 obtain rfl := eI h; exact z04 eK
 intro hc8 h
 refine bR ?_
 refine sS rfl rfl rfl (z2r rfl rfl) ?_
 refine sX ?_
 refine eX ?_
 refine cX h rfl ?_ ?_
 intro hc9 h
 refine bR ?_
 refine eX ?_
 refine bR ?_
 refine eX ?_
 obtain rfl := eI h; exact z04 eK
 intro hc9 h
 refine bR ?_
 refine sS rfl rfl rfl (z39 rfl rfl) ?_
 refine sX ?_
 refine eX ?_
 refine cX h rfl ?_ ?_
 intro hc10 h
 refine bR ?_
 refine eX ?_
 refine z0b ?_
 refine bR ?_
 refine sX ?_
 refine sS rfl rfl rfl (zdu Tryz.underlying73 rfl rfl) (z0d ?_)
 refine cBx ?_
 refine cX h rfl ?_ ?_
 intro hc11 h
 refine bR ?_
 refine eX ?_
 obtain rfl := eI h; exact z04 eK
 intro hc11 h
 refine z09 ?_
 refine cBx ?_
 refine bR ?_
 refine eX ?_
 obtain rfl := eI h; exact z04 eK
 intro hc10 h
 refine z09 ?_
 refine cBx ?_
 refine bR ?_
 refine eX ?_
 obtain rfl := eI h; exact z04 eK
noncomputable def z5v (g1 : Nat → Option Bool) (s4 : Nat) (s8 : Bool) : Option Bool :=
 bif s8 then (
 some false
 ) else (
 g1 (s4 + 1)
 )
theorem zo6 (g1 : OF ρ → Nat → Option Bool) (h_g1 : ∀ y0, CM (fun G => g1 G y0)) (s4 : Nat) (s8 : Bool) : CM (fun G : OF ρ => z5v (g1 G) s4 s8) := by
 simp only [z5v]
 repeat (first | exact z0h | exact h_g1 _ | refine z14 ?_ ?_ | refine z15 ?_ (fun _ => ?_))
noncomputable def z5c (a0 : Str) (g1 : Nat → Option Bool) (s4 : Nat) : Option Bool :=
 bif (decide (((s4 : Nat) : Int) < (((a0).length : Nat) : Int))) then (
 ((a0)[s4]?).bind fun x7 =>
 bif (decide (((x7).toNat : Int) < (((97 : UInt8)).toNat : Int))) then (
 bif (decide (((x7).toNat : Int) < (((48 : UInt8)).toNat : Int))) then (
 z5v g1 s4 (((x7).toNat : Int) != (((95 : UInt8)).toNat : Int))
 ) else (
 bif (decide (((x7).toNat : Int) > (((57 : UInt8)).toNat : Int))) then (
 z5v g1 s4 (((x7).toNat : Int) != (((95 : UInt8)).toNat : Int))
 ) else (
 z5v g1 s4 false
 )
 )
 ) else (
 bif (decide (((x7).toNat : Int) > (((122 : UInt8)).toNat : Int))) then (
 bif (decide (((x7).toNat : Int) < (((48 : UInt8)).toNat : Int))) then (
 z5v g1 s4 (((x7).toNat : Int) != (((95 : UInt8)).toNat : Int))
 ) else (
 bif (decide (((x7).toNat : Int) > (((57 : UInt8)).toNat : Int))) then (
 z5v g1 s4 (((x7).toNat : Int) != (((95 : UInt8)).toNat : Int))
 ) else (
 z5v g1 s4 false
 )
 )
 ) else (
 z5v g1 s4 false
 )
 )
 ) else (
 some true
 )
theorem zm1 (g1 : OF ρ → Nat → Option Bool) (h_g1 : ∀ y0, CM (fun G => g1 G y0)) (a0 : Str) (s4 : Nat) : CM (fun G : OF ρ => z5c a0 (g1 G) s4) := by
 simp only [z5c]
 repeat (first | exact z0h | exact h_g1 _ | apply zo6 | refine z14 ?_ ?_ | refine z15 ?_ (fun _ => ?_) | intro _ | assumption)
noncomputable def zg9 (a0 : Str) (s4 : Nat) : Option Bool :=
 z3n (ι := Nat) (ρ := fun _ => Bool) (fun g i => z5c a0 (fun s4 => g s4) i) s4
theorem zg8 (a0 : Str) (s4 : Nat) : zg9 a0 s4 = z5c a0 (zg9 a0) s4 :=
 z1f (ι := Nat) (ρ := fun _ => Bool) (Φ := fun g i => z5c a0 (fun s4 => g s4) i) (fun i => zm1 (ι := Nat) (ρ := fun _ => Bool) (fun g => (fun s4 => g s4)) (fun _ => z1j) a0 i) s4
noncomputable def zao (a0 : Str) (s1 : Bool) : Option Bool :=
 bif s1 then (
 some false
 ) else (
 (zdc (a0).length).bind fun x3 =>
 zg9 a0 0
 )
noncomputable def ziq (a0 : Str) : Option Bool :=
 bif (a0 == ([] : Str)) then (
 zao a0 true
 ) else (
 bif (decide ((((a0).length : Nat) : Int) > 32)) then (
 zao a0 true
 ) else (
 ((a0)[0]?).bind fun x18 =>
 bif (decide (((x18).toNat : Int) < (((97 : UInt8)).toNat : Int))) then (
 zao a0 true
 ) else (
 ((a0)[0]?).bind fun x20 =>
 zao a0 (decide (((x20).toNat : Int) > (((122 : UInt8)).toNat : Int)))
 )
 )
 )
theorem zz4 (a0 : Str) (r : Bool) (h : ziq a0 = some r) : z0k Tryz.prog 108 [(z0n a0)] (BO r) := by
 unfold ziq at h
 refine z0e Tryz.func108 rfl Tryz.ntmps108 Tryz.results108 rfl (z0i ?_)
 change BW _ _ _ ⟨[(0, (z0n a0))], [], _⟩ _
 refine bR ?_
 refine eX ?_
 refine z0b ?_
 refine jX (ι := Bool) (fun i => zao a0 i = some r) (fun i => [(0, (z0n a0)), (21, (BO i))]) (fun i => []) ?_ ?_
 rintro s1 h; replace h : zao a0 s1 = some r := h; unfold zao at h
 change BW _ _ _ ⟨[(0, (z0n a0)), (21, (BO s1))], [], _⟩ _
 refine cX h rfl ?_ ?_
 intro hc2 h
 refine bR ?_
 refine eX ?_
 obtain rfl := eI h; exact z04 eK
 intro hc2 h
 refine z09 ?_
 refine cBx ?_
 refine z0b ?_
 refine bR ?_
 refine sX ?_
 obtain ⟨x3, hx3, h⟩ := obind h
 refine sS rfl rfl rfl (zpn Tryz.underlying9 Tryz.underlying23 Tryz.underlying5 rfl rfl hx3) ?_
 refine sX ?_
 refine eX ?_
 refine z0m ?_
 refine cBx ?_
 unfold zg9 at h
 refine lX (σ := Nat) (fun i => [(23, (PV.sl none 5 1 (List.map ofB a0))), (24, (I64 ((((a0).length : Nat) : Int)))), (25, (I64 (((i : Nat) : Int))))]) (fun i => []) 0 h ?_ ?_
 exact jN
 rintro g1_f s4 h; replace h : z5c a0 (fun y0 => g1_f y0) s4 = some r := h; unfold z5c at h
 change BW _ _ _ ⟨[(23, (PV.sl none 5 1 (List.map ofB a0))), (24, (I64 ((((a0).length : Nat) : Int)))), (25, (I64 (((s4 : Nat) : Int))))], [], _⟩ _
 refine bR ?_
 refine eX ?_
 refine z0b ?_
 refine z4u (t := 23) rfl fun hb6 => ?_
 try rw [List.length_map] at hb6
 refine cX h rfl ?_ ?_
 intro hc5 h
 have hc5_ := of_decide_eq_true hc5
 refine z09 ?_
 refine cBx ?_
 refine z0b ?_
 refine z0m ?_
 refine cBx ?_
 refine bR ?_
 obtain ⟨x7, hx7, h⟩ := obind h
 refine sS rfl rfl rfl (z1m (i := s4) Tryz.underlying23 inf_5 rfl rfl rfl hx7 rfl) ?_
 refine sX ?_
 refine eX ?_
 refine jX (ι := Bool) (fun i => z5v (fun y0 => g1_f y0) s4 i = some r) (fun i => [(23, (PV.sl none 5 1 (List.map ofB a0))), (24, (I64 ((((a0).length : Nat) : Int)))), (25, (I64 (((s4 : Nat) : Int)))), (46, (BO i))]) (fun i => []) ?_ ?_
 rintro s8 h; replace h : z5v (fun y0 => g1_f y0) s4 s8 = some r := h; unfold z5v at h
 change BW _ _ _ ⟨[(23, (PV.sl none 5 1 (List.map ofB a0))), (24, (I64 ((((a0).length : Nat) : Int)))), (25, (I64 (((s4 : Nat) : Int)))), (46, (BO s8))], [], _⟩ _
 refine cX h rfl ?_ ?_
 intro hc9 h
 refine bR ?_
 refine eX ?_
 obtain rfl := eI h; exact z04 eK
 intro hc9 h
 refine z09 ?_
 refine cBx ?_
 refine z0g ?_
 refine sS rfl rfl rfl (z2p (k := s4) (c := 1) rfl rfl rfl (by omega)) ?_
 refine sX (z0d ?_)
 exact ⟨rfl, (s4 + 1), h, jN⟩
 refine z0g ?_
 iterate 3 refine sX ?_
 refine z0j (t := 31) rfl ?_ ?_
 intro hb10; replace h := z0o hb10 h
 iterate 2 refine nX ?_
 iterate 2 refine sX ?_
 iterate 3 refine yX ?_
 refine z0j (t := 38) rfl ?_ ?_
 intro hb11; replace h := z0o hb11 h
 iterate 2 refine nX ?_
 refine yX ?_
 iterate 2 refine sX ?_
 iterate 2 refine yX ?_
 refine sX (z0d ?_)
 exact ⟨rfl, (((x7).toNat : Int) != (((95 : UInt8)).toNat : Int)), h, jN⟩
 intro hb11; replace h := z0p hb11 h
 iterate 3 refine yX ?_
 iterate 2 refine sX ?_
 refine z0j (t := 43) rfl ?_ ?_
 intro hb12; replace h := z0o hb12 h
 iterate 2 refine yX ?_
 refine sX (z0d ?_)
 exact ⟨rfl, (((x7).toNat : Int) != (((95 : UInt8)).toNat : Int)), h, jN⟩
 intro hb12; replace h := z0p hb12 h
 iterate 2 refine nX ?_
 refine sX (z0d ?_)
 exact ⟨rfl, false, h, jN⟩
 intro hb10; replace h := z0p hb10 h
 iterate 2 refine yX ?_
 iterate 2 refine sX ?_
 refine z0j (t := 35) rfl ?_ ?_
 intro hb13; replace h := z0o hb13 h
 iterate 3 refine yX ?_
 refine z0j (t := 38) rfl ?_ ?_
 intro hb14; replace h := z0o hb14 h
 iterate 2 refine nX ?_
 refine yX ?_
 iterate 2 refine sX ?_
 iterate 2 refine yX ?_
 refine sX (z0d ?_)
 exact ⟨rfl, (((x7).toNat : Int) != (((95 : UInt8)).toNat : Int)), h, jN⟩
 intro hb14; replace h := z0p hb14 h
 iterate 3 refine yX ?_
 iterate 2 refine sX ?_
 refine z0j (t := 43) rfl ?_ ?_
 intro hb15; replace h := z0o hb15 h
 iterate 2 refine yX ?_
 refine sX (z0d ?_)
 exact ⟨rfl, (((x7).toNat : Int) != (((95 : UInt8)).toNat : Int)), h, jN⟩
 intro hb15; replace h := z0p hb15 h
 iterate 2 refine nX ?_
 refine sX (z0d ?_)
 exact ⟨rfl, false, h, jN⟩
 intro hb13; replace h := z0p hb13 h
 iterate 6 refine nX ?_
 iterate 2 refine sX ?_
 iterate 2 refine nX ?_
 refine sX (z0d ?_)
 exact ⟨rfl, false, h, jN⟩
 intro hc5 h
 refine z2c ?_
 refine cBx ?_
 refine bR ?_
 refine eX ?_
 obtain rfl := eI h; exact z04 eK
 refine z0g ?_
 refine sX ?_
 refine sS rfl rfl rfl ((z2h (a := a0) (b := ([] : Str)) rfl rfl rfl rfl).cast (y := (BO ((a0 == ([] : Str))))) rfl rfl) ?_
 refine sX ?_
 refine z0j (t := 7) rfl ?_ ?_
 intro hb16; replace h := z0o hb16 h
 iterate 3 refine nX ?_
 iterate 2 refine sX ?_
 iterate 3 refine nX ?_
 iterate 2 refine sX ?_
 iterate 3 refine nX ?_
 refine sX (z0d ?_)
 exact ⟨rfl, true, h, jN⟩
 intro hb16; replace h := z0p hb16 h
 refine yX ?_
 refine z1h rfl rfl rfl rfl rfl rfl (z48 (s := a0) Tryz.underlying9 rfl rfl) ?_
 refine yX ?_
 iterate 2 refine sX ?_
 refine z0j (t := 12) rfl ?_ ?_
 intro hb17; replace h := z0o hb17 h
 iterate 3 refine nX ?_
 iterate 2 refine sX ?_
 iterate 3 refine nX ?_
 refine sX (z0d ?_)
 exact ⟨rfl, true, h, jN⟩
 intro hb17; replace h := z0p hb17 h
 refine yX ?_
 obtain ⟨x18, hx18, h⟩ := obind h
 refine z1h rfl rfl rfl rfl rfl rfl (z9a (s := a0) (i := 0) Tryz.underlying9 rfl rfl rfl hx18) ?_
 refine yX ?_
 iterate 2 refine sX ?_
 refine z0j (t := 17) rfl ?_ ?_
 intro hb19; replace h := z0o hb19 h
 iterate 3 refine nX ?_
 refine sX (z0d ?_)
 exact ⟨rfl, true, h, jN⟩
 intro hb19; replace h := z0p hb19 h
 refine yX ?_
 obtain ⟨x20, hx20, h⟩ := obind h
 refine z1h rfl rfl rfl rfl rfl rfl (z9a (s := a0) (i := 0) Tryz.underlying9 rfl rfl rfl hx20) ?_
 refine yX ?_
 refine sX (z0d ?_)
 exact ⟨rfl, (decide (((x20).toNat : Int) > (((122 : UInt8)).toNat : Int))), h, jN⟩
noncomputable def z8z (g1 : Nat → Option Int) (s2 : Nat) (s6 : Bool) : Option Int :=
 bif s6 then (
 some 8
 ) else (
 g1 (s2 + 1)
 )
theorem zo9 (g1 : OF ρ → Nat → Option Int) (h_g1 : ∀ y0, CM (fun G => g1 G y0)) (s2 : Nat) (s6 : Bool) : CM (fun G : OF ρ => z8z (g1 G) s2 s6) := by
 simp only [z8z]
 repeat (first | exact z0h | exact h_g1 _ | refine z14 ?_ ?_ | refine z15 ?_ (fun _ => ?_))
noncomputable def z6c (a0 : (List (Str × V))) (g1 : Nat → Option Int) (s2 : Nat) : Option Int :=
 bif (decide (((s2 : Nat) : Int) < (((a0).length : Nat) : Int))) then (
 ((a0)[s2]?).bind fun x5 =>
 (ziq x5.1).bind fun x8 =>
 bif (!x8) then (
 z8z g1 s2 true
 ) else (
 bif (decide (((s2 : Nat) : Int) > 0)) then (
 (z6n a0 (IntKind.i64.wrap (((s2 : Nat) : Int) - 1))).bind fun x11 =>
 z8z g1 s2 (Op.bytesLess x5.1 x11.1 || x5.1 == x11.1)
 ) else (
 z8z g1 s2 false
 )
 )
 ) else (
 some 0
 )
theorem zm5 (g1 : OF ρ → Nat → Option Int) (h_g1 : ∀ y0, CM (fun G => g1 G y0)) (a0 : (List (Str × V))) (s2 : Nat) : CM (fun G : OF ρ => z6c a0 (g1 G) s2) := by
 simp only [z6c]
 repeat (first | exact z0h | exact h_g1 _ | apply zo9 | refine z14 ?_ ?_ | refine z15 ?_ (fun _ => ?_) | intro _ | assumption)
noncomputable def zgg (a0 : (List (Str × V))) (s2 : Nat) : Option Int :=
 z3n (ι := Nat) (ρ := fun _ => Int) (fun g i => z6c a0 (fun s2 => g s2) i) s2
theorem zgf (a0 : (List (Str × V))) (s2 : Nat) : zgg a0 s2 = z6c a0 (zgg a0) s2 :=
 z1f (ι := Nat) (ρ := fun _ => Int) (Φ := fun g i => z6c a0 (fun s2 => g s2) i) (fun i => zm5 (ι := Nat) (ρ := fun _ => Int) (fun g => (fun s2 => g s2)) (fun _ => z1j) a0 i) s2
noncomputable def zit (a0 : (List (Str × V))) : Option Int :=
 bif (decide ((((a0).length : Nat) : Int) > 4096)) then (
 some 2
 ) else (
 zgg a0 0
 )
theorem zz9 (a0 : (List (Str × V))) (r : Int) (h : zit a0 = some r) : z0k Tryz.prog 107 [(PV.sl none 69 2 (List.map ofFld a0))] (I64 r) := by
 unfold zit at h
 refine z0e Tryz.func107 rfl Tryz.ntmps107 Tryz.results107 rfl (z0i ?_)
 change BW _ _ _ ⟨[(0, (PV.sl none 69 2 (List.map ofFld a0)))], [], _⟩ _
 refine bR ?_
 refine eX ?_
 refine z0b ?_
 refine bR ?_
 iterate 2 refine sX ?_
 refine eX ?_
 refine cX h rfl ?_ ?_
 intro hc1 h
 refine bR ?_
 refine eX ?_
 obtain rfl := eI h; exact z04 eK
 intro hc1 h
 refine z09 ?_
 refine cBx ?_
 refine z0b ?_
 refine bR ?_
 iterate 2 refine sX ?_
 refine eX ?_
 refine z0m ?_
 refine cBx ?_
 unfold zgg at h
 refine lX (σ := Nat) (fun i => [(0, (PV.sl none 69 2 (List.map ofFld a0))), (8, (PV.sl none 69 2 (List.map ofFld a0))), (9, (I64 ((((a0).length : Nat) : Int)))), (10, (I64 (((i : Nat) : Int))))]) (fun i => []) 0 h ?_ ?_
 exact jN
 rintro g1_f s2 h; replace h : z6c a0 (fun y0 => g1_f y0) s2 = some r := h; unfold z6c at h
 change BW _ _ _ ⟨[(0, (PV.sl none 69 2 (List.map ofFld a0))), (8, (PV.sl none 69 2 (List.map ofFld a0))), (9, (I64 ((((a0).length : Nat) : Int)))), (10, (I64 (((s2 : Nat) : Int))))], [], _⟩ _
 refine bR ?_
 refine eX ?_
 refine z0b ?_
 refine z4u (t := 8) rfl fun hb4 => ?_
 try rw [List.length_map] at hb4
 refine cX h rfl ?_ ?_
 intro hc3 h
 have hc3_ := of_decide_eq_true hc3
 refine z09 ?_
 refine cBx ?_
 refine z0b ?_
 refine z0m ?_
 refine cBx ?_
 refine bR ?_
 refine sX ?_
 obtain ⟨x5, hx5, h⟩ := obind h
 refine sS rfl rfl rfl (z1m (i := s2) Tryz.underlying71 z0v rfl rfl rfl hx5 rfl) ?_
 refine sX ?_
 refine sS rfl rfl rfl ((z1t z0v rfl).cast (H'' := [.box 69 [(z0n []), (ofV V.nil)]]) rfl (by simp only [mk_nil]; rfl)) ?_
 refine sX ?_
 refine z1g rfl rfl (z18 z0v rfl rfl rfl rfl rfl rfl (lbE rfl) (by show List.all [(z0n x5.1), (ofV x5.2)] z6u = true; simp only [List.all_cons, List.all_nil, zd6, z52, Bool.and_true, Bool.true_and]; try rfl)) ?_
 refine z0d ?_
 refine cBx ?_
 refine jX (ι := Bool) (fun i => z8z (fun y0 => g1_f y0) s2 i = some r) (fun i => [(0, (PV.sl none 69 2 (List.map ofFld a0))), (8, (PV.sl none 69 2 (List.map ofFld a0))), (9, (I64 ((((a0).length : Nat) : Int)))), (10, (I64 (((s2 : Nat) : Int)))), (33, (BO i))]) (fun i => []) ?_ ?_
 rintro s6 h; replace h : z8z (fun y0 => g1_f y0) s2 s6 = some r := h; unfold z8z at h
 change BW _ _ _ ⟨[(0, (PV.sl none 69 2 (List.map ofFld a0))), (8, (PV.sl none 69 2 (List.map ofFld a0))), (9, (I64 ((((a0).length : Nat) : Int)))), (10, (I64 (((s2 : Nat) : Int)))), (33, (BO s6))], [], _⟩ _
 refine cX h rfl ?_ ?_
 intro hc7 h
 refine bR ?_
 refine eX ?_
 obtain rfl := eI h; exact z04 eK
 intro hc7 h
 refine z09 ?_
 refine cBx ?_
 refine z0g ?_
 refine sS rfl rfl rfl (z2p (k := s2) (c := 1) rfl rfl rfl (by omega)) ?_
 refine sX (z0d ?_)
 exact ⟨rfl, (s2 + 1), h, jN⟩
 refine z1z 16 [] [0] mo (by kernel_rfl) ?_
 iterate 2 refine gX ?_
 obtain ⟨x8, hx8, h⟩ := obind h
 refine z1o rfl rfl rfl rfl (fun H hp => z05 rfl zvm rfl (wkr .nil) ⟨rfl, trivial⟩ (zz4 x5.1 x8 hx8) rfl) ?_
 iterate 2 refine gX ?_
 refine z6r 19 rfl ?_ ?_
 intro hb9; replace h := z0o hb9 h
 iterate 11 refine mX ?_
 refine z24 ?_
 change AO _ _ _ _ _
 iterate 2 refine nX ?_
 refine sX (z0d ?_)
 exact ⟨rfl, true, h, jN⟩
 intro hb9; replace h := z0p hb9 h
 iterate 3 refine wX ?_
 refine z6r 22 rfl ?_ ?_
 intro hb10; replace h := z0o hb10 h
 iterate 4 refine wX ?_
 refine z6t rfl rfl rfl rfl rfl rfl rfl (fun H hp => z7t rfl rfl rfl) ?_
 obtain ⟨x11, hx11, h⟩ := obind h
 refine z6t rfl rfl rfl rfl rfl rfl rfl (fun H hp => z26 Tryz.underlying71 z0v rfl rfl rfl hx11 rfl) ?_
 iterate 2 refine wX ?_
 refine z24 ?_
 change AO _ _ _ _ _
 refine z1h rfl rfl rfl rfl rfl rfl ((z2h (a := x5.1) (b := x11.1) rfl rfl rfl rfl).cast (y := (BO ((Op.bytesLess x5.1 x11.1 || x5.1 == x11.1)))) rfl rfl) ?_
 refine yX ?_
 refine sX (z0d ?_)
 exact ⟨rfl, (Op.bytesLess x5.1 x11.1 || x5.1 == x11.1), h, jN⟩
 intro hb10; replace h := z0p hb10 h
 iterate 8 refine mX ?_
 refine z24 ?_
 change AO _ _ _ _ _
 refine nX ?_
 refine yX ?_
 refine sX (z0d ?_)
 exact ⟨rfl, false, h, jN⟩
 intro hc3 h
 refine z2c ?_
 refine cBx ?_
 refine bR ?_
 refine eX ?_
 obtain rfl := eI h; exact z04 eK
end Go.Proofs.YthidgpcbnieleaaGreatDoor
