/- Pure functions, and that calls answer as they say. -/
import Derived.Test.YthidgpcbnieleaaG7
namespace Go.Proofs.Ythidgpcbnieleaa
open Go Aw
set_option linter.unusedVariables false
set_option linter.unusedSimpArgs false
set_option maxRecDepth 20000
set_option maxHeartbeats 2000000
variable {ι : Type} {ρ : ι → Type}
noncomputable def znc (a0 : V) (a1 : Term) : Option Bool :=
 (ztn a0).bind fun x1 =>
 (zfv x1 a1).bind fun x2 =>
 some x2
theorem zzv (a0 : V) (a1 : Term) (r : Bool) (h : znc a0 a1 = some r) : z0o Try.prog 30 [(ofV a0), (z0b a1)] (BO r) := by
 unfold znc at h
 refine z0j Try.func30 rfl Try.ntmps30 Try.results30 rfl (z0q ?_)
 change BW _ _ _ ⟨[(0, (ofV a0)), (1, (z0b a1))], [], _⟩ _
 refine bR ?_
 refine sX ?_
 refine eX ?_
 refine z0d (z1y 3 [] [0] mo (by kernel_rfl) ?_)
 refine gX ?_
 obtain ⟨x1, hx1, h⟩ := obind h
 refine z1v rfl rfl rfl rfl (fun H hp => z03 rfl Z4h rfl (wkr .nil) ⟨(ids_V a0), trivial⟩ (Z2t a0 x1 hx1) (z06 x1)) ?_
 refine gX ?_
 refine z23 ?_
 change AO _ _ _ _ _
 obtain ⟨x2, hx2, h⟩ := obind h
 refine sS rfl rfl rfl (z03 rfl zyg rfl (wkr (wkr .nil)) ⟨(z06 x1), ⟨(z06 a1), trivial⟩⟩ (Z2s x1 a1 x2 hx2) rfl) ?_
 refine eX ?_
 obtain rfl := eI h; exact z04 eK
noncomputable def zjs (a0 : V) (a1 : Term) : Option Bool :=
 (zbk a1).bind fun x1 =>
 (znc a0 x1).bind fun x2 =>
 (zgw a0).bind fun x3 =>
 some x2
theorem zx0 (a0 : V) (a1 : Term) (r : Bool) (h : zjs a0 a1 = some r) : zfb Try.prog 10 [(PV.hid 0 (ofV a0)), (z0b a1)] [.reg] (BO r) [.dead] := by
 unfold zjs at h
 refine z0j Try.func10 rfl Try.ntmps10 Try.results10 rfl (z0q ?_)
 change BW _ _ _ ⟨[(0, (PV.hid 0 (ofV a0))), (1, (z0b a1))], [.reg], _⟩ _
 refine bR ?_
 refine sX ?_
 refine eX ?_
 refine bR ?_
 iterate 2 refine sX ?_
 obtain ⟨x1, hx1, h⟩ := obind h
 refine sS rfl rfl rfl (z03 rfl zul rfl (wkr .nil) ⟨(z06 a1), trivial⟩ (Z05 a1 x1 hx1) (z06 x1)) ?_
 obtain ⟨x2, hx2, h⟩ := obind h
 refine sS rfl rfl rfl (zr0 rfl Z20 rfl (.cons (.hid rfl) (.cons (.wk (Wk.refl _) (z06 x1)) .nil)) (zzv a0 x1 x2 hx2) Sc.v) ?_
 refine eX ?_
 refine bR ?_
 refine sX ?_
 obtain ⟨x3, hx3, h⟩ := obind h
 refine sS rfl rfl rfl (zqs 0 rfl zyl rfl rfl (.cons .hid .nil) (zt5 a0 hx3) (Sc.tup zh0)) (z08 ?_)
 refine cBx ?_
 refine bR ?_
 refine sX ?_
 refine eX ?_
 obtain rfl := eI h; exact z04 ⟨_, rfl, Z1h (y := (BO x2)) (Wk.refl _) rfl rfl ⟨rfl, rfl⟩⟩
noncomputable def z67 (a0 a1 : (List S_api_Step)) (g1 : Nat → Option Bool) (s2 : Nat) : Option Bool :=
 bif (decide (((s2 : Nat) : Int) < (((a0).length : Nat) : Int))) then (
 ((a0)[s2]?).bind fun x5 =>
 ((a1)[s2]?).bind fun x6 =>
 bif (!(x5.f_Name == x6.f_Name && (x5.f_At == x6.f_At && x5.f_Index == x6.f_Index))) then (
 some false
 ) else (
 g1 (s2 + 1)
 )
 ) else (
 some true
 )
theorem zn6 (g1 : OF ρ → Nat → Option Bool) (h_g1 : ∀ y0, CM (fun G => g1 G y0)) (a0 a1 : (List S_api_Step)) (s2 : Nat) : CM (fun G : OF ρ => z67 a0 a1 (g1 G) s2) := by
 simp only [z67]
 repeat (first | exact z0h | exact h_g1 _ | refine z10 ?_ ?_ | refine z11 ?_ (fun _ => ?_))
noncomputable def zhp (a0 a1 : (List S_api_Step)) (s2 : Nat) : Option Bool :=
 z3b (ι := Nat) (ρ := fun _ => Bool) (fun g i => z67 a0 a1 (fun s2 => g s2) i) s2
theorem zho (a0 a1 : (List S_api_Step)) (s2 : Nat) : zhp a0 a1 s2 = z67 a0 a1 (zhp a0 a1) s2 :=
 z1f (ι := Nat) (ρ := fun _ => Bool) (Φ := fun g i => z67 a0 a1 (fun s2 => g s2) i) (fun i => zn6 (ι := Nat) (ρ := fun _ => Bool) (fun g => (fun s2 => g s2)) (fun _ => z1i) a0 a1 i) s2
noncomputable def zqi (a0 a1 : (List S_api_Step)) : Option Bool :=
 bif ((((a0).length : Nat) : Int) != (((a1).length : Nat) : Int)) then (
 some false
 ) else (
 zhp a0 a1 0
 )
theorem Z39 (a0 a1 : (List S_api_Step)) (r : Bool) (h : zqi a0 a1 = some r) : z0o Try.prog 33 [(PV.sl none 76 3 (List.map z01 a0)), (PV.sl none 76 3 (List.map z01 a1))] (BO r) := by
 unfold zqi at h
 refine z0j Try.func33 rfl Try.ntmps33 Try.results33 rfl (z0q ?_)
 change BW _ _ _ ⟨[(0, (PV.sl none 76 3 (List.map z01 a0))), (1, (PV.sl none 76 3 (List.map z01 a1)))], [], _⟩ _
 refine bR ?_
 refine eX ?_
 refine z0d ?_
 refine bR ?_
 iterate 4 refine sX ?_
 refine eX ?_
 refine cX h rfl ?_ ?_
 intro hc1 h
 refine bR ?_
 refine eX ?_
 obtain rfl := eI h; exact z04 eK
 intro hc1 h
 refine z0c ?_
 refine cBx ?_
 refine z0d ?_
 refine bR ?_
 refine eX ?_
 refine z0r ?_
 refine cBx ?_
 unfold zhp at h
 refine z3c (σ := Nat) (fun i => [(0, (PV.sl none 76 3 (List.map z01 a0))), (1, (PV.sl none 76 3 (List.map z01 a1))), (5, (I64 (((i : Nat) : Int))))]) (fun i => []) 0 h ?_ ?_ ?_
 intro i; exact ⟨lbE rfl, ⟨(z02 (z0f z07 _)), ⟨(z02 (z0f z07 _)), ⟨(z02 rfl), trivial⟩⟩⟩, trivial⟩
 exact jN
 rintro g1_f s2 h; replace h : z67 a0 a1 (fun y0 => g1_f y0) s2 = some r := h; unfold z67 at h
 change BW _ _ _ ⟨[(0, (PV.sl none 76 3 (List.map z01 a0))), (1, (PV.sl none 76 3 (List.map z01 a1))), (5, (I64 (((s2 : Nat) : Int))))], [], _⟩ _
 refine z0d ?_
 refine bR ?_
 iterate 3 refine sX ?_
 refine eX ?_
 refine z3p (t := 12) rfl fun hb4 => ?_
 try rw [List.length_map] at hb4
 refine cX h rfl ?_ ?_
 intro hc3 h
 have hc3_ := of_decide_eq_true hc3
 refine z0c ?_
 refine cBx ?_
 refine z0d ?_
 refine z0r ?_
 refine cBx ?_
 refine z0d (z1y 8 [] [] mo (by kernel_rfl) ?_)
 iterate 2 refine gX ?_
 obtain ⟨x5, hx5, h⟩ := obind h
 refine z1v rfl rfl rfl rfl (fun H hp => z1d (i := s2) Try.underlying37 z1w rfl rfl rfl hx5 rfl) ?_
 iterate 3 refine gX ?_
 obtain ⟨x6, hx6, h⟩ := obind h
 refine z1v rfl rfl rfl rfl (fun H hp => z1d (i := s2) Try.underlying37 z1w rfl rfl rfl hx6 rfl) ?_
 refine gX ?_
 refine z23 ?_
 change AO _ _ _ _ _
 refine sS rfl rfl rfl ((zij zoq rfl rfl rfl true rfl).cast (y := (BO ((!(x5.f_Name == x6.f_Name && (x5.f_At == x6.f_At && x5.f_Index == x6.f_Index)))))) rfl rfl) (z08 ?_)
 refine cBx ?_
 refine cX h rfl ?_ ?_
 intro hc7 h
 refine bR ?_
 refine eX ?_
 obtain rfl := eI h; exact z04 eK
 intro hc7 h
 refine z0c ?_
 refine cBx ?_
 refine z0e ?_
 refine sX ?_
 refine sS rfl rfl rfl (z20 (k := s2) (c := 1) rfl rfl rfl (by omega)) ?_
 refine sX (z08 ?_)
 exact ⟨rfl, (s2 + 1), h, jN⟩
 intro hc3 h
 refine z1z ?_
 refine cBx ?_
 refine bR ?_
 refine eX ?_
 obtain rfl := eI h; exact z04 eK
noncomputable def zqe (a0 a1 : (List S_api_Step)) : Option Bool :=
 (z83 a0 0 (((a1).length : Nat) : Int)).bind fun x1 =>
 (zqi x1 a1).bind fun x2 =>
 bif x2 then (
 ((a0)[(a1).length]?).bind fun x4 =>
 some (x4.f_Name == ((S_api_Step.mk ([98, 101, 104, 105, 110, 100] : Str) false 0)).f_Name && (x4.f_At == ((S_api_Step.mk ([98, 101, 104, 105, 110, 100] : Str) false 0)).f_At && x4.f_Index == ((S_api_Step.mk ([98, 101, 104, 105, 110, 100] : Str) false 0)).f_Index))
 ) else (
 some false
 )
theorem Z36 (a0 a1 : (List S_api_Step)) (r : Bool) (h : zqe a0 a1 = some r) : z0o Try.prog 24 [(PV.sl none 76 3 (List.map z01 a0)), (PV.sl none 76 3 (List.map z01 a1))] (BO r) := by
 unfold zqe at h
 refine z0j Try.func24 rfl Try.ntmps24 Try.results24 rfl (z0q ?_)
 change BW _ _ _ ⟨[(0, (PV.sl none 76 3 (List.map z01 a0))), (1, (PV.sl none 76 3 (List.map z01 a1)))], [], _⟩ _
 refine bR ?_
 refine eX ?_
 refine bR ?_
 iterate 3 refine sX ?_
 obtain ⟨x1, hx1, h⟩ := obind h
 refine sS rfl rfl rfl (z3j (a := 0) (b := (((a1).length : Nat) : Int)) Try.underlying37 z1w rfl rfl rfl rfl rfl rfl hx1) ?_
 refine sX ?_
 obtain ⟨x2, hx2, h⟩ := obind h
 refine sS rfl rfl rfl (z03 rfl Z4l rfl (wkr (wkr .nil)) ⟨(z0f z07 x1), ⟨(z0f z07 a1), trivial⟩⟩ (Z39 x1 a1 x2 hx2) rfl) ?_
 refine sX ?_
 refine z0n (t := 11) rfl ?_ ?_
 intro hb3; replace h := z0t hb3 h
 iterate 3 refine yX ?_
 obtain ⟨x4, hx4, h⟩ := obind h
 refine z1t rfl rfl rfl rfl rfl rfl (z1d (i := ((a1).length)) Try.underlying37 z1w rfl rfl rfl hx4 rfl) ?_
 refine yX ?_
 refine z1t rfl rfl rfl rfl rfl rfl (z1a (cs := [(z0k ([98, 101, 104, 105, 110, 100] : Str)), (BO false), (I64 0)]) zww z1w rfl rfl rfl rfl) ?_
 refine z1t rfl rfl rfl rfl rfl rfl ((zij zoq rfl rfl rfl false rfl).cast (y := (BO ((x4.f_Name == ((S_api_Step.mk ([98, 101, 104, 105, 110, 100] : Str) false 0)).f_Name && (x4.f_At == ((S_api_Step.mk ([98, 101, 104, 105, 110, 100] : Str) false 0)).f_At && x4.f_Index == ((S_api_Step.mk ([98, 101, 104, 105, 110, 100] : Str) false 0)).f_Index))))) rfl rfl) ?_
 refine sX ?_
 refine eX ?_
 obtain rfl := eI h; exact z04 eK
 intro hb3; replace h := z0u hb3 h
 iterate 7 refine nX ?_
 refine sX ?_
 refine eX ?_
 obtain rfl := eI h; exact z04 eK
noncomputable def zne (a0 : V) (a1 : Term) : Option Bool :=
 (zid a1).bind fun x1 =>
 bif (x1.2 != 0) then (
 some true
 ) else (
 (zbk a1).bind fun x3 =>
 (znc a0 x3).bind fun x4 =>
 some x4
 )
theorem zzz (a0 : V) (a1 : Term) (r : Bool) (h : zne a0 a1 = some r) : z0o Try.prog 14 [(ofV a0), (z0b a1)] (BO r) := by
 unfold zne at h
 refine z0j Try.func14 rfl Try.ntmps14 Try.results14 rfl (z0q ?_)
 change BW _ _ _ ⟨[(0, (ofV a0)), (1, (z0b a1))], [], _⟩ _
 refine bR ?_
 refine sX ?_
 refine eX ?_
 refine bR ?_
 refine sX ?_
 obtain ⟨x1, hx1, h⟩ := obind h
 refine sS rfl rfl rfl (z03 rfl zum rfl (wkr .nil) ⟨(z06 a1), trivial⟩ (ztb a1 x1 hx1) (z00 rfl (z00 rfl z05))) ?_
 iterate 4 refine sX ?_
 refine eX ?_
 refine bR ?_
 iterate 3 refine sX ?_
 refine z0n (t := 14) rfl ?_ ?_
 intro hb2; replace h := z0t hb2 h
 iterate 4 refine nX ?_
 refine sX ?_
 refine eX ?_
 obtain rfl := eI h; exact z04 eK
 intro hb2; replace h := z0u hb2 h
 iterate 2 refine yX ?_
 obtain ⟨x3, hx3, h⟩ := obind h
 refine z1t rfl rfl rfl rfl rfl rfl (z03 rfl zul rfl (wkr .nil) ⟨(z06 a1), trivial⟩ (Z05 a1 x3 hx3) (z06 x3)) ?_
 obtain ⟨x4, hx4, h⟩ := obind h
 refine z1t rfl rfl rfl rfl rfl rfl (z03 rfl Z20 rfl (wkr (wkr .nil)) ⟨(ids_V a0), ⟨(z06 x3), trivial⟩⟩ (zzv a0 x3 x4 hx4) rfl) ?_
 refine sX ?_
 refine eX ?_
 obtain rfl := eI h; exact z04 eK
noncomputable def z4j (g1 : Int → Option Bool) (s4 : Int) (s15 : Bool) : Option Bool :=
 bif s15 then (
 some false
 ) else (
 g1 (IntKind.i64.wrap (s4 + 1))
 )
theorem zpp (g1 : OF ρ → Int → Option Bool) (h_g1 : ∀ y0, CM (fun G => g1 G y0)) (s4 : Int) (s15 : Bool) : CM (fun G : OF ρ => z4j (g1 G) s4 s15) := by
 simp only [z4j]
 repeat (first | exact z0h | exact h_g1 _ | refine z10 ?_ ?_ | refine z11 ?_ (fun _ => ?_))
noncomputable def z6b (a0 : Term) (a1 : (List S_api_Step)) (a2 : Term) (x1 x2 : V) (x3 : (List S_api_Step)) (g1 : Int → Option Bool) (s4 : Int) : Option Bool :=
 bif (decide (s4 < 2)) then (
 (z83 x3 0 (((a1).length : Nat) : Int)).bind fun x6 =>
 (zq7 x1 x6).bind fun x7 =>
 (zq8 a0 a1).bind fun x8 =>
 (z83 x3 0 (((a1).length : Nat) : Int)).bind fun x9 =>
 (zq6 x1 x9 x2).bind fun x10 =>
 (zqb a0 a1 a2).bind fun x11 =>
 (z83 x3 0 (((a1).length : Nat) : Int)).bind fun x12 =>
 (zqm x1 x12).bind fun x13 =>
 (zqp a0 a1).bind fun x14 =>
 bif (x7.2 != x8.2) then (
 z4j g1 s4 true
 ) else (
 bif (x10.2 != x11.2) then (
 z4j g1 s4 true
 ) else (
 bif (x13.2 != x14.2) then (
 z4j g1 s4 true
 ) else (
 (zjs x7.1 (x8.1)).bind fun x20 =>
 bif (!x20) then (
 z4j g1 s4 true
 ) else (
 (zjs x10.1 (x11.1)).bind fun x22 =>
 bif (!x22) then (
 z4j g1 s4 true
 ) else (
 (zjs x13.1 (x14.1)).bind fun x24 =>
 bif (!x24) then (
 z4j g1 s4 true
 ) else (
 (zqe x3 a1).bind fun x26 =>
 bif (!x26) then (
 z4j g1 s4 true
 ) else (
 (zne x1 a0).bind fun x28 =>
 bif (!x28) then (
 z4j g1 s4 true
 ) else (
 (zne x2 a2).bind fun x30 =>
 z4j g1 s4 (!x30)
 )
 )
 )
 )
 )
 )
 )
 )
 ) else (
 some true
 )
theorem zna (g1 : OF ρ → Int → Option Bool) (h_g1 : ∀ y0, CM (fun G => g1 G y0)) (a0 : Term) (a1 : (List S_api_Step)) (a2 : Term) (x1 x2 : V) (x3 : (List S_api_Step)) (s4 : Int) : CM (fun G : OF ρ => z6b a0 a1 a2 x1 x2 x3 (g1 G) s4) := by
 simp only [z6b]
 repeat (first | exact z0h | exact h_g1 _ | apply zpp | refine z10 ?_ ?_ | refine z11 ?_ (fun _ => ?_) | intro _ | assumption)
noncomputable def zla (a0 : Term) (a1 : (List S_api_Step)) (a2 : Term) (x1 x2 : V) (x3 : (List S_api_Step)) (s4 : Int) : Option Bool :=
 z3b (ι := Int) (ρ := fun _ => Bool) (fun g i => z6b a0 a1 a2 x1 x2 x3 (fun s4 => g s4) i) s4
theorem zcn (a0 : Term) (a1 : (List S_api_Step)) (a2 : Term) (x1 x2 : V) (x3 : (List S_api_Step)) (s4 : Int) : zla a0 a1 a2 x1 x2 x3 s4 = z6b a0 a1 a2 x1 x2 x3 (zla a0 a1 a2 x1 x2 x3) s4 :=
 z1f (ι := Int) (ρ := fun _ => Bool) (Φ := fun g i => z6b a0 a1 a2 x1 x2 x3 (fun s4 => g s4) i) (fun i => zna (ι := Int) (ρ := fun _ => Bool) (fun g => (fun s4 => g s4)) (fun _ => z1i) a0 a1 a2 x1 x2 x3 i) s4
noncomputable def ztq (a0 : Term) (a1 : (List S_api_Step)) (a2 : Term) : Option Bool :=
 (z8h a0).bind fun x1 =>
 (z8h a2).bind fun x2 =>
 (zqj a1).bind fun x3 =>
 zla a0 a1 a2 x1 x2 x3 0
theorem Z3i (a0 : Term) (a1 : (List S_api_Step)) (a2 : Term) (r : Bool) (h : ztq a0 a1 a2 = some r) : z0o Try.prog 5 [(z0b a0), (PV.sl none 76 3 (List.map z01 a1)), (z0b a2)] (BO r) := by
 unfold ztq at h
 refine z0j Try.func5 rfl Try.ntmps5 Try.results5 rfl (z0q ?_)
 change BW _ _ _ ⟨[(0, (z0b a0)), (1, (PV.sl none 76 3 (List.map z01 a1))), (2, (z0b a2))], [], _⟩ _
 refine bR ?_
 iterate 2 refine sX ?_
 refine eX ?_
 refine z0d (z1y 5 [] [0, 1] mo (by kernel_rfl) ?_)
 refine gX ?_
 obtain ⟨x1, hx1, h⟩ := obind h
 refine z1v rfl rfl rfl rfl (fun H hp => z03 rfl Z2q rfl (wkr .nil) ⟨(z06 a0), trivial⟩ (zzw a0 x1 hx1) (ids_V x1)) ?_
 refine gX ?_
 obtain ⟨x2, hx2, h⟩ := obind h
 refine z1v rfl rfl rfl rfl (fun H hp => z03 rfl Z2q rfl (wkr .nil) ⟨(z06 a2), trivial⟩ (zzw a2 x2 hx2) (ids_V x2)) ?_
 refine gX ?_
 refine z23 ?_
 change AO _ _ _ _ _
 obtain ⟨x3, hx3, h⟩ := obind h
 refine sS rfl rfl rfl (z03 rfl Z4u rfl (wkr .nil) ⟨(z0f z07 a1), trivial⟩ (Z3a a1 x3 hx3) (z0f z07 x3)) ?_
 iterate 2 refine sX ?_
 refine eX ?_
 refine z0d ?_
 refine bR ?_
 refine eX ?_
 refine z0r ?_
 refine cBx ?_
 unfold zla at h
 refine z3c (σ := Int) (fun i => [(1, (PV.sl none 76 3 (List.map z01 a1))), (3, (PV.rf 0 0)), (5, (PV.rf 1 0)), (7, (ofV x1)), (8, (ofV x2)), (9, (PV.sl none 76 3 (List.map z01 x3))), (10, (I64 i))]) (fun i => [.box 29 (z1r a0), .box 29 (z1r a2)]) 0 h ?_ ?_ ?_
 intro i; exact ⟨lbE rfl, ⟨(z02 (z0f z07 _)), ⟨(il_rf rfl), ⟨(il_rf rfl), ⟨(z02 (ids_V _)), ⟨(z02 (ids_V _)), ⟨(z02 (z0f z07 _)), ⟨(z02 rfl), trivial⟩⟩⟩⟩⟩⟩⟩, ⟨wfC29, ⟨wfC29, trivial⟩⟩⟩
 exact jN
 rintro g1_f s4 h; replace h : z6b a0 a1 a2 x1 x2 x3 (fun y0 => g1_f y0) s4 = some r := h; unfold z6b at h
 change BW _ _ _ ⟨[(1, (PV.sl none 76 3 (List.map z01 a1))), (3, (PV.rf 0 0)), (5, (PV.rf 1 0)), (7, (ofV x1)), (8, (ofV x2)), (9, (PV.sl none 76 3 (List.map z01 x3))), (10, (I64 s4))], [.box 29 (z1r a0), .box 29 (z1r a2)], _⟩ _
 refine z0d ?_
 refine bR ?_
 refine sX ?_
 refine eX ?_
 refine cX h rfl ?_ ?_
 intro hc5 h
 refine z0c ?_
 refine cBx ?_
 refine z0d ?_
 refine z0r ?_
 refine cBx ?_
 refine bR ?_
 iterate 4 refine sX ?_
 obtain ⟨x6, hx6, h⟩ := obind h
 refine sS rfl rfl rfl (z3j (a := 0) (b := (((a1).length : Nat) : Int)) Try.underlying37 z1w rfl rfl rfl rfl rfl rfl hx6) ?_
 obtain ⟨x7, hx7, h⟩ := obind h
 refine sS rfl rfl rfl (zd4 rfl Z4t rfl (.cons (.old (.wk (Wk.refl _) (ids_V x1))) (.cons (.old (.wk (Wk.refl _) (z0f z07 x6))) .nil)) (Z2y x1 x6 x7 hx7) (Pl.tup (.cons (zzd x7.1) (.cons Pl.v .nil)))) ?_
 refine sX ?_
 refine sS rfl rfl rfl (z7r rfl rfl rfl) ?_
 refine sS rfl rfl rfl ((z7r rfl rfl rfl).wk (Wk.hidSc Sc.v)) ?_
 refine sX ?_
 refine eX ?_
 refine bR ?_
 iterate 2 refine sX ?_
 obtain ⟨x8, hx8, h⟩ := obind h
 refine sS rfl rfl rfl (z03 rfl Z4s rfl (wkr (wkr .nil)) ⟨(z06 a0), ⟨(z0f z07 a1), trivial⟩⟩ (Z30 a0 a1 x8 hx8) (z00 (z06 x8.1) (z00 rfl z05))) ?_
 iterate 3 refine sX ?_
 refine sS rfl rfl rfl (z1b z0v rfl) ?_
 refine z0l rfl rfl (z0g z0v rfl rfl rfl rfl rfl rfl (lbE rfl) rfl) ?_
 refine eX ?_
 refine bR ?_
 iterate 4 refine sX ?_
 obtain ⟨x9, hx9, h⟩ := obind h
 refine sS rfl rfl rfl (z3j (a := 0) (b := (((a1).length : Nat) : Int)) Try.underlying37 z1w rfl rfl rfl rfl rfl rfl hx9) ?_
 refine sX ?_
 obtain ⟨x10, hx10, h⟩ := obind h
 refine sS rfl rfl rfl (zd4 rfl Z4r rfl (.cons (.old (.wk (Wk.refl _) (ids_V x1))) (.cons (.old (.wk (Wk.refl _) (z0f z07 x9))) (.cons (.old (.wk (Wk.refl _) (ids_V x2))) .nil))) (Z2x x1 x9 x2 x10 hx10) (Pl.tup (.cons (zzd x10.1) (.cons Pl.v .nil)))) ?_
 refine sX ?_
 refine sS rfl rfl rfl (z7r rfl rfl rfl) ?_
 refine sS rfl rfl rfl ((z7r rfl rfl rfl).wk (Wk.hidSc Sc.v)) ?_
 refine sX ?_
 refine eX ?_
 refine bR ?_
 iterate 3 refine sX ?_
 obtain ⟨x11, hx11, h⟩ := obind h
 refine sS rfl rfl rfl (z03 rfl Z4q rfl (wkr (wkr (wkr .nil))) ⟨(z06 a0), ⟨(z0f z07 a1), ⟨(z06 a2), trivial⟩⟩⟩ (Z33 a0 a1 a2 x11 hx11) (z00 (z06 x11.1) (z00 rfl z05))) ?_
 iterate 3 refine sX ?_
 refine sS rfl rfl rfl (z1b z0v rfl) ?_
 refine z0l rfl rfl (z0g z0v rfl rfl rfl rfl rfl rfl (lbE rfl) rfl) ?_
 refine eX ?_
 refine bR ?_
 iterate 4 refine sX ?_
 obtain ⟨x12, hx12, h⟩ := obind h
 refine sS rfl rfl rfl (z3j (a := 0) (b := (((a1).length : Nat) : Int)) Try.underlying37 z1w rfl rfl rfl rfl rfl rfl hx12) ?_
 obtain ⟨x13, hx13, h⟩ := obind h
 refine sS rfl rfl rfl (zd4 rfl Z4p rfl (.cons (.old (.wk (Wk.refl _) (ids_V x1))) (.cons (.old (.wk (Wk.refl _) (z0f z07 x12))) .nil)) (Z3c x1 x12 x13 hx13) (Pl.tup (.cons (zzd x13.1) (.cons Pl.v .nil)))) ?_
 refine sX ?_
 refine sS rfl rfl rfl (z7r rfl rfl rfl) ?_
 refine sS rfl rfl rfl ((z7r rfl rfl rfl).wk (Wk.hidSc Sc.v)) ?_
 refine sX ?_
 refine eX ?_
 refine bR ?_
 iterate 2 refine sX ?_
 obtain ⟨x14, hx14, h⟩ := obind h
 refine sS rfl rfl rfl (z03 rfl Z4o rfl (wkr (wkr .nil)) ⟨(z06 a0), ⟨(z0f z07 a1), trivial⟩⟩ (Z3e a0 a1 x14 hx14) (z00 (z06 x14.1) (z00 rfl z05))) ?_
 iterate 3 refine sX ?_
 refine sS rfl rfl rfl (z1b z0v rfl) ?_
 refine z0l rfl rfl (z0g z0v rfl rfl rfl rfl rfl rfl (lbE rfl) rfl) ?_
 refine eX ?_
 refine z2l (ι := Bool) (fun i => z4j (fun y0 => g1_f y0) s4 i = some r) (fun i => [(1, (PV.sl none 76 3 (List.map z01 a1))), (3, (PV.rf 0 0)), (5, (PV.rf 1 0)), (7, (ofV x1)), (8, (ofV x2)), (9, (PV.sl none 76 3 (List.map z01 x3))), (10, (I64 s4)), (128, (BO i))]) (fun i => [.box 29 (z1r a0), .box 29 (z1r a2)]) ?_ ?_ ?_
 intro i; exact ⟨lbE rfl, ⟨(z02 (z0f z07 _)), ⟨(il_rf rfl), ⟨(il_rf rfl), ⟨(z02 (ids_V _)), ⟨(z02 (ids_V _)), ⟨(z02 (z0f z07 _)), ⟨(z02 rfl), ⟨(z02 rfl), trivial⟩⟩⟩⟩⟩⟩⟩⟩, ⟨wfC29, ⟨wfC29, trivial⟩⟩⟩
 rintro s15 h; replace h : z4j (fun y0 => g1_f y0) s4 s15 = some r := h; unfold z4j at h
 change BW _ _ _ ⟨[(1, (PV.sl none 76 3 (List.map z01 a1))), (3, (PV.rf 0 0)), (5, (PV.rf 1 0)), (7, (ofV x1)), (8, (ofV x2)), (9, (PV.sl none 76 3 (List.map z01 x3))), (10, (I64 s4)), (128, (BO s15))], [.box 29 (z1r a0), .box 29 (z1r a2)], _⟩ _
 refine cX h rfl ?_ ?_
 intro hc16 h
 refine bR ?_
 refine eX ?_
 obtain rfl := eI h; exact z04 eK
 intro hc16 h
 refine z0c ?_
 refine cBx ?_
 refine z0e ?_
 iterate 2 refine sX ?_
 refine sX (z08 ?_)
 exact ⟨rfl, (IntKind.i64.wrap (s4 + 1)), h, jN⟩
 refine zo0 ?_
 iterate 4 refine sX ?_
 refine z0n (t := 83) rfl ?_ ?_
 intro hb17; replace h := z0t hb17 h
 iterate 3 refine nX ?_
 iterate 2 refine sX ?_
 iterate 3 refine nX ?_
 iterate 2 refine sX ?_
 iterate 4 refine nX ?_
 iterate 2 refine sX ?_
 iterate 4 refine nX ?_
 iterate 2 refine sX ?_
 iterate 4 refine nX ?_
 iterate 2 refine sX ?_
 iterate 4 refine nX ?_
 iterate 2 refine sX ?_
 iterate 4 refine nX ?_
 iterate 2 refine sX ?_
 iterate 4 refine nX ?_
 refine sX (z08 ?_)
 exact ⟨rfl, true, h, jN⟩
 intro hb17; replace h := z0u hb17 h
 iterate 3 refine yX ?_
 iterate 2 refine sX ?_
 refine z0n (t := 88) rfl ?_ ?_
 intro hb18; replace h := z0t hb18 h
 iterate 3 refine nX ?_
 iterate 2 refine sX ?_
 iterate 4 refine nX ?_
 iterate 2 refine sX ?_
 iterate 4 refine nX ?_
 iterate 2 refine sX ?_
 iterate 4 refine nX ?_
 iterate 2 refine sX ?_
 iterate 4 refine nX ?_
 iterate 2 refine sX ?_
 iterate 4 refine nX ?_
 iterate 2 refine sX ?_
 iterate 4 refine nX ?_
 refine sX (z08 ?_)
 exact ⟨rfl, true, h, jN⟩
 intro hb18; replace h := z0u hb18 h
 iterate 3 refine yX ?_
 iterate 2 refine sX ?_
 refine z0n (t := 93) rfl ?_ ?_
 intro hb19; replace h := z0t hb19 h
 iterate 4 refine nX ?_
 iterate 2 refine sX ?_
 iterate 4 refine nX ?_
 iterate 2 refine sX ?_
 iterate 4 refine nX ?_
 iterate 2 refine sX ?_
 iterate 4 refine nX ?_
 iterate 2 refine sX ?_
 iterate 4 refine nX ?_
 iterate 2 refine sX ?_
 iterate 4 refine nX ?_
 refine sX (z08 ?_)
 exact ⟨rfl, true, h, jN⟩
 intro hb19; replace h := z0u hb19 h
 iterate 2 refine yX ?_
 obtain ⟨x20, hx20, h⟩ := obind h
 refine z1t rfl rfl rfl rfl rfl rfl (zd2 [2] (.func rfl) zym rfl (wkr (wkr .nil)) rfl (.cons rfl (.same rfl) .nil) (.cons (.hid rfl (ids_V x7.1)) (.cons (.same (z06 (x8.1))) .nil)) (zx0 x7.1 (x8.1) x20 hx20) (.same rfl) (.cons .dead .nil) rfl) ?_
 refine yX ?_
 iterate 2 refine sX ?_
 refine z0n (t := 99) rfl ?_ ?_
 intro hb21; replace h := z0t hb21 h
 iterate 4 refine nX ?_
 iterate 2 refine sX ?_
 iterate 4 refine nX ?_
 iterate 2 refine sX ?_
 iterate 4 refine nX ?_
 iterate 2 refine sX ?_
 iterate 4 refine nX ?_
 iterate 2 refine sX ?_
 iterate 4 refine nX ?_
 refine sX (z08 ?_)
 exact ⟨rfl, true, h, jN⟩
 intro hb21; replace h := z0u hb21 h
 iterate 2 refine yX ?_
 obtain ⟨x22, hx22, h⟩ := obind h
 refine z1t rfl rfl rfl rfl rfl rfl (zd2 [4] (.func rfl) zym rfl (wkr (wkr .nil)) rfl (.cons rfl (.same rfl) .nil) (.cons (.hid rfl (ids_V x10.1)) (.cons (.same (z06 (x11.1))) .nil)) (zx0 x10.1 (x11.1) x22 hx22) (.same rfl) (.cons .dead .nil) rfl) ?_
 refine yX ?_
 iterate 2 refine sX ?_
 refine z0n (t := 105) rfl ?_ ?_
 intro hb23; replace h := z0t hb23 h
 iterate 4 refine nX ?_
 iterate 2 refine sX ?_
 iterate 4 refine nX ?_
 iterate 2 refine sX ?_
 iterate 4 refine nX ?_
 iterate 2 refine sX ?_
 iterate 4 refine nX ?_
 refine sX (z08 ?_)
 exact ⟨rfl, true, h, jN⟩
 intro hb23; replace h := z0u hb23 h
 iterate 2 refine yX ?_
 obtain ⟨x24, hx24, h⟩ := obind h
 refine z1t rfl rfl rfl rfl rfl rfl (zd2 [6] (.func rfl) zym rfl (wkr (wkr .nil)) rfl (.cons rfl (.same rfl) .nil) (.cons (.hid rfl (ids_V x13.1)) (.cons (.same (z06 (x14.1))) .nil)) (zx0 x13.1 (x14.1) x24 hx24) (.same rfl) (.cons .dead .nil) rfl) ?_
 refine yX ?_
 iterate 2 refine sX ?_
 refine z0n (t := 111) rfl ?_ ?_
 intro hb25; replace h := z0t hb25 h
 iterate 4 refine nX ?_
 iterate 2 refine sX ?_
 iterate 4 refine nX ?_
 iterate 2 refine sX ?_
 iterate 4 refine nX ?_
 refine sX (z08 ?_)
 exact ⟨rfl, true, h, jN⟩
 intro hb25; replace h := z0u hb25 h
 iterate 2 refine yX ?_
 obtain ⟨x26, hx26, h⟩ := obind h
 refine z1t rfl rfl rfl rfl rfl rfl (z03 rfl Z4n rfl (wkr (wkr .nil)) ⟨(z0f z07 x3), ⟨(z0f z07 a1), trivial⟩⟩ (Z36 x3 a1 x26 hx26) rfl) ?_
 refine yX ?_
 iterate 2 refine sX ?_
 refine z0n (t := 117) rfl ?_ ?_
 intro hb27; replace h := z0t hb27 h
 iterate 4 refine nX ?_
 iterate 2 refine sX ?_
 iterate 4 refine nX ?_
 refine sX (z08 ?_)
 exact ⟨rfl, true, h, jN⟩
 intro hb27; replace h := z0u hb27 h
 iterate 2 refine yX ?_
 obtain ⟨x28, hx28, h⟩ := obind h
 refine z1t rfl rfl rfl rfl rfl rfl (z03 rfl Z23 rfl (wkr (wkr .nil)) ⟨(ids_V x1), ⟨(z06 a0), trivial⟩⟩ (zzz x1 a0 x28 hx28) rfl) ?_
 refine yX ?_
 iterate 2 refine sX ?_
 refine z0n (t := 123) rfl ?_ ?_
 intro hb29; replace h := z0t hb29 h
 iterate 4 refine nX ?_
 refine sX (z08 ?_)
 exact ⟨rfl, true, h, jN⟩
 intro hb29; replace h := z0u hb29 h
 iterate 2 refine yX ?_
 obtain ⟨x30, hx30, h⟩ := obind h
 refine z1t rfl rfl rfl rfl rfl rfl (z03 rfl Z23 rfl (wkr (wkr .nil)) ⟨(ids_V x2), ⟨(z06 a2), trivial⟩⟩ (zzz x2 a2 x30 hx30) rfl) ?_
 refine yX ?_
 refine sX (z08 ?_)
 exact ⟨rfl, (!x30), h, jN⟩
 intro hc5 h
 refine z1z ?_
 refine cBx ?_
 refine bR ?_
 refine eX ?_
 obtain rfl := eI h; exact z04 eK
end Go.Proofs.Ythidgpcbnieleaa
