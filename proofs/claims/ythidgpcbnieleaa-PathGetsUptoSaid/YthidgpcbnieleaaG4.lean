/- Pure functions, and that calls answer as they say. -/
import Derived.Test.YthidgpcbnieleaaG3
namespace Go.Proofs.Ythidgpcbnieleaa
open Go Aw
set_option linter.unusedVariables false
set_option linter.unusedSimpArgs false
set_option maxRecDepth 20000
set_option maxHeartbeats 2000000
variable {ι : Type} {ρ : ι → Type}
noncomputable def z5m (g1 : Nat → Option Int) (s2 : Nat) (s8 : Bool) : Option Int :=
 bif s8 then (
 some 1
 ) else (
 g1 (s2 + 1)
 )
theorem zp7 (g1 : OF ρ → Nat → Option Int) (h_g1 : ∀ y0, CM (fun G => g1 G y0)) (s2 : Nat) (s8 : Bool) : CM (fun G : OF ρ => z5m (g1 G) s2 s8) := by
 simp only [z5m]
 repeat (first | exact z0h | exact h_g1 _ | refine z10 ?_ ?_ | refine z11 ?_ (fun _ => ?_))
noncomputable def z5n (g1 : Nat → Option Int) (s2 : Nat) (x5 : S_api_Step) (s6 : Bool) : Option Int :=
 bif s6 then (
 some 8
 ) else (
 bif x5.f_At then (
 bif (decide (x5.f_Index < 0)) then (
 z5m g1 s2 true
 ) else (
 bif (decide (x5.f_Index ≥ 4096)) then (
 z5m g1 s2 true
 ) else (
 bif (!x5.f_At) then (
 z5m g1 s2 (x5.f_Index != 0)
 ) else (
 z5m g1 s2 false
 )
 )
 )
 ) else (
 bif (!x5.f_At) then (
 z5m g1 s2 (x5.f_Index != 0)
 ) else (
 z5m g1 s2 false
 )
 )
 )
theorem zp8 (g1 : OF ρ → Nat → Option Int) (h_g1 : ∀ y0, CM (fun G => g1 G y0)) (s2 : Nat) (x5 : S_api_Step) (s6 : Bool) : CM (fun G : OF ρ => z5n (g1 G) s2 x5 s6) := by
 simp only [z5n]
 repeat (first | exact z0h | exact h_g1 _ | apply zp7 | refine z10 ?_ ?_ | refine z11 ?_ (fun _ => ?_) | intro _ | assumption)
noncomputable def z62 (a0 : (List S_api_Step)) (g1 : Nat → Option Int) (s2 : Nat) : Option Int :=
 bif (decide (((s2 : Nat) : Int) < (((a0).length : Nat) : Int))) then (
 ((a0)[s2]?).bind fun x5 =>
 bif x5.f_At then (
 bif (!(x5.f_Name == ([] : Str))) then (
 z5n g1 s2 x5 true
 ) else (
 bif (!x5.f_At) then (
 (zib x5.f_Name).bind fun x18 =>
 z5n g1 s2 x5 (!x18)
 ) else (
 z5n g1 s2 x5 false
 )
 )
 ) else (
 bif (!x5.f_At) then (
 (zib x5.f_Name).bind fun x20 =>
 z5n g1 s2 x5 (!x20)
 ) else (
 z5n g1 s2 x5 false
 )
 )
 ) else (
 some 0
 )
theorem zmz (g1 : OF ρ → Nat → Option Int) (h_g1 : ∀ y0, CM (fun G => g1 G y0)) (a0 : (List S_api_Step)) (s2 : Nat) : CM (fun G : OF ρ => z62 a0 (g1 G) s2) := by
 simp only [z62]
 repeat (first | exact z0h | exact h_g1 _ | apply zp8 | refine z10 ?_ ?_ | refine z11 ?_ (fun _ => ?_) | intro _ | assumption)
noncomputable def zef (a0 : (List S_api_Step)) (s2 : Nat) : Option Int :=
 z3b (ι := Nat) (ρ := fun _ => Int) (fun g i => z62 a0 (fun s2 => g s2) i) s2
theorem zhd (a0 : (List S_api_Step)) (s2 : Nat) : zef a0 s2 = z62 a0 (zef a0) s2 :=
 z1f (ι := Nat) (ρ := fun _ => Int) (Φ := fun g i => z62 a0 (fun s2 => g s2) i) (fun i => zmz (ι := Nat) (ρ := fun _ => Int) (fun g => (fun s2 => g s2)) (fun _ => z1i) a0 i) s2
noncomputable def zq9 (a0 : (List S_api_Step)) : Option Int :=
 bif (decide ((((a0).length : Nat) : Int) > 64)) then (
 some 2
 ) else (
 zef a0 0
 )
theorem Z31 (a0 : (List S_api_Step)) (r : Int) (h : zq9 a0 = some r) : z0o Try.prog 69 [(PV.sl none 76 3 (List.map z01 a0))] (I64 r) := by
 unfold zq9 at h
 refine z0j Try.func69 rfl Try.ntmps69 Try.results69 rfl (z0q ?_)
 change BW _ _ _ ⟨[(0, (PV.sl none 76 3 (List.map z01 a0)))], [], _⟩ _
 refine bR ?_
 refine eX ?_
 refine z0d ?_
 refine bR ?_
 iterate 2 refine sX ?_
 refine eX ?_
 refine cX h rfl ?_ ?_
 intro hc1 h
 refine bR ?_
 refine eX ?_
 obtain rfl := eI h; exact z04 eK
 intro hc1 h
 refine z0c ?_
 refine cBx ?_
 refine z0d ?_
 refine bR ?_
 refine eX ?_
 refine z0r ?_
 refine cBx ?_
 unfold zef at h
 refine z3c (σ := Nat) (fun i => [(0, (PV.sl none 76 3 (List.map z01 a0))), (3, (I64 (((i : Nat) : Int))))]) (fun i => []) 0 h ?_ ?_ ?_
 intro i; exact ⟨lbE rfl, ⟨(z02 (z0f z07 _)), ⟨(z02 rfl), trivial⟩⟩, trivial⟩
 exact jN
 rintro g1_f s2 h; replace h : z62 a0 (fun y0 => g1_f y0) s2 = some r := h; unfold z62 at h
 change BW _ _ _ ⟨[(0, (PV.sl none 76 3 (List.map z01 a0))), (3, (I64 (((s2 : Nat) : Int))))], [], _⟩ _
 refine z0d ?_
 refine bR ?_
 iterate 3 refine sX ?_
 refine eX ?_
 refine z3p (t := 9) rfl fun hb4 => ?_
 try rw [List.length_map] at hb4
 refine cX h rfl ?_ ?_
 intro hc3 h
 have hc3_ := of_decide_eq_true hc3
 refine z0c ?_
 refine cBx ?_
 refine z0d ?_
 refine z0r ?_
 refine cBx ?_
 refine bR ?_
 iterate 2 refine sX ?_
 obtain ⟨x5, hx5, h⟩ := obind h
 refine sS rfl rfl rfl (z1d (i := s2) Try.underlying37 z1w rfl rfl rfl hx5 rfl) ?_
 refine sX ?_
 refine sS rfl rfl rfl (z1b z1w rfl) ?_
 refine z0l rfl rfl (z0g z1w rfl rfl rfl rfl rfl rfl (lbE rfl) rfl) ?_
 refine z08 ?_
 refine cBx ?_
 refine z0r ?_
 refine cBx ?_
 refine z2l (ι := Bool) (fun i => z5n (fun y0 => g1_f y0) s2 x5 i = some r) (fun i => [(0, (PV.sl none 76 3 (List.map z01 a0))), (3, (I64 (((s2 : Nat) : Int)))), (4, (PV.rf 0 0)), (18, (BO i))]) (fun i => [.box 76 [(z0k x5.f_Name), (BO x5.f_At), (I64 x5.f_Index)]]) ?_ ?_ ?_
 intro i; exact ⟨lbE rfl, ⟨(z02 (z0f z07 _)), ⟨(z02 rfl), ⟨(il_rf rfl), ⟨(z02 rfl), trivial⟩⟩⟩⟩, ⟨⟨(z02 rfl), ⟨(z02 rfl), ⟨(z02 rfl), trivial⟩⟩⟩, trivial⟩⟩
 rintro s6 h; replace h : z5n (fun y0 => g1_f y0) s2 x5 s6 = some r := h; unfold z5n at h
 change BW _ _ _ ⟨[(0, (PV.sl none 76 3 (List.map z01 a0))), (3, (I64 (((s2 : Nat) : Int)))), (4, (PV.rf 0 0)), (18, (BO s6))], [.box 76 [(z0k x5.f_Name), (BO x5.f_At), (I64 x5.f_Index)]], _⟩ _
 refine cX h rfl ?_ ?_
 intro hc7 h
 refine bR ?_
 refine eX ?_
 obtain rfl := eI h; exact z04 eK
 intro hc7 h
 refine z2l (ι := Bool) (fun i => z5m (fun y0 => g1_f y0) s2 i = some r) (fun i => [(0, (PV.sl none 76 3 (List.map z01 a0))), (3, (I64 (((s2 : Nat) : Int)))), (37, (BO i))]) (fun i => []) ?_ ?_ ?_
 intro i; exact ⟨lbE rfl, ⟨(z02 (z0f z07 _)), ⟨(z02 rfl), ⟨(z02 rfl), trivial⟩⟩⟩, trivial⟩
 rintro s8 h; replace h : z5m (fun y0 => g1_f y0) s2 s8 = some r := h; unfold z5m at h
 change BW _ _ _ ⟨[(0, (PV.sl none 76 3 (List.map z01 a0))), (3, (I64 (((s2 : Nat) : Int)))), (37, (BO s8))], [], _⟩ _
 refine cX h rfl ?_ ?_
 intro hc9 h
 refine bR ?_
 refine eX ?_
 obtain rfl := eI h; exact z04 eK
 intro hc9 h
 refine z0c ?_
 refine cBx ?_
 refine z0e ?_
 refine sX ?_
 refine sS rfl rfl rfl (z20 (k := s2) (c := 1) rfl rfl rfl (by omega)) ?_
 refine sX (z08 ?_)
 exact ⟨rfl, (s2 + 1), h, jN⟩
 refine z0e ?_
 iterate 3 refine sX ?_
 refine z0n (t := 40) rfl ?_ ?_
 intro hb10; replace h := z0t hb10 h
 iterate 4 refine yX ?_
 refine z0n (t := 44) rfl ?_ ?_
 intro hb11; replace h := z0t hb11 h
 iterate 3 refine nX ?_
 refine yX ?_
 iterate 2 refine sX ?_
 iterate 8 refine nX ?_
 refine sX ?_
 refine sX (z08 ?_)
 exact ⟨rfl, true, h, jN⟩
 intro hb11; replace h := z0u hb11 h
 iterate 4 refine yX ?_
 iterate 2 refine sX ?_
 refine z0n (t := 50) rfl ?_ ?_
 intro hb12; replace h := z0t hb12 h
 iterate 8 refine nX ?_
 refine sX ?_
 refine sX (z08 ?_)
 exact ⟨rfl, true, h, jN⟩
 intro hb12; replace h := z0u hb12 h
 iterate 4 refine yX ?_
 refine z0n (t := 54) rfl ?_ ?_
 intro hb13; replace h := z0t hb13 h
 iterate 4 refine yX ?_
 refine sX ?_
 refine sX (z08 ?_)
 exact ⟨rfl, (x5.f_Index != 0), h, jN⟩
 intro hb13; replace h := z0u hb13 h
 iterate 3 refine nX ?_
 refine yX ?_
 refine sX ?_
 refine sX (z08 ?_)
 exact ⟨rfl, false, h, jN⟩
 intro hb10; replace h := z0u hb10 h
 iterate 8 refine nX ?_
 iterate 2 refine sX ?_
 iterate 4 refine yX ?_
 refine z0n (t := 54) rfl ?_ ?_
 intro hb14; replace h := z0t hb14 h
 iterate 4 refine yX ?_
 refine sX ?_
 refine sX (z08 ?_)
 exact ⟨rfl, (x5.f_Index != 0), h, jN⟩
 intro hb14; replace h := z0u hb14 h
 iterate 3 refine nX ?_
 refine yX ?_
 refine sX ?_
 refine sX (z08 ?_)
 exact ⟨rfl, false, h, jN⟩
 refine z0e ?_
 iterate 3 refine sX ?_
 refine z0n (t := 21) rfl ?_ ?_
 intro hb15; replace h := z0t hb15 h
 iterate 2 refine yX ?_
 refine z1t rfl rfl rfl rfl rfl rfl ((z2p (a := x5.f_Name) (b := ([] : Str)) rfl rfl rfl rfl).cast (y := (BO ((!(x5.f_Name == ([] : Str)))))) rfl rfl) ?_
 iterate 2 refine sX ?_
 refine z0n (t := 26) rfl ?_ ?_
 intro hb16; replace h := z0t hb16 h
 iterate 9 refine nX ?_
 refine sX ?_
 refine sX (z08 ?_)
 exact ⟨rfl, true, h, jN⟩
 intro hb16; replace h := z0u hb16 h
 iterate 4 refine yX ?_
 refine z0n (t := 30) rfl ?_ ?_
 intro hb17; replace h := z0t hb17 h
 iterate 2 refine yX ?_
 obtain ⟨x18, hx18, h⟩ := obind h
 refine z1t rfl rfl rfl rfl rfl rfl (z03 rfl zui rfl (wkr .nil) ⟨rfl, trivial⟩ (zta x5.f_Name x18 hx18) rfl) ?_
 iterate 2 refine yX ?_
 refine sX ?_
 refine sX (z08 ?_)
 exact ⟨rfl, (!x18), h, jN⟩
 intro hb17; replace h := z0u hb17 h
 iterate 4 refine nX ?_
 refine yX ?_
 refine sX ?_
 refine sX (z08 ?_)
 exact ⟨rfl, false, h, jN⟩
 intro hb15; replace h := z0u hb15 h
 iterate 3 refine nX ?_
 iterate 2 refine sX ?_
 iterate 4 refine yX ?_
 refine z0n (t := 30) rfl ?_ ?_
 intro hb19; replace h := z0t hb19 h
 iterate 2 refine yX ?_
 obtain ⟨x20, hx20, h⟩ := obind h
 refine z1t rfl rfl rfl rfl rfl rfl (z03 rfl zui rfl (wkr .nil) ⟨rfl, trivial⟩ (zta x5.f_Name x20 hx20) rfl) ?_
 iterate 2 refine yX ?_
 refine sX ?_
 refine sX (z08 ?_)
 exact ⟨rfl, (!x20), h, jN⟩
 intro hb19; replace h := z0u hb19 h
 iterate 4 refine nX ?_
 refine yX ?_
 refine sX ?_
 refine sX (z08 ?_)
 exact ⟨rfl, false, h, jN⟩
 intro hc3 h
 refine z1z ?_
 refine cBx ?_
 refine bR ?_
 refine eX ?_
 obtain rfl := eI h; exact z04 eK
noncomputable def zjy (a0 : Term) (a1 : (List S_api_Step)) : Option Int :=
 (zid a0).bind fun x1 =>
 bif (x1.2 != 0) then (
 some x1.2
 ) else (
 (zq9 a1).bind fun x3 =>
 some x3
 )
theorem zx5 (a0 : Term) (a1 : (List S_api_Step)) (r : Int) (h : zjy a0 a1 = some r) : z0o Try.prog 41 [(z0b a0), (PV.sl none 76 3 (List.map z01 a1))] (I64 r) := by
 unfold zjy at h
 refine z0j Try.func41 rfl Try.ntmps41 Try.results41 rfl (z0q ?_)
 change BW _ _ _ ⟨[(0, (z0b a0)), (1, (PV.sl none 76 3 (List.map z01 a1)))], [], _⟩ _
 refine bR ?_
 refine sX ?_
 refine eX ?_
 refine bR ?_
 refine sX ?_
 obtain ⟨x1, hx1, h⟩ := obind h
 refine sS rfl rfl rfl (z03 rfl zum rfl (wkr .nil) ⟨(z06 a0), trivial⟩ (ztb a0 x1 hx1) (z00 rfl (z00 rfl z05))) ?_
 iterate 4 refine sX ?_
 refine eX ?_
 refine z0d ?_
 refine bR ?_
 refine sX ?_
 refine eX ?_
 refine cX h rfl ?_ ?_
 intro hc2 h
 refine bR ?_
 refine sX ?_
 refine eX ?_
 obtain rfl := eI h; exact z04 eK
 intro hc2 h
 refine z0c ?_
 refine cBx ?_
 refine bR ?_
 refine sX ?_
 obtain ⟨x3, hx3, h⟩ := obind h
 refine sS rfl rfl rfl (z03 rfl Z4d rfl (wkr .nil) ⟨(z0f z07 a1), trivial⟩ (Z31 a1 x3 hx3) rfl) ?_
 refine eX ?_
 obtain rfl := eI h; exact z04 eK
noncomputable def z8i : Option Term :=
 some (Term.mk 1 false 0 0 [] [] 0 [] [] [] 0)
theorem za8  (r : Term) (h : z8i  = some r) : z0o Try.prog 42 [] (z0b r) := by
 unfold z8i at h
 refine z0j Try.func42 rfl Try.ntmps42 Try.results42 rfl (z0q ?_)
 change BW _ _ _ ⟨[], [], _⟩ _
 refine bR ?_
 refine sS rfl rfl rfl (z1b z0v rfl) (z08 ?_)
 refine cBx ?_
 refine bR ?_
 refine sS rfl rfl rfl (z1a (cs := [(I64 1), (BO false), (I64 0), (PV.v (.float .f64 0)), (z0k []), (PV.v (.slice none 0 0)), (PV.v (.int .u64 0)), (PV.v (.slice none 0 0)), (PV.v (.slice none 0 0)), (z0k []), (I64 0)]) z81 z0v rfl rfl rfl rfl) ?_
 refine z0l rfl rfl (z0g z0v rfl rfl rfl rfl rfl rfl (lbE rfl) rfl) ?_
 refine z08 ?_
 refine cBx ?_
 obtain rfl := eI h; exact z04 ⟨_, rfl, z0p (y := (z0b (Term.mk 1 false 0 0 [] [] 0 [] [] [] 0))) (Wk.agg (wkr (wkr (wkr (wkr (wkr (wkn (wkr (wkn (wkn (wkr (wkr .nil)))))))))))) (z06 (Term.mk 1 false 0 0 [] [] 0 [] [] [] 0)) ⟨rfl, rfl⟩⟩
noncomputable def zqn (a0 : Term) : Option Bool :=
 bif (a0.kind == 9) then (
 some true
 ) else (
 some (a0.kind == 10)
 )
theorem Z09 (a0 : Term) (r : Bool) (h : zqn a0 = some r) : z0o Try.prog 80 [(z0b a0)] (BO r) := by
 unfold zqn at h
 refine z0j Try.func80 rfl Try.ntmps80 Try.results80 rfl (z0q ?_)
 change BW _ _ _ ⟨[(0, (z0b a0))], [], _⟩ _
 refine bR ?_
 refine sX ?_
 refine eX ?_
 refine bR ?_
 iterate 4 refine sX ?_
 refine z0n (t := 6) rfl ?_ ?_
 intro hb1; replace h := z0t hb1 h
 iterate 3 refine nX ?_
 refine sX ?_
 refine eX ?_
 obtain rfl := eI h; exact z04 eK
 intro hb1; replace h := z0u hb1 h
 iterate 3 refine yX ?_
 refine sX ?_
 refine eX ?_
 obtain rfl := eI h; exact z04 eK
noncomputable def zic (a0 : Term) (a1 : S_api_Step) : Option Bool :=
 bif a1.f_At then (
 bif (a0.kind == 8) then (
 some true
 ) else (
 bif (!a1.f_At) then (
 (zqn a0).bind fun x4 =>
 some x4
 ) else (
 some false
 )
 )
 ) else (
 bif (!a1.f_At) then (
 (zqn a0).bind fun x6 =>
 some x6
 ) else (
 some false
 )
 )
theorem Z04 (a0 : Term) (a1 : S_api_Step) (r : Bool) (h : zic a0 a1 = some r) : z0o Try.prog 70 [(z0b a0), (z01 a1)] (BO r) := by
 unfold zic at h
 refine z0j Try.func70 rfl Try.ntmps70 Try.results70 rfl (z0q ?_)
 change BW _ _ _ ⟨[(0, (z0b a0)), (1, (z01 a1))], [], _⟩ _
 refine bR ?_
 iterate 2 refine sX ?_
 refine eX ?_
 refine bR ?_
 iterate 3 refine sX ?_
 refine z0n (t := 7) rfl ?_ ?_
 intro hb1; replace h := z0t hb1 h
 iterate 3 refine yX ?_
 iterate 2 refine sX ?_
 refine z0n (t := 12) rfl ?_ ?_
 intro hb2; replace h := z0t hb2 h
 iterate 7 refine nX ?_
 refine sX ?_
 refine eX ?_
 obtain rfl := eI h; exact z04 eK
 intro hb2; replace h := z0u hb2 h
 iterate 4 refine yX ?_
 refine z0n (t := 16) rfl ?_ ?_
 intro hb3; replace h := z0t hb3 h
 refine yX ?_
 obtain ⟨x4, hx4, h⟩ := obind h
 refine z1t rfl rfl rfl rfl rfl rfl (z03 rfl Z1n rfl (wkr .nil) ⟨(z06 a0), trivial⟩ (Z09 a0 x4 hx4) rfl) ?_
 refine yX ?_
 refine sX ?_
 refine eX ?_
 obtain rfl := eI h; exact z04 eK
 intro hb3; replace h := z0u hb3 h
 iterate 2 refine nX ?_
 refine yX ?_
 refine sX ?_
 refine eX ?_
 obtain rfl := eI h; exact z04 eK
 intro hb1; replace h := z0u hb1 h
 iterate 3 refine nX ?_
 iterate 2 refine sX ?_
 iterate 4 refine yX ?_
 refine z0n (t := 16) rfl ?_ ?_
 intro hb5; replace h := z0t hb5 h
 refine yX ?_
 obtain ⟨x6, hx6, h⟩ := obind h
 refine z1t rfl rfl rfl rfl rfl rfl (z03 rfl Z1n rfl (wkr .nil) ⟨(z06 a0), trivial⟩ (Z09 a0 x6 hx6) rfl) ?_
 refine yX ?_
 refine sX ?_
 refine eX ?_
 obtain rfl := eI h; exact z04 eK
 intro hb5; replace h := z0u hb5 h
 iterate 2 refine nX ?_
 refine yX ?_
 refine sX ?_
 refine eX ?_
 obtain rfl := eI h; exact z04 eK
noncomputable def z88 (g1 : Int → Option (Int × Bool)) (a0 : (List (Str × Term))) (a1 : Str) (s1 : Int) (s2 : Bool) : Option (Int × Bool) :=
 bif s2 then (
 g1 (IntKind.i64.wrap (s1 + 1))
 ) else (
 bif (decide (s1 < (((a0).length : Nat) : Int))) then (
 (z8x a0 s1).bind fun x5 =>
 some (s1, (x5.1 == a1))
 ) else (
 some (s1, false)
 )
 )
theorem zpl (g1 : OF ρ → Int → Option (Int × Bool)) (h_g1 : ∀ y0, CM (fun G => g1 G y0)) (a0 : (List (Str × Term))) (a1 : Str) (s1 : Int) (s2 : Bool) : CM (fun G : OF ρ => z88 (g1 G) a0 a1 s1 s2) := by
 simp only [z88]
 repeat (first | exact z0h | exact h_g1 _ | refine z10 ?_ ?_ | refine z11 ?_ (fun _ => ?_))
noncomputable def z68 (a0 : (List (Str × Term))) (a1 : Str) (g1 : Int → Option (Int × Bool)) (s1 : Int) : Option (Int × Bool) :=
 bif (decide (s1 < (((a0).length : Nat) : Int))) then (
 (z8x a0 s1).bind fun x7 =>
 z88 g1 a0 a1 s1 (Op.bytesLess x7.1 a1)
 ) else (
 z88 g1 a0 a1 s1 false
 )
theorem zn7 (g1 : OF ρ → Int → Option (Int × Bool)) (h_g1 : ∀ y0, CM (fun G => g1 G y0)) (a0 : (List (Str × Term))) (a1 : Str) (s1 : Int) : CM (fun G : OF ρ => z68 a0 a1 (g1 G) s1) := by
 simp only [z68]
 repeat (first | exact z0h | exact h_g1 _ | apply zpl | refine z10 ?_ ?_ | refine z11 ?_ (fun _ => ?_) | intro _ | assumption)
noncomputable def zhu (a0 : (List (Str × Term))) (a1 : Str) (s1 : Int) : Option (Int × Bool) :=
 z3b (ι := Int) (ρ := fun _ => (Int × Bool)) (fun g i => z68 a0 a1 (fun s1 => g s1) i) s1
theorem zht (a0 : (List (Str × Term))) (a1 : Str) (s1 : Int) : zhu a0 a1 s1 = z68 a0 a1 (zhu a0 a1) s1 :=
 z1f (ι := Int) (ρ := fun _ => (Int × Bool)) (Φ := fun g i => z68 a0 a1 (fun s1 => g s1) i) (fun i => zn7 (ι := Int) (ρ := fun _ => (Int × Bool)) (fun g => (fun s1 => g s1)) (fun _ => z1i) a0 a1 i) s1
noncomputable def zjx (a0 : (List (Str × Term))) (a1 : Str) : Option (Int × Bool) :=
 zhu a0 a1 0
theorem zx4 (a0 : (List (Str × Term))) (a1 : Str) (r : (Int × Bool)) (h : zjx a0 a1 = some r) : z0o Try.prog 71 [(PV.sl none 94 12 (List.map z0s a0)), (z0k a1)] (PV.tup [(I64 r.1), (BO r.2)]) := by
 unfold zjx at h
 refine z0j Try.func71 rfl Try.ntmps71 Try.results71 rfl (z0q ?_)
 change BW _ _ _ ⟨[(0, (PV.sl none 94 12 (List.map z0s a0))), (1, (z0k a1))], [], _⟩ _
 refine bR ?_
 refine sX ?_
 refine eX ?_
 refine bR ?_
 refine eX ?_
 refine z0d ?_
 refine z0r ?_
 refine cBx ?_
 unfold zhu at h
 refine lX (σ := Int) (fun i => [(0, (PV.sl none 94 12 (List.map z0s a0))), (1, (z0k a1)), (6, (I64 i))]) (fun i => []) 0 h ?_ ?_
 exact jN
 rintro g1_f s1 h; replace h : z68 a0 a1 (fun y0 => g1_f y0) s1 = some r := h; unfold z68 at h
 change BW _ _ _ ⟨[(0, (PV.sl none 94 12 (List.map z0s a0))), (1, (z0k a1)), (6, (I64 s1))], [], _⟩ _
 refine z0d ?_
 refine jX (ι := Bool) (fun i => z88 (fun y0 => g1_f y0) a0 a1 s1 i = some r) (fun i => [(0, (PV.sl none 94 12 (List.map z0s a0))), (1, (z0k a1)), (6, (I64 s1)), (19, (BO i))]) (fun i => []) ?_ ?_
 rintro s2 h; replace h : z88 (fun y0 => g1_f y0) a0 a1 s1 s2 = some r := h; unfold z88 at h
 change BW _ _ _ ⟨[(0, (PV.sl none 94 12 (List.map z0s a0))), (1, (z0k a1)), (6, (I64 s1)), (19, (BO s2))], [], _⟩ _
 refine cX h rfl ?_ ?_
 intro hc3 h
 refine z0c ?_
 refine cBx ?_
 refine z0r ?_
 refine cBx ?_
 refine z0e ?_
 iterate 2 refine sX ?_
 refine sX (z08 ?_)
 exact ⟨rfl, (IntKind.i64.wrap (s1 + 1)), h, jN⟩
 intro hc3 h
 refine z1z ?_
 refine cBx ?_
 refine z0d (z1y 15 [] [] mo (by kernel_rfl) ?_)
 iterate 6 refine gX ?_
 refine z7z 27 rfl ?_ ?_
 intro hb4; replace h := z0t hb4 h
 iterate 2 refine wX ?_
 obtain ⟨x5, hx5, h⟩ := obind h
 refine z8b rfl rfl rfl rfl rfl rfl rfl (fun H hp => z41 Try.underlying27 z22 rfl rfl rfl hx5 (z1o _)) ?_
 iterate 3 refine wX ?_
 refine z8b rfl rfl rfl rfl rfl rfl rfl (fun H hp => (z2p (a := x5.1) (b := a1) rfl rfl rfl rfl).cast (y := (BO ((x5.1 == a1)))) rfl rfl) ?_
 iterate 2 refine gX ?_
 refine z23 ?_
 change AO _ _ _ _ _
 refine eX ?_
 obtain rfl := eI h; exact z04 eK
 intro hb4; replace h := z0u hb4 h
 iterate 7 refine mX ?_
 iterate 2 refine gX ?_
 refine z23 ?_
 change AO _ _ _ _ _
 refine eX ?_
 obtain rfl := eI h; exact z04 eK
 refine z0e ?_
 iterate 5 refine sX ?_
 refine z0n (t := 11) rfl ?_ ?_
 intro hb6; replace h := z0t hb6 h
 iterate 2 refine yX ?_
 obtain ⟨x7, hx7, h⟩ := obind h
 refine z1t rfl rfl rfl rfl rfl rfl (z41 Try.underlying27 z22 rfl rfl rfl hx7 (z1o _)) ?_
 iterate 3 refine yX ?_
 refine z1t rfl rfl rfl rfl rfl rfl ((z2p (a := x7.1) (b := a1) rfl rfl rfl rfl).cast (y := (BO ((Op.bytesLess x7.1 a1)))) rfl rfl) ?_
 refine sX (z08 ?_)
 exact ⟨rfl, (Op.bytesLess x7.1 a1), h, jN⟩
 intro hb6; replace h := z0u hb6 h
 iterate 7 refine nX ?_
 refine sX (z08 ?_)
 exact ⟨rfl, false, h, jN⟩
noncomputable def zcj (g1 : Nat → Int → Bool → Int → Nat → Str → Str → Int → (List Term) → (List (Str × Term)) → Str → Int → Option (Term × Int)) (s1 : Nat) (s15 : Int) (s16 : Bool) (s17 : Int) (s18 : Nat) (s19 s20 : Str) (s21 : Int) (s22 : (List Term)) (s23 : (List (Str × Term))) (s24 : Str) (s25 : Int) : Option (Term × Int) :=
 g1 (s1 + 1) s15 s16 s17 s18 s19 s20 s21 s22 s23 s24 s25
theorem zpa (g1 : OF ρ → Nat → Int → Bool → Int → Nat → Str → Str → Int → (List Term) → (List (Str × Term)) → Str → Int → Option (Term × Int)) (h_g1 : ∀ y0 y1 y2 y3 y4 y5 y6 y7 y8 y9 y10 y11, CM (fun G => g1 G y0 y1 y2 y3 y4 y5 y6 y7 y8 y9 y10 y11)) (s1 : Nat) (s15 : Int) (s16 : Bool) (s17 : Int) (s18 : Nat) (s19 s20 : Str) (s21 : Int) (s22 : (List Term)) (s23 : (List (Str × Term))) (s24 : Str) (s25 : Int) : CM (fun G : OF ρ => zcj (g1 G) s1 s15 s16 s17 s18 s19 s20 s21 s22 s23 s24 s25) := by
 simp only [zcj]
 repeat (first | exact z0h | exact h_g1 _ _ _ _ _ _ _ _ _ _ _ _ | refine z10 ?_ ?_ | refine z11 ?_ (fun _ => ?_))
noncomputable def z64 (a1 : (List S_api_Step)) (g1 : Nat → Int → Bool → Int → Nat → Str → Str → Int → (List Term) → (List (Str × Term)) → Str → Int → Option (Term × Int)) (s1 : Nat) (s2 : Int) (s3 : Bool) (s4 : Int) (s5 : Nat) (s6 s7 : Str) (s8 : Int) (s9 : (List Term)) (s10 : (List (Str × Term))) (s11 : Str) (s12 : Int) : Option (Term × Int) :=
 bif (decide (((s1 : Nat) : Int) < (((a1).length : Nat) : Int))) then (
 ((a1)[s1]?).bind fun x26 =>
 (zic (Term.mk s2 s3 s4 s5 s6 s7 s8 s9 s10 s11 s12) x26).bind fun x27 =>
 bif (!x27) then (
 (z8i).bind fun x29 =>
 some (x29, 41)
 ) else (
 bif x26.f_At then (
 bif (decide (x26.f_Index ≥ (((s9).length : Nat) : Int))) then (
 (z8i).bind fun x32 =>
 some (x32, 42)
 ) else (
 (z8x s9 x26.f_Index).bind fun x33 =>
 zcj g1 s1 x33.kind x33.bool x33.int x33.float x33.text x33.bytes x33.ref x33.list x33.fields x33.cls x33.ver
 )
 ) else (
 (zjx s10 x26.f_Name).bind fun x34 =>
 bif (!x34.2) then (
 (z8i).bind fun x36 =>
 some (x36, 40)
 ) else (
 (z8x s10 x34.1).bind fun x37 =>
 zcj g1 s1 (((x37.2)).kind) (((x37.2)).bool) (((x37.2)).int) (((x37.2)).float) (((x37.2)).text) (((x37.2)).bytes) (((x37.2)).ref) (((x37.2)).list) (((x37.2)).fields) (((x37.2)).cls) (((x37.2)).ver)
 )
 )
 )
 ) else (
 some ((Term.mk s2 s3 s4 s5 s6 s7 s8 s9 s10 s11 s12), 0)
 )
theorem zn1 (g1 : OF ρ → Nat → Int → Bool → Int → Nat → Str → Str → Int → (List Term) → (List (Str × Term)) → Str → Int → Option (Term × Int)) (h_g1 : ∀ y0 y1 y2 y3 y4 y5 y6 y7 y8 y9 y10 y11, CM (fun G => g1 G y0 y1 y2 y3 y4 y5 y6 y7 y8 y9 y10 y11)) (a1 : (List S_api_Step)) (s1 : Nat) (s2 : Int) (s3 : Bool) (s4 : Int) (s5 : Nat) (s6 s7 : Str) (s8 : Int) (s9 : (List Term)) (s10 : (List (Str × Term))) (s11 : Str) (s12 : Int) : CM (fun G : OF ρ => z64 a1 (g1 G) s1 s2 s3 s4 s5 s6 s7 s8 s9 s10 s11 s12) := by
 simp only [z64]
 repeat (first | exact z0h | exact h_g1 _ _ _ _ _ _ _ _ _ _ _ _ | apply zpa | refine z10 ?_ ?_ | refine z11 ?_ (fun _ => ?_) | intro _ | assumption)
noncomputable def zhg (a1 : (List S_api_Step)) (s1 : Nat) (s2 : Int) (s3 : Bool) (s4 : Int) (s5 : Nat) (s6 s7 : Str) (s8 : Int) (s9 : (List Term)) (s10 : (List (Str × Term))) (s11 : Str) (s12 : Int) : Option (Term × Int) :=
 z3b (ι := (Nat × Int × Bool × Int × Nat × Str × Str × Int × (List Term) × (List (Str × Term)) × Str × Int)) (ρ := fun _ => (Term × Int)) (fun g i => z64 a1 (fun s1 s2 s3 s4 s5 s6 s7 s8 s9 s10 s11 s12 => g (s1, s2, s3, s4, s5, s6, s7, s8, s9, s10, s11, s12)) i.1 i.2.1 i.2.2.1 i.2.2.2.1 i.2.2.2.2.1 i.2.2.2.2.2.1 i.2.2.2.2.2.2.1 i.2.2.2.2.2.2.2.1 i.2.2.2.2.2.2.2.2.1 i.2.2.2.2.2.2.2.2.2.1 i.2.2.2.2.2.2.2.2.2.2.1 i.2.2.2.2.2.2.2.2.2.2.2) (s1, s2, s3, s4, s5, s6, s7, s8, s9, s10, s11, s12)
theorem zhf (a1 : (List S_api_Step)) (s1 : Nat) (s2 : Int) (s3 : Bool) (s4 : Int) (s5 : Nat) (s6 s7 : Str) (s8 : Int) (s9 : (List Term)) (s10 : (List (Str × Term))) (s11 : Str) (s12 : Int) : zhg a1 s1 s2 s3 s4 s5 s6 s7 s8 s9 s10 s11 s12 = z64 a1 (zhg a1) s1 s2 s3 s4 s5 s6 s7 s8 s9 s10 s11 s12 :=
 z1f (ι := (Nat × Int × Bool × Int × Nat × Str × Str × Int × (List Term) × (List (Str × Term)) × Str × Int)) (ρ := fun _ => (Term × Int)) (Φ := fun g i => z64 a1 (fun s1 s2 s3 s4 s5 s6 s7 s8 s9 s10 s11 s12 => g (s1, s2, s3, s4, s5, s6, s7, s8, s9, s10, s11, s12)) i.1 i.2.1 i.2.2.1 i.2.2.2.1 i.2.2.2.2.1 i.2.2.2.2.2.1 i.2.2.2.2.2.2.1 i.2.2.2.2.2.2.2.1 i.2.2.2.2.2.2.2.2.1 i.2.2.2.2.2.2.2.2.2.1 i.2.2.2.2.2.2.2.2.2.2.1 i.2.2.2.2.2.2.2.2.2.2.2) (fun i => zn1 (ι := (Nat × Int × Bool × Int × Nat × Str × Str × Int × (List Term) × (List (Str × Term)) × Str × Int)) (ρ := fun _ => (Term × Int)) (fun g => (fun s1 s2 s3 s4 s5 s6 s7 s8 s9 s10 s11 s12 => g (s1, s2, s3, s4, s5, s6, s7, s8, s9, s10, s11, s12))) (fun _ _ _ _ _ _ _ _ _ _ _ _ => z1i) a1 i.1 i.2.1 i.2.2.1 i.2.2.2.1 i.2.2.2.2.1 i.2.2.2.2.2.1 i.2.2.2.2.2.2.1 i.2.2.2.2.2.2.2.1 i.2.2.2.2.2.2.2.2.1 i.2.2.2.2.2.2.2.2.2.1 i.2.2.2.2.2.2.2.2.2.2.1 i.2.2.2.2.2.2.2.2.2.2.2) (s1, s2, s3, s4, s5, s6, s7, s8, s9, s10, s11, s12)
noncomputable def zqc (a0 : Term) (a1 : (List S_api_Step)) : Option (Term × Int) :=
 zhg a1 0 a0.kind a0.bool a0.int a0.float a0.text a0.bytes a0.ref a0.list a0.fields a0.cls a0.ver
theorem zzy (a0 : Term) (a1 : (List S_api_Step)) (r : (Term × Int)) (h : zqc a0 a1 = some r) : z0o Try.prog 43 [(z0b a0), (PV.sl none 76 3 (List.map z01 a1))] (PV.tup [(z0b r.1), (I64 r.2)]) := by
 unfold zqc at h
 refine z0j Try.func43 rfl Try.ntmps43 Try.results43 rfl (z0q ?_)
 change BW _ _ _ ⟨[(0, (z0b a0)), (1, (PV.sl none 76 3 (List.map z01 a1)))], [], _⟩ _
 refine bR ?_
 refine sX ?_
 refine sS rfl rfl rfl (z1b z0v rfl) ?_
 refine eX ?_
 refine z0d ?_
 refine bR ?_
 refine eX ?_
 refine z0r ?_
 refine cBx ?_
 unfold zhg at h
 refine z3c (σ := (Nat × Int × Bool × Int × Nat × Str × Str × Int × (List Term) × (List (Str × Term)) × Str × Int)) (fun i => [(1, (PV.sl none 76 3 (List.map z01 a1))), (2, (PV.rf 0 0)), (4, (PV.rf 1 0)), (6, (I64 (((i.1 : Nat) : Int))))]) (fun i => [.box 29 [(I64 i.2.1), (BO i.2.2.1), (I64 i.2.2.2.1), (PV.v (.float .f64 i.2.2.2.2.1)), (z0k i.2.2.2.2.2.1), (PV.sl none 5 1 (List.map ofB i.2.2.2.2.2.2.1)), (PV.v (.int .u64 i.2.2.2.2.2.2.2.1)), (PV.sl none 29 11 (List.map z15 i.2.2.2.2.2.2.2.2.1)), (PV.sl none 94 12 (List.map z0s i.2.2.2.2.2.2.2.2.2.1)), (z0k i.2.2.2.2.2.2.2.2.2.2.1), (I64 i.2.2.2.2.2.2.2.2.2.2.2)], .box 29 z3d]) (0, a0.kind, a0.bool, a0.int, a0.float, a0.text, a0.bytes, a0.ref, a0.list, a0.fields, a0.cls, a0.ver) h ?_ ?_ ?_
 intro i; exact ⟨lbE rfl, ⟨(z02 (z0f z07 _)), ⟨(il_rf rfl), ⟨(il_rf rfl), ⟨(z02 rfl), trivial⟩⟩⟩⟩, ⟨wfC29, ⟨⟨(z02 rfl), ⟨(z02 rfl), ⟨(z02 rfl), ⟨(z02 rfl), ⟨(z02 rfl), ⟨(z02 rfl), ⟨(z02 rfl), ⟨(z02 rfl), ⟨(z02 rfl), ⟨(z02 rfl), ⟨(z02 rfl), trivial⟩⟩⟩⟩⟩⟩⟩⟩⟩⟩⟩, trivial⟩⟩⟩
 exact jN
 rintro g1_f ⟨s1, s2, s3, s4, s5, s6, s7, s8, s9, s10, s11, s12⟩ h; replace h : z64 a1 (fun y0 y1 y2 y3 y4 y5 y6 y7 y8 y9 y10 y11 => g1_f (y0, y1, y2, y3, y4, y5, y6, y7, y8, y9, y10, y11)) s1 s2 s3 s4 s5 s6 s7 s8 s9 s10 s11 s12 = some r := h; unfold z64 at h
 change BW _ _ _ ⟨[(1, (PV.sl none 76 3 (List.map z01 a1))), (2, (PV.rf 0 0)), (4, (PV.rf 1 0)), (6, (I64 (((s1 : Nat) : Int))))], [.box 29 [(I64 s2), (BO s3), (I64 s4), (PV.v (.float .f64 s5)), (z0k s6), (PV.sl none 5 1 (List.map ofB s7)), (PV.v (.int .u64 s8)), (PV.sl none 29 11 (List.map z15 s9)), (PV.sl none 94 12 (List.map z0s s10)), (z0k s11), (I64 s12)], .box 29 z3d], _⟩ _
 refine z0d ?_
 refine bR ?_
 iterate 3 refine sX ?_
 refine eX ?_
 refine z3p (t := 11) rfl fun hb14 => ?_
 try rw [List.length_map] at hb14
 refine cX h rfl ?_ ?_
 intro hc13 h
 have hc13_ := of_decide_eq_true hc13
 refine z0c ?_
 refine cBx ?_
 refine z2l (ι := (Int × Bool × Int × Nat × Str × Str × Int × (List Term) × (List (Str × Term)) × Str × Int)) (fun i => zcj (fun y0 y1 y2 y3 y4 y5 y6 y7 y8 y9 y10 y11 => g1_f (y0, y1, y2, y3, y4, y5, y6, y7, y8, y9, y10, y11)) s1 i.1 i.2.1 i.2.2.1 i.2.2.2.1 i.2.2.2.2.1 i.2.2.2.2.2.1 i.2.2.2.2.2.2.1 i.2.2.2.2.2.2.2.1 i.2.2.2.2.2.2.2.2.1 i.2.2.2.2.2.2.2.2.2.1 i.2.2.2.2.2.2.2.2.2.2 = some r) (fun i => [(1, (PV.sl none 76 3 (List.map z01 a1))), (2, (PV.rf 0 0)), (4, (PV.rf 1 0)), (6, (I64 (((s1 : Nat) : Int))))]) (fun i => [.box 29 [(I64 i.1), (BO i.2.1), (I64 i.2.2.1), (PV.v (.float .f64 i.2.2.2.1)), (z0k i.2.2.2.2.1), (PV.sl none 5 1 (List.map ofB i.2.2.2.2.2.1)), (PV.v (.int .u64 i.2.2.2.2.2.2.1)), (PV.sl none 29 11 (List.map z15 i.2.2.2.2.2.2.2.1)), (PV.sl none 94 12 (List.map z0s i.2.2.2.2.2.2.2.2.1)), (z0k i.2.2.2.2.2.2.2.2.2.1), (I64 i.2.2.2.2.2.2.2.2.2.2)], .box 29 z3d]) ?_ ?_ ?_
 intro i; exact ⟨lbE rfl, ⟨(z02 (z0f z07 _)), ⟨(il_rf rfl), ⟨(il_rf rfl), ⟨(z02 rfl), trivial⟩⟩⟩⟩, ⟨wfC29, ⟨⟨(z02 rfl), ⟨(z02 rfl), ⟨(z02 rfl), ⟨(z02 rfl), ⟨(z02 rfl), ⟨(z02 rfl), ⟨(z02 rfl), ⟨(z02 rfl), ⟨(z02 rfl), ⟨(z02 rfl), ⟨(z02 rfl), trivial⟩⟩⟩⟩⟩⟩⟩⟩⟩⟩⟩, trivial⟩⟩⟩
 rintro ⟨s15, s16, s17, s18, s19, s20, s21, s22, s23, s24, s25⟩ h; replace h : zcj (fun y0 y1 y2 y3 y4 y5 y6 y7 y8 y9 y10 y11 => g1_f (y0, y1, y2, y3, y4, y5, y6, y7, y8, y9, y10, y11)) s1 s15 s16 s17 s18 s19 s20 s21 s22 s23 s24 s25 = some r := h; unfold zcj at h
 change BW _ _ _ ⟨[(1, (PV.sl none 76 3 (List.map z01 a1))), (2, (PV.rf 0 0)), (4, (PV.rf 1 0)), (6, (I64 (((s1 : Nat) : Int))))], [.box 29 [(I64 s15), (BO s16), (I64 s17), (PV.v (.float .f64 s18)), (z0k s19), (PV.sl none 5 1 (List.map ofB s20)), (PV.v (.int .u64 s21)), (PV.sl none 29 11 (List.map z15 s22)), (PV.sl none 94 12 (List.map z0s s23)), (z0k s24), (I64 s25)], .box 29 z3d], _⟩ _
 refine z0e ?_
 refine sX ?_
 refine sS rfl rfl rfl (z20 (k := s1) (c := 1) rfl rfl rfl (by omega)) ?_
 refine sX (z08 ?_)
 exact ⟨rfl, ((s1 + 1), s15, s16, s17, s18, s19, s20, s21, s22, s23, s24, s25), h, jN⟩
 refine z0r ?_
 refine cBx ?_
 refine bR ?_
 iterate 2 refine sX ?_
 obtain ⟨x26, hx26, h⟩ := obind h
 refine sS rfl rfl rfl (z1d (i := s1) Try.underlying37 z1w rfl rfl rfl hx26 rfl) ?_
 refine sX ?_
 refine sS rfl rfl rfl (z1b z1w rfl) ?_
 refine z0l rfl rfl (z0g z1w rfl rfl rfl rfl rfl rfl (lbE rfl) rfl) ?_
 refine z08 ?_
 refine cBx ?_
 refine z0d ?_
 refine bR ?_
 iterate 2 refine sX ?_
 obtain ⟨x27, hx27, h⟩ := obind h
 refine sS rfl rfl rfl (z03 rfl Z1t rfl (wkr (wkr .nil)) ⟨(z06 (Term.mk s2 s3 s4 s5 s6 s7 s8 s9 s10 s11 s12)), ⟨(z07 x26), trivial⟩⟩ (Z04 (Term.mk s2 s3 s4 s5 s6 s7 s8 s9 s10 s11 s12) x26 x27 hx27) rfl) ?_
 refine eX ?_
 refine cX h rfl ?_ ?_
 intro hc28 h
 refine bR ?_
 obtain ⟨x29, hx29, h⟩ := obind h
 refine sS rfl rfl rfl (z03 rfl zas rfl .nil trivial (za8  x29 hx29) (z06 x29)) ?_
 refine z0l rfl rfl (z0g z0v rfl rfl rfl rfl rfl rfl (lbE rfl) rfl) ?_
 refine eX ?_
 obtain rfl := eI h; exact z04 ⟨_, rfl, z0p (y := (PV.tup [(z0b x29), (I64 41)])) (Wk.refl _) (z00 (z06 x29) (z00 rfl z05)) ⟨rfl, rfl⟩⟩
 intro hc28 h
 refine z0c ?_
 refine cBx ?_
 refine z0d ?_
 refine bR ?_
 refine sX ?_
 refine eX ?_
 refine cX h rfl ?_ ?_
 intro hc30 h
 refine z0d ?_
 refine bR ?_
 iterate 5 refine sX ?_
 refine eX ?_
 refine cX h rfl ?_ ?_
 intro hc31 h
 refine bR ?_
 obtain ⟨x32, hx32, h⟩ := obind h
 refine sS rfl rfl rfl (z03 rfl zas rfl .nil trivial (za8  x32 hx32) (z06 x32)) ?_
 refine z0l rfl rfl (z0g z0v rfl rfl rfl rfl rfl rfl (lbE rfl) rfl) ?_
 refine eX ?_
 obtain rfl := eI h; exact z04 ⟨_, rfl, z0p (y := (PV.tup [(z0b x32), (I64 42)])) (Wk.refl _) (z00 (z06 x32) (z00 rfl z05)) ⟨rfl, rfl⟩⟩
 intro hc31 h
 refine z0c ?_
 refine cBx ?_
 refine bR ?_
 iterate 4 refine sX ?_
 obtain ⟨x33, hx33, h⟩ := obind h
 refine sS rfl rfl rfl (z41 Try.underlying26 z0v rfl rfl rfl hx33 (z2b _)) ?_
 refine sX ?_
 refine z0l rfl rfl (z0g z0v rfl rfl rfl rfl rfl rfl (lbE rfl) rfl) ?_
 refine z08 ?_
 refine cBx ?_
 refine z1z ?_
 exact ⟨rfl, (x33.kind, x33.bool, x33.int, x33.float, x33.text, x33.bytes, x33.ref, x33.list, x33.fields, x33.cls, x33.ver), h, jN⟩
 intro hc30 h
 refine z0c ?_
 refine cBx ?_
 refine bR ?_
 iterate 4 refine sX ?_
 obtain ⟨x34, hx34, h⟩ := obind h
 refine sS rfl rfl rfl (z03 rfl zye rfl (wkr (wkr .nil)) ⟨(z0f z1l s10), ⟨rfl, trivial⟩⟩ (zx4 s10 x26.f_Name x34 hx34) (z00 rfl (z00 rfl z05))) ?_
 iterate 4 refine sX ?_
 refine eX ?_
 refine z0d ?_
 refine bR ?_
 refine sX ?_
 refine eX ?_
 refine cX h rfl ?_ ?_
 intro hc35 h
 refine bR ?_
 obtain ⟨x36, hx36, h⟩ := obind h
 refine sS rfl rfl rfl (z03 rfl zas rfl .nil trivial (za8  x36 hx36) (z06 x36)) ?_
 refine z0l rfl rfl (z0g z0v rfl rfl rfl rfl rfl rfl (lbE rfl) rfl) ?_
 refine eX ?_
 obtain rfl := eI h; exact z04 ⟨_, rfl, z0p (y := (PV.tup [(z0b x36), (I64 40)])) (Wk.refl _) (z00 (z06 x36) (z00 rfl z05)) ⟨rfl, rfl⟩⟩
 intro hc35 h
 refine z0c ?_
 refine cBx ?_
 refine z0e ?_
 iterate 3 refine sX ?_
 obtain ⟨x37, hx37, h⟩ := obind h
 refine sS rfl rfl rfl (z41 Try.underlying27 z22 rfl rfl rfl hx37 (z1o _)) ?_
 iterate 2 refine sX ?_
 refine z0l rfl rfl (z0g z0v rfl rfl rfl rfl rfl rfl (lbE rfl) rfl) ?_
 refine z08 ?_
 exact ⟨rfl, (((x37.2)).kind, ((x37.2)).bool, ((x37.2)).int, ((x37.2)).float, ((x37.2)).text, ((x37.2)).bytes, ((x37.2)).ref, ((x37.2)).list, ((x37.2)).fields, ((x37.2)).cls, ((x37.2)).ver), h, jN⟩
 intro hc13 h
 refine z1z ?_
 refine cBx ?_
 refine bR ?_
 refine sX ?_
 refine z0l rfl rfl (z0g z0v rfl rfl rfl rfl rfl rfl (lbE rfl) rfl) ?_
 refine eX ?_
 obtain rfl := eI h; exact z04 ⟨_, rfl, z0p (y := (PV.tup [(z0b (Term.mk s2 s3 s4 s5 s6 s7 s8 s9 s10 s11 s12)), (I64 0)])) (Wk.refl _) (z00 (z06 (Term.mk s2 s3 s4 s5 s6 s7 s8 s9 s10 s11 s12)) (z00 rfl z05)) ⟨rfl, rfl⟩⟩
noncomputable def zq8 (a0 : Term) (a1 : (List S_api_Step)) : Option (Term × Int) :=
 (zjy a0 a1).bind fun x1 =>
 bif (x1 != 0) then (
 (z8i).bind fun x3 =>
 some (x3, x1)
 ) else (
 (zqc a0 a1).bind fun x4 =>
 some ((x4.1), x4.2)
 )
theorem Z30 (a0 : Term) (a1 : (List S_api_Step)) (r : (Term × Int)) (h : zq8 a0 a1 = some r) : z0o Try.prog 19 [(z0b a0), (PV.sl none 76 3 (List.map z01 a1))] (PV.tup [(z0b r.1), (I64 r.2)]) := by
 unfold zq8 at h
 refine z0j Try.func19 rfl Try.ntmps19 Try.results19 rfl (z0q ?_)
 change BW _ _ _ ⟨[(0, (z0b a0)), (1, (PV.sl none 76 3 (List.map z01 a1)))], [], _⟩ _
 refine bR ?_
 refine sX ?_
 refine sS rfl rfl rfl (z1b z0v rfl) ?_
 refine eX ?_
 refine bR ?_
 iterate 2 refine sX ?_
 obtain ⟨x1, hx1, h⟩ := obind h
 refine sS rfl rfl rfl (z03 rfl zyj rfl (wkr (wkr .nil)) ⟨(z06 a0), ⟨(z0f z07 a1), trivial⟩⟩ (zx5 a0 a1 x1 hx1) rfl) ?_
 refine eX ?_
 refine z0d ?_
 refine bR ?_
 refine sX ?_
 refine eX ?_
 refine cX h rfl ?_ ?_
 intro hc2 h
 refine bR ?_
 obtain ⟨x3, hx3, h⟩ := obind h
 refine sS rfl rfl rfl (z03 rfl zas rfl .nil trivial (za8  x3 hx3) (z06 x3)) ?_
 refine sX ?_
 refine z0l rfl rfl (z0g z0v rfl rfl rfl rfl rfl rfl (lbE rfl) rfl) ?_
 refine eX ?_
 obtain rfl := eI h; exact z04 ⟨_, rfl, z0p (y := (PV.tup [(z0b x3), (I64 x1)])) (Wk.refl _) (z00 (z06 x3) (z00 rfl z05)) ⟨rfl, rfl⟩⟩
 intro hc2 h
 refine z0c ?_
 refine cBx ?_
 refine bR ?_
 iterate 2 refine sX ?_
 obtain ⟨x4, hx4, h⟩ := obind h
 refine sS rfl rfl rfl (z03 rfl Z1y rfl (wkr (wkr .nil)) ⟨(z06 a0), ⟨(z0f z07 a1), trivial⟩⟩ (zzy a0 a1 x4 hx4) (z00 (z06 x4.1) (z00 rfl z05))) ?_
 iterate 2 refine sX ?_
 refine z0l rfl rfl (z0g z0v rfl rfl rfl rfl rfl rfl (lbE rfl) rfl) ?_
 refine eX ?_
 obtain rfl := eI h; exact z04 ⟨_, rfl, z0p (y := (PV.tup [(z0b (x4.1)), (I64 x4.2)])) (Wk.refl _) (z00 (z06 (x4.1)) (z00 rfl z05)) ⟨rfl, rfl⟩⟩
noncomputable def zno (a0 : (List V)) : Option (List V) :=
 (z6x 16 ([] : (List V)) a0).bind fun x2 =>
 some x2
theorem Z0e (a0 r : (List V)) (h : zno a0 = some r) : zfb Try.prog 72 [(PV.sl none 20 1 (List.map ofV a0))] [] (PV.rs 0 0 (r).length 20 1) [rowM ofV 20 r] := by
 unfold zno at h
 refine z0j Try.func72 rfl Try.ntmps72 Try.results72 rfl (z0q ?_)
 change BW _ _ _ ⟨[(0, (PV.sl none 20 1 (List.map ofV a0)))], [], _⟩ _
 refine bR ?_
 refine sS rfl rfl rfl ((z7q (e := 20) (sz := 1) (.inl rfl) rfl).cast (y := (PV.rs 0 0 (([] : (List V))).length 20 1)) (H'' := [rowM ofV 20 ([] : (List V))]) rfl rfl) (z08 ?_)
 refine cBx ?_
 refine z0d ?_
 refine bR ?_
 refine sX ?_
 refine zjf rfl rfl rfl Try.underlying62 rfl rfl ?_
 intro nb1 hnb1
 refine z08 ?_
 refine cBx ?_
 cases nb1
 refine zmb rfl ?_
 refine z0c ?_
 refine cBx ?_
 refine bR ?_
 refine sS rfl rfl rfl ((zfw (xs := []) Try.underlying62 z2g rfl rfl rfl rfl rfl rfl rfl ⟨lbE rfl, lbE rfl⟩ rfl).cast (y := (PV.rs 1 0 (([] : (List V))).length 20 1)) (H'' := [rowM ofV 20 ([] : (List V)), rowM ofV 20 ([] : (List V))]) rfl rfl) ?_
 refine sX ?_
 obtain ⟨x2, hx2, h⟩ := obind h
 refine sS rfl rfl rfl (zd0 (f := ofV) (l := ([] : (List V))) Try.underlying62 z2g rfl rfl Try.underlying62 rfl rfl rfl rfl rfl csz_V z8t hx2 rfl) ?_
 refine eX ?_
 obtain rfl := eI h; exact z04 ⟨_, rfl, zm0 (y := (PV.rs 2 0 (x2).length 20 1)) [2] rfl (Wk.refl _) (.rs rfl) (.cons rfl (.same (z4x ids_V)) .nil) ⟨rfl, rfl⟩⟩
 have hz := List.map_eq_nil_iff.1 (hnb1 rfl)
 rw [hz] at h
 replace h : some ([] : (List V)) = some r := h
 refine zma rfl ?_
 refine bR ?_
 refine sS rfl rfl rfl ((z7q (e := 20) (sz := 1) (.inl rfl) rfl).cast (y := (PV.rs 1 0 (([] : (List V))).length 20 1)) (H'' := [rowM ofV 20 ([] : (List V)), rowM ofV 20 ([] : (List V))]) rfl rfl) (z08 ?_)
 refine cBx ?_
 obtain rfl := eI h; exact z04 ⟨_, rfl, zm0 (y := (PV.rs 1 0 (([] : (List V))).length 20 1)) [1] rfl (Wk.refl _) (.rs rfl) (.cons rfl (.same (z4x ids_V)) .nil) ⟨rfl, rfl⟩⟩
noncomputable def znp (a0 : (List (Str × V))) : Option (List (Str × V)) :=
 (z6x 32 ([] : (List (Str × V))) a0).bind fun x2 =>
 some x2
theorem Z0f (a0 r : (List (Str × V))) (h : znp a0 = some r) : zfb Try.prog 78 [(PV.sl none 96 2 (List.map ofFld a0))] [] (PV.rs 0 0 (r).length 96 2) [rowM ofFld 96 r] := by
 unfold znp at h
 refine z0j Try.func78 rfl Try.ntmps78 Try.results78 rfl (z0q ?_)
 change BW _ _ _ ⟨[(0, (PV.sl none 96 2 (List.map ofFld a0)))], [], _⟩ _
 refine bR ?_
 refine sS rfl rfl rfl ((z7q (e := 96) (sz := 2) (.inl rfl) rfl).cast (y := (PV.rs 0 0 (([] : (List (Str × V)))).length 96 2)) (H'' := [rowM ofFld 96 ([] : (List (Str × V)))]) rfl rfl) (z08 ?_)
 refine cBx ?_
 refine z0d ?_
 refine bR ?_
 refine sX ?_
 refine zjf rfl rfl rfl Try.underlying64 rfl rfl ?_
 intro nb1 hnb1
 refine z08 ?_
 refine cBx ?_
 cases nb1
 refine zmb rfl ?_
 refine z0c ?_
 refine cBx ?_
 refine bR ?_
 refine sS rfl rfl rfl ((zfw (xs := []) Try.underlying64 z1c rfl rfl rfl rfl rfl rfl rfl ⟨lbE rfl, lbE rfl⟩ rfl).cast (y := (PV.rs 1 0 (([] : (List (Str × V)))).length 96 2)) (H'' := [rowM ofFld 96 ([] : (List (Str × V))), rowM ofFld 96 ([] : (List (Str × V)))]) rfl rfl) ?_
 refine sX ?_
 obtain ⟨x2, hx2, h⟩ := obind h
 refine sS rfl rfl rfl (zd0 (f := ofFld) (l := ([] : (List (Str × V)))) Try.underlying64 z1c rfl rfl Try.underlying64 rfl rfl rfl rfl rfl z7i z7l hx2 rfl) ?_
 refine eX ?_
 obtain rfl := eI h; exact z04 ⟨_, rfl, zm0 (y := (PV.rs 2 0 (x2).length 96 2)) [2] rfl (Wk.refl _) (.rs rfl) (.cons rfl (.same (z4x z19)) .nil) ⟨rfl, rfl⟩⟩
 have hz := List.map_eq_nil_iff.1 (hnb1 rfl)
 rw [hz] at h
 replace h : some ([] : (List (Str × V))) = some r := h
 refine zma rfl ?_
 refine bR ?_
 refine sS rfl rfl rfl ((z7q (e := 96) (sz := 2) (.inl rfl) rfl).cast (y := (PV.rs 1 0 (([] : (List (Str × V)))).length 96 2)) (H'' := [rowM ofFld 96 ([] : (List (Str × V))), rowM ofFld 96 ([] : (List (Str × V)))]) rfl rfl) (z08 ?_)
 refine cBx ?_
 obtain rfl := eI h; exact z04 ⟨_, rfl, zm0 (y := (PV.rs 1 0 (([] : (List (Str × V)))).length 96 2)) [1] rfl (Wk.refl _) (.rs rfl) (.cons rfl (.same (z4x z19)) .nil) ⟨rfl, rfl⟩⟩
noncomputable def znk (a0 : (List (Str × V))) (a1 : Str) (a2 : V) : Option (List (Str × V)) :=
 (znp a0).bind fun x1 =>
 (zju x1 a1).bind fun x2 =>
 bif x2.2 then (
 (z8x x1 x2.1).bind fun x4 =>
 some ((x1).set ((x2.1).toNat) (x4.1, a2))
 ) else (
 (zzf 32 x1 x2.1 (a1, a2)).bind fun x5 =>
 some x5
 )
theorem Z0c (a0 : (List (Str × V))) (a1 : Str) (a2 : V) (r : (List (Str × V))) (h : znk a0 a1 a2 = some r) : z0o Try.prog 73 [(PV.sl none 96 2 (List.map ofFld a0)), (z0k a1), (ofV a2)] (PV.sl none 96 2 (List.map ofFld r)) := by
 unfold znk at h
 refine z0j Try.func73 rfl Try.ntmps73 Try.results73 rfl (z0q ?_)
 change BW _ _ _ ⟨[(0, (PV.sl none 96 2 (List.map ofFld a0))), (1, (z0k a1)), (2, (ofV a2))], [], _⟩ _
 refine bR ?_
 refine sS rfl rfl rfl ((z7q (e := 96) (sz := 2) (.inl rfl) rfl).cast (y := (PV.rs 0 0 (([] : (List (Str × V)))).length 96 2)) (H'' := [rowM ofFld 96 ([] : (List (Str × V)))]) rfl rfl) (z08 ?_)
 refine cBx ?_
 refine bR ?_
 refine sX ?_
 obtain ⟨x1, hx1, h⟩ := obind h
 refine sS rfl rfl rfl (z9h rfl Z1o rfl (wkr .nil) ⟨(z0f z19 a0), trivial⟩ (Z0f a0 x1 hx1) ztc (zft (z4x z19) (zl7))) ?_
 refine eX ?_
 refine bR ?_
 iterate 2 refine sX ?_
 obtain ⟨x2, hx2, h⟩ := obind h
 refine sS rfl rfl rfl (zqw rfl zyd rfl (.cons (.row (f := ofFld) (l := x1) rfl rfl z7i rfl z19) (.cons (.ha (.wk (Wk.refl _) rfl)) .nil)) (zx2 x1 a1 x2 hx2) (Sc.tup (z8e Sc.v (z8e Sc.v zh0)))) ?_
 iterate 4 refine sX ?_
 refine eX ?_
 refine z0d ?_
 refine bR ?_
 refine eX ?_
 refine cX h rfl ?_ ?_
 intro hc3 h
 refine bR ?_
 iterate 3 refine sX ?_
 obtain ⟨x4, hx4, h⟩ := obind h
 refine sS rfl rfl rfl (zik (l := x1) Try.underlying64 z1c rfl rfl rfl rfl hx4) ?_
 refine sS rfl rfl rfl ((zr3 zgv (i := 1) rfl rfl rfl).cast (y := (PV.rf 1 ((x2.1).toNat * 2 + 1))) rfl rfl) ?_
 refine z0l rfl rfl (zqt (f := ofFld) (a' := (x4.1, a2)) z2g rfl rfl rfl rfl (z7g hx4).2 z7i rfl (q := 1) rfl (zbm _) (csz_V _) rfl (z8t _) (by simp only [z1x]; rfl)) ?_
 refine z08 ?_
 refine cBx ?_
 refine bR ?_
 refine sX ?_
 refine eX ?_
 refine zf8 (f := ofFld) (l := ((x1).set ((x2.1).toNat) (x4.1, a2))) 6 1 rfl (by simp only [List.length_set]) rfl z7i rfl ?_
 obtain rfl := eI h; exact z04 ⟨_, rfl, z0p (y := (PV.sl none 96 2 (List.map ofFld ((x1).set ((x2.1).toNat) (x4.1, a2))))) (Wk.refl _) (z0f z19 ((x1).set ((x2.1).toNat) (x4.1, a2))) ⟨rfl, rfl⟩⟩
 intro hc3 h
 refine z0c ?_
 refine cBx ?_
 refine bR ?_
 iterate 4 refine sX ?_
 refine sS rfl rfl rfl (z1a (cs := [(z0k a1), (ofV a2)]) zgv z1c rfl rfl (by simp only [List.all_cons, List.all_nil, zbm, z44, Bool.and_true, Bool.true_and]; try rfl) (by simp only [z6y, List.getElem?_cons_zero, List.getElem?_cons_succ, z1x, z1u]; rfl)) ?_
 refine sS rfl rfl rfl ((zfw (xs := [(PV.agg [(z0k a1), (ofV a2)])]) Try.underlying63 z1c rfl rfl rfl rfl (by simp only [List.all_cons, List.all_nil, zbm, z44, Bool.and_true, Bool.true_and]; try rfl) (by simp only [List.all_cons, List.all_nil, csz_V, z6r, z1x, z1u]; try rfl) rfl ⟨lbE rfl, lbE rfl⟩ (by simp only [zgl, z6y, List.flatMap_cons, List.flatMap_nil, z1x, z1u]; try rfl)).cast (y := (PV.rs 2 0 (([(a1, a2)] : (List (Str × V)))).length 96 2)) (H'' := [rowM ofFld 96 ([] : (List (Str × V))), rowM ofFld 96 x1, rowM ofFld 96 ([(a1, a2)] : (List (Str × V)))]) rfl rfl) ?_
 obtain ⟨x5, hx5, h⟩ := obind h
 refine sS rfl rfl rfl (ztv (f := ofFld) (l := x1) (a := (a1, a2)) Z12 Z47 rfl rfl rfl rfl rfl rfl rfl rfl z7i z7l rfl hx5) ?_
 refine eX ?_
 obtain rfl := eI h; exact z04 ⟨_, rfl, z0p (y := (PV.sl none 96 2 (List.map ofFld x5))) (Wk.refl _) (z0f z19 x5) ⟨rfl, rfl⟩⟩
noncomputable def zdy (a0 : V) (a1 : S_api_Step) (a2 : V) : Option V :=
 bif (a0).isList then (
 (zno ((a0).asList)).bind fun x2 =>
 bif (a1.f_Index == (((x2).length : Nat) : Int)) then (
 (z6x 16 x2 ([a2] : (List V))).bind fun x4 =>
 some (V.list x4)
 ) else (
 (z8x x2 a1.f_Index).bind fun x5 =>
 some (V.list ((x2).set ((a1.f_Index).toNat) a2))
 )
 ) else (
 bif (a0).isDict then (
 (znk ((a0).asDict) a1.f_Name a2).bind fun x7 =>
 some (V.dict x7)
 ) else (
 bif (a0).isRec then (
 ((a0).asRec).bind fun x9 =>
 (znk x9.fields a1.f_Name a2).bind fun x10 =>
 some (V.record x9.cls x9.ver x10)
 ) else (
 some a0
 )
 )
 )
theorem zx1 (a0 : V) (a1 : S_api_Step) (a2 r : V) (h : zdy a0 a1 a2 = some r) : z0o Try.prog 46 [(ofV a0), (z01 a1), (ofV a2)] (ofV r) := by
 unfold zdy at h
 refine z0j Try.func46 rfl Try.ntmps46 Try.results46 rfl (z0q ?_)
 change BW _ _ _ ⟨[(0, (ofV a0)), (1, (z01 a1)), (2, (ofV a2))], [], _⟩ _
 refine bR ?_
 refine sX ?_
 refine eX ?_
 refine z0d ?_
 refine bR ?_
 refine eX ?_
 refine z0r ?_
 refine cBx ?_
 refine bR ?_
 refine sS rfl rfl rfl (z2t rfl rfl) ?_
 refine sX ?_
 refine eX ?_
 refine cX h rfl ?_ ?_
 intro hc1 h
 refine bR ?_
 refine eX ?_
 refine bR ?_
 refine sX ?_
 obtain ⟨x2, hx2, h⟩ := obind h
 refine sS rfl rfl rfl (z9h rfl Z1s rfl (wkr .nil) ⟨(z0f ids_V ((a0).asList)), trivial⟩ (Z0e ((a0).asList) x2 hx2) ztc (zft (z4x ids_V) (zl7))) ?_
 refine eX ?_
 refine z0d ?_
 refine bR ?_
 iterate 3 refine sX ?_
 refine sS rfl rfl rfl (ztu Try.underlying62 rfl rfl) ?_
 refine eX ?_
 refine cX h rfl ?_ ?_
 intro hc3 h
 refine bR ?_
 iterate 2 refine sX ?_
 refine sS rfl rfl rfl ((z16 (xs := [(ofV a2)]) Try.underlying62 z2g rfl rfl rfl (by simp only [List.all_cons, List.all_nil, zbm, z44, Bool.and_true, Bool.true_and]; try rfl) (by simp only [List.all_cons, List.all_nil, csz_V, z6r, z1x, z1u]; try rfl) rfl ⟨lbE rfl, lbE rfl⟩ (by simp only [zgl, z6y, List.flatMap_cons, List.flatMap_nil, z1x, z1u]; try rfl)).cast (y := (PV.sl (some 2) 20 1 (List.map ofV ([a2] : (List V))))) rfl rfl) ?_
 obtain ⟨x4, hx4, h⟩ := obind h
 refine sS rfl rfl rfl (zd0 (f := ofV) (l := x2) Try.underlying62 z2g rfl rfl Try.underlying62 rfl rfl rfl rfl rfl csz_V z8t hx4 rfl) ?_
 refine zo8 (s := ⟨_, _, _⟩) (f := ofV) (l := x4) 25 3 rfl rfl rfl csz_V rfl ?_
 refine sS rfl rfl rfl ((z1q Try.underlying62 rfl rfl rfl).wk ((Wk.iface (Wk.refl _)).trans (Wk.eq (zda _).symm))) ?_
 refine eX ?_
 obtain rfl := eI h; exact z04 ⟨_, rfl, z0p (y := (ofV (V.list x4))) (Wk.refl _) (ids_V (V.list x4)) ⟨rfl, rfl⟩⟩
 intro hc3 h
 refine z0c ?_
 refine cBx ?_
 refine bR ?_
 iterate 4 refine sX ?_
 obtain ⟨x5, hx5, h⟩ := obind h
 refine sS rfl rfl rfl (zik (l := x2) Try.underlying62 z2g rfl rfl rfl rfl hx5) ?_
 refine z0l rfl rfl (zqt (f := ofV) (a' := a2) z2g rfl rfl rfl rfl (z7g hx5).2 csz_V rfl (q := 0) rfl (zbm _) (csz_V _) rfl (z8t _) (by simp only [z1x]; rfl)) ?_
 refine z08 ?_
 refine cBx ?_
 refine z0d ?_
 refine zf8 (f := ofV) (l := ((x2).set ((a1.f_Index).toNat) a2)) 8 1 rfl (by simp only [List.length_set]) rfl csz_V rfl ?_
 refine z0e ?_
 refine sX ?_
 refine sS rfl rfl rfl ((z1q Try.underlying62 rfl rfl rfl).wk ((Wk.iface (Wk.refl _)).trans (Wk.eq (zda _).symm))) ?_
 refine eX ?_
 obtain rfl := eI h; exact z04 ⟨_, rfl, z0p (y := (ofV (V.list ((x2).set ((a1.f_Index).toNat) a2)))) (Wk.refl _) (ids_V (V.list ((x2).set ((a1.f_Index).toNat) a2))) ⟨rfl, rfl⟩⟩
 intro hc1 h
 refine bR ?_
 refine sS rfl rfl rfl (z3o rfl rfl) ?_
 refine sX ?_
 refine eX ?_
 refine cX h rfl ?_ ?_
 intro hc6 h
 refine bR ?_
 refine eX ?_
 refine bR ?_
 iterate 4 refine sX ?_
 obtain ⟨x7, hx7, h⟩ := obind h
 refine sS rfl rfl rfl (z03 rfl Z1r rfl (wkr (wkr (wkr .nil))) ⟨(z0f z19 ((a0).asDict)), ⟨rfl, ⟨(ids_V a2), trivial⟩⟩⟩ (Z0c ((a0).asDict) a1.f_Name a2 x7 hx7) (z0f z19 x7)) ?_
 refine sS rfl rfl rfl ((z1q Try.underlying64 rfl rfl rfl).wk ((Wk.iface (Wk.refl _)).trans (Wk.eq (zg2 _).symm))) ?_
 refine eX ?_
 obtain rfl := eI h; exact z04 ⟨_, rfl, z0p (y := (ofV (V.dict x7))) (Wk.refl _) (ids_V (V.dict x7)) ⟨rfl, rfl⟩⟩
 intro hc6 h
 refine bR ?_
 refine sS rfl rfl rfl (z48 rfl rfl) ?_
 refine sX ?_
 refine eX ?_
 refine cX h rfl ?_ ?_
 intro hc8 h
 refine bR ?_
 refine eX ?_
 refine z0d (z1y 16 [] [0] mo (by kernel_rfl) ?_)
 refine gX ?_
 obtain ⟨x9, hx9, h⟩ := obind h
 refine z1v rfl rfl rfl rfl (fun H hp => z2d rfl rfl hx9) ?_
 iterate 3 refine gX ?_
 refine z1v rfl rfl rfl rfl (fun H hp => z2d rfl rfl hx9) ?_
 iterate 3 refine gX ?_
 refine z1v rfl rfl rfl rfl (fun H hp => z2d rfl rfl hx9) ?_
 iterate 5 refine gX ?_
 obtain ⟨x10, hx10, h⟩ := obind h
 refine z1v rfl rfl rfl rfl (fun H hp => z03 rfl Z1r rfl (wkr (wkr (wkr .nil))) ⟨(z0f z19 x9.fields), ⟨rfl, ⟨(ids_V a2), trivial⟩⟩⟩ (Z0c x9.fields a1.f_Name a2 x10 hx10) (z0f z19 x10)) ?_
 refine z23 ?_
 change AO _ _ _ _ _
 refine sS rfl rfl rfl (z1a (cs := [(z0k x9.cls), (I64 x9.ver), (PV.sl none 96 2 (List.map ofFld x10))]) zbi zix rfl rfl rfl rfl) ?_
 refine sX ?_
 refine sS rfl rfl rfl (z1q Try.underlying66 rfl rfl rfl) ?_
 refine eX ?_
 refine zav 1 6 (y := (ofV (V.record x9.cls x9.ver x10))) rfl rfl ((Wk.iface (Wk.pt (x := .agg [(z0k x9.cls), (I64 x9.ver), (PV.sl none 96 2 (List.map ofFld x10))]) (y := zio (Rec.mk x9.cls x9.ver x10)) (wkr (wkr (wkr .nil))))).trans (Wk.eq (ziq (some (Rec.mk x9.cls x9.ver x10))).symm)) ?_
 obtain rfl := eI h; exact z04 ⟨_, rfl, z0p (y := (ofV (V.record x9.cls x9.ver x10))) (Wk.refl _) (ids_V (V.record x9.cls x9.ver x10)) ⟨rfl, rfl⟩⟩
 intro hc8 h
 refine z0c ?_
 refine cBx ?_
 refine bR ?_
 refine sX ?_
 refine eX ?_
 obtain rfl := eI h; exact z04 ⟨_, rfl, z0p (y := (ofV a0)) (Wk.refl _) (ids_V a0) ⟨rfl, rfl⟩⟩
noncomputable def znf (a0 : V) (a1 : S_api_Step) (a2 : V) : Option V :=
 (zdy a0 a1 a2).bind fun x1 =>
 some x1
theorem Z38 (a0 : V) (a1 : S_api_Step) (a2 r : V) (h : znf a0 a1 a2 = some r) : z0o Try.prog 45 [(ofV a0), (z01 a1), (PV.pt 20 (ofV a2) 0)] (ofV r) := by
 unfold znf at h
 refine z0j Try.func45 rfl Try.ntmps45 Try.results45 rfl (z0q ?_)
 change BW _ _ _ ⟨[(0, (ofV a0)), (1, (z01 a1)), (2, (PV.pt 20 (ofV a2) 0))], [], _⟩ _
 refine bR ?_
 refine sX ?_
 refine eX ?_
 refine bR ?_
 iterate 2 refine sX ?_
 refine sS rfl rfl rfl (z6j (y := (ofV a2)) Try.underlying20 rfl rfl rfl (by rw [z1x]; rfl)) ?_
 obtain ⟨x1, hx1, h⟩ := obind h
 refine sS rfl rfl rfl (z03 rfl zyi rfl (wkr (wkr (wkr .nil))) ⟨(ids_V a0), ⟨(z07 a1), ⟨(ids_V a2), trivial⟩⟩⟩ (zx1 a0 a1 a2 x1 hx1) (ids_V x1)) ?_
 refine eX ?_
 obtain rfl := eI h; exact z04 ⟨_, rfl, z0p (y := (ofV x1)) (Wk.refl _) (ids_V x1) ⟨rfl, rfl⟩⟩
end Go.Proofs.Ythidgpcbnieleaa
