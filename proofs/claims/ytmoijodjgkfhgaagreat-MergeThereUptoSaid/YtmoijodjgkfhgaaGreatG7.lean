/- Pure functions, and that calls answer as they say. -/
import Derived.Test.YtmoijodjgkfhgaaGreatG6
namespace Go.Proofs.YtmoijodjgkfhgaaGreat
open Go Aw
set_option linter.unusedVariables false
set_option linter.unusedSimpArgs false
set_option maxRecDepth 20000
set_option maxHeartbeats 2000000
variable {ι : Type} {ρ : ι → Type}
noncomputable def zsm (a0 : Str) : Option Bool :=
 bif (!(a0 == ([] : Str))) then (
 bif (decide ((((a0).length : Nat) : Int) ≤ 32)) then (
 ((a0)[0]?).bind fun x3 =>
 (zsp ([97, 98, 99, 100, 101, 102, 103, 104, 105, 106, 107, 108, 109, 110, 111, 112, 113, 114, 115, 116, 117, 118, 119, 120, 121, 122] : Str) x3).bind fun x4 =>
 bif (decide (x4 ≥ 0)) then (
 (zsf a0 0 ([97, 98, 99, 100, 101, 102, 103, 104, 105, 106, 107, 108, 109, 110, 111, 112, 113, 114, 115, 116, 117, 118, 119, 120, 121, 122, 48, 49, 50, 51, 52, 53, 54, 55, 56, 57, 95] : Str)).bind fun x6 =>
 some (x6 == a0)
 ) else (
 some false
 )
 ) else (
 some false
 )
 ) else (
 some false
 )
theorem Z76 (a0 : Str) (r : Bool) (h : zsm a0 = some r) : z0p Tryz.prog 122 [(ofStr a0)] (BO r) := by
 unfold zsm at h
 refine z0j Tryz.func122 rfl Tryz.ntmps122 Tryz.results122 rfl (z0n ?_)
 change BW _ _ _ ⟨[(0, (ofStr a0))], [], _⟩ _
 refine bR ?_
 refine eX ?_
 refine bR ?_
 refine sX ?_
 refine sS rfl rfl rfl ((z2r (a := a0) (b := ([] : Str)) rfl rfl rfl rfl).cast (y := (BO ((!(a0 == ([] : Str)))))) rfl rfl) ?_
 refine sX ?_
 refine z0t (t := 5) rfl ?_ ?_
 intro hb1; replace h := z10 hb1 h
 refine yX ?_
 refine z23 rfl rfl rfl rfl rfl rfl (zcv (s := a0) Tryz.underlying9 rfl rfl) ?_
 refine yX ?_
 iterate 2 refine sX ?_
 refine z0t (t := 10) rfl ?_ ?_
 intro hb2; replace h := z10 hb2 h
 refine yX ?_
 obtain ⟨x3, hx3, h⟩ := obind h
 refine z23 rfl rfl rfl rfl rfl rfl (ze7 (s := a0) (i := 0) Tryz.underlying9 rfl rfl rfl hx3) ?_
 obtain ⟨x4, hx4, h⟩ := obind h
 refine z23 rfl rfl rfl rfl rfl rfl (z08 rfl zzq rfl (wkr (wkr .nil)) ⟨rfl, ⟨rfl, trivial⟩⟩ (Z48 ([97, 98, 99, 100, 101, 102, 103, 104, 105, 106, 107, 108, 109, 110, 111, 112, 113, 114, 115, 116, 117, 118, 119, 120, 121, 122] : Str) x3 x4 hx4) rfl) ?_
 refine yX ?_
 iterate 2 refine sX ?_
 refine z0t (t := 16) rfl ?_ ?_
 intro hb5; replace h := z10 hb5 h
 refine yX ?_
 obtain ⟨x6, hx6, h⟩ := obind h
 refine z23 rfl rfl rfl rfl rfl rfl (z08 rfl Z5p rfl (wkr (wkr (wkr .nil))) ⟨rfl, ⟨rfl, ⟨rfl, trivial⟩⟩⟩ (Z6y a0 0 ([97, 98, 99, 100, 101, 102, 103, 104, 105, 106, 107, 108, 109, 110, 111, 112, 113, 114, 115, 116, 117, 118, 119, 120, 121, 122, 48, 49, 50, 51, 52, 53, 54, 55, 56, 57, 95] : Str) x6 hx6) rfl) ?_
 refine yX ?_
 refine z23 rfl rfl rfl rfl rfl rfl ((z2r (a := x6) (b := a0) rfl rfl rfl rfl).cast (y := (BO ((x6 == a0)))) rfl rfl) ?_
 refine sX ?_
 refine eX ?_
 obtain rfl := eI h; exact z06 eK
 intro hb5; replace h := z11 hb5 h
 iterate 4 refine nX ?_
 refine sX ?_
 refine eX ?_
 obtain rfl := eI h; exact z06 eK
 intro hb2; replace h := z11 hb2 h
 iterate 4 refine nX ?_
 iterate 2 refine sX ?_
 iterate 4 refine nX ?_
 refine sX ?_
 refine eX ?_
 obtain rfl := eI h; exact z06 eK
 intro hb1; replace h := z11 hb1 h
 iterate 3 refine nX ?_
 iterate 2 refine sX ?_
 iterate 4 refine nX ?_
 iterate 2 refine sX ?_
 iterate 4 refine nX ?_
 refine sX ?_
 refine eX ?_
 obtain rfl := eI h; exact z06 eK
noncomputable def zc8 (s7 : Bool) : Option Int :=
 bif s7 then (
 some 1
 ) else (
 some 0
 )
noncomputable def zdo (a0 : S_api_Step) (s5 : Bool) : Option Int :=
 bif s5 then (
 some 8
 ) else (
 bif a0.f_At then (
 bif (decide (a0.f_Index < 0)) then (
 zc8 true
 ) else (
 zc8 (decide (a0.f_Index ≥ 4096))
 )
 ) else (
 zc8 false
 )
 )
noncomputable def zdp (a0 : S_api_Step) (s3 : Bool) : Option Int :=
 bif s3 then (
 some 1
 ) else (
 bif a0.f_At then (
 zdo a0 (!(a0.f_Name == ([] : Str)))
 ) else (
 zdo a0 false
 )
 )
noncomputable def zdq (a0 : S_api_Step) (s1 : Bool) : Option Int :=
 bif s1 then (
 some 8
 ) else (
 bif (!a0.f_At) then (
 zdp a0 (a0.f_Index != 0)
 ) else (
 zdp a0 false
 )
 )
noncomputable def zsd (a0 : S_api_Step) : Option Int :=
 bif (!a0.f_At) then (
 (zsm a0.f_Name).bind fun x14 =>
 zdq a0 (!x14)
 ) else (
 zdq a0 false
 )
theorem Z6v (a0 : S_api_Step) (r : Int) (h : zsd a0 = some r) : z0p Tryz.prog 97 [(z01 a0)] (I64 r) := by
 unfold zsd at h
 refine z0j Tryz.func97 rfl Tryz.ntmps97 Tryz.results97 rfl (z0n ?_)
 change BW _ _ _ ⟨[(0, (z01 a0))], [], _⟩ _
 refine bR ?_
 refine sX ?_
 refine eX ?_
 refine z0f ?_
 refine z0o ?_
 refine cBx ?_
 refine jX (ι := Bool) (fun i => zdq a0 i = some r) (fun i => [(1, (PV.rf 0 0)), (3, (BO i))]) (fun i => [.box 82 [(ofStr a0.f_Name), (BO a0.f_At), (I64 a0.f_Index)]]) ?_ ?_
 rintro s1 h; replace h : zdq a0 s1 = some r := h; unfold zdq at h
 change BW _ _ _ ⟨[(1, (PV.rf 0 0)), (3, (BO s1))], [.box 82 [(ofStr a0.f_Name), (BO a0.f_At), (I64 a0.f_Index)]], _⟩ _
 refine cX h rfl ?_ ?_
 intro hc2 h
 refine bR ?_
 refine eX ?_
 obtain rfl := eI h; exact z06 eK
 intro hc2 h
 refine jX (ι := Bool) (fun i => zdp a0 i = some r) (fun i => [(1, (PV.rf 0 0)), (13, (BO i))]) (fun i => [.box 82 [(ofStr a0.f_Name), (BO a0.f_At), (I64 a0.f_Index)]]) ?_ ?_
 rintro s3 h; replace h : zdp a0 s3 = some r := h; unfold zdp at h
 change BW _ _ _ ⟨[(1, (PV.rf 0 0)), (13, (BO s3))], [.box 82 [(ofStr a0.f_Name), (BO a0.f_At), (I64 a0.f_Index)]], _⟩ _
 refine cX h rfl ?_ ?_
 intro hc4 h
 refine bR ?_
 refine eX ?_
 obtain rfl := eI h; exact z06 eK
 intro hc4 h
 refine jX (ι := Bool) (fun i => zdo a0 i = some r) (fun i => [(1, (PV.rf 0 0)), (22, (BO i))]) (fun i => [.box 82 [(ofStr a0.f_Name), (BO a0.f_At), (I64 a0.f_Index)]]) ?_ ?_
 rintro s5 h; replace h : zdo a0 s5 = some r := h; unfold zdo at h
 change BW _ _ _ ⟨[(1, (PV.rf 0 0)), (22, (BO s5))], [.box 82 [(ofStr a0.f_Name), (BO a0.f_At), (I64 a0.f_Index)]], _⟩ _
 refine cX h rfl ?_ ?_
 intro hc6 h
 refine bR ?_
 refine eX ?_
 obtain rfl := eI h; exact z06 eK
 intro hc6 h
 refine jX (ι := Bool) (fun i => zc8 i = some r) (fun i => [(30, (BO i))]) (fun i => []) ?_ ?_
 rintro s7 h; replace h : zc8 s7 = some r := h; unfold zc8 at h
 change BW _ _ _ ⟨[(30, (BO s7))], [], _⟩ _
 refine cX h rfl ?_ ?_
 intro hc8 h
 refine bR ?_
 refine eX ?_
 obtain rfl := eI h; exact z06 eK
 intro hc8 h
 refine z0g ?_
 refine cBx ?_
 refine bR ?_
 refine eX ?_
 obtain rfl := eI h; exact z06 eK
 refine z0l ?_
 iterate 3 refine sX ?_
 refine z0t (t := 33) rfl ?_ ?_
 intro hb9; replace h := z10 hb9 h
 iterate 4 refine yX ?_
 refine z0t (t := 37) rfl ?_ ?_
 intro hb10; replace h := z10 hb10 h
 iterate 3 refine nX ?_
 refine yX ?_
 refine sX ?_
 refine sX (z0h ?_)
 exact ⟨rfl, true, h, jN⟩
 intro hb10; replace h := z11 hb10 h
 iterate 4 refine yX ?_
 refine sX ?_
 refine sX (z0h ?_)
 exact ⟨rfl, (decide (a0.f_Index ≥ 4096)), h, jN⟩
 intro hb9; replace h := z11 hb9 h
 iterate 8 refine nX ?_
 refine sX ?_
 refine sX (z0h ?_)
 exact ⟨rfl, false, h, jN⟩
 refine z0l ?_
 iterate 3 refine sX ?_
 refine z0t (t := 25) rfl ?_ ?_
 intro hb11; replace h := z10 hb11 h
 iterate 2 refine yX ?_
 refine z23 rfl rfl rfl rfl rfl rfl ((z2r (a := a0.f_Name) (b := ([] : Str)) rfl rfl rfl rfl).cast (y := (BO ((!(a0.f_Name == ([] : Str)))))) rfl rfl) ?_
 refine sX ?_
 refine sX (z0h ?_)
 exact ⟨rfl, (!(a0.f_Name == ([] : Str))), h, jN⟩
 intro hb11; replace h := z11 hb11 h
 iterate 3 refine nX ?_
 refine sX ?_
 refine sX (z0h ?_)
 exact ⟨rfl, false, h, jN⟩
 refine z0l ?_
 iterate 4 refine sX ?_
 refine z0t (t := 17) rfl ?_ ?_
 intro hb12; replace h := z10 hb12 h
 iterate 3 refine yX ?_
 refine sX ?_
 refine sX (z0h ?_)
 exact ⟨rfl, (a0.f_Index != 0), h, jN⟩
 intro hb12; replace h := z11 hb12 h
 iterate 3 refine nX ?_
 refine sX ?_
 refine sX (z0h ?_)
 exact ⟨rfl, false, h, jN⟩
 refine z0l ?_
 iterate 4 refine sX ?_
 refine z0t (t := 7) rfl ?_ ?_
 intro hb13; replace h := z10 hb13 h
 iterate 2 refine yX ?_
 obtain ⟨x14, hx14, h⟩ := obind h
 refine z23 rfl rfl rfl rfl rfl rfl (z08 rfl Z5u rfl (wkr .nil) ⟨rfl, trivial⟩ (Z76 a0.f_Name x14 hx14) rfl) ?_
 refine yX ?_
 refine sX ?_
 refine sX (z0h ?_)
 exact ⟨rfl, (!x14), h, jN⟩
 intro hb13; replace h := z11 hb13 h
 iterate 4 refine nX ?_
 refine sX ?_
 refine sX (z0h ?_)
 exact ⟨rfl, false, h, jN⟩
noncomputable def z7c (a0 : (List S_api_Step)) (g1 : Nat → Option Int) (s2 : Nat) : Option Int :=
 bif (decide (((s2 : Nat) : Int) < (((a0).length : Nat) : Int))) then (
 ((a0)[s2]?).bind fun x5 =>
 (zsd x5).bind fun x6 =>
 bif (x6 != 0) then (
 some x6
 ) else (
 g1 (s2 + 1)
 )
 ) else (
 some 0
 )
theorem zor (g1 : OF ρ → Nat → Option Int) (h_g1 : ∀ y0, CM (fun G => g1 G y0)) (a0 : (List S_api_Step)) (s2 : Nat) : CM (fun G : OF ρ => z7c a0 (g1 G) s2) := by
 simp only [z7c]
 repeat (first | exact z0i | exact h_g1 _ | refine z18 ?_ ?_ | refine z19 ?_ (fun _ => ?_))
noncomputable def zi2 (a0 : (List S_api_Step)) (s2 : Nat) : Option Int :=
 z3q (ι := Nat) (ρ := fun _ => Int) (fun g i => z7c a0 (fun s2 => g s2) i) s2
theorem zi1 (a0 : (List S_api_Step)) (s2 : Nat) : zi2 a0 s2 = z7c a0 (zi2 a0) s2 :=
 z1j (ι := Nat) (ρ := fun _ => Int) (Φ := fun g i => z7c a0 (fun s2 => g s2) i) (fun i => zor (ι := Nat) (ρ := fun _ => Int) (fun g => (fun s2 => g s2)) (fun _ => z1l) a0 i) s2
noncomputable def zsh (a0 : (List S_api_Step)) : Option Int :=
 bif (decide ((((a0).length : Nat) : Int) > 64)) then (
 some 2
 ) else (
 zi2 a0 0
 )
theorem Z70 (a0 : (List S_api_Step)) (r : Int) (h : zsh a0 = some r) : z0p Tryz.prog 59 [(PV.sl none 82 3 (List.map z01 a0))] (I64 r) := by
 unfold zsh at h
 refine z0j Tryz.func59 rfl Tryz.ntmps59 Tryz.results59 rfl (z0n ?_)
 change BW _ _ _ ⟨[(0, (PV.sl none 82 3 (List.map z01 a0)))], [], _⟩ _
 refine bR ?_
 refine eX ?_
 refine z0f ?_
 refine bR ?_
 iterate 2 refine sX ?_
 refine eX ?_
 refine cX h rfl ?_ ?_
 intro hc1 h
 refine bR ?_
 refine eX ?_
 obtain rfl := eI h; exact z06 eK
 intro hc1 h
 refine z0g ?_
 refine cBx ?_
 refine z0f ?_
 refine bR ?_
 iterate 2 refine sX ?_
 refine eX ?_
 refine z0o ?_
 refine cBx ?_
 unfold zi2 at h
 refine z3p (σ := Nat) (fun i => [(9, (PV.sl none 82 3 (List.map z01 a0))), (10, (I64 ((((a0).length : Nat) : Int)))), (11, (I64 (((i : Nat) : Int))))]) (fun i => []) 0 h ?_ ?_ ?_
 intro i; exact ⟨lbE rfl, ⟨(z07 (z05 z02 _)), ⟨(z07 rfl), ⟨(z07 rfl), trivial⟩⟩⟩, trivial⟩
 exact jN
 rintro g1_f s2 h; replace h : z7c a0 (fun y0 => g1_f y0) s2 = some r := h; unfold z7c at h
 change BW _ _ _ ⟨[(9, (PV.sl none 82 3 (List.map z01 a0))), (10, (I64 ((((a0).length : Nat) : Int)))), (11, (I64 (((s2 : Nat) : Int))))], [], _⟩ _
 refine bR ?_
 refine eX ?_
 refine z0f ?_
 refine z4a (t := 9) rfl fun hb4 => ?_
 try rw [List.length_map] at hb4
 refine cX h rfl ?_ ?_
 intro hc3 h
 have hc3_ := of_decide_eq_true hc3
 refine z0g ?_
 refine cBx ?_
 refine z0f ?_
 refine z0o ?_
 refine cBx ?_
 refine bR ?_
 obtain ⟨x5, hx5, h⟩ := obind h
 refine sS rfl rfl rfl (z1p (i := s2) Tryz.underlying47 z1u rfl rfl rfl hx5 rfl) ?_
 refine sX ?_
 refine sS rfl rfl rfl (z1h z1u rfl) ?_
 refine z14 rfl rfl (z0y z1u rfl rfl rfl rfl rfl rfl (lbE rfl) rfl) ?_
 refine z0h ?_
 refine cBx ?_
 refine bR ?_
 refine sX ?_
 obtain ⟨x6, hx6, h⟩ := obind h
 refine sS rfl rfl rfl (z08 rfl Z87 rfl (wkr .nil) ⟨(z02 x5), trivial⟩ (Z6v x5 x6 hx6) rfl) ?_
 refine eX ?_
 refine bR ?_
 refine sX ?_
 refine eX ?_
 refine cX h rfl ?_ ?_
 intro hc7 h
 refine bR ?_
 refine sX ?_
 refine eX ?_
 obtain rfl := eI h; exact z06 eK
 intro hc7 h
 refine z0g ?_
 refine cBx ?_
 refine z0l ?_
 refine sS rfl rfl rfl (z2o (k := s2) (c := 1) rfl rfl rfl (by omega)) ?_
 refine sX (z0h ?_)
 exact ⟨rfl, (s2 + 1), h, jN⟩
 intro hc3 h
 refine z2b ?_
 refine cBx ?_
 refine bR ?_
 refine eX ?_
 obtain rfl := eI h; exact z06 eK
noncomputable def zw3 (a0 : V) : Option ((List (Str × V)) × Bool) :=
 bif (a0).isDict then (
 some ((a0).asDict, true)
 ) else (
 bif (a0).isRec then (
 ((a0).asRec).bind fun x3 =>
 some (x3.fields, true)
 ) else (
 some ([], false)
 )
 )
theorem Z7e (a0 : V) (r : ((List (Str × V)) × Bool)) (h : zw3 a0 = some r) : z0p Tryz.prog 100 [(ofV a0)] (PV.tup [(PV.sl none 86 2 (List.map ofFld r.1)), (BO r.2)]) := by
 unfold zw3 at h
 refine z0j Tryz.func100 rfl Tryz.ntmps100 Tryz.results100 rfl (z0n ?_)
 change BW _ _ _ ⟨[(0, (ofV a0))], [], _⟩ _
 refine bR ?_
 refine sX ?_
 refine eX ?_
 refine z0f ?_
 refine bR ?_
 refine eX ?_
 refine z0o ?_
 refine cBx ?_
 refine bR ?_
 refine sS rfl rfl rfl (z2v rfl rfl) ?_
 refine sX ?_
 refine eX ?_
 refine cX h rfl ?_ ?_
 intro hc1 h
 refine bR ?_
 refine eX ?_
 refine bR ?_
 iterate 2 refine sX ?_
 refine eX ?_
 obtain rfl := eI h; exact z06 ⟨_, rfl, z0r (y := (PV.tup [(PV.sl none 86 2 (List.map ofFld (a0).asDict)), (BO true)])) (Wk.refl _) (z00 (z05 z0m ((a0).asDict)) (z00 rfl z04)) ⟨rfl, rfl⟩⟩
 intro hc1 h
 refine bR ?_
 refine sS rfl rfl rfl (z3g rfl rfl) ?_
 refine sX ?_
 refine eX ?_
 refine cX h rfl ?_ ?_
 intro hc2 h
 refine bR ?_
 refine eX ?_
 refine bR ?_
 refine sX ?_
 obtain ⟨x3, hx3, h⟩ := obind h
 refine sS rfl rfl rfl (z1o rfl rfl hx3) ?_
 iterate 3 refine sX ?_
 refine eX ?_
 obtain rfl := eI h; exact z06 ⟨_, rfl, z0r (y := (PV.tup [(PV.sl none 86 2 (List.map ofFld x3.fields)), (BO true)])) (Wk.refl _) (z00 (z05 z0m x3.fields) (z00 rfl z04)) ⟨rfl, rfl⟩⟩
 intro hc2 h
 refine z0g ?_
 refine cBx ?_
 refine bR ?_
 refine sX ?_
 refine eX ?_
 obtain rfl := eI h; exact z06 ⟨_, rfl, z0r (y := (PV.tup [(PV.sl none 86 2 (List.map ofFld [])), (BO false)])) (Wk.tup (.cons Wk.nil (wkr .nil))) (z00 (z05 z0m ([])) (z00 rfl z04)) ⟨rfl, rfl⟩⟩
noncomputable def zp3 (a0 : (Str × V)) (a1 : Str) : Option Int :=
 bif (Op.bytesLess a0.1 a1) then (
 some (-1)
 ) else (
 bif (!(Op.bytesLess a0.1 a1 || a0.1 == a1)) then (
 some 1
 ) else (
 some 0
 )
 )
theorem Z41 (a0 : (Str × V)) (a1 : Str) (r : Int) (h : zp3 a0 a1 = some r) : z0p Tryz.prog 125 [(ofFld a0), (ofStr a1)] (I64 r) := by
 unfold zp3 at h
 refine z0j Tryz.func125 rfl Tryz.ntmps125 Tryz.results125 rfl (z0n ?_)
 change BW _ _ _ ⟨[(0, (ofFld a0)), (1, (ofStr a1))], [], _⟩ _
 refine bR ?_
 refine sX ?_
 refine eX ?_
 refine z0f ?_
 refine z0o ?_
 refine cBx ?_
 refine bR ?_
 iterate 3 refine sX ?_
 refine sS rfl rfl rfl ((z2r (a := a0.1) (b := a1) rfl rfl rfl rfl).cast (y := (BO ((Op.bytesLess a0.1 a1)))) rfl rfl) ?_
 refine eX ?_
 refine cX h rfl ?_ ?_
 intro hc1 h
 refine bR ?_
 refine eX ?_
 obtain rfl := eI h; exact z06 eK
 intro hc1 h
 refine bR ?_
 iterate 3 refine sX ?_
 refine sS rfl rfl rfl ((z2r (a := a0.1) (b := a1) rfl rfl rfl rfl).cast (y := (BO ((!(Op.bytesLess a0.1 a1 || a0.1 == a1))))) rfl rfl) ?_
 refine eX ?_
 refine cX h rfl ?_ ?_
 intro hc2 h
 refine bR ?_
 refine eX ?_
 obtain rfl := eI h; exact z06 eK
 intro hc2 h
 refine z0g ?_
 refine cBx ?_
 refine bR ?_
 refine eX ?_
 obtain rfl := eI h; exact z06 eK
noncomputable def z7i (a0 : (List (Str × V))) (a1 : Str) (g1 : Int → Int → Option (Int × Bool)) (s1 s2 : Int) : Option (Int × Bool) :=
 bif (decide (s1 < s2)) then (
 (z82 a0 (IntKind.i64.wrap (zoj .u64 (IntKind.u64.wrap (IntKind.i64.wrap (s1 + s2))) 1))).bind fun x4 =>
 (zp3 x4 a1).bind fun x5 =>
 bif (decide (x5 < 0)) then (
 g1 (IntKind.i64.wrap ((IntKind.i64.wrap (zoj .u64 (IntKind.u64.wrap (IntKind.i64.wrap (s1 + s2))) 1)) + 1)) s2
 ) else (
 g1 s1 (IntKind.i64.wrap (zoj .u64 (IntKind.u64.wrap (IntKind.i64.wrap (s1 + s2))) 1))
 )
 ) else (
 bif (decide (s1 < (((a0).length : Nat) : Int))) then (
 (z82 a0 s1).bind fun x8 =>
 (zp3 x8 a1).bind fun x9 =>
 some (s1, (x9 == 0))
 ) else (
 some (s1, false)
 )
 )
theorem zp0 (g1 : OF ρ → Int → Int → Option (Int × Bool)) (h_g1 : ∀ y0 y1, CM (fun G => g1 G y0 y1)) (a0 : (List (Str × V))) (a1 : Str) (s1 s2 : Int) : CM (fun G : OF ρ => z7i a0 a1 (g1 G) s1 s2) := by
 simp only [z7i]
 repeat (first | exact z0i | exact h_g1 _ _ | refine z18 ?_ ?_ | refine z19 ?_ (fun _ => ?_))
noncomputable def ziv (a0 : (List (Str × V))) (a1 : Str) (s1 s2 : Int) : Option (Int × Bool) :=
 z3q (ι := (Int × Int)) (ρ := fun _ => (Int × Bool)) (fun g i => z7i a0 a1 (fun s1 s2 => g (s1, s2)) i.1 i.2) (s1, s2)
theorem ziu (a0 : (List (Str × V))) (a1 : Str) (s1 s2 : Int) : ziv a0 a1 s1 s2 = z7i a0 a1 (ziv a0 a1) s1 s2 :=
 z1j (ι := (Int × Int)) (ρ := fun _ => (Int × Bool)) (Φ := fun g i => z7i a0 a1 (fun s1 s2 => g (s1, s2)) i.1 i.2) (fun i => zp0 (ι := (Int × Int)) (ρ := fun _ => (Int × Bool)) (fun g => (fun s1 s2 => g (s1, s2))) (fun _ _ => z1l) a0 a1 i.1 i.2) (s1, s2)
noncomputable def zwd (a0 : (List (Str × V))) (a1 : Str) : Option (Int × Bool) :=
 ziv a0 a1 0 (((a0).length : Nat) : Int)
theorem Z7v (a0 : (List (Str × V))) (a1 : Str) (r : (Int × Bool)) (h : zwd a0 a1 = some r) : z0p Tryz.prog 124 [(PV.sl none 86 2 (List.map ofFld a0)), (ofStr a1), (PV.fn (.func 125) [] [])] (PV.tup [(I64 r.1), (BO r.2)]) := by
 unfold zwd at h
 refine z0j Tryz.func124 rfl Tryz.ntmps124 Tryz.results124 rfl (z0n ?_)
 change BW _ _ _ ⟨[(0, (PV.sl none 86 2 (List.map ofFld a0))), (1, (ofStr a1)), (2, (PV.fn (.func 125) [] []))], [], _⟩ _
 refine bR ?_
 refine sX ?_
 refine eX ?_
 refine bR ?_
 iterate 2 refine sX ?_
 refine eX ?_
 refine bR ?_
 iterate 2 refine sX ?_
 refine eX ?_
 refine z0f ?_
 refine z0o ?_
 refine cBx ?_
 unfold ziv at h
 refine lX (σ := (Int × Int)) (fun i => [(0, (PV.sl none 86 2 (List.map ofFld a0))), (1, (ofStr a1)), (2, (PV.fn (.func 125) [] [])), (8, (I64 ((((a0).length : Nat) : Int)))), (9, (I64 i.1)), (10, (I64 i.2))]) (fun i => []) (0, (((a0).length : Nat) : Int)) h ?_ ?_
 exact jN
 rintro g1_f ⟨s1, s2⟩ h; replace h : z7i a0 a1 (fun y0 y1 => g1_f (y0, y1)) s1 s2 = some r := h; unfold z7i at h
 change BW _ _ _ ⟨[(0, (PV.sl none 86 2 (List.map ofFld a0))), (1, (ofStr a1)), (2, (PV.fn (.func 125) [] [])), (8, (I64 ((((a0).length : Nat) : Int)))), (9, (I64 s1)), (10, (I64 s2))], [], _⟩ _
 refine z0f ?_
 refine bR ?_
 iterate 2 refine sX ?_
 refine eX ?_
 refine cX h rfl ?_ ?_
 intro hc3 h
 refine z0g ?_
 refine cBx ?_
 refine z0o ?_
 refine cBx ?_
 refine bR ?_
 iterate 3 refine sX ?_
 refine sS rfl rfl rfl (zj9 Tryz.underlying3 Tryz.underlying186 rfl rfl) ?_
 refine sS rfl rfl rfl ((zsu rfl rfl rfl (by decide)).cast (y := (PV.v (.int .u64 (zoj .u64 (IntKind.u64.wrap (IntKind.i64.wrap (s1 + s2))) 1)))) rfl rfl) ?_
 refine sS rfl rfl rfl (zj9 Tryz.underlying186 Tryz.underlying3 rfl rfl) ?_
 refine eX ?_
 refine bR ?_
 iterate 3 refine sX ?_
 obtain ⟨x4, hx4, h⟩ := obind h
 refine sS rfl rfl rfl (z26 Tryz.underlying68 z13 rfl rfl rfl hx4 rfl) ?_
 iterate 2 refine sX ?_
 obtain ⟨x5, hx5, h⟩ := obind h
 refine sS rfl rfl rfl (z6t rfl rfl zzu rfl (wkr (wkr .nil)) ⟨(z0m x4), ⟨rfl, trivial⟩⟩ (Z41 x4 a1 x5 hx5) rfl) ?_
 refine eX ?_
 refine cX h rfl ?_ ?_
 intro hc6 h
 refine z0l ?_
 iterate 2 refine sX ?_
 refine sX (z0h ?_)
 exact ⟨rfl, ((IntKind.i64.wrap ((IntKind.i64.wrap (zoj .u64 (IntKind.u64.wrap (IntKind.i64.wrap (s1 + s2))) 1)) + 1)), s2), h, jN⟩
 intro hc6 h
 refine z0l ?_
 refine sX ?_
 refine sX (z0h ?_)
 exact ⟨rfl, (s1, (IntKind.i64.wrap (zoj .u64 (IntKind.u64.wrap (IntKind.i64.wrap (s1 + s2))) 1))), h, jN⟩
 intro hc3 h
 refine z2b ?_
 refine cBx ?_
 refine bR ?_
 iterate 5 refine sX ?_
 refine z0t (t := 39) rfl ?_ ?_
 intro hb7; replace h := z10 hb7 h
 iterate 3 refine yX ?_
 obtain ⟨x8, hx8, h⟩ := obind h
 refine z23 rfl rfl rfl rfl rfl rfl (z26 Tryz.underlying68 z13 rfl rfl rfl hx8 rfl) ?_
 iterate 2 refine yX ?_
 obtain ⟨x9, hx9, h⟩ := obind h
 refine z23 rfl rfl rfl rfl rfl rfl (z6t rfl rfl zzu rfl (wkr (wkr .nil)) ⟨(z0m x8), ⟨rfl, trivial⟩⟩ (Z41 x8 a1 x9 hx9) rfl) ?_
 refine yX ?_
 iterate 2 refine sX ?_
 refine eX ?_
 obtain rfl := eI h; exact z06 eK
 intro hb7; replace h := z11 hb7 h
 iterate 8 refine nX ?_
 iterate 2 refine sX ?_
 refine eX ?_
 obtain rfl := eI h; exact z06 eK
noncomputable def zkw (a0 : (List (Str × V))) (a1 : Str) : Option (Int × Bool) :=
 (zwd a0 a1).bind fun x1 =>
 some (x1.1, x1.2)
theorem Z0j (a0 : (List (Str × V))) (a1 : Str) (r : (Int × Bool)) (h : zkw a0 a1 = some r) : z0p Tryz.prog 101 [(PV.sl none 86 2 (List.map ofFld a0)), (ofStr a1)] (PV.tup [(I64 r.1), (BO r.2)]) := by
 unfold zkw at h
 refine z0j Tryz.func101 rfl Tryz.ntmps101 Tryz.results101 rfl (z0n ?_)
 change BW _ _ _ ⟨[(0, (PV.sl none 86 2 (List.map ofFld a0))), (1, (ofStr a1))], [], _⟩ _
 refine bR ?_
 refine sX ?_
 refine eX ?_
 refine bR ?_
 iterate 2 refine sX ?_
 obtain ⟨x1, hx1, h⟩ := obind h
 refine sS rfl rfl rfl (z08 rfl Z5s rfl (wkr (wkr (wkr .nil))) ⟨(z05 z0m a0), ⟨rfl, ⟨rfl, trivial⟩⟩⟩ (Z7v a0 a1 x1 hx1) (z00 rfl (z00 rfl z04))) ?_
 iterate 3 refine sX ?_
 refine eX ?_
 obtain rfl := eI h; exact z06 eK
noncomputable def zf8 (a1 : S_api_Step) (x5 : ((List (Str × V)) × Bool)) (s6 : Bool) : Option (V × Int) :=
 bif s6 then (
 some (V.nil, 41)
 ) else (
 (zkw x5.1 a1.f_Name).bind fun x8 =>
 bif (!x8.2) then (
 some (V.nil, 40)
 ) else (
 (z82 x5.1 x8.1).bind fun x10 =>
 some (x10.2, 0)
 )
 )
noncomputable def zc7 (a0 : V) (a1 : S_api_Step) (s1 : Bool) : Option (V × Int) :=
 bif s1 then (
 bif (decide (a1.f_Index ≥ ((((a0).asList).length : Nat) : Int))) then (
 some (V.nil, 42)
 ) else (
 (z82 ((a0).asList) a1.f_Index).bind fun x4 =>
 some (x4, 0)
 )
 ) else (
 (zw3 a0).bind fun x5 =>
 bif (!x5.2) then (
 zf8 a1 x5 true
 ) else (
 zf8 a1 x5 a1.f_At
 )
 )
noncomputable def z7k (a0 : V) (a1 : S_api_Step) : Option (V × Int) :=
 bif (a0).isList then (
 zc7 a0 a1 a1.f_At
 ) else (
 zc7 a0 a1 false
 )
theorem zgk (a0 : V) (a1 : S_api_Step) (r : (V × Int)) (h : z7k a0 a1 = some r) : z0p Tryz.prog 64 [(ofV a0), (z01 a1)] (PV.tup [(ofV r.1), (I64 r.2)]) := by
 unfold z7k at h
 refine z0j Tryz.func64 rfl Tryz.ntmps64 Tryz.results64 rfl (z0n ?_)
 change BW _ _ _ ⟨[(0, (ofV a0)), (1, (z01 a1))], [], _⟩ _
 refine bR ?_
 iterate 2 refine sX ?_
 refine eX ?_
 refine z0f ?_
 refine bR ?_
 refine sX ?_
 refine sS rfl rfl rfl (z1x rfl rfl) ?_
 iterate 4 refine sX ?_
 refine eX ?_
 refine z2e (ι := Bool) (fun i => zc7 a0 a1 i = some r) (fun i => [(0, (ofV a0)), (3, (PV.rf 0 0)), (6, (PV.sl none 20 1 (List.map ofV (a0).asList))), (21, (BO i))]) (fun i => [.box 82 [(ofStr a1.f_Name), (BO a1.f_At), (I64 a1.f_Index)]]) ?_ ?_ ?_
 intro i; exact ⟨lbE rfl, ⟨(z07 (ids_V _)), ⟨(il_rf rfl), ⟨(z07 (z05 ids_V _)), ⟨(z07 rfl), trivial⟩⟩⟩⟩, ⟨⟨(z07 rfl), ⟨(z07 rfl), ⟨(z07 rfl), trivial⟩⟩⟩, trivial⟩⟩
 rintro s1 h; replace h : zc7 a0 a1 s1 = some r := h; unfold zc7 at h
 change BW _ _ _ ⟨[(0, (ofV a0)), (3, (PV.rf 0 0)), (6, (PV.sl none 20 1 (List.map ofV (a0).asList))), (21, (BO s1))], [.box 82 [(ofStr a1.f_Name), (BO a1.f_At), (I64 a1.f_Index)]], _⟩ _
 refine cX h rfl ?_ ?_
 intro hc2 h
 refine z0f ?_
 refine bR ?_
 iterate 4 refine sX ?_
 refine eX ?_
 refine cX h rfl ?_ ?_
 intro hc3 h
 refine bR ?_
 refine sX ?_
 refine eX ?_
 obtain rfl := eI h; exact z06 ⟨_, rfl, z0r (y := (PV.tup [(ofV V.nil), (I64 42)])) (Wk.tup (.cons (Wk.eq mk_nil.symm) (wkr .nil))) (z00 (ids_V V.nil) (z00 rfl z04)) ⟨rfl, rfl⟩⟩
 intro hc3 h
 refine z0g ?_
 refine cBx ?_
 refine bR ?_
 iterate 3 refine sX ?_
 obtain ⟨x4, hx4, h⟩ := obind h
 refine sS rfl rfl rfl (z26 Tryz.underlying66 z1v rfl rfl rfl hx4 rfl) ?_
 refine sS rfl rfl rfl (z4e (y := (ofV x4)) Tryz.underlying20 rfl rfl rfl (by rw [z0u]; rfl)) ?_
 refine sX ?_
 refine eX ?_
 obtain rfl := eI h; exact z06 ⟨_, rfl, z0r (y := (PV.tup [(ofV x4), (I64 0)])) (Wk.refl _) (z00 (ids_V x4) (z00 rfl z04)) ⟨rfl, rfl⟩⟩
 intro hc2 h
 refine z0g ?_
 refine cBx ?_
 refine bR ?_
 refine sX ?_
 obtain ⟨x5, hx5, h⟩ := obind h
 refine sS rfl rfl rfl (z08 rfl Z62 rfl (wkr .nil) ⟨(ids_V a0), trivial⟩ (Z7e a0 x5 hx5) (z00 (z05 z0m x5.1) (z00 rfl z04))) ?_
 iterate 4 refine sX ?_
 refine eX ?_
 refine z0f ?_
 refine jX (ι := Bool) (fun i => zf8 a1 x5 i = some r) (fun i => [(3, (PV.rf 0 0)), (8, (PV.sl none 86 2 (List.map ofFld x5.1))), (42, (BO i))]) (fun i => [.box 82 [(ofStr a1.f_Name), (BO a1.f_At), (I64 a1.f_Index)]]) ?_ ?_
 rintro s6 h; replace h : zf8 a1 x5 s6 = some r := h; unfold zf8 at h
 change BW _ _ _ ⟨[(3, (PV.rf 0 0)), (8, (PV.sl none 86 2 (List.map ofFld x5.1))), (42, (BO s6))], [.box 82 [(ofStr a1.f_Name), (BO a1.f_At), (I64 a1.f_Index)]], _⟩ _
 refine cX h rfl ?_ ?_
 intro hc7 h
 refine bR ?_
 refine sX ?_
 refine eX ?_
 obtain rfl := eI h; exact z06 ⟨_, rfl, z0r (y := (PV.tup [(ofV V.nil), (I64 41)])) (Wk.tup (.cons (Wk.eq mk_nil.symm) (wkr .nil))) (z00 (ids_V V.nil) (z00 rfl z04)) ⟨rfl, rfl⟩⟩
 intro hc7 h
 refine z0g ?_
 refine cBx ?_
 refine bR ?_
 iterate 3 refine sX ?_
 obtain ⟨x8, hx8, h⟩ := obind h
 refine sS rfl rfl rfl (z08 rfl zue rfl (wkr (wkr .nil)) ⟨(z05 z0m x5.1), ⟨rfl, trivial⟩⟩ (Z0j x5.1 a1.f_Name x8 hx8) (z00 rfl (z00 rfl z04))) ?_
 iterate 4 refine sX ?_
 refine eX ?_
 refine z0f ?_
 refine bR ?_
 refine sX ?_
 refine eX ?_
 refine cX h rfl ?_ ?_
 intro hc9 h
 refine bR ?_
 refine sX ?_
 refine eX ?_
 obtain rfl := eI h; exact z06 ⟨_, rfl, z0r (y := (PV.tup [(ofV V.nil), (I64 40)])) (Wk.tup (.cons (Wk.eq mk_nil.symm) (wkr .nil))) (z00 (ids_V V.nil) (z00 rfl z04)) ⟨rfl, rfl⟩⟩
 intro hc9 h
 refine z0g ?_
 refine cBx ?_
 refine bR ?_
 iterate 2 refine sX ?_
 obtain ⟨x10, hx10, h⟩ := obind h
 refine sS rfl rfl rfl (z26 Tryz.underlying68 z13 rfl rfl rfl hx10 rfl) ?_
 iterate 3 refine sX ?_
 refine eX ?_
 obtain rfl := eI h; exact z06 ⟨_, rfl, z0r (y := (PV.tup [(ofV x10.2), (I64 0)])) (Wk.refl _) (z00 (ids_V x10.2) (z00 rfl z04)) ⟨rfl, rfl⟩⟩
 refine z0l ?_
 iterate 3 refine sX ?_
 refine z0t (t := 39) rfl ?_ ?_
 intro hb11; replace h := z10 hb11 h
 iterate 2 refine nX ?_
 refine sX (z0h ?_)
 exact ⟨rfl, true, h, jN⟩
 intro hb11; replace h := z11 hb11 h
 iterate 2 refine yX ?_
 refine sX (z0h ?_)
 exact ⟨rfl, a1.f_At, h, jN⟩
 refine z0l ?_
 iterate 2 refine sX ?_
 refine z0t (t := 18) rfl ?_ ?_
 intro hb12; replace h := z10 hb12 h
 iterate 2 refine yX ?_
 refine sX (z0h ?_)
 exact ⟨rfl, a1.f_At, h, jN⟩
 intro hb12; replace h := z11 hb12 h
 iterate 2 refine nX ?_
 refine sX (z0h ?_)
 exact ⟨rfl, false, h, jN⟩
noncomputable def zpe (a0 : (List V)) : Option (List V) :=
 (zch 16 ([] : (List V)) a0).bind fun x2 =>
 some x2
theorem Z49 (a0 r : (List V)) (h : zpe a0 = some r) : z2t Tryz.prog 98 [(PV.sl none 20 1 (List.map ofV a0))] [] (PV.rs 0 0 (r).length 20 1) [rowM ofV 20 r] := by
 unfold zpe at h
 refine z0j Tryz.func98 rfl Tryz.ntmps98 Tryz.results98 rfl (z0n ?_)
 change BW _ _ _ ⟨[(0, (PV.sl none 20 1 (List.map ofV a0)))], [], _⟩ _
 refine bR ?_
 refine sS rfl rfl rfl ((z7p (e := 20) (sz := 1) (.inl rfl) rfl).cast (y := (PV.rs 0 0 (([] : (List V))).length 20 1)) (H'' := [rowM ofV 20 ([] : (List V))]) rfl rfl) (z0h ?_)
 refine cBx ?_
 refine z0f ?_
 refine bR ?_
 refine sX ?_
 refine zeu rfl rfl rfl Tryz.underlying66 rfl rfl ?_
 intro nb1 hnb1
 refine z0h ?_
 refine cBx ?_
 cases nb1
 refine zd4 rfl ?_
 refine z0g ?_
 refine cBx ?_
 refine bR ?_
 refine sS rfl rfl rfl ((zgw (xs := []) Tryz.underlying66 z1v rfl rfl rfl rfl rfl rfl rfl ⟨lbE rfl, lbE rfl⟩ rfl).cast (y := (PV.rs 1 0 (([] : (List V))).length 20 1)) (H'' := [rowM ofV 20 ([] : (List V)), rowM ofV 20 ([] : (List V))]) rfl rfl) ?_
 refine sX ?_
 obtain ⟨x2, hx2, h⟩ := obind h
 refine sS rfl rfl rfl (zar (f := ofV) (l := ([] : (List V))) Tryz.underlying66 z1v rfl rfl Tryz.underlying66 rfl rfl rfl rfl rfl csz_V z7x hx2 rfl) ?_
 refine eX ?_
 obtain rfl := eI h; exact z06 ⟨_, rfl, znv (y := (PV.rs 2 0 (x2).length 20 1)) [2] rfl (Wk.refl _) (.rs rfl) (.cons rfl (.same (z4k ids_V)) .nil) ⟨rfl, rfl⟩⟩
 have hz := List.map_eq_nil_iff.1 (hnb1 rfl)
 rw [hz] at h
 replace h : some ([] : (List V)) = some r := h
 refine zd3 rfl ?_
 refine bR ?_
 refine sS rfl rfl rfl ((z7p (e := 20) (sz := 1) (.inl rfl) rfl).cast (y := (PV.rs 1 0 (([] : (List V))).length 20 1)) (H'' := [rowM ofV 20 ([] : (List V)), rowM ofV 20 ([] : (List V))]) rfl rfl) (z0h ?_)
 refine cBx ?_
 obtain rfl := eI h; exact z06 ⟨_, rfl, znv (y := (PV.rs 1 0 (([] : (List V))).length 20 1)) [1] rfl (Wk.refl _) (.rs rfl) (.cons rfl (.same (z4k ids_V)) .nil) ⟨rfl, rfl⟩⟩
noncomputable def zpg (a0 : (List (Str × V))) : Option (List (Str × V)) :=
 (zch 32 ([] : (List (Str × V))) a0).bind fun x2 =>
 some x2
theorem Z4b (a0 r : (List (Str × V))) (h : zpg a0 = some r) : z2t Tryz.prog 104 [(PV.sl none 86 2 (List.map ofFld a0))] [] (PV.rs 0 0 (r).length 86 2) [rowM ofFld 86 r] := by
 unfold zpg at h
 refine z0j Tryz.func104 rfl Tryz.ntmps104 Tryz.results104 rfl (z0n ?_)
 change BW _ _ _ ⟨[(0, (PV.sl none 86 2 (List.map ofFld a0)))], [], _⟩ _
 refine bR ?_
 refine sS rfl rfl rfl ((z7p (e := 86) (sz := 2) (.inl rfl) rfl).cast (y := (PV.rs 0 0 (([] : (List (Str × V)))).length 86 2)) (H'' := [rowM ofFld 86 ([] : (List (Str × V)))]) rfl rfl) (z0h ?_)
 refine cBx ?_
 refine z0f ?_
 refine bR ?_
 refine sX ?_
 refine zeu rfl rfl rfl Tryz.underlying68 rfl rfl ?_
 intro nb1 hnb1
 refine z0h ?_
 refine cBx ?_
 cases nb1
 refine zd4 rfl ?_
 refine z0g ?_
 refine cBx ?_
 refine bR ?_
 refine sS rfl rfl rfl ((zgw (xs := []) Tryz.underlying68 z13 rfl rfl rfl rfl rfl rfl rfl ⟨lbE rfl, lbE rfl⟩ rfl).cast (y := (PV.rs 1 0 (([] : (List (Str × V)))).length 86 2)) (H'' := [rowM ofFld 86 ([] : (List (Str × V))), rowM ofFld 86 ([] : (List (Str × V)))]) rfl rfl) ?_
 refine sX ?_
 obtain ⟨x2, hx2, h⟩ := obind h
 refine sS rfl rfl rfl (zar (f := ofFld) (l := ([] : (List (Str × V)))) Tryz.underlying68 z13 rfl rfl Tryz.underlying68 rfl rfl rfl rfl rfl z7w z75 hx2 rfl) ?_
 refine eX ?_
 obtain rfl := eI h; exact z06 ⟨_, rfl, znv (y := (PV.rs 2 0 (x2).length 86 2)) [2] rfl (Wk.refl _) (.rs rfl) (.cons rfl (.same (z4k z0m)) .nil) ⟨rfl, rfl⟩⟩
 have hz := List.map_eq_nil_iff.1 (hnb1 rfl)
 rw [hz] at h
 replace h : some ([] : (List (Str × V))) = some r := h
 refine zd3 rfl ?_
 refine bR ?_
 refine sS rfl rfl rfl ((z7p (e := 86) (sz := 2) (.inl rfl) rfl).cast (y := (PV.rs 1 0 (([] : (List (Str × V)))).length 86 2)) (H'' := [rowM ofFld 86 ([] : (List (Str × V))), rowM ofFld 86 ([] : (List (Str × V)))]) rfl rfl) (z0h ?_)
 refine cBx ?_
 obtain rfl := eI h; exact z06 ⟨_, rfl, znv (y := (PV.rs 1 0 (([] : (List (Str × V)))).length 86 2)) [1] rfl (Wk.refl _) (.rs rfl) (.cons rfl (.same (z4k z0m)) .nil) ⟨rfl, rfl⟩⟩
noncomputable def zp9 (a0 : (List (Str × V))) (a1 : Str) (a2 : V) : Option (List (Str × V)) :=
 (zpg a0).bind fun x1 =>
 (zkw x1 a1).bind fun x2 =>
 bif x2.2 then (
 (z82 x1 x2.1).bind fun x4 =>
 some ((x1).set ((x2.1).toNat) (x4.1, a2))
 ) else (
 (Z3b 32 x1 x2.1 (a1, a2)).bind fun x5 =>
 some x5
 )
theorem Z45 (a0 : (List (Str × V))) (a1 : Str) (a2 : V) (r : (List (Str × V))) (h : zp9 a0 a1 a2 = some r) : z0p Tryz.prog 99 [(PV.sl none 86 2 (List.map ofFld a0)), (ofStr a1), (ofV a2)] (PV.sl none 86 2 (List.map ofFld r)) := by
 unfold zp9 at h
 refine z0j Tryz.func99 rfl Tryz.ntmps99 Tryz.results99 rfl (z0n ?_)
 change BW _ _ _ ⟨[(0, (PV.sl none 86 2 (List.map ofFld a0))), (1, (ofStr a1)), (2, (ofV a2))], [], _⟩ _
 refine bR ?_
 refine sS rfl rfl rfl ((z7p (e := 86) (sz := 2) (.inl rfl) rfl).cast (y := (PV.rs 0 0 (([] : (List (Str × V)))).length 86 2)) (H'' := [rowM ofFld 86 ([] : (List (Str × V)))]) rfl rfl) (z0h ?_)
 refine cBx ?_
 refine bR ?_
 refine sX ?_
 obtain ⟨x1, hx1, h⟩ := obind h
 refine sS rfl rfl rfl (z4m rfl zzx rfl (wkr .nil) ⟨(z05 z0m a0), trivial⟩ (Z4b a0 x1 hx1) zvm (zgn (z4k z0m) (zmw))) ?_
 refine eX ?_
 refine bR ?_
 iterate 2 refine sX ?_
 obtain ⟨x2, hx2, h⟩ := obind h
 refine sS rfl rfl rfl (zt0 rfl zue rfl (.cons (.row (f := ofFld) (l := x1) rfl rfl z7w rfl z0m) (.cons (.ha (.wk (Wk.refl _) rfl)) .nil)) (Z0j x1 a1 x2 hx2) (Sc.tup (zqy Sc.v (zqy Sc.v Z3v)))) ?_
 iterate 4 refine sX ?_
 refine eX ?_
 refine z0f ?_
 refine bR ?_
 refine eX ?_
 refine cX h rfl ?_ ?_
 intro hc3 h
 refine bR ?_
 iterate 3 refine sX ?_
 obtain ⟨x4, hx4, h⟩ := obind h
 refine sS rfl rfl rfl (ze5 (l := x1) Tryz.underlying68 z13 rfl rfl rfl rfl hx4) ?_
 refine sS rfl rfl rfl ((zt7 z9g (i := 1) rfl rfl rfl).cast (y := (PV.rf 1 ((x2.1).toNat * 2 + 1))) rfl rfl) ?_
 refine z14 rfl rfl (zsv (f := ofFld) (a' := (x4.1, a2)) z1v rfl rfl rfl rfl (z71 hx4).2 z7w rfl (q := 1) rfl (z2l _) (csz_V _) rfl (z7x _) (by simp only [z0u]; rfl)) ?_
 refine z0h ?_
 refine cBx ?_
 refine bR ?_
 refine sX ?_
 refine eX ?_
 refine zfz (f := ofFld) (l := ((x1).set ((x2.1).toNat) (x4.1, a2))) 6 1 rfl (by simp only [List.length_set]) rfl z7w rfl ?_
 obtain rfl := eI h; exact z06 ⟨_, rfl, z0r (y := (PV.sl none 86 2 (List.map ofFld ((x1).set ((x2.1).toNat) (x4.1, a2))))) (Wk.refl _) (z05 z0m ((x1).set ((x2.1).toNat) (x4.1, a2))) ⟨rfl, rfl⟩⟩
 intro hc3 h
 refine z0g ?_
 refine cBx ?_
 refine bR ?_
 iterate 4 refine sX ?_
 refine sS rfl rfl rfl (z12 (cs := [(ofStr a1), (ofV a2)]) z9g z13 rfl rfl (by simp only [List.all_cons, List.all_nil, z2l, z16, Bool.and_true, Bool.true_and]; try rfl) (by simp only [z2c, List.getElem?_cons_zero, List.getElem?_cons_succ, z0u, z0k]; rfl)) ?_
 refine sS rfl rfl rfl ((zgw (xs := [(PV.agg [(ofStr a1), (ofV a2)])]) Tryz.underlying67 z13 rfl rfl rfl rfl (by simp only [List.all_cons, List.all_nil, z2l, z16, Bool.and_true, Bool.true_and]; try rfl) (by simp only [List.all_cons, List.all_nil, csz_V, z2p, z0u, z0k]; try rfl) rfl ⟨lbE rfl, lbE rfl⟩ (by simp only [z8y, z2c, List.flatMap_cons, List.flatMap_nil, z0u, z0k]; try rfl)).cast (y := (PV.rs 2 0 (([(a1, a2)] : (List (Str × V)))).length 86 2)) (H'' := [rowM ofFld 86 ([] : (List (Str × V))), rowM ofFld 86 x1, rowM ofFld 86 ([(a1, a2)] : (List (Str × V)))]) rfl rfl) ?_
 obtain ⟨x5, hx5, h⟩ := obind h
 refine sS rfl rfl rfl (zwh (f := ofFld) (l := x1) (a := (a1, a2)) Z1w Z5t rfl rfl rfl rfl rfl rfl rfl rfl z7w z75 rfl hx5) ?_
 refine eX ?_
 obtain rfl := eI h; exact z06 ⟨_, rfl, z0r (y := (PV.sl none 86 2 (List.map ofFld x5))) (Wk.refl _) (z05 z0m x5) ⟨rfl, rfl⟩⟩
noncomputable def zan (a0 : V) (a1 : S_api_Step) (a2 : V) : Option V :=
 bif (a0).isList then (
 (zpe ((a0).asList)).bind fun x2 =>
 bif (a1.f_Index == (((x2).length : Nat) : Int)) then (
 (zch 16 x2 ([a2] : (List V))).bind fun x4 =>
 some (V.list x4)
 ) else (
 (z82 x2 a1.f_Index).bind fun x5 =>
 some (V.list ((x2).set ((a1.f_Index).toNat) a2))
 )
 ) else (
 bif (a0).isDict then (
 (zp9 ((a0).asDict) a1.f_Name a2).bind fun x7 =>
 some (V.dict x7)
 ) else (
 bif (a0).isRec then (
 ((a0).asRec).bind fun x9 =>
 (zp9 x9.fields a1.f_Name a2).bind fun x10 =>
 some (V.record x9.cls x9.ver x10)
 ) else (
 some a0
 )
 )
 )
theorem zr3 (a0 : V) (a1 : S_api_Step) (a2 r : V) (h : zan a0 a1 a2 = some r) : z0p Tryz.prog 62 [(ofV a0), (z01 a1), (ofV a2)] (ofV r) := by
 unfold zan at h
 refine z0j Tryz.func62 rfl Tryz.ntmps62 Tryz.results62 rfl (z0n ?_)
 change BW _ _ _ ⟨[(0, (ofV a0)), (1, (z01 a1)), (2, (ofV a2))], [], _⟩ _
 refine bR ?_
 refine sX ?_
 refine eX ?_
 refine z0f ?_
 refine bR ?_
 refine eX ?_
 refine z0o ?_
 refine cBx ?_
 refine bR ?_
 refine sS rfl rfl rfl (z1x rfl rfl) ?_
 refine sX ?_
 refine eX ?_
 refine cX h rfl ?_ ?_
 intro hc1 h
 refine bR ?_
 refine eX ?_
 refine bR ?_
 refine sX ?_
 obtain ⟨x2, hx2, h⟩ := obind h
 refine sS rfl rfl rfl (z4m rfl Z5e rfl (wkr .nil) ⟨(z05 ids_V ((a0).asList)), trivial⟩ (Z49 ((a0).asList) x2 hx2) zvm (zgn (z4k ids_V) (zmw))) ?_
 refine eX ?_
 refine z0f ?_
 refine bR ?_
 iterate 3 refine sX ?_
 refine sS rfl rfl rfl (zn5 Tryz.underlying66 rfl rfl) ?_
 refine eX ?_
 refine cX h rfl ?_ ?_
 intro hc3 h
 refine bR ?_
 iterate 2 refine sX ?_
 refine sS rfl rfl rfl ((z1a (xs := [(ofV a2)]) Tryz.underlying66 z1v rfl rfl rfl (by simp only [List.all_cons, List.all_nil, z2l, z16, Bool.and_true, Bool.true_and]; try rfl) (by simp only [List.all_cons, List.all_nil, csz_V, z2p, z0u, z0k]; try rfl) rfl ⟨lbE rfl, lbE rfl⟩ (by simp only [z8y, z2c, List.flatMap_cons, List.flatMap_nil, z0u, z0k]; try rfl)).cast (y := (PV.sl (some 2) 20 1 (List.map ofV ([a2] : (List V))))) rfl rfl) ?_
 obtain ⟨x4, hx4, h⟩ := obind h
 refine sS rfl rfl rfl (zar (f := ofV) (l := x2) Tryz.underlying66 z1v rfl rfl Tryz.underlying66 rfl rfl rfl rfl rfl csz_V z7x hx4 rfl) ?_
 refine zqb (s := ⟨_, _, _⟩) (f := ofV) (l := x4) 25 3 rfl rfl rfl csz_V rfl ?_
 refine sS rfl rfl rfl ((z15 Tryz.underlying66 rfl rfl rfl).wk ((Wk.iface (Wk.refl _)).trans (Wk.eq (zby _).symm))) ?_
 refine eX ?_
 obtain rfl := eI h; exact z06 ⟨_, rfl, z0r (y := (ofV (V.list x4))) (Wk.refl _) (ids_V (V.list x4)) ⟨rfl, rfl⟩⟩
 intro hc3 h
 refine z0g ?_
 refine cBx ?_
 refine bR ?_
 iterate 4 refine sX ?_
 obtain ⟨x5, hx5, h⟩ := obind h
 refine sS rfl rfl rfl (ze5 (l := x2) Tryz.underlying66 z1v rfl rfl rfl rfl hx5) ?_
 refine z14 rfl rfl (zsv (f := ofV) (a' := a2) z1v rfl rfl rfl rfl (z71 hx5).2 csz_V rfl (q := 0) rfl (z2l _) (csz_V _) rfl (z7x _) (by simp only [z0u]; rfl)) ?_
 refine z0h ?_
 refine cBx ?_
 refine z0f ?_
 refine zfz (f := ofV) (l := ((x2).set ((a1.f_Index).toNat) a2)) 8 1 rfl (by simp only [List.length_set]) rfl csz_V rfl ?_
 refine z0l ?_
 refine sX ?_
 refine sS rfl rfl rfl ((z15 Tryz.underlying66 rfl rfl rfl).wk ((Wk.iface (Wk.refl _)).trans (Wk.eq (zby _).symm))) ?_
 refine eX ?_
 obtain rfl := eI h; exact z06 ⟨_, rfl, z0r (y := (ofV (V.list ((x2).set ((a1.f_Index).toNat) a2)))) (Wk.refl _) (ids_V (V.list ((x2).set ((a1.f_Index).toNat) a2))) ⟨rfl, rfl⟩⟩
 intro hc1 h
 refine bR ?_
 refine sS rfl rfl rfl (z2v rfl rfl) ?_
 refine sX ?_
 refine eX ?_
 refine cX h rfl ?_ ?_
 intro hc6 h
 refine bR ?_
 refine eX ?_
 refine bR ?_
 iterate 4 refine sX ?_
 obtain ⟨x7, hx7, h⟩ := obind h
 refine sS rfl rfl rfl (z08 rfl Z5d rfl (wkr (wkr (wkr .nil))) ⟨(z05 z0m ((a0).asDict)), ⟨rfl, ⟨(ids_V a2), trivial⟩⟩⟩ (Z45 ((a0).asDict) a1.f_Name a2 x7 hx7) (z05 z0m x7)) ?_
 refine sS rfl rfl rfl ((z15 Tryz.underlying68 rfl rfl rfl).wk ((Wk.iface (Wk.refl _)).trans (Wk.eq (z4t _).symm))) ?_
 refine eX ?_
 obtain rfl := eI h; exact z06 ⟨_, rfl, z0r (y := (ofV (V.dict x7))) (Wk.refl _) (ids_V (V.dict x7)) ⟨rfl, rfl⟩⟩
 intro hc6 h
 refine bR ?_
 refine sS rfl rfl rfl (z3g rfl rfl) ?_
 refine sX ?_
 refine eX ?_
 refine cX h rfl ?_ ?_
 intro hc8 h
 refine bR ?_
 refine eX ?_
 refine z0f (z1w 16 [] [0] mo (by kernel_rfl) ?_)
 refine gX ?_
 obtain ⟨x9, hx9, h⟩ := obind h
 refine z1r rfl rfl rfl rfl (fun H hp => z1o rfl rfl hx9) ?_
 iterate 3 refine gX ?_
 refine z1r rfl rfl rfl rfl (fun H hp => z1o rfl rfl hx9) ?_
 iterate 3 refine gX ?_
 refine z1r rfl rfl rfl rfl (fun H hp => z1o rfl rfl hx9) ?_
 iterate 5 refine gX ?_
 obtain ⟨x10, hx10, h⟩ := obind h
 refine z1r rfl rfl rfl rfl (fun H hp => z08 rfl Z5d rfl (wkr (wkr (wkr .nil))) ⟨(z05 z0m x9.fields), ⟨rfl, ⟨(ids_V a2), trivial⟩⟩⟩ (Z45 x9.fields a1.f_Name a2 x10 hx10) (z05 z0m x10)) ?_
 refine z20 ?_
 change AO _ _ _ _ _
 refine sS rfl rfl rfl (z12 (cs := [(ofStr x9.cls), (I64 x9.ver), (PV.sl none 86 2 (List.map ofFld x10))]) zkl zfu rfl rfl rfl rfl) ?_
 refine sX ?_
 refine sS rfl rfl rfl (z15 Tryz.underlying70 rfl rfl rfl) ?_
 refine eX ?_
 refine z4v 1 6 (y := (ofV (V.record x9.cls x9.ver x10))) rfl rfl ((Wk.iface (Wk.pt (x := .agg [(ofStr x9.cls), (I64 x9.ver), (PV.sl none 86 2 (List.map ofFld x10))]) (y := zgy (Rec.mk x9.cls x9.ver x10)) (wkr (wkr (wkr .nil))))).trans (Wk.eq (zfp (some (Rec.mk x9.cls x9.ver x10))).symm)) ?_
 obtain rfl := eI h; exact z06 ⟨_, rfl, z0r (y := (ofV (V.record x9.cls x9.ver x10))) (Wk.refl _) (ids_V (V.record x9.cls x9.ver x10)) ⟨rfl, rfl⟩⟩
 intro hc8 h
 refine z0g ?_
 refine cBx ?_
 refine bR ?_
 refine sX ?_
 refine eX ?_
 obtain rfl := eI h; exact z06 ⟨_, rfl, z0r (y := (ofV a0)) (Wk.refl _) (ids_V a0) ⟨rfl, rfl⟩⟩
noncomputable def zw1 (a0 : V) (a1 : S_api_Step) (a2 : S_api_Edit) : Option V :=
 (zan a0 a1 a2.f_Value).bind fun x1 =>
 some x1
theorem Z7c (a0 : V) (a1 : S_api_Step) (a2 : S_api_Edit) (r : V) (h : zw1 a0 a1 a2 = some r) : z0p Tryz.prog 61 [(ofV a0), (z01 a1), (PV.pt 49 (z0b a2) 0)] (ofV r) := by
 unfold zw1 at h
 refine z0j Tryz.func61 rfl Tryz.ntmps61 Tryz.results61 rfl (z0n ?_)
 change BW _ _ _ ⟨[(0, (ofV a0)), (1, (z01 a1)), (2, (PV.pt 49 (z0b a2) 0))], [], _⟩ _
 refine bR ?_
 refine sX ?_
 refine eX ?_
 refine bR ?_
 iterate 4 refine sX ?_
 obtain ⟨x1, hx1, h⟩ := obind h
 refine sS rfl rfl rfl (z08 rfl zu9 rfl (wkr (wkr (wkr .nil))) ⟨(ids_V a0), ⟨(z02 a1), ⟨(ids_V a2.f_Value), trivial⟩⟩⟩ (zr3 a0 a1 a2.f_Value x1 hx1) (ids_V x1)) ?_
 refine eX ?_
 obtain rfl := eI h; exact z06 ⟨_, rfl, z0r (y := (ofV x1)) (Wk.refl _) (ids_V x1) ⟨rfl, rfl⟩⟩
noncomputable def ziq (a0 : V) (a3c0 : S_api_Edit) (x1 : S_api_Step) (s4 : Int) : Option (V × Int) :=
 bif (s4 != 0) then (
 some (V.nil, s4)
 ) else (
 (zw1 a0 x1 a3c0).bind fun x6 =>
 some (x6, 0)
 )
noncomputable def zce (a0 : V) (a3c0 : S_api_Edit) (x1 : S_api_Step) (x3 : (V × Int)) (s7 : Bool) : Option (V × Int) :=
 bif s7 then (
 ziq a0 a3c0 x1 0
 ) else (
 ziq a0 a3c0 x1 x3.2
 )
noncomputable def zq8 (r_q09 : V → (List S_api_Step) → Bool → S_api_Edit → Option (V × Int)) (a0 : V) (a1 : (List S_api_Step)) (a2 : Bool) (a3c0 : S_api_Edit) : Option (V × Int) :=
 ((a1)[0]?).bind fun x1 =>
 bif ((((a1).length : Nat) : Int) == 1) then (
 (z7k a0 x1).bind fun x3 =>
 bif a2 then (
 bif (x3.2 == 40) then (
 zce a0 a3c0 x1 x3 true
 ) else (
 bif (x3.2 == 42) then (
 bif (a0).isList then (
 zce a0 a3c0 x1 x3 (x1.f_Index == ((((a0).asList).length : Nat) : Int))
 ) else (
 zce a0 a3c0 x1 x3 false
 )
 ) else (
 zce a0 a3c0 x1 x3 false
 )
 )
 ) else (
 zce a0 a3c0 x1 x3 false
 )
 ) else (
 (z7k a0 x1).bind fun x13 =>
 bif (x13.2 != 0) then (
 some (V.nil, x13.2)
 ) else (
 (zhi a1 1 ((a1).length : Int)).bind fun x15 =>
 (r_q09 x13.1 x15 a2 a3c0).bind fun x16 =>
 bif (x16.2 != 0) then (
 some (V.nil, x16.2)
 ) else (
 (zan a0 x1 x16.1).bind fun x18 =>
 some (x18, 0)
 )
 )
 )
theorem zyl (r_q09 : OF ρ → V → (List S_api_Step) → Bool → S_api_Edit → Option (V × Int)) (h_r_q09 : ∀ y0 y1 y2 y3, CM (fun G => r_q09 G y0 y1 y2 y3)) (a0 : V) (a1 : (List S_api_Step)) (a2 : Bool) (a3c0 : S_api_Edit) : CM (fun G : OF ρ => zq8 (r_q09 G) a0 a1 a2 a3c0) := by
 simp only [zq8]
 repeat (first | exact z0i | exact h_r_q09 _ _ _ _ | apply q09_j2_cm | refine z18 ?_ ?_ | refine z19 ?_ (fun _ => ?_) | intro _ | assumption)
inductive C_q09 where
 | k_q09 (a0 : V) (a1 : (List S_api_Step)) (a2 : Bool) (a3c0 : S_api_Edit)
def C_q09.R : C_q09 → Type
 | .k_q09 _ _ _ _ => (V × Int)
noncomputable def C_q09.F (g : ∀ i : C_q09, Option i.R) : ∀ i : C_q09, Option i.R
 | .k_q09 a0 a1 a2 a3c0 => zq8 (fun a0 a1 a2 a3c0 => g (.k_q09 a0 a1 a2 a3c0)) a0 a1 a2 a3c0
noncomputable def zpd (a0 : V) (a1 : (List S_api_Step)) (a2 : Bool) (a3c0 : S_api_Edit) : Option (V × Int) := z3q C_q09.F (.k_q09 a0 a1 a2 a3c0)
abbrev Zai := fun (g : ∀ i : C_q09, Option i.R) a0 a1 a2 a3c0 => g (.k_q09 a0 a1 a2 a3c0)
theorem Zad (a0 a1 a2 a3c0 : _) : CM (ρ := C_q09.R) (fun g => g (C_q09.k_q09 a0 a1 a2 a3c0)) := z1l
theorem C_q09.cm (i : C_q09) : CM (fun g : (∀ i : C_q09, Option i.R) => C_q09.F g i) := by
 cases i with
 | k_q09 a0 a1 a2 a3c0 => exact zyl Zai Zad a0 a1 a2 a3c0
theorem Z93 (a0 : V) (a1 : (List S_api_Step)) (a2 : Bool) (a3c0 : S_api_Edit) : zpd a0 a1 a2 a3c0 = zq8 zpd a0 a1 a2 a3c0 := z1j C_q09.cm (.k_q09 a0 a1 a2 a3c0)
def C_q09.Q : ∀ i : C_q09, i.R → Prop
 | .k_q09 a0 a1 a2 a3c0 => fun (r : (V × Int)) => z0p Tryz.prog 60 [(ofV a0), (PV.sl none 82 3 (List.map z01 a1)), (BO a2), (PV.fn (.func 61) [] [(PV.pt 49 (z0b a3c0) 0)])] (PV.tup [(ofV r.1), (I64 r.2)])
theorem z5q (r_q09 : V → (List S_api_Step) → Bool → S_api_Edit → Option (V × Int)) (c_q09 : ∀ (a0 : V) (a1 : (List S_api_Step)) (a2 : Bool) (a3c0 : S_api_Edit) r, r_q09 a0 a1 a2 a3c0 = some r → z0p Tryz.prog 60 [(ofV a0), (PV.sl none 82 3 (List.map z01 a1)), (BO a2), (PV.fn (.func 61) [] [(PV.pt 49 (z0b a3c0) 0)])] (PV.tup [(ofV r.1), (I64 r.2)])) (a0 : V) (a1 : (List S_api_Step)) (a2 : Bool) (a3c0 : S_api_Edit) (r : (V × Int)) (h : zq8 r_q09 a0 a1 a2 a3c0 = some r) : z0p Tryz.prog 60 [(ofV a0), (PV.sl none 82 3 (List.map z01 a1)), (BO a2), (PV.fn (.func 61) [] [(PV.pt 49 (z0b a3c0) 0)])] (PV.tup [(ofV r.1), (I64 r.2)]) := by
 unfold zq8 at h
 refine z0j Tryz.func60 rfl Tryz.ntmps60 Tryz.results60 rfl (z0n ?_)
 change BW _ _ _ ⟨[(0, (ofV a0)), (1, (PV.sl none 82 3 (List.map z01 a1))), (2, (BO a2)), (3, (PV.fn (.func 61) [] [(PV.pt 49 (z0b a3c0) 0)]))], [], _⟩ _
 refine bR ?_
 refine sX ?_
 refine eX ?_
 refine bR ?_
 refine sX ?_
 obtain ⟨x1, hx1, h⟩ := obind h
 refine sS rfl rfl rfl (z1p (i := 0) Tryz.underlying47 z1u rfl rfl rfl hx1 rfl) ?_
 refine sX ?_
 refine sS rfl rfl rfl (z1h z1u rfl) ?_
 refine z14 rfl rfl (z0y z1u rfl rfl rfl rfl rfl rfl (lbE rfl) rfl) ?_
 refine z0h ?_
 refine cBx ?_
 refine z0f ?_
 refine bR ?_
 iterate 2 refine sX ?_
 refine eX ?_
 refine cX h rfl ?_ ?_
 intro hc2 h
 refine bR ?_
 iterate 2 refine sX ?_
 obtain ⟨x3, hx3, h⟩ := obind h
 refine sS rfl rfl rfl (z08 rfl zh9 rfl (wkr (wkr .nil)) ⟨(ids_V a0), ⟨(z02 x1), trivial⟩⟩ (zgk a0 x1 x3 hx3) (z00 (ids_V x3.1) (z00 rfl z04))) ?_
 iterate 4 refine sX ?_
 refine eX ?_
 refine bR ?_
 refine sX ?_
 refine sS rfl rfl rfl (z1x rfl rfl) ?_
 iterate 4 refine sX ?_
 refine eX ?_
 refine z2e (ι := Int) (fun i => ziq a0 a3c0 x1 i = some r) (fun i => [(0, (ofV a0)), (3, (PV.fn (.func 61) [] [(PV.pt 49 (z0b a3c0) 0)])), (10, (PV.rf 0 0)), (12, (I64 i))]) (fun i => [.box 82 [(ofStr x1.f_Name), (BO x1.f_At), (I64 x1.f_Index)]]) ?_ ?_ ?_
 intro i; exact ⟨lbE rfl, ⟨(z07 (ids_V _)), ⟨(z07 (z3a (z39 (z0e a3c0) rfl))), ⟨(il_rf rfl), ⟨(z07 rfl), trivial⟩⟩⟩⟩, ⟨⟨(z07 rfl), ⟨(z07 rfl), ⟨(z07 rfl), trivial⟩⟩⟩, trivial⟩⟩
 rintro s4 h; replace h : ziq a0 a3c0 x1 s4 = some r := h; unfold ziq at h
 change BW _ _ _ ⟨[(0, (ofV a0)), (3, (PV.fn (.func 61) [] [(PV.pt 49 (z0b a3c0) 0)])), (10, (PV.rf 0 0)), (12, (I64 s4))], [.box 82 [(ofStr x1.f_Name), (BO x1.f_At), (I64 x1.f_Index)]], _⟩ _
 refine z0f ?_
 refine bR ?_
 refine sX ?_
 refine eX ?_
 refine cX h rfl ?_ ?_
 intro hc5 h
 refine bR ?_
 iterate 2 refine sX ?_
 refine eX ?_
 obtain rfl := eI h; exact z06 ⟨_, rfl, z0r (y := (PV.tup [(ofV V.nil), (I64 s4)])) (Wk.tup (.cons (Wk.eq mk_nil.symm) (wkr .nil))) (z00 (ids_V V.nil) (z00 rfl z04)) ⟨rfl, rfl⟩⟩
 intro hc5 h
 refine z0g ?_
 refine cBx ?_
 refine bR ?_
 iterate 3 refine sX ?_
 obtain ⟨x6, hx6, h⟩ := obind h
 refine sS rfl rfl rfl (z2q rfl rfl Z8j rfl (wkr (wkr (wkr .nil))) ⟨(ids_V a0), ⟨(z02 x1), ⟨(z0e a3c0), trivial⟩⟩⟩ (Z7c a0 x1 a3c0 x6 hx6) (ids_V x6)) ?_
 refine sX ?_
 refine eX ?_
 obtain rfl := eI h; exact z06 ⟨_, rfl, z0r (y := (PV.tup [(ofV x6), (I64 0)])) (Wk.refl _) (z00 (ids_V x6) (z00 rfl z04)) ⟨rfl, rfl⟩⟩
 refine z2e (ι := Bool) (fun i => zce a0 a3c0 x1 x3 i = some r) (fun i => [(0, (ofV a0)), (3, (PV.fn (.func 61) [] [(PV.pt 49 (z0b a3c0) 0)])), (10, (PV.rf 0 0)), (12, (I64 x3.2)), (53, (BO i))]) (fun i => [.box 82 [(ofStr x1.f_Name), (BO x1.f_At), (I64 x1.f_Index)]]) ?_ ?_ ?_
 intro i; exact ⟨lbE rfl, ⟨(z07 (ids_V _)), ⟨(z07 (z3a (z39 (z0e a3c0) rfl))), ⟨(il_rf rfl), ⟨(z07 rfl), ⟨(z07 rfl), trivial⟩⟩⟩⟩⟩, ⟨⟨(z07 rfl), ⟨(z07 rfl), ⟨(z07 rfl), trivial⟩⟩⟩, trivial⟩⟩
 rintro s7 h; replace h : zce a0 a3c0 x1 x3 s7 = some r := h; unfold zce at h
 change BW _ _ _ ⟨[(0, (ofV a0)), (3, (PV.fn (.func 61) [] [(PV.pt 49 (z0b a3c0) 0)])), (10, (PV.rf 0 0)), (12, (I64 x3.2)), (53, (BO s7))], [.box 82 [(ofStr x1.f_Name), (BO x1.f_At), (I64 x1.f_Index)]], _⟩ _
 refine cX h rfl ?_ ?_
 intro hc8 h
 refine z0l ?_
 refine sX (z0h ?_)
 exact ⟨rfl, 0, h, jN⟩
 intro hc8 h
 refine z0g ?_
 exact ⟨rfl, x3.2, h, jN⟩
 refine z0l ?_
 iterate 2 refine sX ?_
 refine z0t (t := 36) rfl ?_ ?_
 intro hb9; replace h := z10 hb9 h
 iterate 3 refine yX ?_
 refine z0t (t := 39) rfl ?_ ?_
 intro hb10; replace h := z10 hb10 h
 iterate 12 refine nX ?_
 refine yX ?_
 refine sX (z0h ?_)
 exact ⟨rfl, true, h, jN⟩
 intro hb10; replace h := z11 hb10 h
 iterate 3 refine yX ?_
 refine z0t (t := 42) rfl ?_ ?_
 intro hb11; replace h := z10 hb11 h
 iterate 3 refine yX ?_
 refine z0t (t := 45) rfl ?_ ?_
 intro hb12; replace h := z10 hb12 h
 iterate 7 refine yX ?_
 refine sX (z0h ?_)
 exact ⟨rfl, (x1.f_Index == ((((a0).asList).length : Nat) : Int)), h, jN⟩
 intro hb12; replace h := z11 hb12 h
 iterate 5 refine nX ?_
 iterate 2 refine yX ?_
 refine sX (z0h ?_)
 exact ⟨rfl, false, h, jN⟩
 intro hb11; replace h := z11 hb11 h
 refine nX ?_
 iterate 2 refine yX ?_
 iterate 5 refine nX ?_
 iterate 2 refine yX ?_
 refine sX (z0h ?_)
 exact ⟨rfl, false, h, jN⟩
 intro hb9; replace h := z11 hb9 h
 iterate 16 refine nX ?_
 refine sX (z0h ?_)
 exact ⟨rfl, false, h, jN⟩
 intro hc2 h
 refine z0g ?_
 refine cBx ?_
 refine bR ?_
 iterate 2 refine sX ?_
 obtain ⟨x13, hx13, h⟩ := obind h
 refine sS rfl rfl rfl (z08 rfl zh9 rfl (wkr (wkr .nil)) ⟨(ids_V a0), ⟨(z02 x1), trivial⟩⟩ (zgk a0 x1 x13 hx13) (z00 (ids_V x13.1) (z00 rfl z04))) ?_
 iterate 4 refine sX ?_
 refine eX ?_
 refine z0f ?_
 refine bR ?_
 refine sX ?_
 refine eX ?_
 refine cX h rfl ?_ ?_
 intro hc14 h
 refine bR ?_
 iterate 2 refine sX ?_
 refine eX ?_
 obtain rfl := eI h; exact z06 ⟨_, rfl, z0r (y := (PV.tup [(ofV V.nil), (I64 x13.2)])) (Wk.tup (.cons (Wk.eq mk_nil.symm) (wkr .nil))) (z00 (ids_V V.nil) (z00 rfl z04)) ⟨rfl, rfl⟩⟩
 intro hc14 h
 refine z0g ?_
 refine cBx ?_
 refine bR ?_
 iterate 2 refine sX ?_
 obtain ⟨x15, hx15, h⟩ := obind h
 refine sS rfl rfl rfl (zcw (a := 1) (b := ((a1).length : Int)) Tryz.underlying47 z1u rfl rfl rfl rfl rfl rfl hx15) ?_
 iterate 2 refine sX ?_
 obtain ⟨x16, hx16, h⟩ := obind h
 refine sS rfl rfl rfl (z08 rfl zq0 rfl (wkr (wkr (wkr (wkr .nil)))) ⟨(ids_V x13.1), ⟨(z05 z02 x15), ⟨rfl, ⟨(z3a (z39 (z0e a3c0) rfl)), trivial⟩⟩⟩⟩ (c_q09 x13.1 x15 a2 a3c0 x16 hx16) (z00 (ids_V x16.1) (z00 rfl z04))) ?_
 iterate 4 refine sX ?_
 refine eX ?_
 refine z0f ?_
 refine bR ?_
 refine sX ?_
 refine eX ?_
 refine cX h rfl ?_ ?_
 intro hc17 h
 refine bR ?_
 iterate 2 refine sX ?_
 refine eX ?_
 obtain rfl := eI h; exact z06 ⟨_, rfl, z0r (y := (PV.tup [(ofV V.nil), (I64 x16.2)])) (Wk.tup (.cons (Wk.eq mk_nil.symm) (wkr .nil))) (z00 (ids_V V.nil) (z00 rfl z04)) ⟨rfl, rfl⟩⟩
 intro hc17 h
 refine z0g ?_
 refine cBx ?_
 refine bR ?_
 iterate 3 refine sX ?_
 obtain ⟨x18, hx18, h⟩ := obind h
 refine sS rfl rfl rfl (z08 rfl zu9 rfl (wkr (wkr (wkr .nil))) ⟨(ids_V a0), ⟨(z02 x1), ⟨(ids_V x16.1), trivial⟩⟩⟩ (zr3 a0 x1 x16.1 x18 hx18) (ids_V x18)) ?_
 refine sX ?_
 refine eX ?_
 obtain rfl := eI h; exact z06 ⟨_, rfl, z0r (y := (PV.tup [(ofV x18), (I64 0)])) (Wk.refl _) (z00 (ids_V x18) (z00 rfl z04)) ⟨rfl, rfl⟩⟩
theorem C_q09.sound : ∀ (i : C_q09) (r : i.R), z3q C_q09.F i = some r → C_q09.Q i r := by
 refine z50 (Φ := C_q09.F) (Q := C_q09.Q) ?_
 intro g hg i r h
 cases i with
 | k_q09 a0 a1 a2 a3c0 => exact z5q (fun a0 a1 a2 a3c0 => g (.k_q09 a0 a1 a2 a3c0)) (fun a0 a1 a2 a3c0 r hr => hg (.k_q09 a0 a1 a2 a3c0) r hr) a0 a1 a2 a3c0 r h
theorem Z7s (a0 : V) (a1 : (List S_api_Step)) (a2 : Bool) (a3c0 : S_api_Edit) (r : (V × Int)) (h : zpd a0 a1 a2 a3c0 = some r) : z0p Tryz.prog 60 [(ofV a0), (PV.sl none 82 3 (List.map z01 a1)), (BO a2), (PV.fn (.func 61) [] [(PV.pt 49 (z0b a3c0) 0)])] (PV.tup [(ofV r.1), (I64 r.2)]) := C_q09.sound (.k_q09 a0 a1 a2 a3c0) r h
end Go.Proofs.YtmoijodjgkfhgaaGreat
