/- Pure functions, and that calls answer as they say. -/
import Derived.Test.YthidgpcbnieleaaGreatDoorG1
namespace Go.Proofs.YthidgpcbnieleaaGreatDoor
open Go Aw
set_option linter.unusedVariables false
set_option linter.unusedSimpArgs false
set_option maxRecDepth 20000
set_option maxHeartbeats 2000000
variable {ι : Type} {ρ : ι → Type}
noncomputable def zd2 (a1 : S_api_Step) (x5 : ((List (Str × V)) × Bool)) (s6 : Bool) : Option (V × Int) :=
 bif s6 then (
 some (V.nil, 41)
 ) else (
 (zi0 x5.1 a1.f_Name).bind fun x8 =>
 bif (!x8.2) then (
 some (V.nil, 40)
 ) else (
 (z5s x5.1 x8.1).bind fun x10 =>
 some (x10.2, 0)
 )
 )
noncomputable def za6 (a0 : V) (a1 : S_api_Step) (s1 : Bool) : Option (V × Int) :=
 bif s1 then (
 bif (decide (a1.f_Index ≥ ((((a0).asList).length : Nat) : Int))) then (
 some (V.nil, 42)
 ) else (
 (z5s ((a0).asList) a1.f_Index).bind fun x4 =>
 some (x4, 0)
 )
 ) else (
 (zrc a0).bind fun x5 =>
 bif (!x5.2) then (
 zd2 a1 x5 true
 ) else (
 zd2 a1 x5 a1.f_At
 )
 )
noncomputable def z7w (a0 : V) (a1 : S_api_Step) : Option (V × Int) :=
 bif (a0).isList then (
 za6 a0 a1 a1.f_At
 ) else (
 za6 a0 a1 false
 )
theorem zn5 (a0 : V) (a1 : S_api_Step) (r : (V × Int)) (h : z7w a0 a1 = some r) : z0l Tryz.prog 56 [(ofV a0), (z02 a1)] (PV.tup [(ofV r.1), (I64 r.2)]) := by
 unfold z7w at h
 refine z0c Tryz.func56 rfl Tryz.ntmps56 Tryz.results56 rfl (z0i ?_)
 change BW _ _ _ ⟨[(0, (ofV a0)), (1, (z02 a1))], [], _⟩ _
 refine bR ?_
 iterate 2 refine sX ?_
 refine eX ?_
 refine z09 ?_
 refine bR ?_
 refine sX ?_
 refine sS rfl rfl rfl (z27 rfl rfl) ?_
 iterate 4 refine sX ?_
 refine eX ?_
 refine z2h (ι := Bool) (fun i => za6 a0 a1 i = some r) (fun i => [(0, (ofV a0)), (3, (PV.rf 0 0)), (6, (PV.sl none 20 1 (List.map ofV (a0).asList))), (21, (BO i))]) (fun i => [.box 83 [(z0k a1.f_Name), (BO a1.f_At), (I64 a1.f_Index)]]) ?_ ?_ ?_
 intro i; exact ⟨lbE rfl, ⟨(z0a (ids_V _)), ⟨(il_rf rfl), ⟨(z0a (z06 ids_V _)), ⟨(z0a rfl), trivial⟩⟩⟩⟩, ⟨⟨(z0a rfl), ⟨(z0a rfl), ⟨(z0a rfl), trivial⟩⟩⟩, trivial⟩⟩
 rintro s1 h; replace h : za6 a0 a1 s1 = some r := h; unfold za6 at h
 change BW _ _ _ ⟨[(0, (ofV a0)), (3, (PV.rf 0 0)), (6, (PV.sl none 20 1 (List.map ofV (a0).asList))), (21, (BO s1))], [.box 83 [(z0k a1.f_Name), (BO a1.f_At), (I64 a1.f_Index)]], _⟩ _
 refine cX h rfl ?_ ?_
 intro hc2 h
 refine z09 ?_
 refine bR ?_
 iterate 4 refine sX ?_
 refine eX ?_
 refine cX h rfl ?_ ?_
 intro hc3 h
 refine bR ?_
 refine sX ?_
 refine eX ?_
 obtain rfl := eI h; exact z04 ⟨_, rfl, z0n (y := (PV.tup [(ofV V.nil), (I64 42)])) (Wk.tup (.cons (Wk.eq mk_nil.symm) (wkr .nil))) (z00 (ids_V V.nil) (z00 rfl z03)) ⟨rfl, rfl⟩⟩
 intro hc3 h
 refine z08 ?_
 refine cBx ?_
 refine bR ?_
 iterate 3 refine sX ?_
 obtain ⟨x4, hx4, h⟩ := obind h
 refine sS rfl rfl rfl (z1w Tryz.underlying67 z23 rfl rfl rfl hx4 rfl) ?_
 refine sS rfl rfl rfl (z3x (y := (ofV x4)) Tryz.underlying20 rfl rfl rfl (by rw [z11]; rfl)) ?_
 refine sX ?_
 refine eX ?_
 obtain rfl := eI h; exact z04 ⟨_, rfl, z0n (y := (PV.tup [(ofV x4), (I64 0)])) (Wk.refl _) (z00 (ids_V x4) (z00 rfl z03)) ⟨rfl, rfl⟩⟩
 intro hc2 h
 refine z08 ?_
 refine cBx ?_
 refine bR ?_
 refine sX ?_
 obtain ⟨x5, hx5, h⟩ := obind h
 refine sS rfl rfl rfl (z05 rfl Z24 rfl (wkr .nil) ⟨(ids_V a0), trivial⟩ (Z18 a0 x5 hx5) (z00 (z06 z0q x5.1) (z00 rfl z03))) ?_
 iterate 4 refine sX ?_
 refine eX ?_
 refine z09 ?_
 refine jX (ι := Bool) (fun i => zd2 a1 x5 i = some r) (fun i => [(3, (PV.rf 0 0)), (8, (PV.sl none 69 2 (List.map ofFld x5.1))), (42, (BO i))]) (fun i => [.box 83 [(z0k a1.f_Name), (BO a1.f_At), (I64 a1.f_Index)]]) ?_ ?_
 rintro s6 h; replace h : zd2 a1 x5 s6 = some r := h; unfold zd2 at h
 change BW _ _ _ ⟨[(3, (PV.rf 0 0)), (8, (PV.sl none 69 2 (List.map ofFld x5.1))), (42, (BO s6))], [.box 83 [(z0k a1.f_Name), (BO a1.f_At), (I64 a1.f_Index)]], _⟩ _
 refine cX h rfl ?_ ?_
 intro hc7 h
 refine bR ?_
 refine sX ?_
 refine eX ?_
 obtain rfl := eI h; exact z04 ⟨_, rfl, z0n (y := (PV.tup [(ofV V.nil), (I64 41)])) (Wk.tup (.cons (Wk.eq mk_nil.symm) (wkr .nil))) (z00 (ids_V V.nil) (z00 rfl z03)) ⟨rfl, rfl⟩⟩
 intro hc7 h
 refine z08 ?_
 refine cBx ?_
 refine bR ?_
 iterate 3 refine sX ?_
 obtain ⟨x8, hx8, h⟩ := obind h
 refine sS rfl rfl rfl (z05 rfl zwt rfl (wkr (wkr .nil)) ⟨(z06 z0q x5.1), ⟨rfl, trivial⟩⟩ (zv9 x5.1 a1.f_Name x8 hx8) (z00 rfl (z00 rfl z03))) ?_
 iterate 4 refine sX ?_
 refine eX ?_
 refine z09 ?_
 refine bR ?_
 refine sX ?_
 refine eX ?_
 refine cX h rfl ?_ ?_
 intro hc9 h
 refine bR ?_
 refine sX ?_
 refine eX ?_
 obtain rfl := eI h; exact z04 ⟨_, rfl, z0n (y := (PV.tup [(ofV V.nil), (I64 40)])) (Wk.tup (.cons (Wk.eq mk_nil.symm) (wkr .nil))) (z00 (ids_V V.nil) (z00 rfl z03)) ⟨rfl, rfl⟩⟩
 intro hc9 h
 refine z08 ?_
 refine cBx ?_
 refine bR ?_
 iterate 2 refine sX ?_
 obtain ⟨x10, hx10, h⟩ := obind h
 refine sS rfl rfl rfl (z1w Tryz.underlying71 z0w rfl rfl rfl hx10 rfl) ?_
 iterate 3 refine sX ?_
 refine eX ?_
 obtain rfl := eI h; exact z04 ⟨_, rfl, z0n (y := (PV.tup [(ofV x10.2), (I64 0)])) (Wk.refl _) (z00 (ids_V x10.2) (z00 rfl z03)) ⟨rfl, rfl⟩⟩
 refine z0f ?_
 iterate 3 refine sX ?_
 refine z0p (t := 39) rfl ?_ ?_
 intro hb11; replace h := z0r hb11 h
 iterate 2 refine nX ?_
 refine sX (z0b ?_)
 exact ⟨rfl, true, h, jN⟩
 intro hb11; replace h := z0s hb11 h
 iterate 2 refine yX ?_
 refine sX (z0b ?_)
 exact ⟨rfl, a1.f_At, h, jN⟩
 refine z0f ?_
 iterate 2 refine sX ?_
 refine z0p (t := 18) rfl ?_ ?_
 intro hb12; replace h := z0r hb12 h
 iterate 2 refine yX ?_
 refine sX (z0b ?_)
 exact ⟨rfl, a1.f_At, h, jN⟩
 intro hb12; replace h := z0s hb12 h
 iterate 2 refine nX ?_
 refine sX (z0b ?_)
 exact ⟨rfl, false, h, jN⟩
noncomputable def z5v (a1 : (List S_api_Step)) (g1 : V → Nat → Option (V × Int)) (s1 : V) (s2 : Nat) : Option (V × Int) :=
 bif (decide (((s2 : Nat) : Int) < (((a1).length : Nat) : Int))) then (
 ((a1)[s2]?).bind fun x5 =>
 (z7w s1 x5).bind fun x6 =>
 bif (x6.2 != 0) then (
 some (V.nil, x6.2)
 ) else (
 g1 x6.1 (s2 + 1)
 )
 ) else (
 some (s1, 0)
 )
theorem zl9 (g1 : OF ρ → V → Nat → Option (V × Int)) (h_g1 : ∀ y0 y1, CM (fun G => g1 G y0 y1)) (a1 : (List S_api_Step)) (s1 : V) (s2 : Nat) : CM (fun G : OF ρ => z5v a1 (g1 G) s1 s2) := by
 simp only [z5v]
 repeat (first | exact z0e | exact h_g1 _ _ | refine z13 ?_ ?_ | refine z14 ?_ (fun _ => ?_))
noncomputable def zfp (a1 : (List S_api_Step)) (s1 : V) (s2 : Nat) : Option (V × Int) :=
 z3r (ι := (V × Nat)) (ρ := fun _ => (V × Int)) (fun g i => z5v a1 (fun s1 s2 => g (s1, s2)) i.1 i.2) (s1, s2)
theorem zfo (a1 : (List S_api_Step)) (s1 : V) (s2 : Nat) : zfp a1 s1 s2 = z5v a1 (zfp a1) s1 s2 :=
 z1f (ι := (V × Nat)) (ρ := fun _ => (V × Int)) (Φ := fun g i => z5v a1 (fun s1 s2 => g (s1, s2)) i.1 i.2) (fun i => zl9 (ι := (V × Nat)) (ρ := fun _ => (V × Int)) (fun g => (fun s1 s2 => g (s1, s2))) (fun _ _ => z1h) a1 i.1 i.2) (s1, s2)
noncomputable def zob (a0 : V) (a1 : (List S_api_Step)) : Option (V × Int) :=
 zfp a1 a0 0
theorem Z0q (a0 : V) (a1 : (List S_api_Step)) (r : (V × Int)) (h : zob a0 a1 = some r) : z0l Tryz.prog 36 [(ofV a0), (PV.sl none 83 3 (List.map z02 a1))] (PV.tup [(ofV r.1), (I64 r.2)]) := by
 unfold zob at h
 refine z0c Tryz.func36 rfl Tryz.ntmps36 Tryz.results36 rfl (z0i ?_)
 change BW _ _ _ ⟨[(0, (ofV a0)), (1, (PV.sl none 83 3 (List.map z02 a1)))], [], _⟩ _
 refine bR ?_
 refine sX ?_
 refine eX ?_
 refine z09 ?_
 refine bR ?_
 iterate 2 refine sX ?_
 refine eX ?_
 refine z0j ?_
 refine cBx ?_
 unfold zfp at h
 refine z3n (σ := (V × Nat)) (fun i => [(0, (ofV i.1)), (10, (PV.sl none 83 3 (List.map z02 a1))), (11, (I64 ((((a1).length : Nat) : Int)))), (12, (I64 (((i.2 : Nat) : Int))))]) (fun i => []) (a0, 0) h ?_ ?_ ?_
 intro i; exact ⟨lbE rfl, ⟨(z0a (ids_V _)), ⟨(z0a (z06 z01 _)), ⟨(z0a rfl), ⟨(z0a rfl), trivial⟩⟩⟩⟩, trivial⟩
 exact jN
 rintro g1_f ⟨s1, s2⟩ h; replace h : z5v a1 (fun y0 y1 => g1_f (y0, y1)) s1 s2 = some r := h; unfold z5v at h
 change BW _ _ _ ⟨[(0, (ofV s1)), (10, (PV.sl none 83 3 (List.map z02 a1))), (11, (I64 ((((a1).length : Nat) : Int)))), (12, (I64 (((s2 : Nat) : Int))))], [], _⟩ _
 refine bR ?_
 refine eX ?_
 refine z09 ?_
 refine z5r (t := 10) rfl fun hb4 => ?_
 try rw [List.length_map] at hb4
 refine cX h rfl ?_ ?_
 intro hc3 h
 have hc3_ := of_decide_eq_true hc3
 refine z08 ?_
 refine cBx ?_
 refine z09 ?_
 refine z0j ?_
 refine cBx ?_
 refine bR ?_
 obtain ⟨x5, hx5, h⟩ := obind h
 refine sS rfl rfl rfl (z1v (i := s2) Tryz.underlying30 z19 rfl rfl rfl hx5 rfl) ?_
 refine sX ?_
 refine sS rfl rfl rfl (z28 z19 rfl) ?_
 refine z1l rfl rfl (z1b z19 rfl rfl rfl rfl rfl rfl (lbE rfl) rfl) ?_
 refine z0b ?_
 refine cBx ?_
 refine bR ?_
 iterate 2 refine sX ?_
 obtain ⟨x6, hx6, h⟩ := obind h
 refine sS rfl rfl rfl (z05 rfl zpx rfl (wkr (wkr .nil)) ⟨(ids_V s1), ⟨(z01 x5), trivial⟩⟩ (zn5 s1 x5 x6 hx6) (z00 (ids_V x6.1) (z00 rfl z03))) ?_
 iterate 4 refine sX ?_
 refine eX ?_
 refine z09 ?_
 refine bR ?_
 refine sX ?_
 refine eX ?_
 refine cX h rfl ?_ ?_
 intro hc7 h
 refine bR ?_
 iterate 2 refine sX ?_
 refine eX ?_
 obtain rfl := eI h; exact z04 ⟨_, rfl, z0n (y := (PV.tup [(ofV V.nil), (I64 x6.2)])) (Wk.tup (.cons (Wk.eq mk_nil.symm) (wkr .nil))) (z00 (ids_V V.nil) (z00 rfl z03)) ⟨rfl, rfl⟩⟩
 intro hc7 h
 refine z08 ?_
 refine cBx ?_
 refine z0f ?_
 refine sX ?_
 refine eX ?_
 refine z0f ?_
 refine sS rfl rfl rfl (z2v (k := s2) (c := 1) rfl rfl rfl (by omega)) ?_
 refine sX (z0b ?_)
 exact ⟨rfl, (x6.1, (s2 + 1)), h, jN⟩
 intro hc3 h
 refine z2b ?_
 refine cBx ?_
 refine bR ?_
 iterate 2 refine sX ?_
 refine eX ?_
 obtain rfl := eI h; exact z04 ⟨_, rfl, z0n (y := (PV.tup [(ofV s1), (I64 0)])) (Wk.refl _) (z00 (ids_V s1) (z00 rfl z03)) ⟨rfl, rfl⟩⟩
noncomputable def z52 (r_q0v : V → Option V) (a0 : (List (Str × V))) (g1 : (List (Str × V)) → Nat → Option (List (Str × V))) (s2 : (List (Str × V))) (s3 : Nat) : Option (List (Str × V)) :=
 bif (decide (((s3 : Nat) : Int) < (((a0).length : Nat) : Int))) then (
 ((a0)[s3]?).bind fun x6 =>
 (r_q0v x6.2).bind fun x7 =>
 (zal 32 s2 ([(x6.1, x7)] : (List (Str × V)))).bind fun x8 =>
 g1 x8 (s3 + 1)
 ) else (
 some s2
 )
theorem z9q (r_q0v : OF ρ → V → Option V) (h_r_q0v : ∀ y0, CM (fun G => r_q0v G y0)) (g1 : OF ρ → (List (Str × V)) → Nat → Option (List (Str × V))) (h_g1 : ∀ y0 y1, CM (fun G => g1 G y0 y1)) (a0 s2 : (List (Str × V))) (s3 : Nat) : CM (fun G : OF ρ => z52 (r_q0v G) a0 (g1 G) s2 s3) := by
 simp only [z52]
 repeat (first | exact z0e | exact h_r_q0v _ | exact h_g1 _ _ | refine z13 ?_ ?_ | refine z14 ?_ (fun _ => ?_))
noncomputable def zd9 (r_q0v : V → Option V) (a0 s2 : (List (Str × V))) (s3 : Nat) : Option (List (Str × V)) :=
 z3r (ι := ((List (Str × V)) × Nat)) (ρ := fun _ => (List (Str × V))) (fun g i => z52 r_q0v a0 (fun s2 s3 => g (s2, s3)) i.1 i.2) (s2, s3)
theorem zg4 (r_q0v : V → Option V) (a0 s2 : (List (Str × V))) (s3 : Nat) : zd9 r_q0v a0 s2 s3 = z52 r_q0v a0 (zd9 r_q0v a0) s2 s3 :=
 z1f (ι := ((List (Str × V)) × Nat)) (ρ := fun _ => (List (Str × V))) (Φ := fun g i => z52 r_q0v a0 (fun s2 s3 => g (s2, s3)) i.1 i.2) (fun i => z9q (ι := ((List (Str × V)) × Nat)) (ρ := fun _ => (List (Str × V))) (fun _ => r_q0v) (fun _ => z0e) (fun g => (fun s2 s3 => g (s2, s3))) (fun _ _ => z1h) a0 i.1 i.2) (s2, s3)
theorem znq (r_q0v : OF ρ → V → Option V) (h_r_q0v : ∀ y0, CM (fun G => r_q0v G y0)) (a0 s2 : (List (Str × V))) (s3 : Nat) : CM (fun G : OF ρ => zd9 (r_q0v G) a0 s2 s3) :=
 z7r (κ := ((List (Str × V)) × Nat)) (τ := fun _ => (List (Str × V))) (Φ := fun G g i => z52 (r_q0v G) a0 (fun s2 s3 => g (s2, s3)) i.1 i.2) (fun g i => z9q r_q0v h_r_q0v (fun _ => (fun s2 s3 => g (s2, s3))) (fun _ _ => z0e) a0 i.1 i.2) (fun G i => z9q (ι := ((List (Str × V)) × Nat)) (ρ := fun _ => (List (Str × V))) (fun _ => r_q0v G) (fun _ => z0e) (fun g => (fun s2 s3 => g (s2, s3))) (fun _ _ => z1h) a0 i.1 i.2) (s2, s3)
noncomputable def ziw (r_q0i : (List (Str × V)) → Option (List (Str × V))) (r_q0v : V → Option V) (a0 : (List (Str × V))) : Option (List (Str × V)) :=
 (zhw ((a0).length) 32).bind fun x1 =>
 zd9 r_q0v a0 ([] : (List (Str × V))) 0
theorem ztk (r_q0i : OF ρ → (List (Str × V)) → Option (List (Str × V))) (h_r_q0i : ∀ y0, CM (fun G => r_q0i G y0)) (r_q0v : OF ρ → V → Option V) (h_r_q0v : ∀ y0, CM (fun G => r_q0v G y0)) (a0 : (List (Str × V))) : CM (fun G : OF ρ => ziw (r_q0i G) (r_q0v G) a0) := by
 simp only [ziw]
 repeat (first | exact z0e | exact h_r_q0i _ | exact h_r_q0v _ | apply znq | refine z13 ?_ ?_ | refine z14 ?_ (fun _ => ?_) | intro _ | assumption)
noncomputable def z4z (r_q0v : V → Option V) (a0 : V) (g1 : (List V) → Nat → Option V) (s5 : (List V)) (s6 : Nat) : Option V :=
 bif (decide (((s6 : Nat) : Int) < ((((a0).asList).length : Nat) : Int))) then (
 (((a0).asList)[s6]?).bind fun x9 =>
 (r_q0v x9).bind fun x10 =>
 (zal 16 s5 ([x10] : (List V))).bind fun x11 =>
 g1 x11 (s6 + 1)
 ) else (
 some (V.list s5)
 )
theorem z9o (r_q0v : OF ρ → V → Option V) (h_r_q0v : ∀ y0, CM (fun G => r_q0v G y0)) (g1 : OF ρ → (List V) → Nat → Option V) (h_g1 : ∀ y0 y1, CM (fun G => g1 G y0 y1)) (a0 : V) (s5 : (List V)) (s6 : Nat) : CM (fun G : OF ρ => z4z (r_q0v G) a0 (g1 G) s5 s6) := by
 simp only [z4z]
 repeat (first | exact z0e | exact h_r_q0v _ | exact h_g1 _ _ | refine z13 ?_ ?_ | refine z14 ?_ (fun _ => ?_))
noncomputable def zd4 (r_q0v : V → Option V) (a0 : V) (s5 : (List V)) (s6 : Nat) : Option V :=
 z3r (ι := ((List V) × Nat)) (ρ := fun _ => V) (fun g i => z4z r_q0v a0 (fun s5 s6 => g (s5, s6)) i.1 i.2) (s5, s6)
theorem zfy (r_q0v : V → Option V) (a0 : V) (s5 : (List V)) (s6 : Nat) : zd4 r_q0v a0 s5 s6 = z4z r_q0v a0 (zd4 r_q0v a0) s5 s6 :=
 z1f (ι := ((List V) × Nat)) (ρ := fun _ => V) (Φ := fun g i => z4z r_q0v a0 (fun s5 s6 => g (s5, s6)) i.1 i.2) (fun i => z9o (ι := ((List V) × Nat)) (ρ := fun _ => V) (fun _ => r_q0v) (fun _ => z0e) (fun g => (fun s5 s6 => g (s5, s6))) (fun _ _ => z1h) a0 i.1 i.2) (s5, s6)
theorem znl (r_q0v : OF ρ → V → Option V) (h_r_q0v : ∀ y0, CM (fun G => r_q0v G y0)) (a0 : V) (s5 : (List V)) (s6 : Nat) : CM (fun G : OF ρ => zd4 (r_q0v G) a0 s5 s6) :=
 z7r (κ := ((List V) × Nat)) (τ := fun _ => V) (Φ := fun G g i => z4z (r_q0v G) a0 (fun s5 s6 => g (s5, s6)) i.1 i.2) (fun g i => z9o r_q0v h_r_q0v (fun _ => (fun s5 s6 => g (s5, s6))) (fun _ _ => z0e) a0 i.1 i.2) (fun G i => z9o (ι := ((List V) × Nat)) (ρ := fun _ => V) (fun _ => r_q0v G) (fun _ => z0e) (fun g => (fun s5 s6 => g (s5, s6))) (fun _ _ => z1h) a0 i.1 i.2) (s5, s6)
noncomputable def ziu (r_q0i : (List (Str × V)) → Option (List (Str × V))) (r_q0v : V → Option V) (a0 : V) : Option V :=
 bif (a0).isBytes then (
 (zal 1 ([] : Str) ((a0).asBytes)).bind fun x2 =>
 some (V.bytes x2)
 ) else (
 bif (a0).isList then (
 (zhw (((a0).asList).length) 16).bind fun x4 =>
 zd4 r_q0v a0 ([] : (List V)) 0
 ) else (
 bif (a0).isDict then (
 (r_q0i ((a0).asDict)).bind fun x13 =>
 some (V.dict x13)
 ) else (
 bif (a0).isRec then (
 ((a0).asRec).bind fun x15 =>
 (r_q0i x15.fields).bind fun x16 =>
 some (V.record x15.cls x15.ver x16)
 ) else (
 some a0
 )
 )
 )
 )
theorem zti (r_q0i : OF ρ → (List (Str × V)) → Option (List (Str × V))) (h_r_q0i : ∀ y0, CM (fun G => r_q0i G y0)) (r_q0v : OF ρ → V → Option V) (h_r_q0v : ∀ y0, CM (fun G => r_q0v G y0)) (a0 : V) : CM (fun G : OF ρ => ziu (r_q0i G) (r_q0v G) a0) := by
 simp only [ziu]
 repeat (first | exact z0e | exact h_r_q0i _ | exact h_r_q0v _ | apply znl | refine z13 ?_ ?_ | refine z14 ?_ (fun _ => ?_) | intro _ | assumption)
inductive C_q0i where
 | k_q0i (a0 : (List (Str × V)))
 | k_q0v (a0 : V)
def C_q0i.R : C_q0i → Type
 | .k_q0i _ => (List (Str × V))
 | .k_q0v _ => V
noncomputable def C_q0i.F (g : ∀ i : C_q0i, Option i.R) : ∀ i : C_q0i, Option i.R
 | .k_q0i a0 => ziw (fun a0 => g (.k_q0i a0)) (fun a0 => g (.k_q0v a0)) a0
 | .k_q0v a0 => ziu (fun a0 => g (.k_q0i a0)) (fun a0 => g (.k_q0v a0)) a0
noncomputable def zre (a0 : (List (Str × V))) : Option (List (Str × V)) := z3r C_q0i.F (.k_q0i a0)
noncomputable def zbs (a0 : V) : Option V := z3r C_q0i.F (.k_q0v a0)
abbrev gg3 := fun (g : ∀ i : C_q0i, Option i.R) a0 => g (.k_q0i a0)
theorem hh3 (a0 : _) : CM (ρ := C_q0i.R) (fun g => g (C_q0i.k_q0i a0)) := z1h
abbrev gg4 := fun (g : ∀ i : C_q0i, Option i.R) a0 => g (.k_q0v a0)
theorem hh4 (a0 : _) : CM (ρ := C_q0i.R) (fun g => g (C_q0i.k_q0v a0)) := z1h
theorem C_q0i.cm (i : C_q0i) : CM (fun g : (∀ i : C_q0i, Option i.R) => C_q0i.F g i) := by
 cases i with
 | k_q0i a0 => exact ztk gg3 hh3 gg4 hh4 a0
 | k_q0v a0 => exact zti gg3 hh3 gg4 hh4 a0
theorem Z30 (a0 : (List (Str × V))) : zre a0 = ziw zre zbs a0 := z1f C_q0i.cm (.k_q0i a0)
theorem Z2y (a0 : V) : zbs a0 = ziu zre zbs a0 := z1f C_q0i.cm (.k_q0v a0)
def C_q0i.Q : ∀ i : C_q0i, i.R → Prop
 | .k_q0i a0 => fun (r : (List (Str × V))) => z0l Tryz.prog 96 [(PV.sl none 69 2 (List.map ofFld a0))] (PV.sl none 69 2 (List.map ofFld r))
 | .k_q0v a0 => fun (r : V) => z0l Tryz.prog 55 [(ofV a0)] (ofV r)
theorem z8f (r_q0i : (List (Str × V)) → Option (List (Str × V))) (c_q0i : ∀ (a0 : (List (Str × V))) r, r_q0i a0 = some r → z0l Tryz.prog 96 [(PV.sl none 69 2 (List.map ofFld a0))] (PV.sl none 69 2 (List.map ofFld r))) (r_q0v : V → Option V) (c_q0v : ∀ (a0 : V) r, r_q0v a0 = some r → z0l Tryz.prog 55 [(ofV a0)] (ofV r)) (a0 r : (List (Str × V))) (h : ziw r_q0i r_q0v a0 = some r) : z0l Tryz.prog 96 [(PV.sl none 69 2 (List.map ofFld a0))] (PV.sl none 69 2 (List.map ofFld r)) := by
 unfold ziw at h
 refine z0c Tryz.func96 rfl Tryz.ntmps96 Tryz.results96 rfl (z0i ?_)
 change BW _ _ _ ⟨[(0, (PV.sl none 69 2 (List.map ofFld a0)))], [], _⟩ _
 refine bR ?_
 refine eX ?_
 refine bR ?_
 iterate 2 refine sX ?_
 obtain ⟨x1, hx1, h⟩ := obind h
 refine sS rfl rfl rfl ((zoy (f := ofFld) (c := ((a0).length)) Tryz.underlying71 z0w rfl rfl rfl rfl hx1 (p := (PV.agg [(z0k []), (PV.v .nilIface)])) rfl).cast (y := (PV.sl (some 0) 69 2 (List.map ofFld ([] : (List (Str × V)))))) rfl rfl) ?_
 refine eX ?_
 refine z09 ?_
 refine bR ?_
 iterate 2 refine sX ?_
 refine eX ?_
 refine z0j ?_
 refine cBx ?_
 unfold zd9 at h
 refine z3n (σ := ((List (Str × V)) × Nat)) (fun i => [(3, (PV.sl (some 0) 69 2 (List.map ofFld i.1))), (9, (PV.sl none 69 2 (List.map ofFld a0))), (10, (I64 ((((a0).length : Nat) : Int)))), (11, (I64 (((i.2 : Nat) : Int))))]) (fun i => [.arr 69 (i.1).length]) (([] : (List (Str × V))), 0) h ?_ ?_ ?_
 intro i; exact ⟨lbE rfl, ⟨(z4r rfl (z17 z0q _)), ⟨(z0a (z06 z0q _)), ⟨(z0a rfl), ⟨(z0a rfl), trivial⟩⟩⟩⟩, trivial⟩
 exact jN
 rintro g1_f ⟨s2, s3⟩ h; replace h : z52 r_q0v a0 (fun y0 y1 => g1_f (y0, y1)) s2 s3 = some r := h; unfold z52 at h
 change BW _ _ _ ⟨[(3, (PV.sl (some 0) 69 2 (List.map ofFld s2))), (9, (PV.sl none 69 2 (List.map ofFld a0))), (10, (I64 ((((a0).length : Nat) : Int)))), (11, (I64 (((s3 : Nat) : Int))))], [.arr 69 (s2).length], _⟩ _
 refine bR ?_
 refine eX ?_
 refine z09 ?_
 refine z5r (t := 9) rfl fun hb5 => ?_
 try rw [List.length_map] at hb5
 refine cX h rfl ?_ ?_
 intro hc4 h
 have hc4_ := of_decide_eq_true hc4
 refine z08 ?_
 refine cBx ?_
 refine z09 ?_
 refine z0j ?_
 refine cBx ?_
 refine bR ?_
 obtain ⟨x6, hx6, h⟩ := obind h
 refine sS rfl rfl rfl (z1v (i := s3) Tryz.underlying71 z0w rfl rfl rfl hx6 rfl) ?_
 refine sX ?_
 refine sS rfl rfl rfl ((z28 z0w rfl).cast (H'' := [.arr 69 (s2).length, .box 69 [(z0k []), (ofV V.nil)]]) rfl (by simp only [mk_nil]; rfl)) ?_
 refine z1l rfl rfl (z1b z0w rfl rfl rfl rfl rfl rfl (lbE rfl) (by show List.all [(z0k x6.1), (ofV x6.2)] z6h = true; simp only [List.all_cons, List.all_nil, zeo, z68, Bool.and_true, Bool.true_and]; try rfl)) ?_
 refine z0b ?_
 refine cBx ?_
 refine z1t 8 [7] [1] mo (by kernel_rfl) ?_
 iterate 5 refine gX ?_
 obtain ⟨x7, hx7, h⟩ := obind h
 refine z1m rfl rfl rfl rfl (fun H hp => z05 rfl zwx rfl (wkr .nil) ⟨(ids_V x6.2), trivial⟩ (c_q0v x6.2 x7 hx7) (ids_V x7)) ?_
 refine z1m rfl rfl rfl rfl (fun H hp => z1k (cs := [(z0k x6.1), (ofV x7)]) zhq z0w rfl rfl (by simp only [List.all_cons, List.all_nil, z5c, z26, Bool.and_true, Bool.true_and]; try rfl) (by simp only [z3p, List.getElem?_cons_zero, List.getElem?_cons_succ, z11, z0v]; rfl)) ?_
 refine zhn rfl rfl rfl rfl ((z1d (xs := [(PV.agg [(z0k x6.1), (ofV x7)])]) Tryz.underlying71 z0w rfl rfl rfl (by simp only [List.all_cons, List.all_nil, z5c, z26, Bool.and_true, Bool.true_and]; try rfl) (by simp only [List.all_cons, List.all_nil, csz_V, z3a, z11, z0v]; try rfl) rfl ⟨lbE rfl, lbE rfl⟩ (by simp only [z9d, z3p, List.flatMap_cons, List.flatMap_nil, z11, z0v]; try rfl)).cast (y := (PV.sl (some 2) 69 2 (List.map ofFld ([(x6.1, x7)] : (List (Str × V)))))) rfl rfl) ⟨rfl, trivial⟩ ?_
 refine z1y ?_
 change AO _ _ _ _ _
 obtain ⟨x8, hx8, h⟩ := obind h
 refine sS rfl rfl rfl (z3q Tryz.underlying71 z0w rfl Tryz.underlying71 rfl rfl rfl rfl z74 z79 hx8 rfl) ?_
 refine eX ?_
 refine z0f ?_
 refine sS rfl rfl rfl (z2v (k := s3) (c := 1) rfl rfl rfl (by omega)) ?_
 refine sX (z0b ?_)
 exact ⟨rfl, (x8, (s3 + 1)), h, jN⟩
 intro hc4 h
 refine z2b ?_
 refine cBx ?_
 refine bR ?_
 refine sX ?_
 refine eX ?_
 obtain rfl := eI h; exact z04 ⟨_, rfl, z0n (y := (PV.sl none 69 2 (List.map ofFld s2))) Wk.tok (z06 z0q s2) ⟨rfl, rfl⟩⟩
theorem zck (r_q0i : (List (Str × V)) → Option (List (Str × V))) (c_q0i : ∀ (a0 : (List (Str × V))) r, r_q0i a0 = some r → z0l Tryz.prog 96 [(PV.sl none 69 2 (List.map ofFld a0))] (PV.sl none 69 2 (List.map ofFld r))) (r_q0v : V → Option V) (c_q0v : ∀ (a0 : V) r, r_q0v a0 = some r → z0l Tryz.prog 55 [(ofV a0)] (ofV r)) (a0 r : V) (h : ziu r_q0i r_q0v a0 = some r) : z0l Tryz.prog 55 [(ofV a0)] (ofV r) := by
 unfold ziu at h
 refine z0c Tryz.func55 rfl Tryz.ntmps55 Tryz.results55 rfl (z0i ?_)
 change BW _ _ _ ⟨[(0, (ofV a0))], [], _⟩ _
 refine bR ?_
 refine eX ?_
 refine z09 ?_
 refine bR ?_
 refine eX ?_
 refine z0j ?_
 refine cBx ?_
 refine bR ?_
 refine sS rfl rfl rfl (z64 rfl rfl) ?_
 refine sX ?_
 refine eX ?_
 refine cX h rfl ?_ ?_
 intro hc1 h
 refine bR ?_
 refine eX ?_
 refine bR ?_
 refine sS rfl rfl rfl ((z1d (xs := []) Tryz.underlying23 inf_5 rfl rfl rfl rfl rfl rfl ⟨lbE rfl, lbE rfl⟩ rfl).cast (y := (PV.sl (some 0) 5 1 (List.map ofB ([] : Str)))) rfl rfl) ?_
 refine sX ?_
 obtain ⟨x2, hx2, h⟩ := obind h
 refine sS rfl rfl rfl (z3q Tryz.underlying23 inf_5 rfl Tryz.underlying23 rfl rfl rfl rfl (fun _ => rfl) (fun _ => rfl) hx2 rfl) ?_
 refine sS rfl rfl rfl ((z0z Tryz.underlying23 rfl rfl rfl).wk ((Wk.iface Wk.tok).trans (Wk.eq (zju _).symm))) ?_
 refine eX ?_
 obtain rfl := eI h; exact z04 ⟨_, rfl, z0n (y := (ofV (V.bytes x2))) (Wk.refl _) (ids_V (V.bytes x2)) ⟨rfl, rfl⟩⟩
 intro hc1 h
 refine bR ?_
 refine sS rfl rfl rfl (z27 rfl rfl) ?_
 refine sX ?_
 refine eX ?_
 refine cX h rfl ?_ ?_
 intro hc3 h
 refine bR ?_
 refine eX ?_
 refine bR ?_
 iterate 2 refine sX ?_
 obtain ⟨x4, hx4, h⟩ := obind h
 refine sS rfl rfl rfl ((zoy (f := ofV) (c := (((a0).asList).length)) Tryz.underlying67 z23 rfl rfl rfl rfl hx4 (p := (PV.v .nilIface)) rfl).cast (y := (PV.sl (some 0) 20 1 (List.map ofV ([] : (List V))))) rfl rfl) ?_
 refine eX ?_
 refine z09 ?_
 refine bR ?_
 iterate 2 refine sX ?_
 refine eX ?_
 refine z0j ?_
 refine cBx ?_
 unfold zd4 at h
 refine z3n (σ := ((List V) × Nat)) (fun i => [(5, (PV.sl (some 0) 20 1 (List.map ofV i.1))), (24, (PV.sl none 20 1 (List.map ofV (a0).asList))), (25, (I64 (((((a0).asList).length : Nat) : Int)))), (26, (I64 (((i.2 : Nat) : Int))))]) (fun i => [.arr 20 (i.1).length]) (([] : (List V)), 0) h ?_ ?_ ?_
 intro i; exact ⟨lbE rfl, ⟨(z4r rfl (z17 ids_V _)), ⟨(z0a (z06 ids_V _)), ⟨(z0a rfl), ⟨(z0a rfl), trivial⟩⟩⟩⟩, trivial⟩
 exact jN
 rintro g1_f ⟨s5, s6⟩ h; replace h : z4z r_q0v a0 (fun y0 y1 => g1_f (y0, y1)) s5 s6 = some r := h; unfold z4z at h
 change BW _ _ _ ⟨[(5, (PV.sl (some 0) 20 1 (List.map ofV s5))), (24, (PV.sl none 20 1 (List.map ofV (a0).asList))), (25, (I64 (((((a0).asList).length : Nat) : Int)))), (26, (I64 (((s6 : Nat) : Int))))], [.arr 20 (s5).length], _⟩ _
 refine bR ?_
 refine eX ?_
 refine z09 ?_
 refine z5r (t := 24) rfl fun hb8 => ?_
 try rw [List.length_map] at hb8
 refine cX h rfl ?_ ?_
 intro hc7 h
 have hc7_ := of_decide_eq_true hc7
 refine z08 ?_
 refine cBx ?_
 refine z09 ?_
 refine z0j ?_
 refine cBx ?_
 refine bR ?_
 obtain ⟨x9, hx9, h⟩ := obind h
 refine sS rfl rfl rfl (z1v (i := s6) Tryz.underlying67 z23 rfl rfl rfl hx9 rfl) ?_
 refine sS rfl rfl rfl (z3x (y := (ofV x9)) Tryz.underlying20 rfl rfl rfl (by rw [z11]; rfl)) ?_
 refine eX ?_
 refine z0f ?_
 iterate 2 refine sX ?_
 obtain ⟨x10, hx10, h⟩ := obind h
 refine sS rfl rfl rfl (z05 rfl zwx rfl (wkr .nil) ⟨(ids_V x9), trivial⟩ (c_q0v x9 x10 hx10) (ids_V x10)) ?_
 refine sS rfl rfl rfl ((z1d (xs := [(ofV x10)]) Tryz.underlying67 z23 rfl rfl rfl (by simp only [List.all_cons, List.all_nil, z5c, z26, Bool.and_true, Bool.true_and]; try rfl) (by simp only [List.all_cons, List.all_nil, csz_V, z3a, z11, z0v]; try rfl) rfl ⟨lbE rfl, lbE rfl⟩ (by simp only [z9d, z3p, List.flatMap_cons, List.flatMap_nil, z11, z0v]; try rfl)).cast (y := (PV.sl (some 1) 20 1 (List.map ofV ([x10] : (List V))))) rfl rfl) ?_
 obtain ⟨x11, hx11, h⟩ := obind h
 refine sS rfl rfl rfl (z3q Tryz.underlying67 z23 rfl Tryz.underlying67 rfl rfl rfl rfl csz_V z86 hx11 rfl) ?_
 refine eX ?_
 refine z0f ?_
 refine sS rfl rfl rfl (z2v (k := s6) (c := 1) rfl rfl rfl (by omega)) ?_
 refine sX (z0b ?_)
 exact ⟨rfl, (x11, (s6 + 1)), h, jN⟩
 intro hc7 h
 refine z2b ?_
 refine cBx ?_
 refine bR ?_
 refine sX ?_
 refine sS rfl rfl rfl ((z0z Tryz.underlying67 rfl rfl rfl).wk ((Wk.iface Wk.tok).trans (Wk.eq (z7y _).symm))) ?_
 refine eX ?_
 obtain rfl := eI h; exact z04 ⟨_, rfl, z0n (y := (ofV (V.list s5))) (Wk.refl _) (ids_V (V.list s5)) ⟨rfl, rfl⟩⟩
 intro hc3 h
 refine bR ?_
 refine sS rfl rfl rfl (z2m rfl rfl) ?_
 refine sX ?_
 refine eX ?_
 refine cX h rfl ?_ ?_
 intro hc12 h
 refine bR ?_
 refine eX ?_
 refine bR ?_
 refine sX ?_
 obtain ⟨x13, hx13, h⟩ := obind h
 refine sS rfl rfl rfl (z05 rfl zzv rfl (wkr .nil) ⟨(z06 z0q ((a0).asDict)), trivial⟩ (c_q0i ((a0).asDict) x13 hx13) (z06 z0q x13)) ?_
 refine sS rfl rfl rfl ((z0z Tryz.underlying71 rfl rfl rfl).wk ((Wk.iface (Wk.refl _)).trans (Wk.eq (z59 _).symm))) ?_
 refine eX ?_
 obtain rfl := eI h; exact z04 ⟨_, rfl, z0n (y := (ofV (V.dict x13))) (Wk.refl _) (ids_V (V.dict x13)) ⟨rfl, rfl⟩⟩
 intro hc12 h
 refine bR ?_
 refine sS rfl rfl rfl (z32 rfl rfl) ?_
 refine sX ?_
 refine eX ?_
 refine cX h rfl ?_ ?_
 intro hc14 h
 refine bR ?_
 refine eX ?_
 refine z09 (z1t 13 [] [] mo (by kernel_rfl) ?_)
 refine gX ?_
 obtain ⟨x15, hx15, h⟩ := obind h
 refine z1m rfl rfl rfl rfl (fun H hp => z1e rfl rfl hx15) ?_
 iterate 3 refine gX ?_
 refine z1m rfl rfl rfl rfl (fun H hp => z1e rfl rfl hx15) ?_
 iterate 3 refine gX ?_
 refine z1m rfl rfl rfl rfl (fun H hp => z1e rfl rfl hx15) ?_
 iterate 2 refine gX ?_
 obtain ⟨x16, hx16, h⟩ := obind h
 refine z1m rfl rfl rfl rfl (fun H hp => z05 rfl zzv rfl (wkr .nil) ⟨(z06 z0q x15.fields), trivial⟩ (c_q0i x15.fields x16 hx16) (z06 z0q x16)) ?_
 refine z1y ?_
 change AO _ _ _ _ _
 refine sS rfl rfl rfl (z1k (cs := [(z0k x15.cls), (I64 x15.ver), (PV.sl none 69 2 (List.map ofFld x16))]) zl0 zh3 rfl rfl rfl rfl) ?_
 refine sX ?_
 refine sS rfl rfl rfl (z0z Tryz.underlying73 rfl rfl rfl) ?_
 refine eX ?_
 refine z87 0 2 (y := (ofV (V.record x15.cls x15.ver x16))) rfl rfl ((Wk.iface (Wk.pt (x := .agg [(z0k x15.cls), (I64 x15.ver), (PV.sl none 69 2 (List.map ofFld x16))]) (y := zgs (Rec.mk x15.cls x15.ver x16)) (wkr (wkr (wkr .nil))))).trans (Wk.eq (zgu (some (Rec.mk x15.cls x15.ver x16))).symm)) ?_
 obtain rfl := eI h; exact z04 ⟨_, rfl, z0n (y := (ofV (V.record x15.cls x15.ver x16))) (Wk.refl _) (ids_V (V.record x15.cls x15.ver x16)) ⟨rfl, rfl⟩⟩
 intro hc14 h
 refine z08 ?_
 refine cBx ?_
 refine bR ?_
 refine sX ?_
 refine eX ?_
 obtain rfl := eI h; exact z04 ⟨_, rfl, z0n (y := (ofV a0)) (Wk.refl _) (ids_V a0) ⟨rfl, rfl⟩⟩
theorem C_q0i.sound : ∀ (i : C_q0i) (r : i.R), z3r C_q0i.F i = some r → C_q0i.Q i r := by
 refine z6a (Φ := C_q0i.F) (Q := C_q0i.Q) ?_
 intro g hg i r h
 cases i with
 | k_q0i a0 => exact z8f (fun a0 => g (.k_q0i a0)) (fun a0 r hr => hg (.k_q0i a0) r hr) (fun a0 => g (.k_q0v a0)) (fun a0 r hr => hg (.k_q0v a0) r hr) a0 r h
 | k_q0v a0 => exact zck (fun a0 => g (.k_q0i a0)) (fun a0 r hr => hg (.k_q0i a0) r hr) (fun a0 => g (.k_q0v a0)) (fun a0 r hr => hg (.k_q0v a0) r hr) a0 r h
theorem Z14 (a0 r : V) (h : zbs a0 = some r) : z0l Tryz.prog 55 [(ofV a0)] (ofV r) := C_q0i.sound (.k_q0v a0) r h
noncomputable def z9w (a0 : V) : Option (V × Int) :=
 (zgh a0).bind fun x1 =>
 bif (x1.2 != 0) then (
 some (V.nil, x1.2)
 ) else (
 (zbs a0).bind fun x3 =>
 some (x3, 0)
 )
theorem zn6 (a0 : V) (r : (V × Int)) (h : z9w a0 = some r) : z0l Tryz.prog 32 [(ofV a0)] (PV.tup [(ofV r.1), (I64 r.2)]) := by
 unfold z9w at h
 refine z0c Tryz.func32 rfl Tryz.ntmps32 Tryz.results32 rfl (z0i ?_)
 change BW _ _ _ ⟨[(0, (ofV a0))], [], _⟩ _
 refine bR ?_
 refine sX ?_
 refine eX ?_
 refine z09 ?_
 refine bR ?_
 refine sX ?_
 obtain ⟨x1, hx1, h⟩ := obind h
 refine sS rfl rfl rfl (z05 rfl zsu rfl (wkr .nil) ⟨(ids_V a0), trivial⟩ (zqt a0 x1 hx1) (z00 rfl (z00 rfl z03))) ?_
 iterate 4 refine sX ?_
 refine eX ?_
 refine bR ?_
 refine sX ?_
 refine eX ?_
 refine cX h rfl ?_ ?_
 intro hc2 h
 refine bR ?_
 iterate 2 refine sX ?_
 refine eX ?_
 obtain rfl := eI h; exact z04 ⟨_, rfl, z0n (y := (PV.tup [(ofV V.nil), (I64 x1.2)])) (Wk.tup (.cons (Wk.eq mk_nil.symm) (wkr .nil))) (z00 (ids_V V.nil) (z00 rfl z03)) ⟨rfl, rfl⟩⟩
 intro hc2 h
 refine z08 ?_
 refine cBx ?_
 refine bR ?_
 refine sX ?_
 obtain ⟨x3, hx3, h⟩ := obind h
 refine sS rfl rfl rfl (z05 rfl zwx rfl (wkr .nil) ⟨(ids_V a0), trivial⟩ (Z14 a0 x3 hx3) (ids_V x3)) ?_
 refine sX ?_
 refine eX ?_
 obtain rfl := eI h; exact z04 ⟨_, rfl, z0n (y := (PV.tup [(ofV x3), (I64 0)])) (Wk.refl _) (z00 (ids_V x3) (z00 rfl z03)) ⟨rfl, rfl⟩⟩
noncomputable def zcm (a0 : V) (a1 : (List S_api_Step)) : Option (V × Int) :=
 (zi2 a0 a1).bind fun x1 =>
 bif (x1 != 0) then (
 some (V.nil, x1)
 ) else (
 (zob a0 a1).bind fun x3 =>
 bif (x3.2 != 0) then (
 some (V.nil, x3.2)
 ) else (
 (z9w x3.1).bind fun x5 =>
 some (x5.1, x5.2)
 )
 )
theorem zqr (a0 : V) (a1 : (List S_api_Step)) (r : (V × Int)) (h : zcm a0 a1 = some r) : z0l Tryz.prog 11 [(ofV a0), (PV.sl none 83 3 (List.map z02 a1))] (PV.tup [(ofV r.1), (I64 r.2)]) := by
 unfold zcm at h
 refine z0c Tryz.func11 rfl Tryz.ntmps11 Tryz.results11 rfl (z0i ?_)
 change BW _ _ _ ⟨[(0, (ofV a0)), (1, (PV.sl none 83 3 (List.map z02 a1)))], [], _⟩ _
 refine bR ?_
 refine sX ?_
 refine eX ?_
 refine z09 ?_
 refine bR ?_
 iterate 2 refine sX ?_
 obtain ⟨x1, hx1, h⟩ := obind h
 refine sS rfl rfl rfl (z05 rfl zx2 rfl (wkr (wkr .nil)) ⟨(ids_V a0), ⟨(z06 z01 a1), trivial⟩⟩ (zvc a0 a1 x1 hx1) rfl) ?_
 refine eX ?_
 refine bR ?_
 refine sX ?_
 refine eX ?_
 refine cX h rfl ?_ ?_
 intro hc2 h
 refine bR ?_
 iterate 2 refine sX ?_
 refine eX ?_
 obtain rfl := eI h; exact z04 ⟨_, rfl, z0n (y := (PV.tup [(ofV V.nil), (I64 x1)])) (Wk.tup (.cons (Wk.eq mk_nil.symm) (wkr .nil))) (z00 (ids_V V.nil) (z00 rfl z03)) ⟨rfl, rfl⟩⟩
 intro hc2 h
 refine z08 ?_
 refine cBx ?_
 refine bR ?_
 iterate 2 refine sX ?_
 obtain ⟨x3, hx3, h⟩ := obind h
 refine sS rfl rfl rfl (z05 rfl Z2n rfl (wkr (wkr .nil)) ⟨(ids_V a0), ⟨(z06 z01 a1), trivial⟩⟩ (Z0q a0 a1 x3 hx3) (z00 (ids_V x3.1) (z00 rfl z03))) ?_
 iterate 4 refine sX ?_
 refine eX ?_
 refine z09 ?_
 refine bR ?_
 refine sX ?_
 refine eX ?_
 refine cX h rfl ?_ ?_
 intro hc4 h
 refine bR ?_
 iterate 2 refine sX ?_
 refine eX ?_
 obtain rfl := eI h; exact z04 ⟨_, rfl, z0n (y := (PV.tup [(ofV V.nil), (I64 x3.2)])) (Wk.tup (.cons (Wk.eq mk_nil.symm) (wkr .nil))) (z00 (ids_V V.nil) (z00 rfl z03)) ⟨rfl, rfl⟩⟩
 intro hc4 h
 refine z08 ?_
 refine cBx ?_
 refine bR ?_
 refine sX ?_
 obtain ⟨x5, hx5, h⟩ := obind h
 refine sS rfl rfl rfl (z05 rfl zpz rfl (wkr .nil) ⟨(ids_V x3.1), trivial⟩ (zn6 x3.1 x5 hx5) (z00 (ids_V x5.1) (z00 rfl z03))) ?_
 iterate 3 refine sX ?_
 refine eX ?_
 obtain rfl := eI h; exact z04 ⟨_, rfl, z0n (y := (PV.tup [(ofV x5.1), (I64 x5.2)])) (Wk.refl _) (z00 (ids_V x5.1) (z00 rfl z03)) ⟨rfl, rfl⟩⟩
noncomputable def zlw (a0 : (List V)) : Option (List V) :=
 (zal 16 ([] : (List V)) a0).bind fun x2 =>
 some x2
theorem zyj (a0 r : (List V)) (h : zlw a0 = some r) : z7a Tryz.prog 57 [(PV.sl none 20 1 (List.map ofV a0))] [] (PV.rs 0 0 (r).length 20 1) [rowM ofV 20 r] := by
 unfold zlw at h
 refine z0c Tryz.func57 rfl Tryz.ntmps57 Tryz.results57 rfl (z0i ?_)
 change BW _ _ _ ⟨[(0, (PV.sl none 20 1 (List.map ofV a0)))], [], _⟩ _
 refine bR ?_
 refine sS rfl rfl rfl ((z7h (e := 20) (sz := 1) (.inl rfl) rfl).cast (y := (PV.rs 0 0 (([] : (List V))).length 20 1)) (H'' := [rowM ofV 20 ([] : (List V))]) rfl rfl) (z0b ?_)
 refine cBx ?_
 refine z09 ?_
 refine bR ?_
 refine sX ?_
 refine zcf rfl rfl rfl Tryz.underlying67 rfl rfl ?_
 intro nb1 hnb1
 refine z0b ?_
 refine cBx ?_
 cases nb1
 refine zf7 rfl ?_
 refine z08 ?_
 refine cBx ?_
 refine bR ?_
 refine sS rfl rfl rfl ((zek (xs := []) Tryz.underlying67 z23 rfl rfl rfl rfl rfl rfl rfl ⟨lbE rfl, lbE rfl⟩ rfl).cast (y := (PV.rs 1 0 (([] : (List V))).length 20 1)) (H'' := [rowM ofV 20 ([] : (List V)), rowM ofV 20 ([] : (List V))]) rfl rfl) ?_
 refine sX ?_
 obtain ⟨x2, hx2, h⟩ := obind h
 refine sS rfl rfl rfl (zbv (f := ofV) (l := ([] : (List V))) Tryz.underlying67 z23 rfl rfl Tryz.underlying67 rfl rfl rfl rfl rfl csz_V z86 hx2 rfl) ?_
 refine eX ?_
 obtain rfl := eI h; exact z04 ⟨_, rfl, zk9 (y := (PV.rs 2 0 (x2).length 20 1)) [2] rfl (Wk.refl _) (.rs rfl) (.cons rfl (.same (z4s ids_V)) .nil) ⟨rfl, rfl⟩⟩
 have hz := List.map_eq_nil_iff.1 (hnb1 rfl)
 rw [hz] at h
 replace h : some ([] : (List V)) = some r := h
 refine zf6 rfl ?_
 refine bR ?_
 refine sS rfl rfl rfl ((z7h (e := 20) (sz := 1) (.inl rfl) rfl).cast (y := (PV.rs 1 0 (([] : (List V))).length 20 1)) (H'' := [rowM ofV 20 ([] : (List V)), rowM ofV 20 ([] : (List V))]) rfl rfl) (z0b ?_)
 refine cBx ?_
 obtain rfl := eI h; exact z04 ⟨_, rfl, zk9 (y := (PV.rs 1 0 (([] : (List V))).length 20 1)) [1] rfl (Wk.refl _) (.rs rfl) (.cons rfl (.same (z4s ids_V)) .nil) ⟨rfl, rfl⟩⟩
noncomputable def zlx (a0 : (List (Str × V))) : Option (List (Str × V)) :=
 (zal 32 ([] : (List (Str × V))) a0).bind fun x2 =>
 some x2
theorem zyk (a0 r : (List (Str × V))) (h : zlx a0 = some r) : z7a Tryz.prog 94 [(PV.sl none 69 2 (List.map ofFld a0))] [] (PV.rs 0 0 (r).length 69 2) [rowM ofFld 69 r] := by
 unfold zlx at h
 refine z0c Tryz.func94 rfl Tryz.ntmps94 Tryz.results94 rfl (z0i ?_)
 change BW _ _ _ ⟨[(0, (PV.sl none 69 2 (List.map ofFld a0)))], [], _⟩ _
 refine bR ?_
 refine sS rfl rfl rfl ((z7h (e := 69) (sz := 2) (.inl rfl) rfl).cast (y := (PV.rs 0 0 (([] : (List (Str × V)))).length 69 2)) (H'' := [rowM ofFld 69 ([] : (List (Str × V)))]) rfl rfl) (z0b ?_)
 refine cBx ?_
 refine z09 ?_
 refine bR ?_
 refine sX ?_
 refine zcf rfl rfl rfl Tryz.underlying71 rfl rfl ?_
 intro nb1 hnb1
 refine z0b ?_
 refine cBx ?_
 cases nb1
 refine zf7 rfl ?_
 refine z08 ?_
 refine cBx ?_
 refine bR ?_
 refine sS rfl rfl rfl ((zek (xs := []) Tryz.underlying71 z0w rfl rfl rfl rfl rfl rfl rfl ⟨lbE rfl, lbE rfl⟩ rfl).cast (y := (PV.rs 1 0 (([] : (List (Str × V)))).length 69 2)) (H'' := [rowM ofFld 69 ([] : (List (Str × V))), rowM ofFld 69 ([] : (List (Str × V)))]) rfl rfl) ?_
 refine sX ?_
 obtain ⟨x2, hx2, h⟩ := obind h
 refine sS rfl rfl rfl (zbv (f := ofFld) (l := ([] : (List (Str × V)))) Tryz.underlying71 z0w rfl rfl Tryz.underlying71 rfl rfl rfl rfl rfl z74 z79 hx2 rfl) ?_
 refine eX ?_
 obtain rfl := eI h; exact z04 ⟨_, rfl, zk9 (y := (PV.rs 2 0 (x2).length 69 2)) [2] rfl (Wk.refl _) (.rs rfl) (.cons rfl (.same (z4s z0q)) .nil) ⟨rfl, rfl⟩⟩
 have hz := List.map_eq_nil_iff.1 (hnb1 rfl)
 rw [hz] at h
 replace h : some ([] : (List (Str × V))) = some r := h
 refine zf6 rfl ?_
 refine bR ?_
 refine sS rfl rfl rfl ((z7h (e := 69) (sz := 2) (.inl rfl) rfl).cast (y := (PV.rs 1 0 (([] : (List (Str × V)))).length 69 2)) (H'' := [rowM ofFld 69 ([] : (List (Str × V))), rowM ofFld 69 ([] : (List (Str × V)))]) rfl rfl) (z0b ?_)
 refine cBx ?_
 obtain rfl := eI h; exact z04 ⟨_, rfl, zk9 (y := (PV.rs 1 0 (([] : (List (Str × V)))).length 69 2)) [1] rfl (Wk.refl _) (.rs rfl) (.cons rfl (.same (z4s z0q)) .nil) ⟨rfl, rfl⟩⟩
noncomputable def zlp (a0 : (List (Str × V))) (a1 : Str) (a2 : V) : Option (List (Str × V)) :=
 (zlx a0).bind fun x1 =>
 (zi0 x1 a1).bind fun x2 =>
 bif x2.2 then (
 (z5s x1 x2.1).bind fun x4 =>
 some ((x1).set ((x2.1).toNat) (x4.1, a2))
 ) else (
 (zxq 32 x1 x2.1 (a1, a2)).bind fun x5 =>
 some x5
 )
theorem zyf (a0 : (List (Str × V))) (a1 : Str) (a2 : V) (r : (List (Str × V))) (h : zlp a0 a1 a2 = some r) : z0l Tryz.prog 58 [(PV.sl none 69 2 (List.map ofFld a0)), (z0k a1), (ofV a2)] (PV.sl none 69 2 (List.map ofFld r)) := by
 unfold zlp at h
 refine z0c Tryz.func58 rfl Tryz.ntmps58 Tryz.results58 rfl (z0i ?_)
 change BW _ _ _ ⟨[(0, (PV.sl none 69 2 (List.map ofFld a0))), (1, (z0k a1)), (2, (ofV a2))], [], _⟩ _
 refine bR ?_
 refine sS rfl rfl rfl ((z7h (e := 69) (sz := 2) (.inl rfl) rfl).cast (y := (PV.rs 0 0 (([] : (List (Str × V)))).length 69 2)) (H'' := [rowM ofFld 69 ([] : (List (Str × V)))]) rfl rfl) (z0b ?_)
 refine cBx ?_
 refine bR ?_
 refine sX ?_
 obtain ⟨x1, hx1, h⟩ := obind h
 refine sS rfl rfl rfl (z6s rfl zzw rfl (wkr .nil) ⟨(z06 z0q a0), trivial⟩ (zyk a0 x1 hx1) zqw (zef (z4s z0q) (zjh))) ?_
 refine eX ?_
 refine bR ?_
 iterate 2 refine sX ?_
 obtain ⟨x2, hx2, h⟩ := obind h
 refine sS rfl rfl rfl (zow rfl zwt rfl (.cons (.row (f := ofFld) (l := x1) rfl rfl z74 rfl z0q) (.cons (.ha (.wk (Wk.refl _) rfl)) .nil)) (zv9 x1 a1 x2 hx2) (Sc.tup (zn4 Sc.v (zn4 Sc.v zy8)))) ?_
 iterate 4 refine sX ?_
 refine eX ?_
 refine z09 ?_
 refine bR ?_
 refine eX ?_
 refine cX h rfl ?_ ?_
 intro hc3 h
 refine bR ?_
 iterate 3 refine sX ?_
 obtain ⟨x4, hx4, h⟩ := obind h
 refine sS rfl rfl rfl (zgo (l := x1) Tryz.underlying71 z0w rfl rfl rfl rfl hx4) ?_
 refine sS rfl rfl rfl ((zp2 zhq (i := 1) rfl rfl rfl).cast (y := (PV.rf 1 ((x2.1).toNat * 2 + 1))) rfl rfl) ?_
 refine z1l rfl rfl (zot (f := ofFld) (a' := (x4.1, a2)) z23 rfl rfl rfl rfl (z6z hx4).2 z74 rfl (q := 1) rfl (z5c _) (csz_V _) rfl (z86 _) (by simp only [z11]; rfl)) ?_
 refine z0b ?_
 refine cBx ?_
 refine bR ?_
 refine sX ?_
 refine eX ?_
 refine zdw (f := ofFld) (l := ((x1).set ((x2.1).toNat) (x4.1, a2))) 6 1 rfl (by simp only [List.length_set]) rfl z74 rfl ?_
 obtain rfl := eI h; exact z04 ⟨_, rfl, z0n (y := (PV.sl none 69 2 (List.map ofFld ((x1).set ((x2.1).toNat) (x4.1, a2))))) (Wk.refl _) (z06 z0q ((x1).set ((x2.1).toNat) (x4.1, a2))) ⟨rfl, rfl⟩⟩
 intro hc3 h
 refine z08 ?_
 refine cBx ?_
 refine bR ?_
 iterate 4 refine sX ?_
 refine sS rfl rfl rfl (z1k (cs := [(z0k a1), (ofV a2)]) zhq z0w rfl rfl (by simp only [List.all_cons, List.all_nil, z5c, z26, Bool.and_true, Bool.true_and]; try rfl) (by simp only [z3p, List.getElem?_cons_zero, List.getElem?_cons_succ, z11, z0v]; rfl)) ?_
 refine sS rfl rfl rfl ((zek (xs := [(PV.agg [(z0k a1), (ofV a2)])]) Tryz.underlying70 z0w rfl rfl rfl rfl (by simp only [List.all_cons, List.all_nil, z5c, z26, Bool.and_true, Bool.true_and]; try rfl) (by simp only [List.all_cons, List.all_nil, csz_V, z3a, z11, z0v]; try rfl) rfl ⟨lbE rfl, lbE rfl⟩ (by simp only [z9d, z3p, List.flatMap_cons, List.flatMap_nil, z11, z0v]; try rfl)).cast (y := (PV.rs 2 0 (([(a1, a2)] : (List (Str × V)))).length 69 2)) (H'' := [rowM ofFld 69 ([] : (List (Str × V))), rowM ofFld 69 x1, rowM ofFld 69 ([(a1, a2)] : (List (Str × V)))]) rfl rfl) ?_
 obtain ⟨x5, hx5, h⟩ := obind h
 refine sS rfl rfl rfl (zrq (f := ofFld) (l := x1) (a := (a1, a2)) zze Z23 rfl rfl rfl rfl rfl rfl rfl rfl z74 z79 rfl hx5) ?_
 refine eX ?_
 obtain rfl := eI h; exact z04 ⟨_, rfl, z0n (y := (PV.sl none 69 2 (List.map ofFld x5))) (Wk.refl _) (z06 z0q x5) ⟨rfl, rfl⟩⟩
noncomputable def zcn (a0 : V) (a1 : S_api_Step) (a2 : V) : Option V :=
 bif (a0).isList then (
 (zlw ((a0).asList)).bind fun x2 =>
 bif (a1.f_Index == (((x2).length : Nat) : Int)) then (
 (zal 16 x2 ([a2] : (List V))).bind fun x4 =>
 some (V.list x4)
 ) else (
 (z5s x2 a1.f_Index).bind fun x5 =>
 some (V.list ((x2).set ((a1.f_Index).toNat) a2))
 )
 ) else (
 bif (a0).isDict then (
 (zlp ((a0).asDict) a1.f_Name a2).bind fun x7 =>
 some (V.dict x7)
 ) else (
 bif (a0).isRec then (
 ((a0).asRec).bind fun x9 =>
 (zlp x9.fields a1.f_Name a2).bind fun x10 =>
 some (V.record x9.cls x9.ver x10)
 ) else (
 some a0
 )
 )
 )
theorem zvb (a0 : V) (a1 : S_api_Step) (a2 r : V) (h : zcn a0 a1 a2 = some r) : z0l Tryz.prog 35 [(ofV a0), (z02 a1), (ofV a2)] (ofV r) := by
 unfold zcn at h
 refine z0c Tryz.func35 rfl Tryz.ntmps35 Tryz.results35 rfl (z0i ?_)
 change BW _ _ _ ⟨[(0, (ofV a0)), (1, (z02 a1)), (2, (ofV a2))], [], _⟩ _
 refine bR ?_
 refine sX ?_
 refine eX ?_
 refine z09 ?_
 refine bR ?_
 refine eX ?_
 refine z0j ?_
 refine cBx ?_
 refine bR ?_
 refine sS rfl rfl rfl (z27 rfl rfl) ?_
 refine sX ?_
 refine eX ?_
 refine cX h rfl ?_ ?_
 intro hc1 h
 refine bR ?_
 refine eX ?_
 refine bR ?_
 refine sX ?_
 obtain ⟨x2, hx2, h⟩ := obind h
 refine sS rfl rfl rfl (z6s rfl Z05 rfl (wkr .nil) ⟨(z06 ids_V ((a0).asList)), trivial⟩ (zyj ((a0).asList) x2 hx2) zqw (zef (z4s ids_V) (zjh))) ?_
 refine eX ?_
 refine z09 ?_
 refine bR ?_
 iterate 3 refine sX ?_
 refine sS rfl rfl rfl (zrp Tryz.underlying67 rfl rfl) ?_
 refine eX ?_
 refine cX h rfl ?_ ?_
 intro hc3 h
 refine bR ?_
 iterate 2 refine sX ?_
 refine sS rfl rfl rfl ((z1d (xs := [(ofV a2)]) Tryz.underlying67 z23 rfl rfl rfl (by simp only [List.all_cons, List.all_nil, z5c, z26, Bool.and_true, Bool.true_and]; try rfl) (by simp only [List.all_cons, List.all_nil, csz_V, z3a, z11, z0v]; try rfl) rfl ⟨lbE rfl, lbE rfl⟩ (by simp only [z9d, z3p, List.flatMap_cons, List.flatMap_nil, z11, z0v]; try rfl)).cast (y := (PV.sl (some 2) 20 1 (List.map ofV ([a2] : (List V))))) rfl rfl) ?_
 obtain ⟨x4, hx4, h⟩ := obind h
 refine sS rfl rfl rfl (zbv (f := ofV) (l := x2) Tryz.underlying67 z23 rfl rfl Tryz.underlying67 rfl rfl rfl rfl rfl csz_V z86 hx4 rfl) ?_
 refine zmo (s := ⟨_, _, _⟩) (f := ofV) (l := x4) 25 3 rfl rfl rfl csz_V rfl ?_
 refine sS rfl rfl rfl ((z0z Tryz.underlying67 rfl rfl rfl).wk ((Wk.iface (Wk.refl _)).trans (Wk.eq (z7y _).symm))) ?_
 refine eX ?_
 obtain rfl := eI h; exact z04 ⟨_, rfl, z0n (y := (ofV (V.list x4))) (Wk.refl _) (ids_V (V.list x4)) ⟨rfl, rfl⟩⟩
 intro hc3 h
 refine z08 ?_
 refine cBx ?_
 refine bR ?_
 iterate 4 refine sX ?_
 obtain ⟨x5, hx5, h⟩ := obind h
 refine sS rfl rfl rfl (zgo (l := x2) Tryz.underlying67 z23 rfl rfl rfl rfl hx5) ?_
 refine z1l rfl rfl (zot (f := ofV) (a' := a2) z23 rfl rfl rfl rfl (z6z hx5).2 csz_V rfl (q := 0) rfl (z5c _) (csz_V _) rfl (z86 _) (by simp only [z11]; rfl)) ?_
 refine z0b ?_
 refine cBx ?_
 refine z09 ?_
 refine zdw (f := ofV) (l := ((x2).set ((a1.f_Index).toNat) a2)) 8 1 rfl (by simp only [List.length_set]) rfl csz_V rfl ?_
 refine z0f ?_
 refine sX ?_
 refine sS rfl rfl rfl ((z0z Tryz.underlying67 rfl rfl rfl).wk ((Wk.iface (Wk.refl _)).trans (Wk.eq (z7y _).symm))) ?_
 refine eX ?_
 obtain rfl := eI h; exact z04 ⟨_, rfl, z0n (y := (ofV (V.list ((x2).set ((a1.f_Index).toNat) a2)))) (Wk.refl _) (ids_V (V.list ((x2).set ((a1.f_Index).toNat) a2))) ⟨rfl, rfl⟩⟩
 intro hc1 h
 refine bR ?_
 refine sS rfl rfl rfl (z2m rfl rfl) ?_
 refine sX ?_
 refine eX ?_
 refine cX h rfl ?_ ?_
 intro hc6 h
 refine bR ?_
 refine eX ?_
 refine bR ?_
 iterate 4 refine sX ?_
 obtain ⟨x7, hx7, h⟩ := obind h
 refine sS rfl rfl rfl (z05 rfl Z04 rfl (wkr (wkr (wkr .nil))) ⟨(z06 z0q ((a0).asDict)), ⟨rfl, ⟨(ids_V a2), trivial⟩⟩⟩ (zyf ((a0).asDict) a1.f_Name a2 x7 hx7) (z06 z0q x7)) ?_
 refine sS rfl rfl rfl ((z0z Tryz.underlying71 rfl rfl rfl).wk ((Wk.iface (Wk.refl _)).trans (Wk.eq (z59 _).symm))) ?_
 refine eX ?_
 obtain rfl := eI h; exact z04 ⟨_, rfl, z0n (y := (ofV (V.dict x7))) (Wk.refl _) (ids_V (V.dict x7)) ⟨rfl, rfl⟩⟩
 intro hc6 h
 refine bR ?_
 refine sS rfl rfl rfl (z32 rfl rfl) ?_
 refine sX ?_
 refine eX ?_
 refine cX h rfl ?_ ?_
 intro hc8 h
 refine bR ?_
 refine eX ?_
 refine z09 (z1t 16 [] [0] mo (by kernel_rfl) ?_)
 refine gX ?_
 obtain ⟨x9, hx9, h⟩ := obind h
 refine z1m rfl rfl rfl rfl (fun H hp => z1e rfl rfl hx9) ?_
 iterate 3 refine gX ?_
 refine z1m rfl rfl rfl rfl (fun H hp => z1e rfl rfl hx9) ?_
 iterate 3 refine gX ?_
 refine z1m rfl rfl rfl rfl (fun H hp => z1e rfl rfl hx9) ?_
 iterate 5 refine gX ?_
 obtain ⟨x10, hx10, h⟩ := obind h
 refine z1m rfl rfl rfl rfl (fun H hp => z05 rfl Z04 rfl (wkr (wkr (wkr .nil))) ⟨(z06 z0q x9.fields), ⟨rfl, ⟨(ids_V a2), trivial⟩⟩⟩ (zyf x9.fields a1.f_Name a2 x10 hx10) (z06 z0q x10)) ?_
 refine z1y ?_
 change AO _ _ _ _ _
 refine sS rfl rfl rfl (z1k (cs := [(z0k x9.cls), (I64 x9.ver), (PV.sl none 69 2 (List.map ofFld x10))]) zl0 zh3 rfl rfl rfl rfl) ?_
 refine sX ?_
 refine sS rfl rfl rfl (z0z Tryz.underlying73 rfl rfl rfl) ?_
 refine eX ?_
 refine z87 1 6 (y := (ofV (V.record x9.cls x9.ver x10))) rfl rfl ((Wk.iface (Wk.pt (x := .agg [(z0k x9.cls), (I64 x9.ver), (PV.sl none 69 2 (List.map ofFld x10))]) (y := zgs (Rec.mk x9.cls x9.ver x10)) (wkr (wkr (wkr .nil))))).trans (Wk.eq (zgu (some (Rec.mk x9.cls x9.ver x10))).symm)) ?_
 obtain rfl := eI h; exact z04 ⟨_, rfl, z0n (y := (ofV (V.record x9.cls x9.ver x10))) (Wk.refl _) (ids_V (V.record x9.cls x9.ver x10)) ⟨rfl, rfl⟩⟩
 intro hc8 h
 refine z08 ?_
 refine cBx ?_
 refine bR ?_
 refine sX ?_
 refine eX ?_
 obtain rfl := eI h; exact z04 ⟨_, rfl, z0n (y := (ofV a0)) (Wk.refl _) (ids_V a0) ⟨rfl, rfl⟩⟩
noncomputable def zll (a0 : V) (a1 : S_api_Step) (a2 : V) : Option V :=
 (zcn a0 a1 a2).bind fun x1 =>
 some x1
theorem Z0z (a0 : V) (a1 : S_api_Step) (a2 r : V) (h : zll a0 a1 a2 = some r) : z0l Tryz.prog 34 [(ofV a0), (z02 a1), (PV.pt 20 (ofV a2) 0)] (ofV r) := by
 unfold zll at h
 refine z0c Tryz.func34 rfl Tryz.ntmps34 Tryz.results34 rfl (z0i ?_)
 change BW _ _ _ ⟨[(0, (ofV a0)), (1, (z02 a1)), (2, (PV.pt 20 (ofV a2) 0))], [], _⟩ _
 refine bR ?_
 refine sX ?_
 refine eX ?_
 refine bR ?_
 iterate 2 refine sX ?_
 refine sS rfl rfl rfl (z3x (y := (ofV a2)) Tryz.underlying20 rfl rfl rfl (by rw [z11]; rfl)) ?_
 obtain ⟨x1, hx1, h⟩ := obind h
 refine sS rfl rfl rfl (z05 rfl zx1 rfl (wkr (wkr (wkr .nil))) ⟨(ids_V a0), ⟨(z01 a1), ⟨(ids_V a2), trivial⟩⟩⟩ (zvb a0 a1 a2 x1 hx1) (ids_V x1)) ?_
 refine eX ?_
 obtain rfl := eI h; exact z04 ⟨_, rfl, z0n (y := (ofV x1)) (Wk.refl _) (ids_V x1) ⟨rfl, rfl⟩⟩
noncomputable def zg6 (a0 a3c0 : V) (x1 : S_api_Step) (s4 : Int) : Option (V × Int) :=
 bif (s4 != 0) then (
 some (V.nil, s4)
 ) else (
 (zll a0 x1 a3c0).bind fun x6 =>
 some (x6, 0)
 )
noncomputable def zac (a0 a3c0 : V) (x1 : S_api_Step) (x3 : (V × Int)) (s7 : Bool) : Option (V × Int) :=
 bif s7 then (
 zg6 a0 a3c0 x1 0
 ) else (
 zg6 a0 a3c0 x1 x3.2
 )
noncomputable def zml (r_q0b : V → (List S_api_Step) → Bool → V → Option (V × Int)) (a0 : V) (a1 : (List S_api_Step)) (a2 : Bool) (a3c0 : V) : Option (V × Int) :=
 ((a1)[0]?).bind fun x1 =>
 bif ((((a1).length : Nat) : Int) == 1) then (
 (z7w a0 x1).bind fun x3 =>
 bif a2 then (
 bif (x3.2 == 40) then (
 zac a0 a3c0 x1 x3 true
 ) else (
 bif (x3.2 == 42) then (
 bif (a0).isList then (
 zac a0 a3c0 x1 x3 (x1.f_Index == ((((a0).asList).length : Nat) : Int))
 ) else (
 zac a0 a3c0 x1 x3 false
 )
 ) else (
 zac a0 a3c0 x1 x3 false
 )
 )
 ) else (
 zac a0 a3c0 x1 x3 false
 )
 ) else (
 (z7w a0 x1).bind fun x13 =>
 bif (x13.2 != 0) then (
 some (V.nil, x13.2)
 ) else (
 (zhe a1 1 ((a1).length : Int)).bind fun x15 =>
 (r_q0b x13.1 x15 a2 a3c0).bind fun x16 =>
 bif (x16.2 != 0) then (
 some (V.nil, x16.2)
 ) else (
 (zcn a0 x1 x16.1).bind fun x18 =>
 some (x18, 0)
 )
 )
 )
theorem ztm (r_q0b : OF ρ → V → (List S_api_Step) → Bool → V → Option (V × Int)) (h_r_q0b : ∀ y0 y1 y2 y3, CM (fun G => r_q0b G y0 y1 y2 y3)) (a0 : V) (a1 : (List S_api_Step)) (a2 : Bool) (a3c0 : V) : CM (fun G : OF ρ => zml (r_q0b G) a0 a1 a2 a3c0) := by
 simp only [zml]
 repeat (first | exact z0e | exact h_r_q0b _ _ _ _ | apply q0b_j2_cm | refine z13 ?_ ?_ | refine z14 ?_ (fun _ => ?_) | intro _ | assumption)
inductive C_q0b where
 | k_q0b (a0 : V) (a1 : (List S_api_Step)) (a2 : Bool) (a3c0 : V)
def C_q0b.R : C_q0b → Type
 | .k_q0b _ _ _ _ => (V × Int)
noncomputable def C_q0b.F (g : ∀ i : C_q0b, Option i.R) : ∀ i : C_q0b, Option i.R
 | .k_q0b a0 a1 a2 a3c0 => zml (fun a0 a1 a2 a3c0 => g (.k_q0b a0 a1 a2 a3c0)) a0 a1 a2 a3c0
noncomputable def zlu (a0 : V) (a1 : (List S_api_Step)) (a2 : Bool) (a3c0 : V) : Option (V × Int) := z3r C_q0b.F (.k_q0b a0 a1 a2 a3c0)
abbrev gg5 := fun (g : ∀ i : C_q0b, Option i.R) a0 a1 a2 a3c0 => g (.k_q0b a0 a1 a2 a3c0)
theorem hh5 (a0 a1 a2 a3c0 : _) : CM (ρ := C_q0b.R) (fun g => g (C_q0b.k_q0b a0 a1 a2 a3c0)) := z1h
theorem C_q0b.cm (i : C_q0b) : CM (fun g : (∀ i : C_q0b, Option i.R) => C_q0b.F g i) := by
 cases i with
 | k_q0b a0 a1 a2 a3c0 => exact ztm gg5 hh5 a0 a1 a2 a3c0
theorem Z32 (a0 : V) (a1 : (List S_api_Step)) (a2 : Bool) (a3c0 : V) : zlu a0 a1 a2 a3c0 = zml zlu a0 a1 a2 a3c0 := z1f C_q0b.cm (.k_q0b a0 a1 a2 a3c0)
def C_q0b.Q : ∀ i : C_q0b, i.R → Prop
 | .k_q0b a0 a1 a2 a3c0 => fun (r : (V × Int)) => z0l Tryz.prog 33 [(ofV a0), (PV.sl none 83 3 (List.map z02 a1)), (BO a2), (PV.fn (.func 34) [] [(PV.pt 20 (ofV a3c0) 0)])] (PV.tup [(ofV r.1), (I64 r.2)])
theorem z5e (r_q0b : V → (List S_api_Step) → Bool → V → Option (V × Int)) (c_q0b : ∀ (a0 : V) (a1 : (List S_api_Step)) (a2 : Bool) (a3c0 : V) r, r_q0b a0 a1 a2 a3c0 = some r → z0l Tryz.prog 33 [(ofV a0), (PV.sl none 83 3 (List.map z02 a1)), (BO a2), (PV.fn (.func 34) [] [(PV.pt 20 (ofV a3c0) 0)])] (PV.tup [(ofV r.1), (I64 r.2)])) (a0 : V) (a1 : (List S_api_Step)) (a2 : Bool) (a3c0 : V) (r : (V × Int)) (h : zml r_q0b a0 a1 a2 a3c0 = some r) : z0l Tryz.prog 33 [(ofV a0), (PV.sl none 83 3 (List.map z02 a1)), (BO a2), (PV.fn (.func 34) [] [(PV.pt 20 (ofV a3c0) 0)])] (PV.tup [(ofV r.1), (I64 r.2)]) := by
 unfold zml at h
 refine z0c Tryz.func33 rfl Tryz.ntmps33 Tryz.results33 rfl (z0i ?_)
 change BW _ _ _ ⟨[(0, (ofV a0)), (1, (PV.sl none 83 3 (List.map z02 a1))), (2, (BO a2)), (3, (PV.fn (.func 34) [] [(PV.pt 20 (ofV a3c0) 0)]))], [], _⟩ _
 refine bR ?_
 refine sX ?_
 refine eX ?_
 refine bR ?_
 refine sX ?_
 obtain ⟨x1, hx1, h⟩ := obind h
 refine sS rfl rfl rfl (z1v (i := 0) Tryz.underlying30 z19 rfl rfl rfl hx1 rfl) ?_
 refine sX ?_
 refine sS rfl rfl rfl (z28 z19 rfl) ?_
 refine z1l rfl rfl (z1b z19 rfl rfl rfl rfl rfl rfl (lbE rfl) rfl) ?_
 refine z0b ?_
 refine cBx ?_
 refine z09 ?_
 refine bR ?_
 iterate 2 refine sX ?_
 refine eX ?_
 refine cX h rfl ?_ ?_
 intro hc2 h
 refine bR ?_
 iterate 2 refine sX ?_
 obtain ⟨x3, hx3, h⟩ := obind h
 refine sS rfl rfl rfl (z05 rfl zpx rfl (wkr (wkr .nil)) ⟨(ids_V a0), ⟨(z01 x1), trivial⟩⟩ (zn5 a0 x1 x3 hx3) (z00 (ids_V x3.1) (z00 rfl z03))) ?_
 iterate 4 refine sX ?_
 refine eX ?_
 refine bR ?_
 refine sX ?_
 refine sS rfl rfl rfl (z27 rfl rfl) ?_
 iterate 4 refine sX ?_
 refine eX ?_
 refine z2h (ι := Int) (fun i => zg6 a0 a3c0 x1 i = some r) (fun i => [(0, (ofV a0)), (3, (PV.fn (.func 34) [] [(PV.pt 20 (ofV a3c0) 0)])), (10, (PV.rf 0 0)), (12, (I64 i))]) (fun i => [.box 83 [(z0k x1.f_Name), (BO x1.f_At), (I64 x1.f_Index)]]) ?_ ?_ ?_
 intro i; exact ⟨lbE rfl, ⟨(z0a (ids_V _)), ⟨(z0a (z3z (z3y (ids_V a3c0) rfl))), ⟨(il_rf rfl), ⟨(z0a rfl), trivial⟩⟩⟩⟩, ⟨⟨(z0a rfl), ⟨(z0a rfl), ⟨(z0a rfl), trivial⟩⟩⟩, trivial⟩⟩
 rintro s4 h; replace h : zg6 a0 a3c0 x1 s4 = some r := h; unfold zg6 at h
 change BW _ _ _ ⟨[(0, (ofV a0)), (3, (PV.fn (.func 34) [] [(PV.pt 20 (ofV a3c0) 0)])), (10, (PV.rf 0 0)), (12, (I64 s4))], [.box 83 [(z0k x1.f_Name), (BO x1.f_At), (I64 x1.f_Index)]], _⟩ _
 refine z09 ?_
 refine bR ?_
 refine sX ?_
 refine eX ?_
 refine cX h rfl ?_ ?_
 intro hc5 h
 refine bR ?_
 iterate 2 refine sX ?_
 refine eX ?_
 obtain rfl := eI h; exact z04 ⟨_, rfl, z0n (y := (PV.tup [(ofV V.nil), (I64 s4)])) (Wk.tup (.cons (Wk.eq mk_nil.symm) (wkr .nil))) (z00 (ids_V V.nil) (z00 rfl z03)) ⟨rfl, rfl⟩⟩
 intro hc5 h
 refine z08 ?_
 refine cBx ?_
 refine bR ?_
 iterate 3 refine sX ?_
 obtain ⟨x6, hx6, h⟩ := obind h
 refine sS rfl rfl rfl (z2u rfl rfl Z2o rfl (wkr (wkr (wkr .nil))) ⟨(ids_V a0), ⟨(z01 x1), ⟨(z70 (ids_V a3c0)), trivial⟩⟩⟩ (Z0z a0 x1 a3c0 x6 hx6) (ids_V x6)) ?_
 refine sX ?_
 refine eX ?_
 obtain rfl := eI h; exact z04 ⟨_, rfl, z0n (y := (PV.tup [(ofV x6), (I64 0)])) (Wk.refl _) (z00 (ids_V x6) (z00 rfl z03)) ⟨rfl, rfl⟩⟩
 refine z2h (ι := Bool) (fun i => zac a0 a3c0 x1 x3 i = some r) (fun i => [(0, (ofV a0)), (3, (PV.fn (.func 34) [] [(PV.pt 20 (ofV a3c0) 0)])), (10, (PV.rf 0 0)), (12, (I64 x3.2)), (53, (BO i))]) (fun i => [.box 83 [(z0k x1.f_Name), (BO x1.f_At), (I64 x1.f_Index)]]) ?_ ?_ ?_
 intro i; exact ⟨lbE rfl, ⟨(z0a (ids_V _)), ⟨(z0a (z3z (z3y (ids_V a3c0) rfl))), ⟨(il_rf rfl), ⟨(z0a rfl), ⟨(z0a rfl), trivial⟩⟩⟩⟩⟩, ⟨⟨(z0a rfl), ⟨(z0a rfl), ⟨(z0a rfl), trivial⟩⟩⟩, trivial⟩⟩
 rintro s7 h; replace h : zac a0 a3c0 x1 x3 s7 = some r := h; unfold zac at h
 change BW _ _ _ ⟨[(0, (ofV a0)), (3, (PV.fn (.func 34) [] [(PV.pt 20 (ofV a3c0) 0)])), (10, (PV.rf 0 0)), (12, (I64 x3.2)), (53, (BO s7))], [.box 83 [(z0k x1.f_Name), (BO x1.f_At), (I64 x1.f_Index)]], _⟩ _
 refine cX h rfl ?_ ?_
 intro hc8 h
 refine z0f ?_
 refine sX (z0b ?_)
 exact ⟨rfl, 0, h, jN⟩
 intro hc8 h
 refine z08 ?_
 exact ⟨rfl, x3.2, h, jN⟩
 refine z0f ?_
 iterate 2 refine sX ?_
 refine z0p (t := 36) rfl ?_ ?_
 intro hb9; replace h := z0r hb9 h
 iterate 3 refine yX ?_
 refine z0p (t := 39) rfl ?_ ?_
 intro hb10; replace h := z0r hb10 h
 iterate 12 refine nX ?_
 refine yX ?_
 refine sX (z0b ?_)
 exact ⟨rfl, true, h, jN⟩
 intro hb10; replace h := z0s hb10 h
 iterate 3 refine yX ?_
 refine z0p (t := 42) rfl ?_ ?_
 intro hb11; replace h := z0r hb11 h
 iterate 3 refine yX ?_
 refine z0p (t := 45) rfl ?_ ?_
 intro hb12; replace h := z0r hb12 h
 iterate 7 refine yX ?_
 refine sX (z0b ?_)
 exact ⟨rfl, (x1.f_Index == ((((a0).asList).length : Nat) : Int)), h, jN⟩
 intro hb12; replace h := z0s hb12 h
 iterate 5 refine nX ?_
 iterate 2 refine yX ?_
 refine sX (z0b ?_)
 exact ⟨rfl, false, h, jN⟩
 intro hb11; replace h := z0s hb11 h
 refine nX ?_
 iterate 2 refine yX ?_
 iterate 5 refine nX ?_
 iterate 2 refine yX ?_
 refine sX (z0b ?_)
 exact ⟨rfl, false, h, jN⟩
 intro hb9; replace h := z0s hb9 h
 iterate 16 refine nX ?_
 refine sX (z0b ?_)
 exact ⟨rfl, false, h, jN⟩
 intro hc2 h
 refine z08 ?_
 refine cBx ?_
 refine bR ?_
 iterate 2 refine sX ?_
 obtain ⟨x13, hx13, h⟩ := obind h
 refine sS rfl rfl rfl (z05 rfl zpx rfl (wkr (wkr .nil)) ⟨(ids_V a0), ⟨(z01 x1), trivial⟩⟩ (zn5 a0 x1 x13 hx13) (z00 (ids_V x13.1) (z00 rfl z03))) ?_
 iterate 4 refine sX ?_
 refine eX ?_
 refine z09 ?_
 refine bR ?_
 refine sX ?_
 refine eX ?_
 refine cX h rfl ?_ ?_
 intro hc14 h
 refine bR ?_
 iterate 2 refine sX ?_
 refine eX ?_
 obtain rfl := eI h; exact z04 ⟨_, rfl, z0n (y := (PV.tup [(ofV V.nil), (I64 x13.2)])) (Wk.tup (.cons (Wk.eq mk_nil.symm) (wkr .nil))) (z00 (ids_V V.nil) (z00 rfl z03)) ⟨rfl, rfl⟩⟩
 intro hc14 h
 refine z08 ?_
 refine cBx ?_
 refine bR ?_
 iterate 2 refine sX ?_
 obtain ⟨x15, hx15, h⟩ := obind h
 refine sS rfl rfl rfl (zel (a := 1) (b := ((a1).length : Int)) Tryz.underlying30 z19 rfl rfl rfl rfl rfl rfl hx15) ?_
 iterate 2 refine sX ?_
 obtain ⟨x16, hx16, h⟩ := obind h
 refine sS rfl rfl rfl (z05 rfl zsv rfl (wkr (wkr (wkr (wkr .nil)))) ⟨(ids_V x13.1), ⟨(z06 z01 x15), ⟨rfl, ⟨(z3z (z3y (ids_V a3c0) rfl)), trivial⟩⟩⟩⟩ (c_q0b x13.1 x15 a2 a3c0 x16 hx16) (z00 (ids_V x16.1) (z00 rfl z03))) ?_
 iterate 4 refine sX ?_
 refine eX ?_
 refine z09 ?_
 refine bR ?_
 refine sX ?_
 refine eX ?_
 refine cX h rfl ?_ ?_
 intro hc17 h
 refine bR ?_
 iterate 2 refine sX ?_
 refine eX ?_
 obtain rfl := eI h; exact z04 ⟨_, rfl, z0n (y := (PV.tup [(ofV V.nil), (I64 x16.2)])) (Wk.tup (.cons (Wk.eq mk_nil.symm) (wkr .nil))) (z00 (ids_V V.nil) (z00 rfl z03)) ⟨rfl, rfl⟩⟩
 intro hc17 h
 refine z08 ?_
 refine cBx ?_
 refine bR ?_
 iterate 3 refine sX ?_
 obtain ⟨x18, hx18, h⟩ := obind h
 refine sS rfl rfl rfl (z05 rfl zx1 rfl (wkr (wkr (wkr .nil))) ⟨(ids_V a0), ⟨(z01 x1), ⟨(ids_V x16.1), trivial⟩⟩⟩ (zvb a0 x1 x16.1 x18 hx18) (ids_V x18)) ?_
 refine sX ?_
 refine eX ?_
 obtain rfl := eI h; exact z04 ⟨_, rfl, z0n (y := (PV.tup [(ofV x18), (I64 0)])) (Wk.refl _) (z00 (ids_V x18) (z00 rfl z03)) ⟨rfl, rfl⟩⟩
theorem C_q0b.sound : ∀ (i : C_q0b) (r : i.R), z3r C_q0b.F i = some r → C_q0b.Q i r := by
 refine z6a (Φ := C_q0b.F) (Q := C_q0b.Q) ?_
 intro g hg i r h
 cases i with
 | k_q0b a0 a1 a2 a3c0 => exact z5e (fun a0 a1 a2 a3c0 => g (.k_q0b a0 a1 a2 a3c0)) (fun a0 a1 a2 a3c0 r hr => hg (.k_q0b a0 a1 a2 a3c0) r hr) a0 a1 a2 a3c0 r h
theorem Z1e (a0 : V) (a1 : (List S_api_Step)) (a2 : Bool) (a3c0 : V) (r : (V × Int)) (h : zlu a0 a1 a2 a3c0 = some r) : z0l Tryz.prog 33 [(ofV a0), (PV.sl none 83 3 (List.map z02 a1)), (BO a2), (PV.fn (.func 34) [] [(PV.pt 20 (ofV a3c0) 0)])] (PV.tup [(ofV r.1), (I64 r.2)]) := C_q0b.sound (.k_q0b a0 a1 a2 a3c0) r h
end Go.Proofs.YthidgpcbnieleaaGreatDoor
