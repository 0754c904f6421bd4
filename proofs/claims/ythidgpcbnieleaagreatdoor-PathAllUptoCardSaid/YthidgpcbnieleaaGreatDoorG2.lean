/- Pure functions, and that calls answer as they say. -/
import Derived.Test.YthidgpcbnieleaaGreatDoorG1
namespace Go.Proofs.YthidgpcbnieleaaGreatDoor
open Go Aw
set_option linter.unusedVariables false
set_option linter.unusedSimpArgs false
set_option maxRecDepth 20000
set_option maxHeartbeats 2000000
variable {ι : Type} {ρ : ι → Type}
noncomputable def ze8 (a1 : S_api_Step) (x5 : ((List (Str × V)) × Bool)) (s6 : Bool) : Option (V × Int) :=
 bif s6 then (
 some (V.nil, 41)
 ) else (
 (zjo x5.1 a1.f_Name).bind fun x8 =>
 bif (!x8.2) then (
 some (V.nil, 40)
 ) else (
 (z7g x5.1 x8.1).bind fun x10 =>
 some (x10.2, 0)
 )
 )
noncomputable def zbd (a0 : V) (a1 : S_api_Step) (s1 : Bool) : Option (V × Int) :=
 bif s1 then (
 bif (decide (a1.f_Index ≥ ((((a0).asList).length : Nat) : Int))) then (
 some (V.nil, 42)
 ) else (
 (z7g ((a0).asList) a1.f_Index).bind fun x4 =>
 some (x4, 0)
 )
 ) else (
 (zfq a0).bind fun x5 =>
 bif (!x5.2) then (
 ze8 a1 x5 true
 ) else (
 ze8 a1 x5 a1.f_At
 )
 )
noncomputable def z8p (a0 : V) (a1 : S_api_Step) : Option (V × Int) :=
 bif (a0).isList then (
 zbd a0 a1 a1.f_At
 ) else (
 zbd a0 a1 false
 )
theorem zp9 (a0 : V) (a1 : S_api_Step) (r : (V × Int)) (h : z8p a0 a1 = some r) : z0m Tryz.prog 56 [(ofV a0), (z00 a1)] (PV.tup [(ofV r.1), (I64 r.2)]) := by
 unfold z8p at h
 refine z0d Tryz.func56 rfl Tryz.ntmps56 Tryz.results56 rfl (z0g ?_)
 change BW _ _ _ ⟨[(0, (ofV a0)), (1, (z00 a1))], [], _⟩ _
 refine bR ?_
 iterate 2 refine sX ?_
 refine eX ?_
 refine z08 ?_
 refine bR ?_
 refine sX ?_
 refine sS rfl rfl rfl (z1w rfl rfl) ?_
 iterate 4 refine sX ?_
 refine eX ?_
 refine z2t (ι := Bool) (fun i => zbd a0 a1 i = some r) (fun i => [(0, (ofV a0)), (3, (PV.rf 0 0)), (6, (PV.sl none 20 1 (List.map ofV (a0).asList))), (21, (BO i))]) (fun i => [.box 83 [(z0i a1.f_Name), (BO a1.f_At), (I64 a1.f_Index)]]) ?_ ?_ ?_
 intro i; exact ⟨lbE rfl, ⟨(z09 (ids_V _)), ⟨(il_rf rfl), ⟨(z09 (z03 ids_V _)), ⟨(z09 rfl), trivial⟩⟩⟩⟩, ⟨⟨(z09 rfl), ⟨(z09 rfl), ⟨(z09 rfl), trivial⟩⟩⟩, trivial⟩⟩
 rintro s1 h; replace h : zbd a0 a1 s1 = some r := h; unfold zbd at h
 change BW _ _ _ ⟨[(0, (ofV a0)), (3, (PV.rf 0 0)), (6, (PV.sl none 20 1 (List.map ofV (a0).asList))), (21, (BO s1))], [.box 83 [(z0i a1.f_Name), (BO a1.f_At), (I64 a1.f_Index)]], _⟩ _
 refine cX h rfl ?_ ?_
 intro hc2 h
 refine z08 ?_
 refine bR ?_
 iterate 4 refine sX ?_
 refine eX ?_
 refine cX h rfl ?_ ?_
 intro hc3 h
 refine bR ?_
 refine sX ?_
 refine eX ?_
 obtain rfl := eI h; exact z05 ⟨_, rfl, z0p (y := (PV.tup [(ofV V.nil), (I64 42)])) (Wk.tup (.cons (Wk.eq mk_nil.symm) (wkr .nil))) (z01 (ids_V V.nil) (z01 rfl z04)) ⟨rfl, rfl⟩⟩
 intro hc3 h
 refine z07 ?_
 refine cBx ?_
 refine bR ?_
 iterate 3 refine sX ?_
 obtain ⟨x4, hx4, h⟩ := obind h
 refine sS rfl rfl rfl (z2h Tryz.underlying67 z1t rfl rfl rfl hx4 rfl) ?_
 refine sS rfl rfl rfl (z1y (y := (ofV x4)) Tryz.underlying20 rfl rfl rfl (by rw [z0t]; rfl)) ?_
 refine sX ?_
 refine eX ?_
 obtain rfl := eI h; exact z05 ⟨_, rfl, z0p (y := (PV.tup [(ofV x4), (I64 0)])) (Wk.refl _) (z01 (ids_V x4) (z01 rfl z04)) ⟨rfl, rfl⟩⟩
 intro hc2 h
 refine z07 ?_
 refine cBx ?_
 refine bR ?_
 refine sX ?_
 obtain ⟨x5, hx5, h⟩ := obind h
 refine sS rfl rfl rfl (z06 rfl zvg rfl (wkr .nil) ⟨(ids_V a0), trivial⟩ (ztf a0 x5 hx5) (z01 (z03 z0r x5.1) (z01 rfl z04))) ?_
 iterate 4 refine sX ?_
 refine eX ?_
 refine z08 ?_
 refine jX (ι := Bool) (fun i => ze8 a1 x5 i = some r) (fun i => [(3, (PV.rf 0 0)), (8, (PV.sl none 69 2 (List.map ofFld x5.1))), (42, (BO i))]) (fun i => [.box 83 [(z0i a1.f_Name), (BO a1.f_At), (I64 a1.f_Index)]]) ?_ ?_
 rintro s6 h; replace h : ze8 a1 x5 s6 = some r := h; unfold ze8 at h
 change BW _ _ _ ⟨[(3, (PV.rf 0 0)), (8, (PV.sl none 69 2 (List.map ofFld x5.1))), (42, (BO s6))], [.box 83 [(z0i a1.f_Name), (BO a1.f_At), (I64 a1.f_Index)]], _⟩ _
 refine cX h rfl ?_ ?_
 intro hc7 h
 refine bR ?_
 refine sX ?_
 refine eX ?_
 obtain rfl := eI h; exact z05 ⟨_, rfl, z0p (y := (PV.tup [(ofV V.nil), (I64 41)])) (Wk.tup (.cons (Wk.eq mk_nil.symm) (wkr .nil))) (z01 (ids_V V.nil) (z01 rfl z04)) ⟨rfl, rfl⟩⟩
 intro hc7 h
 refine z07 ?_
 refine cBx ?_
 refine bR ?_
 iterate 3 refine sX ?_
 obtain ⟨x8, hx8, h⟩ := obind h
 refine sS rfl rfl rfl (z06 rfl zzz rfl (wkr (wkr .nil)) ⟨(z03 z0r x5.1), ⟨rfl, trivial⟩⟩ (zyb x5.1 a1.f_Name x8 hx8) (z01 rfl (z01 rfl z04))) ?_
 iterate 4 refine sX ?_
 refine eX ?_
 refine z08 ?_
 refine bR ?_
 refine sX ?_
 refine eX ?_
 refine cX h rfl ?_ ?_
 intro hc9 h
 refine bR ?_
 refine sX ?_
 refine eX ?_
 obtain rfl := eI h; exact z05 ⟨_, rfl, z0p (y := (PV.tup [(ofV V.nil), (I64 40)])) (Wk.tup (.cons (Wk.eq mk_nil.symm) (wkr .nil))) (z01 (ids_V V.nil) (z01 rfl z04)) ⟨rfl, rfl⟩⟩
 intro hc9 h
 refine z07 ?_
 refine cBx ?_
 refine bR ?_
 iterate 2 refine sX ?_
 obtain ⟨x10, hx10, h⟩ := obind h
 refine sS rfl rfl rfl (z2h Tryz.underlying71 z0z rfl rfl rfl hx10 rfl) ?_
 iterate 3 refine sX ?_
 refine eX ?_
 obtain rfl := eI h; exact z05 ⟨_, rfl, z0p (y := (PV.tup [(ofV x10.2), (I64 0)])) (Wk.refl _) (z01 (ids_V x10.2) (z01 rfl z04)) ⟨rfl, rfl⟩⟩
 refine z0f ?_
 iterate 3 refine sX ?_
 refine z0q (t := 39) rfl ?_ ?_
 intro hb11; replace h := z0x hb11 h
 iterate 2 refine nX ?_
 refine sX (z0a ?_)
 exact ⟨rfl, true, h, jN⟩
 intro hb11; replace h := z0y hb11 h
 iterate 2 refine yX ?_
 refine sX (z0a ?_)
 exact ⟨rfl, a1.f_At, h, jN⟩
 refine z0f ?_
 iterate 2 refine sX ?_
 refine z0q (t := 18) rfl ?_ ?_
 intro hb12; replace h := z0x hb12 h
 iterate 2 refine yX ?_
 refine sX (z0a ?_)
 exact ⟨rfl, a1.f_At, h, jN⟩
 intro hb12; replace h := z0y hb12 h
 iterate 2 refine nX ?_
 refine sX (z0a ?_)
 exact ⟨rfl, false, h, jN⟩
noncomputable def z6s (a1 : (List S_api_Step)) (g1 : V → Nat → Option (V × Int)) (s1 : V) (s2 : Nat) : Option (V × Int) :=
 bif (decide (((s2 : Nat) : Int) < (((a1).length : Nat) : Int))) then (
 ((a1)[s2]?).bind fun x5 =>
 (z8p s1 x5).bind fun x6 =>
 bif (x6.2 != 0) then (
 some (V.nil, x6.2)
 ) else (
 g1 x6.1 (s2 + 1)
 )
 ) else (
 some (s1, 0)
 )
theorem znj (g1 : OF ρ → V → Nat → Option (V × Int)) (h_g1 : ∀ y0 y1, CM (fun G => g1 G y0 y1)) (a1 : (List S_api_Step)) (s1 : V) (s2 : Nat) : CM (fun G : OF ρ => z6s a1 (g1 G) s1 s2) := by
 simp only [z6s]
 repeat (first | exact z0c | exact h_g1 _ _ | refine z11 ?_ ?_ | refine z12 ?_ (fun _ => ?_))
noncomputable def zh2 (a1 : (List S_api_Step)) (s1 : V) (s2 : Nat) : Option (V × Int) :=
 z2w (ι := (V × Nat)) (ρ := fun _ => (V × Int)) (fun g i => z6s a1 (fun s1 s2 => g (s1, s2)) i.1 i.2) (s1, s2)
theorem zh1 (a1 : (List S_api_Step)) (s1 : V) (s2 : Nat) : zh2 a1 s1 s2 = z6s a1 (zh2 a1) s1 s2 :=
 z19 (ι := (V × Nat)) (ρ := fun _ => (V × Int)) (Φ := fun g i => z6s a1 (fun s1 s2 => g (s1, s2)) i.1 i.2) (fun i => znj (ι := (V × Nat)) (ρ := fun _ => (V × Int)) (fun g => (fun s1 s2 => g (s1, s2))) (fun _ _ => z17) a1 i.1 i.2) (s1, s2)
noncomputable def zqi (a0 : V) (a1 : (List S_api_Step)) : Option (V × Int) :=
 zh2 a1 a0 0
theorem Z4i (a0 : V) (a1 : (List S_api_Step)) (r : (V × Int)) (h : zqi a0 a1 = some r) : z0m Tryz.prog 36 [(ofV a0), (PV.sl none 83 3 (List.map z00 a1))] (PV.tup [(ofV r.1), (I64 r.2)]) := by
 unfold zqi at h
 refine z0d Tryz.func36 rfl Tryz.ntmps36 Tryz.results36 rfl (z0g ?_)
 change BW _ _ _ ⟨[(0, (ofV a0)), (1, (PV.sl none 83 3 (List.map z00 a1)))], [], _⟩ _
 refine bR ?_
 refine sX ?_
 refine eX ?_
 refine z08 ?_
 refine bR ?_
 iterate 2 refine sX ?_
 refine eX ?_
 refine z0h ?_
 refine cBx ?_
 unfold zh2 at h
 refine z2u (σ := (V × Nat)) (fun i => [(0, (ofV i.1)), (10, (PV.sl none 83 3 (List.map z00 a1))), (11, (I64 ((((a1).length : Nat) : Int)))), (12, (I64 (((i.2 : Nat) : Int))))]) (fun i => []) (a0, 0) h ?_ ?_ ?_
 intro i; exact ⟨lbE rfl, ⟨(z09 (ids_V _)), ⟨(z09 (z03 z02 _)), ⟨(z09 rfl), ⟨(z09 rfl), trivial⟩⟩⟩⟩, trivial⟩
 exact jN
 rintro g1_f ⟨s1, s2⟩ h; replace h : z6s a1 (fun y0 y1 => g1_f (y0, y1)) s1 s2 = some r := h; unfold z6s at h
 change BW _ _ _ ⟨[(0, (ofV s1)), (10, (PV.sl none 83 3 (List.map z00 a1))), (11, (I64 ((((a1).length : Nat) : Int)))), (12, (I64 (((s2 : Nat) : Int))))], [], _⟩ _
 refine bR ?_
 refine eX ?_
 refine z08 ?_
 refine z3j (t := 10) rfl fun hb4 => ?_
 try rw [List.length_map] at hb4
 refine cX h rfl ?_ ?_
 intro hc3 h
 have hc3_ := of_decide_eq_true hc3
 refine z07 ?_
 refine cBx ?_
 refine z08 ?_
 refine z0h ?_
 refine cBx ?_
 refine bR ?_
 obtain ⟨x5, hx5, h⟩ := obind h
 refine sS rfl rfl rfl (z1r (i := s2) Tryz.underlying30 z1h rfl rfl rfl hx5 rfl) ?_
 refine sX ?_
 refine sS rfl rfl rfl (z14 z1h rfl) ?_
 refine z0j rfl rfl (z0e z1h rfl rfl rfl rfl rfl rfl (lbE rfl) rfl) ?_
 refine z0a ?_
 refine cBx ?_
 refine bR ?_
 iterate 2 refine sX ?_
 obtain ⟨x6, hx6, h⟩ := obind h
 refine sS rfl rfl rfl (z06 rfl zsd rfl (wkr (wkr .nil)) ⟨(ids_V s1), ⟨(z02 x5), trivial⟩⟩ (zp9 s1 x5 x6 hx6) (z01 (ids_V x6.1) (z01 rfl z04))) ?_
 iterate 4 refine sX ?_
 refine eX ?_
 refine z08 ?_
 refine bR ?_
 refine sX ?_
 refine eX ?_
 refine cX h rfl ?_ ?_
 intro hc7 h
 refine bR ?_
 iterate 2 refine sX ?_
 refine eX ?_
 obtain rfl := eI h; exact z05 ⟨_, rfl, z0p (y := (PV.tup [(ofV V.nil), (I64 x6.2)])) (Wk.tup (.cons (Wk.eq mk_nil.symm) (wkr .nil))) (z01 (ids_V V.nil) (z01 rfl z04)) ⟨rfl, rfl⟩⟩
 intro hc7 h
 refine z07 ?_
 refine cBx ?_
 refine z0f ?_
 refine sX ?_
 refine eX ?_
 refine z0f ?_
 refine sS rfl rfl rfl (z27 (k := s2) (c := 1) rfl rfl rfl (by omega)) ?_
 refine sX (z0a ?_)
 exact ⟨rfl, (x6.1, (s2 + 1)), h, jN⟩
 intro hc3 h
 refine z1z ?_
 refine cBx ?_
 refine bR ?_
 iterate 2 refine sX ?_
 refine eX ?_
 obtain rfl := eI h; exact z05 ⟨_, rfl, z0p (y := (PV.tup [(ofV s1), (I64 0)])) (Wk.refl _) (z01 (ids_V s1) (z01 rfl z04)) ⟨rfl, rfl⟩⟩
noncomputable def z5p (r_q1g : V → Option V) (a0 : (List (Str × V))) (g1 : (List (Str × V)) → Nat → Option (List (Str × V))) (s2 : (List (Str × V))) (s3 : Nat) : Option (List (Str × V)) :=
 bif (decide (((s3 : Nat) : Int) < (((a0).length : Nat) : Int))) then (
 ((a0)[s3]?).bind fun x6 =>
 (r_q1g x6.2).bind fun x7 =>
 (z8k 32 s2 ([(x6.1, x7)] : (List (Str × V)))).bind fun x8 =>
 g1 x8 (s3 + 1)
 ) else (
 some s2
 )
theorem zar (r_q1g : OF ρ → V → Option V) (h_r_q1g : ∀ y0, CM (fun G => r_q1g G y0)) (g1 : OF ρ → (List (Str × V)) → Nat → Option (List (Str × V))) (h_g1 : ∀ y0 y1, CM (fun G => g1 G y0 y1)) (a0 s2 : (List (Str × V))) (s3 : Nat) : CM (fun G : OF ρ => z5p (r_q1g G) a0 (g1 G) s2 s3) := by
 simp only [z5p]
 repeat (first | exact z0c | exact h_r_q1g _ | exact h_g1 _ _ | refine z11 ?_ ?_ | refine z12 ?_ (fun _ => ?_))
noncomputable def zeg (r_q1g : V → Option V) (a0 s2 : (List (Str × V))) (s3 : Nat) : Option (List (Str × V)) :=
 z2w (ι := ((List (Str × V)) × Nat)) (ρ := fun _ => (List (Str × V))) (fun g i => z5p r_q1g a0 (fun s2 s3 => g (s2, s3)) i.1 i.2) (s2, s3)
theorem zhl (r_q1g : V → Option V) (a0 s2 : (List (Str × V))) (s3 : Nat) : zeg r_q1g a0 s2 s3 = z5p r_q1g a0 (zeg r_q1g a0) s2 s3 :=
 z19 (ι := ((List (Str × V)) × Nat)) (ρ := fun _ => (List (Str × V))) (Φ := fun g i => z5p r_q1g a0 (fun s2 s3 => g (s2, s3)) i.1 i.2) (fun i => zar (ι := ((List (Str × V)) × Nat)) (ρ := fun _ => (List (Str × V))) (fun _ => r_q1g) (fun _ => z0c) (fun g => (fun s2 s3 => g (s2, s3))) (fun _ _ => z17) a0 i.1 i.2) (s2, s3)
theorem zps (r_q1g : OF ρ → V → Option V) (h_r_q1g : ∀ y0, CM (fun G => r_q1g G y0)) (a0 s2 : (List (Str × V))) (s3 : Nat) : CM (fun G : OF ρ => zeg (r_q1g G) a0 s2 s3) :=
 z40 (κ := ((List (Str × V)) × Nat)) (τ := fun _ => (List (Str × V))) (Φ := fun G g i => z5p (r_q1g G) a0 (fun s2 s3 => g (s2, s3)) i.1 i.2) (fun g i => zar r_q1g h_r_q1g (fun _ => (fun s2 s3 => g (s2, s3))) (fun _ _ => z0c) a0 i.1 i.2) (fun G i => zar (ι := ((List (Str × V)) × Nat)) (ρ := fun _ => (List (Str × V))) (fun _ => r_q1g G) (fun _ => z0c) (fun g => (fun s2 s3 => g (s2, s3))) (fun _ _ => z17) a0 i.1 i.2) (s2, s3)
noncomputable def zkz (r_q0t : (List (Str × V)) → Option (List (Str × V))) (r_q1g : V → Option V) (a0 : (List (Str × V))) : Option (List (Str × V)) :=
 (zjl ((a0).length) 32).bind fun x1 =>
 zeg r_q1g a0 ([] : (List (Str × V))) 0
theorem zwf (r_q0t : OF ρ → (List (Str × V)) → Option (List (Str × V))) (h_r_q0t : ∀ y0, CM (fun G => r_q0t G y0)) (r_q1g : OF ρ → V → Option V) (h_r_q1g : ∀ y0, CM (fun G => r_q1g G y0)) (a0 : (List (Str × V))) : CM (fun G : OF ρ => zkz (r_q0t G) (r_q1g G) a0) := by
 simp only [zkz]
 repeat (first | exact z0c | exact h_r_q0t _ | exact h_r_q1g _ | apply zps | refine z11 ?_ ?_ | refine z12 ?_ (fun _ => ?_) | intro _ | assumption)
noncomputable def z5l (r_q1g : V → Option V) (a0 : V) (g1 : (List V) → Nat → Option V) (s5 : (List V)) (s6 : Nat) : Option V :=
 bif (decide (((s6 : Nat) : Int) < ((((a0).asList).length : Nat) : Int))) then (
 (((a0).asList)[s6]?).bind fun x9 =>
 (r_q1g x9).bind fun x10 =>
 (z8k 16 s5 ([x10] : (List V))).bind fun x11 =>
 g1 x11 (s6 + 1)
 ) else (
 some (V.list s5)
 )
theorem zan (r_q1g : OF ρ → V → Option V) (h_r_q1g : ∀ y0, CM (fun G => r_q1g G y0)) (g1 : OF ρ → (List V) → Nat → Option V) (h_g1 : ∀ y0 y1, CM (fun G => g1 G y0 y1)) (a0 : V) (s5 : (List V)) (s6 : Nat) : CM (fun G : OF ρ => z5l (r_q1g G) a0 (g1 G) s5 s6) := by
 simp only [z5l]
 repeat (first | exact z0c | exact h_r_q1g _ | exact h_g1 _ _ | refine z11 ?_ ?_ | refine z12 ?_ (fun _ => ?_))
noncomputable def zeb (r_q1g : V → Option V) (a0 : V) (s5 : (List V)) (s6 : Nat) : Option V :=
 z2w (ι := ((List V) × Nat)) (ρ := fun _ => V) (fun g i => z5l r_q1g a0 (fun s5 s6 => g (s5, s6)) i.1 i.2) (s5, s6)
theorem zhe (r_q1g : V → Option V) (a0 : V) (s5 : (List V)) (s6 : Nat) : zeb r_q1g a0 s5 s6 = z5l r_q1g a0 (zeb r_q1g a0) s5 s6 :=
 z19 (ι := ((List V) × Nat)) (ρ := fun _ => V) (Φ := fun g i => z5l r_q1g a0 (fun s5 s6 => g (s5, s6)) i.1 i.2) (fun i => zan (ι := ((List V) × Nat)) (ρ := fun _ => V) (fun _ => r_q1g) (fun _ => z0c) (fun g => (fun s5 s6 => g (s5, s6))) (fun _ _ => z17) a0 i.1 i.2) (s5, s6)
theorem zpm (r_q1g : OF ρ → V → Option V) (h_r_q1g : ∀ y0, CM (fun G => r_q1g G y0)) (a0 : V) (s5 : (List V)) (s6 : Nat) : CM (fun G : OF ρ => zeb (r_q1g G) a0 s5 s6) :=
 z40 (κ := ((List V) × Nat)) (τ := fun _ => V) (Φ := fun G g i => z5l (r_q1g G) a0 (fun s5 s6 => g (s5, s6)) i.1 i.2) (fun g i => zan r_q1g h_r_q1g (fun _ => (fun s5 s6 => g (s5, s6))) (fun _ _ => z0c) a0 i.1 i.2) (fun G i => zan (ι := ((List V) × Nat)) (ρ := fun _ => V) (fun _ => r_q1g G) (fun _ => z0c) (fun g => (fun s5 s6 => g (s5, s6))) (fun _ _ => z17) a0 i.1 i.2) (s5, s6)
noncomputable def zkt (r_q0t : (List (Str × V)) → Option (List (Str × V))) (r_q1g : V → Option V) (a0 : V) : Option V :=
 bif (a0).isBytes then (
 (z8k 1 ([] : Str) ((a0).asBytes)).bind fun x2 =>
 some (V.bytes x2)
 ) else (
 bif (a0).isList then (
 (zjl (((a0).asList).length) 16).bind fun x4 =>
 zeb r_q1g a0 ([] : (List V)) 0
 ) else (
 bif (a0).isDict then (
 (r_q0t ((a0).asDict)).bind fun x13 =>
 some (V.dict x13)
 ) else (
 bif (a0).isRec then (
 ((a0).asRec).bind fun x15 =>
 (r_q0t x15.fields).bind fun x16 =>
 some (V.record x15.cls x15.ver x16)
 ) else (
 some a0
 )
 )
 )
 )
theorem zw9 (r_q0t : OF ρ → (List (Str × V)) → Option (List (Str × V))) (h_r_q0t : ∀ y0, CM (fun G => r_q0t G y0)) (r_q1g : OF ρ → V → Option V) (h_r_q1g : ∀ y0, CM (fun G => r_q1g G y0)) (a0 : V) : CM (fun G : OF ρ => zkt (r_q0t G) (r_q1g G) a0) := by
 simp only [zkt]
 repeat (first | exact z0c | exact h_r_q0t _ | exact h_r_q1g _ | apply zpm | refine z11 ?_ ?_ | refine z12 ?_ (fun _ => ?_) | intro _ | assumption)
inductive C_q0t where
 | k_q0t (a0 : (List (Str × V)))
 | k_q1g (a0 : V)
def C_q0t.R : C_q0t → Type
 | .k_q0t _ => (List (Str × V))
 | .k_q1g _ => V
noncomputable def C_q0t.F (g : ∀ i : C_q0t, Option i.R) : ∀ i : C_q0t, Option i.R
 | .k_q0t a0 => zkz (fun a0 => g (.k_q0t a0)) (fun a0 => g (.k_q1g a0)) a0
 | .k_q1g a0 => zkt (fun a0 => g (.k_q0t a0)) (fun a0 => g (.k_q1g a0)) a0
noncomputable def zu7 (a0 : (List (Str × V))) : Option (List (Str × V)) := z2w C_q0t.F (.k_q0t a0)
noncomputable def zd4 (a0 : V) : Option V := z2w C_q0t.F (.k_q1g a0)
abbrev gg3 := fun (g : ∀ i : C_q0t, Option i.R) a0 => g (.k_q0t a0)
theorem hh3 (a0 : _) : CM (ρ := C_q0t.R) (fun g => g (C_q0t.k_q0t a0)) := z17
abbrev gg4 := fun (g : ∀ i : C_q0t, Option i.R) a0 => g (.k_q1g a0)
theorem hh4 (a0 : _) : CM (ρ := C_q0t.R) (fun g => g (C_q0t.k_q1g a0)) := z17
theorem C_q0t.cm (i : C_q0t) : CM (fun g : (∀ i : C_q0t, Option i.R) => C_q0t.F g i) := by
 cases i with
 | k_q0t a0 => exact zwf gg3 hh3 gg4 hh4 a0
 | k_q1g a0 => exact zw9 gg3 hh3 gg4 hh4 a0
theorem Z82 (a0 : (List (Str × V))) : zu7 a0 = zkz zu7 zd4 a0 := z19 C_q0t.cm (.k_q0t a0)
theorem Z7w (a0 : V) : zd4 a0 = zkt zu7 zd4 a0 := z19 C_q0t.cm (.k_q1g a0)
def C_q0t.Q : ∀ i : C_q0t, i.R → Prop
 | .k_q0t a0 => fun (r : (List (Str × V))) => z0m Tryz.prog 96 [(PV.sl none 69 2 (List.map ofFld a0))] (PV.sl none 69 2 (List.map ofFld r))
 | .k_q1g a0 => fun (r : V) => z0m Tryz.prog 55 [(ofV a0)] (ofV r)
theorem z96 (r_q0t : (List (Str × V)) → Option (List (Str × V))) (c_q0t : ∀ (a0 : (List (Str × V))) r, r_q0t a0 = some r → z0m Tryz.prog 96 [(PV.sl none 69 2 (List.map ofFld a0))] (PV.sl none 69 2 (List.map ofFld r))) (r_q1g : V → Option V) (c_q1g : ∀ (a0 : V) r, r_q1g a0 = some r → z0m Tryz.prog 55 [(ofV a0)] (ofV r)) (a0 r : (List (Str × V))) (h : zkz r_q0t r_q1g a0 = some r) : z0m Tryz.prog 96 [(PV.sl none 69 2 (List.map ofFld a0))] (PV.sl none 69 2 (List.map ofFld r)) := by
 unfold zkz at h
 refine z0d Tryz.func96 rfl Tryz.ntmps96 Tryz.results96 rfl (z0g ?_)
 change BW _ _ _ ⟨[(0, (PV.sl none 69 2 (List.map ofFld a0)))], [], _⟩ _
 refine bR ?_
 refine eX ?_
 refine bR ?_
 iterate 2 refine sX ?_
 obtain ⟨x1, hx1, h⟩ := obind h
 refine sS rfl rfl rfl ((zrb (f := ofFld) (c := ((a0).length)) Tryz.underlying71 z0z rfl rfl rfl rfl hx1 (p := (PV.agg [(z0i []), (PV.v .nilIface)])) rfl).cast (y := (PV.sl (some 0) 69 2 (List.map ofFld ([] : (List (Str × V)))))) rfl rfl) ?_
 refine eX ?_
 refine z08 ?_
 refine bR ?_
 iterate 2 refine sX ?_
 refine eX ?_
 refine z0h ?_
 refine cBx ?_
 unfold zeg at h
 refine z2u (σ := ((List (Str × V)) × Nat)) (fun i => [(3, (PV.sl (some 0) 69 2 (List.map ofFld i.1))), (9, (PV.sl none 69 2 (List.map ofFld a0))), (10, (I64 ((((a0).length : Nat) : Int)))), (11, (I64 (((i.2 : Nat) : Int))))]) (fun i => [.arr 69 (i.1).length]) (([] : (List (Str × V))), 0) h ?_ ?_ ?_
 intro i; exact ⟨lbE rfl, ⟨(z3r rfl (z0u z0r _)), ⟨(z09 (z03 z0r _)), ⟨(z09 rfl), ⟨(z09 rfl), trivial⟩⟩⟩⟩, trivial⟩
 exact jN
 rintro g1_f ⟨s2, s3⟩ h; replace h : z5p r_q1g a0 (fun y0 y1 => g1_f (y0, y1)) s2 s3 = some r := h; unfold z5p at h
 change BW _ _ _ ⟨[(3, (PV.sl (some 0) 69 2 (List.map ofFld s2))), (9, (PV.sl none 69 2 (List.map ofFld a0))), (10, (I64 ((((a0).length : Nat) : Int)))), (11, (I64 (((s3 : Nat) : Int))))], [.arr 69 (s2).length], _⟩ _
 refine bR ?_
 refine eX ?_
 refine z08 ?_
 refine z3j (t := 9) rfl fun hb5 => ?_
 try rw [List.length_map] at hb5
 refine cX h rfl ?_ ?_
 intro hc4 h
 have hc4_ := of_decide_eq_true hc4
 refine z07 ?_
 refine cBx ?_
 refine z08 ?_
 refine z0h ?_
 refine cBx ?_
 refine bR ?_
 obtain ⟨x6, hx6, h⟩ := obind h
 refine sS rfl rfl rfl (z1r (i := s3) Tryz.underlying71 z0z rfl rfl rfl hx6 rfl) ?_
 refine sX ?_
 refine sS rfl rfl rfl ((z14 z0z rfl).cast (H'' := [.arr 69 (s2).length, .box 69 [(z0i []), (ofV V.nil)]]) rfl (by simp only [mk_nil]; rfl)) ?_
 refine z0j rfl rfl (z0e z0z rfl rfl rfl rfl rfl rfl (lbE rfl) (by show List.all [(z0i x6.1), (ofV x6.2)] z6n = true; simp only [List.all_cons, List.all_nil, zb5, z3v, Bool.and_true, Bool.true_and]; try rfl)) ?_
 refine z0a ?_
 refine cBx ?_
 refine z1l 8 [7] [1] mo (by kernel_rfl) ?_
 iterate 5 refine gX ?_
 obtain ⟨x7, hx7, h⟩ := obind h
 refine z1p rfl rfl rfl rfl (fun H hp => z06 rfl Z06 rfl (wkr .nil) ⟨(ids_V x6.2), trivial⟩ (c_q1g x6.2 x7 hx7) (ids_V x7)) ?_
 refine z1p rfl rfl rfl rfl (fun H hp => z1g (cs := [(z0i x6.1), (ofV x7)]) zgu z0z rfl rfl (by simp only [List.all_cons, List.all_nil, z3t, z29, Bool.and_true, Bool.true_and]; try rfl) (by simp only [z3u, List.getElem?_cons_zero, List.getElem?_cons_succ, z0t, z10]; rfl)) ?_
 refine z41 rfl rfl rfl rfl ((z1e (xs := [(PV.agg [(z0i x6.1), (ofV x7)])]) Tryz.underlying71 z0z rfl rfl rfl (by simp only [List.all_cons, List.all_nil, z3t, z29, Bool.and_true, Bool.true_and]; try rfl) (by simp only [List.all_cons, List.all_nil, csz_V, z31, z0t, z10]; try rfl) rfl ⟨lbE rfl, lbE rfl⟩ (by simp only [z8z, z3u, List.flatMap_cons, List.flatMap_nil, z0t, z10]; try rfl)).cast (y := (PV.sl (some 2) 69 2 (List.map ofFld ([(x6.1, x7)] : (List (Str × V)))))) rfl rfl) ⟨rfl, trivial⟩ ?_
 refine z1u ?_
 change AO _ _ _ _ _
 obtain ⟨x8, hx8, h⟩ := obind h
 refine sS rfl rfl rfl (z2l Tryz.underlying71 z0z rfl Tryz.underlying71 rfl rfl rfl rfl z7a z6m hx8 rfl) ?_
 refine eX ?_
 refine z0f ?_
 refine sS rfl rfl rfl (z27 (k := s3) (c := 1) rfl rfl rfl (by omega)) ?_
 refine sX (z0a ?_)
 exact ⟨rfl, (x8, (s3 + 1)), h, jN⟩
 intro hc4 h
 refine z1z ?_
 refine cBx ?_
 refine bR ?_
 refine sX ?_
 refine eX ?_
 obtain rfl := eI h; exact z05 ⟨_, rfl, z0p (y := (PV.sl none 69 2 (List.map ofFld s2))) Wk.tok (z03 z0r s2) ⟨rfl, rfl⟩⟩
theorem zdu (r_q0t : (List (Str × V)) → Option (List (Str × V))) (c_q0t : ∀ (a0 : (List (Str × V))) r, r_q0t a0 = some r → z0m Tryz.prog 96 [(PV.sl none 69 2 (List.map ofFld a0))] (PV.sl none 69 2 (List.map ofFld r))) (r_q1g : V → Option V) (c_q1g : ∀ (a0 : V) r, r_q1g a0 = some r → z0m Tryz.prog 55 [(ofV a0)] (ofV r)) (a0 r : V) (h : zkt r_q0t r_q1g a0 = some r) : z0m Tryz.prog 55 [(ofV a0)] (ofV r) := by
 unfold zkt at h
 refine z0d Tryz.func55 rfl Tryz.ntmps55 Tryz.results55 rfl (z0g ?_)
 change BW _ _ _ ⟨[(0, (ofV a0))], [], _⟩ _
 refine bR ?_
 refine eX ?_
 refine z08 ?_
 refine bR ?_
 refine eX ?_
 refine z0h ?_
 refine cBx ?_
 refine bR ?_
 refine sS rfl rfl rfl (z4z rfl rfl) ?_
 refine sX ?_
 refine eX ?_
 refine cX h rfl ?_ ?_
 intro hc1 h
 refine bR ?_
 refine eX ?_
 refine bR ?_
 refine sS rfl rfl rfl ((z1e (xs := []) Tryz.underlying23 inf_5 rfl rfl rfl rfl rfl rfl ⟨lbE rfl, lbE rfl⟩ rfl).cast (y := (PV.sl (some 0) 5 1 (List.map ofB ([] : Str)))) rfl rfl) ?_
 refine sX ?_
 obtain ⟨x2, hx2, h⟩ := obind h
 refine sS rfl rfl rfl (z2l Tryz.underlying23 inf_5 rfl Tryz.underlying23 rfl rfl rfl rfl (fun _ => rfl) (fun _ => rfl) hx2 rfl) ?_
 refine sS rfl rfl rfl ((z15 Tryz.underlying23 rfl rfl rfl).wk ((Wk.iface Wk.tok).trans (Wk.eq (zg3 _).symm))) ?_
 refine eX ?_
 obtain rfl := eI h; exact z05 ⟨_, rfl, z0p (y := (ofV (V.bytes x2))) (Wk.refl _) (ids_V (V.bytes x2)) ⟨rfl, rfl⟩⟩
 intro hc1 h
 refine bR ?_
 refine sS rfl rfl rfl (z1w rfl rfl) ?_
 refine sX ?_
 refine eX ?_
 refine cX h rfl ?_ ?_
 intro hc3 h
 refine bR ?_
 refine eX ?_
 refine bR ?_
 iterate 2 refine sX ?_
 obtain ⟨x4, hx4, h⟩ := obind h
 refine sS rfl rfl rfl ((zrb (f := ofV) (c := (((a0).asList).length)) Tryz.underlying67 z1t rfl rfl rfl rfl hx4 (p := (PV.v .nilIface)) rfl).cast (y := (PV.sl (some 0) 20 1 (List.map ofV ([] : (List V))))) rfl rfl) ?_
 refine eX ?_
 refine z08 ?_
 refine bR ?_
 iterate 2 refine sX ?_
 refine eX ?_
 refine z0h ?_
 refine cBx ?_
 unfold zeb at h
 refine z2u (σ := ((List V) × Nat)) (fun i => [(5, (PV.sl (some 0) 20 1 (List.map ofV i.1))), (24, (PV.sl none 20 1 (List.map ofV (a0).asList))), (25, (I64 (((((a0).asList).length : Nat) : Int)))), (26, (I64 (((i.2 : Nat) : Int))))]) (fun i => [.arr 20 (i.1).length]) (([] : (List V)), 0) h ?_ ?_ ?_
 intro i; exact ⟨lbE rfl, ⟨(z3r rfl (z0u ids_V _)), ⟨(z09 (z03 ids_V _)), ⟨(z09 rfl), ⟨(z09 rfl), trivial⟩⟩⟩⟩, trivial⟩
 exact jN
 rintro g1_f ⟨s5, s6⟩ h; replace h : z5l r_q1g a0 (fun y0 y1 => g1_f (y0, y1)) s5 s6 = some r := h; unfold z5l at h
 change BW _ _ _ ⟨[(5, (PV.sl (some 0) 20 1 (List.map ofV s5))), (24, (PV.sl none 20 1 (List.map ofV (a0).asList))), (25, (I64 (((((a0).asList).length : Nat) : Int)))), (26, (I64 (((s6 : Nat) : Int))))], [.arr 20 (s5).length], _⟩ _
 refine bR ?_
 refine eX ?_
 refine z08 ?_
 refine z3j (t := 24) rfl fun hb8 => ?_
 try rw [List.length_map] at hb8
 refine cX h rfl ?_ ?_
 intro hc7 h
 have hc7_ := of_decide_eq_true hc7
 refine z07 ?_
 refine cBx ?_
 refine z08 ?_
 refine z0h ?_
 refine cBx ?_
 refine bR ?_
 obtain ⟨x9, hx9, h⟩ := obind h
 refine sS rfl rfl rfl (z1r (i := s6) Tryz.underlying67 z1t rfl rfl rfl hx9 rfl) ?_
 refine sS rfl rfl rfl (z1y (y := (ofV x9)) Tryz.underlying20 rfl rfl rfl (by rw [z0t]; rfl)) ?_
 refine eX ?_
 refine z0f ?_
 iterate 2 refine sX ?_
 obtain ⟨x10, hx10, h⟩ := obind h
 refine sS rfl rfl rfl (z06 rfl Z06 rfl (wkr .nil) ⟨(ids_V x9), trivial⟩ (c_q1g x9 x10 hx10) (ids_V x10)) ?_
 refine sS rfl rfl rfl ((z1e (xs := [(ofV x10)]) Tryz.underlying67 z1t rfl rfl rfl (by simp only [List.all_cons, List.all_nil, z3t, z29, Bool.and_true, Bool.true_and]; try rfl) (by simp only [List.all_cons, List.all_nil, csz_V, z31, z0t, z10]; try rfl) rfl ⟨lbE rfl, lbE rfl⟩ (by simp only [z8z, z3u, List.flatMap_cons, List.flatMap_nil, z0t, z10]; try rfl)).cast (y := (PV.sl (some 1) 20 1 (List.map ofV ([x10] : (List V))))) rfl rfl) ?_
 obtain ⟨x11, hx11, h⟩ := obind h
 refine sS rfl rfl rfl (z2l Tryz.underlying67 z1t rfl Tryz.underlying67 rfl rfl rfl rfl csz_V z4i hx11 rfl) ?_
 refine eX ?_
 refine z0f ?_
 refine sS rfl rfl rfl (z27 (k := s6) (c := 1) rfl rfl rfl (by omega)) ?_
 refine sX (z0a ?_)
 exact ⟨rfl, (x11, (s6 + 1)), h, jN⟩
 intro hc7 h
 refine z1z ?_
 refine cBx ?_
 refine bR ?_
 refine sX ?_
 refine sS rfl rfl rfl ((z15 Tryz.underlying67 rfl rfl rfl).wk ((Wk.iface Wk.tok).trans (Wk.eq (z7w _).symm))) ?_
 refine eX ?_
 obtain rfl := eI h; exact z05 ⟨_, rfl, z0p (y := (ofV (V.list s5))) (Wk.refl _) (ids_V (V.list s5)) ⟨rfl, rfl⟩⟩
 intro hc3 h
 refine bR ?_
 refine sS rfl rfl rfl (z2r rfl rfl) ?_
 refine sX ?_
 refine eX ?_
 refine cX h rfl ?_ ?_
 intro hc12 h
 refine bR ?_
 refine eX ?_
 refine bR ?_
 refine sX ?_
 obtain ⟨x13, hx13, h⟩ := obind h
 refine sS rfl rfl rfl (z06 rfl Z3f rfl (wkr .nil) ⟨(z03 z0r ((a0).asDict)), trivial⟩ (c_q0t ((a0).asDict) x13 hx13) (z03 z0r x13)) ?_
 refine sS rfl rfl rfl ((z15 Tryz.underlying71 rfl rfl rfl).wk ((Wk.iface (Wk.refl _)).trans (Wk.eq (z50 _).symm))) ?_
 refine eX ?_
 obtain rfl := eI h; exact z05 ⟨_, rfl, z0p (y := (ofV (V.dict x13))) (Wk.refl _) (ids_V (V.dict x13)) ⟨rfl, rfl⟩⟩
 intro hc12 h
 refine bR ?_
 refine sS rfl rfl rfl (z35 rfl rfl) ?_
 refine sX ?_
 refine eX ?_
 refine cX h rfl ?_ ?_
 intro hc14 h
 refine bR ?_
 refine eX ?_
 refine z08 (z1l 13 [] [] mo (by kernel_rfl) ?_)
 refine gX ?_
 obtain ⟨x15, hx15, h⟩ := obind h
 refine z1p rfl rfl rfl rfl (fun H hp => z1m rfl rfl hx15) ?_
 iterate 3 refine gX ?_
 refine z1p rfl rfl rfl rfl (fun H hp => z1m rfl rfl hx15) ?_
 iterate 3 refine gX ?_
 refine z1p rfl rfl rfl rfl (fun H hp => z1m rfl rfl hx15) ?_
 iterate 2 refine gX ?_
 obtain ⟨x16, hx16, h⟩ := obind h
 refine z1p rfl rfl rfl rfl (fun H hp => z06 rfl Z3f rfl (wkr .nil) ⟨(z03 z0r x15.fields), trivial⟩ (c_q0t x15.fields x16 hx16) (z03 z0r x16)) ?_
 refine z1u ?_
 change AO _ _ _ _ _
 refine sS rfl rfl rfl (z1g (cs := [(z0i x15.cls), (I64 x15.ver), (PV.sl none 69 2 (List.map ofFld x16))]) zjd zez rfl rfl rfl rfl) ?_
 refine sX ?_
 refine sS rfl rfl rfl (z15 Tryz.underlying73 rfl rfl rfl) ?_
 refine eX ?_
 refine z3p 0 2 (y := (ofV (V.record x15.cls x15.ver x16))) rfl rfl ((Wk.iface (Wk.pt (x := .agg [(z0i x15.cls), (I64 x15.ver), (PV.sl none 69 2 (List.map ofFld x16))]) (y := zg0 (Rec.mk x15.cls x15.ver x16)) (wkr (wkr (wkr .nil))))).trans (Wk.eq (zet (some (Rec.mk x15.cls x15.ver x16))).symm)) ?_
 obtain rfl := eI h; exact z05 ⟨_, rfl, z0p (y := (ofV (V.record x15.cls x15.ver x16))) (Wk.refl _) (ids_V (V.record x15.cls x15.ver x16)) ⟨rfl, rfl⟩⟩
 intro hc14 h
 refine z07 ?_
 refine cBx ?_
 refine bR ?_
 refine sX ?_
 refine eX ?_
 obtain rfl := eI h; exact z05 ⟨_, rfl, z0p (y := (ofV a0)) (Wk.refl _) (ids_V a0) ⟨rfl, rfl⟩⟩
theorem C_q0t.sound : ∀ (i : C_q0t) (r : i.R), z2w C_q0t.F i = some r → C_q0t.Q i r := by
 refine z3z (Φ := C_q0t.F) (Q := C_q0t.Q) ?_
 intro g hg i r h
 cases i with
 | k_q0t a0 => exact z96 (fun a0 => g (.k_q0t a0)) (fun a0 r hr => hg (.k_q0t a0) r hr) (fun a0 => g (.k_q1g a0)) (fun a0 r hr => hg (.k_q1g a0) r hr) a0 r h
 | k_q1g a0 => exact zdu (fun a0 => g (.k_q0t a0)) (fun a0 r hr => hg (.k_q0t a0) r hr) (fun a0 => g (.k_q1g a0)) (fun a0 r hr => hg (.k_q1g a0) r hr) a0 r h
theorem Z50 (a0 r : V) (h : zd4 a0 = some r) : z0m Tryz.prog 55 [(ofV a0)] (ofV r) := C_q0t.sound (.k_q1g a0) r h
noncomputable def z8q (a0 : V) : Option (V × Int) :=
 (zi4 a0).bind fun x1 =>
 bif (x1.2 != 0) then (
 some (V.nil, x1.2)
 ) else (
 (zd4 a0).bind fun x3 =>
 some (x3, 0)
 )
theorem zjh (a0 : V) (r : (V × Int)) (h : z8q a0 = some r) : z0m Tryz.prog 32 [(ofV a0)] (PV.tup [(ofV r.1), (I64 r.2)]) := by
 unfold z8q at h
 refine z0d Tryz.func32 rfl Tryz.ntmps32 Tryz.results32 rfl (z0g ?_)
 change BW _ _ _ ⟨[(0, (ofV a0))], [], _⟩ _
 refine bR ?_
 refine sX ?_
 refine eX ?_
 refine z08 ?_
 refine bR ?_
 refine sX ?_
 obtain ⟨x1, hx1, h⟩ := obind h
 refine sS rfl rfl rfl (z06 rfl zvn rfl (wkr .nil) ⟨(ids_V a0), trivial⟩ (zte a0 x1 hx1) (z01 rfl (z01 rfl z04))) ?_
 iterate 4 refine sX ?_
 refine eX ?_
 refine bR ?_
 refine sX ?_
 refine eX ?_
 refine cX h rfl ?_ ?_
 intro hc2 h
 refine bR ?_
 iterate 2 refine sX ?_
 refine eX ?_
 obtain rfl := eI h; exact z05 ⟨_, rfl, z0p (y := (PV.tup [(ofV V.nil), (I64 x1.2)])) (Wk.tup (.cons (Wk.eq mk_nil.symm) (wkr .nil))) (z01 (ids_V V.nil) (z01 rfl z04)) ⟨rfl, rfl⟩⟩
 intro hc2 h
 refine z07 ?_
 refine cBx ?_
 refine bR ?_
 refine sX ?_
 obtain ⟨x3, hx3, h⟩ := obind h
 refine sS rfl rfl rfl (z06 rfl Z06 rfl (wkr .nil) ⟨(ids_V a0), trivial⟩ (Z50 a0 x3 hx3) (ids_V x3)) ?_
 refine sX ?_
 refine eX ?_
 obtain rfl := eI h; exact z05 ⟨_, rfl, z0p (y := (PV.tup [(ofV x3), (I64 0)])) (Wk.refl _) (z01 (ids_V x3) (z01 rfl z04)) ⟨rfl, rfl⟩⟩
noncomputable def zi3 (a0 : V) (a1 : (List S_api_Step)) : Option (V × Int) :=
 (zjr a0 a1).bind fun x1 =>
 bif (x1 != 0) then (
 some (V.nil, x1)
 ) else (
 (zqi a0 a1).bind fun x3 =>
 bif (x3.2 != 0) then (
 some (V.nil, x3.2)
 ) else (
 (z8q x3.1).bind fun x5 =>
 some (x5.1, x5.2)
 )
 )
theorem Z1p (a0 : V) (a1 : (List S_api_Step)) (r : (V × Int)) (h : zi3 a0 a1 = some r) : z0m Tryz.prog 11 [(ofV a0), (PV.sl none 83 3 (List.map z00 a1))] (PV.tup [(ofV r.1), (I64 r.2)]) := by
 unfold zi3 at h
 refine z0d Tryz.func11 rfl Tryz.ntmps11 Tryz.results11 rfl (z0g ?_)
 change BW _ _ _ ⟨[(0, (ofV a0)), (1, (PV.sl none 83 3 (List.map z00 a1)))], [], _⟩ _
 refine bR ?_
 refine sX ?_
 refine eX ?_
 refine z08 ?_
 refine bR ?_
 iterate 2 refine sX ?_
 obtain ⟨x1, hx1, h⟩ := obind h
 refine sS rfl rfl rfl (z06 rfl Z0a rfl (wkr (wkr .nil)) ⟨(ids_V a0), ⟨(z03 z02 a1), trivial⟩⟩ (zye a0 a1 x1 hx1) rfl) ?_
 refine eX ?_
 refine bR ?_
 refine sX ?_
 refine eX ?_
 refine cX h rfl ?_ ?_
 intro hc2 h
 refine bR ?_
 iterate 2 refine sX ?_
 refine eX ?_
 obtain rfl := eI h; exact z05 ⟨_, rfl, z0p (y := (PV.tup [(ofV V.nil), (I64 x1)])) (Wk.tup (.cons (Wk.eq mk_nil.symm) (wkr .nil))) (z01 (ids_V V.nil) (z01 rfl z04)) ⟨rfl, rfl⟩⟩
 intro hc2 h
 refine z07 ?_
 refine cBx ?_
 refine bR ?_
 iterate 2 refine sX ?_
 obtain ⟨x3, hx3, h⟩ := obind h
 refine sS rfl rfl rfl (z06 rfl Z7c rfl (wkr (wkr .nil)) ⟨(ids_V a0), ⟨(z03 z02 a1), trivial⟩⟩ (Z4i a0 a1 x3 hx3) (z01 (ids_V x3.1) (z01 rfl z04))) ?_
 iterate 4 refine sX ?_
 refine eX ?_
 refine z08 ?_
 refine bR ?_
 refine sX ?_
 refine eX ?_
 refine cX h rfl ?_ ?_
 intro hc4 h
 refine bR ?_
 iterate 2 refine sX ?_
 refine eX ?_
 obtain rfl := eI h; exact z05 ⟨_, rfl, z0p (y := (PV.tup [(ofV V.nil), (I64 x3.2)])) (Wk.tup (.cons (Wk.eq mk_nil.symm) (wkr .nil))) (z01 (ids_V V.nil) (z01 rfl z04)) ⟨rfl, rfl⟩⟩
 intro hc4 h
 refine z07 ?_
 refine cBx ?_
 refine bR ?_
 refine sX ?_
 obtain ⟨x5, hx5, h⟩ := obind h
 refine sS rfl rfl rfl (z06 rfl zkh rfl (wkr .nil) ⟨(ids_V x3.1), trivial⟩ (zjh x3.1 x5 hx5) (z01 (ids_V x5.1) (z01 rfl z04))) ?_
 iterate 3 refine sX ?_
 refine eX ?_
 obtain rfl := eI h; exact z05 ⟨_, rfl, z0p (y := (PV.tup [(ofV x5.1), (I64 x5.2)])) (Wk.refl _) (z01 (ids_V x5.1) (z01 rfl z04)) ⟨rfl, rfl⟩⟩
noncomputable def zo7 (a0 : (List V)) : Option (List V) :=
 (z8k 16 ([] : (List V)) a0).bind fun x2 =>
 some x2
theorem Z21 (a0 r : (List V)) (h : zo7 a0 = some r) : z18 Tryz.prog 57 [(PV.sl none 20 1 (List.map ofV a0))] [] (PV.rs 0 0 (r).length 20 1) [rowM ofV 20 r] := by
 unfold zo7 at h
 refine z0d Tryz.func57 rfl Tryz.ntmps57 Tryz.results57 rfl (z0g ?_)
 change BW _ _ _ ⟨[(0, (PV.sl none 20 1 (List.map ofV a0)))], [], _⟩ _
 refine bR ?_
 refine sS rfl rfl rfl ((z89 (e := 20) (sz := 1) (.inl rfl) rfl).cast (y := (PV.rs 0 0 (([] : (List V))).length 20 1)) (H'' := [rowM ofV 20 ([] : (List V))]) rfl rfl) (z0a ?_)
 refine cBx ?_
 refine z08 ?_
 refine bR ?_
 refine sX ?_
 refine zaa rfl rfl rfl Tryz.underlying67 rfl rfl ?_
 intro nb1 hnb1
 refine z0a ?_
 refine cBx ?_
 cases nb1
 refine z7c rfl ?_
 refine z07 ?_
 refine cBx ?_
 refine bR ?_
 refine sS rfl rfl rfl ((zfv (xs := []) Tryz.underlying67 z1t rfl rfl rfl rfl rfl rfl rfl ⟨lbE rfl, lbE rfl⟩ rfl).cast (y := (PV.rs 1 0 (([] : (List V))).length 20 1)) (H'' := [rowM ofV 20 ([] : (List V)), rowM ofV 20 ([] : (List V))]) rfl rfl) ?_
 refine sX ?_
 obtain ⟨x2, hx2, h⟩ := obind h
 refine sS rfl rfl rfl (zd6 (f := ofV) (l := ([] : (List V))) Tryz.underlying67 z1t rfl rfl Tryz.underlying67 rfl rfl rfl rfl rfl csz_V z4i hx2 rfl) ?_
 refine eX ?_
 obtain rfl := eI h; exact z05 ⟨_, rfl, zmn (y := (PV.rs 2 0 (x2).length 20 1)) [2] rfl (Wk.refl _) (.rs rfl) (.cons rfl (.same (z5c ids_V)) .nil) ⟨rfl, rfl⟩⟩
 have hz := List.map_eq_nil_iff.1 (hnb1 rfl)
 rw [hz] at h
 replace h : some ([] : (List V)) = some r := h
 refine zc2 rfl ?_
 refine bR ?_
 refine sS rfl rfl rfl ((z89 (e := 20) (sz := 1) (.inl rfl) rfl).cast (y := (PV.rs 1 0 (([] : (List V))).length 20 1)) (H'' := [rowM ofV 20 ([] : (List V)), rowM ofV 20 ([] : (List V))]) rfl rfl) (z0a ?_)
 refine cBx ?_
 obtain rfl := eI h; exact z05 ⟨_, rfl, zmn (y := (PV.rs 1 0 (([] : (List V))).length 20 1)) [1] rfl (Wk.refl _) (.rs rfl) (.cons rfl (.same (z5c ids_V)) .nil) ⟨rfl, rfl⟩⟩
noncomputable def zo8 (a0 : (List (Str × V))) : Option (List (Str × V)) :=
 (z8k 32 ([] : (List (Str × V))) a0).bind fun x2 =>
 some x2
theorem Z22 (a0 r : (List (Str × V))) (h : zo8 a0 = some r) : z18 Tryz.prog 94 [(PV.sl none 69 2 (List.map ofFld a0))] [] (PV.rs 0 0 (r).length 69 2) [rowM ofFld 69 r] := by
 unfold zo8 at h
 refine z0d Tryz.func94 rfl Tryz.ntmps94 Tryz.results94 rfl (z0g ?_)
 change BW _ _ _ ⟨[(0, (PV.sl none 69 2 (List.map ofFld a0)))], [], _⟩ _
 refine bR ?_
 refine sS rfl rfl rfl ((z89 (e := 69) (sz := 2) (.inl rfl) rfl).cast (y := (PV.rs 0 0 (([] : (List (Str × V)))).length 69 2)) (H'' := [rowM ofFld 69 ([] : (List (Str × V)))]) rfl rfl) (z0a ?_)
 refine cBx ?_
 refine z08 ?_
 refine bR ?_
 refine sX ?_
 refine zaa rfl rfl rfl Tryz.underlying71 rfl rfl ?_
 intro nb1 hnb1
 refine z0a ?_
 refine cBx ?_
 cases nb1
 refine z7c rfl ?_
 refine z07 ?_
 refine cBx ?_
 refine bR ?_
 refine sS rfl rfl rfl ((zfv (xs := []) Tryz.underlying71 z0z rfl rfl rfl rfl rfl rfl rfl ⟨lbE rfl, lbE rfl⟩ rfl).cast (y := (PV.rs 1 0 (([] : (List (Str × V)))).length 69 2)) (H'' := [rowM ofFld 69 ([] : (List (Str × V))), rowM ofFld 69 ([] : (List (Str × V)))]) rfl rfl) ?_
 refine sX ?_
 obtain ⟨x2, hx2, h⟩ := obind h
 refine sS rfl rfl rfl (zd6 (f := ofFld) (l := ([] : (List (Str × V)))) Tryz.underlying71 z0z rfl rfl Tryz.underlying71 rfl rfl rfl rfl rfl z7a z6m hx2 rfl) ?_
 refine eX ?_
 obtain rfl := eI h; exact z05 ⟨_, rfl, zmn (y := (PV.rs 2 0 (x2).length 69 2)) [2] rfl (Wk.refl _) (.rs rfl) (.cons rfl (.same (z5c z0r)) .nil) ⟨rfl, rfl⟩⟩
 have hz := List.map_eq_nil_iff.1 (hnb1 rfl)
 rw [hz] at h
 replace h : some ([] : (List (Str × V))) = some r := h
 refine zc2 rfl ?_
 refine bR ?_
 refine sS rfl rfl rfl ((z89 (e := 69) (sz := 2) (.inl rfl) rfl).cast (y := (PV.rs 1 0 (([] : (List (Str × V)))).length 69 2)) (H'' := [rowM ofFld 69 ([] : (List (Str × V))), rowM ofFld 69 ([] : (List (Str × V)))]) rfl rfl) (z0a ?_)
 refine cBx ?_
 obtain rfl := eI h; exact z05 ⟨_, rfl, zmn (y := (PV.rs 1 0 (([] : (List (Str × V)))).length 69 2)) [1] rfl (Wk.refl _) (.rs rfl) (.cons rfl (.same (z5c z0r)) .nil) ⟨rfl, rfl⟩⟩
noncomputable def zo1 (a0 : (List (Str × V))) (a1 : Str) (a2 : V) : Option (List (Str × V)) :=
 (zo8 a0).bind fun x1 =>
 (zjo x1 a1).bind fun x2 =>
 bif x2.2 then (
 (z7g x1 x2.1).bind fun x4 =>
 some ((x1).set ((x2.1).toNat) (x4.1, a2))
 ) else (
 (Z0z 32 x1 x2.1 (a1, a2)).bind fun x5 =>
 some x5
 )
theorem Z1y (a0 : (List (Str × V))) (a1 : Str) (a2 : V) (r : (List (Str × V))) (h : zo1 a0 a1 a2 = some r) : z0m Tryz.prog 58 [(PV.sl none 69 2 (List.map ofFld a0)), (z0i a1), (ofV a2)] (PV.sl none 69 2 (List.map ofFld r)) := by
 unfold zo1 at h
 refine z0d Tryz.func58 rfl Tryz.ntmps58 Tryz.results58 rfl (z0g ?_)
 change BW _ _ _ ⟨[(0, (PV.sl none 69 2 (List.map ofFld a0))), (1, (z0i a1)), (2, (ofV a2))], [], _⟩ _
 refine bR ?_
 refine sS rfl rfl rfl ((z89 (e := 69) (sz := 2) (.inl rfl) rfl).cast (y := (PV.rs 0 0 (([] : (List (Str × V)))).length 69 2)) (H'' := [rowM ofFld 69 ([] : (List (Str × V)))]) rfl rfl) (z0a ?_)
 refine cBx ?_
 refine bR ?_
 refine sX ?_
 obtain ⟨x1, hx1, h⟩ := obind h
 refine sS rfl rfl rfl (z49 rfl Z3g rfl (wkr .nil) ⟨(z03 z0r a0), trivial⟩ (Z22 a0 x1 hx1) ztk (zfm (z5c z0r) (zlq))) ?_
 refine eX ?_
 refine bR ?_
 iterate 2 refine sX ?_
 obtain ⟨x2, hx2, h⟩ := obind h
 refine sS rfl rfl rfl (zr9 rfl zzz rfl (.cons (.row (f := ofFld) (l := x1) rfl rfl z7a rfl z0r) (.cons (.ha (.wk (Wk.refl _) rfl)) .nil)) (zyb x1 a1 x2 hx2) (Sc.tup (zp8 Sc.v (zp8 Sc.v Z1o)))) ?_
 iterate 4 refine sX ?_
 refine eX ?_
 refine z08 ?_
 refine bR ?_
 refine eX ?_
 refine cX h rfl ?_ ?_
 intro hc3 h
 refine bR ?_
 iterate 3 refine sX ?_
 obtain ⟨x4, hx4, h⟩ := obind h
 refine sS rfl rfl rfl (zia (l := x1) Tryz.underlying71 z0z rfl rfl rfl rfl hx4) ?_
 refine sS rfl rfl rfl ((zrf zgu (i := 1) rfl rfl rfl).cast (y := (PV.rf 1 ((x2.1).toNat * 2 + 1))) rfl rfl) ?_
 refine z0j rfl rfl (zr6 (f := ofFld) (a' := (x4.1, a2)) z1t rfl rfl rfl rfl (z7y hx4).2 z7a rfl (q := 1) rfl (z3t _) (csz_V _) rfl (z4i _) (by simp only [z0t]; rfl)) ?_
 refine z0a ?_
 refine cBx ?_
 refine bR ?_
 refine sX ?_
 refine eX ?_
 refine zf7 (f := ofFld) (l := ((x1).set ((x2.1).toNat) (x4.1, a2))) 6 1 rfl (by simp only [List.length_set]) rfl z7a rfl ?_
 obtain rfl := eI h; exact z05 ⟨_, rfl, z0p (y := (PV.sl none 69 2 (List.map ofFld ((x1).set ((x2.1).toNat) (x4.1, a2))))) (Wk.refl _) (z03 z0r ((x1).set ((x2.1).toNat) (x4.1, a2))) ⟨rfl, rfl⟩⟩
 intro hc3 h
 refine z07 ?_
 refine cBx ?_
 refine bR ?_
 iterate 4 refine sX ?_
 refine sS rfl rfl rfl (z1g (cs := [(z0i a1), (ofV a2)]) zgu z0z rfl rfl (by simp only [List.all_cons, List.all_nil, z3t, z29, Bool.and_true, Bool.true_and]; try rfl) (by simp only [z3u, List.getElem?_cons_zero, List.getElem?_cons_succ, z0t, z10]; rfl)) ?_
 refine sS rfl rfl rfl ((zfv (xs := [(PV.agg [(z0i a1), (ofV a2)])]) Tryz.underlying70 z0z rfl rfl rfl rfl (by simp only [List.all_cons, List.all_nil, z3t, z29, Bool.and_true, Bool.true_and]; try rfl) (by simp only [List.all_cons, List.all_nil, csz_V, z31, z0t, z10]; try rfl) rfl ⟨lbE rfl, lbE rfl⟩ (by simp only [z8z, z3u, List.flatMap_cons, List.flatMap_nil, z0t, z10]; try rfl)).cast (y := (PV.rs 2 0 (([(a1, a2)] : (List (Str × V)))).length 69 2)) (H'' := [rowM ofFld 69 ([] : (List (Str × V))), rowM ofFld 69 x1, rowM ofFld 69 ([(a1, a2)] : (List (Str × V)))]) rfl rfl) ?_
 obtain ⟨x5, hx5, h⟩ := obind h
 refine sS rfl rfl rfl (zuh (f := ofFld) (l := x1) (a := (a1, a2)) Z2z Z6t rfl rfl rfl rfl rfl rfl rfl rfl z7a z6m rfl hx5) ?_
 refine eX ?_
 obtain rfl := eI h; exact z05 ⟨_, rfl, z0p (y := (PV.sl none 69 2 (List.map ofFld x5))) (Wk.refl _) (z03 z0r x5) ⟨rfl, rfl⟩⟩
noncomputable def zd0 (a0 : V) (a1 : S_api_Step) (a2 : V) : Option V :=
 bif (a0).isList then (
 (zo7 ((a0).asList)).bind fun x2 =>
 bif (a1.f_Index == (((x2).length : Nat) : Int)) then (
 (z8k 16 x2 ([a2] : (List V))).bind fun x4 =>
 some (V.list x4)
 ) else (
 (z7g x2 a1.f_Index).bind fun x5 =>
 some (V.list ((x2).set ((a1.f_Index).toNat) a2))
 )
 ) else (
 bif (a0).isDict then (
 (zo1 ((a0).asDict) a1.f_Name a2).bind fun x7 =>
 some (V.dict x7)
 ) else (
 bif (a0).isRec then (
 ((a0).asRec).bind fun x9 =>
 (zo1 x9.fields a1.f_Name a2).bind fun x10 =>
 some (V.record x9.cls x9.ver x10)
 ) else (
 some a0
 )
 )
 )
theorem ztc (a0 : V) (a1 : S_api_Step) (a2 r : V) (h : zd0 a0 a1 a2 = some r) : z0m Tryz.prog 35 [(ofV a0), (z00 a1), (ofV a2)] (ofV r) := by
 unfold zd0 at h
 refine z0d Tryz.func35 rfl Tryz.ntmps35 Tryz.results35 rfl (z0g ?_)
 change BW _ _ _ ⟨[(0, (ofV a0)), (1, (z00 a1)), (2, (ofV a2))], [], _⟩ _
 refine bR ?_
 refine sX ?_
 refine eX ?_
 refine z08 ?_
 refine bR ?_
 refine eX ?_
 refine z0h ?_
 refine cBx ?_
 refine bR ?_
 refine sS rfl rfl rfl (z1w rfl rfl) ?_
 refine sX ?_
 refine eX ?_
 refine cX h rfl ?_ ?_
 intro hc1 h
 refine bR ?_
 refine eX ?_
 refine bR ?_
 refine sX ?_
 obtain ⟨x2, hx2, h⟩ := obind h
 refine sS rfl rfl rfl (z49 rfl Z3q rfl (wkr .nil) ⟨(z03 ids_V ((a0).asList)), trivial⟩ (Z21 ((a0).asList) x2 hx2) ztk (zfm (z5c ids_V) (zlq))) ?_
 refine eX ?_
 refine z08 ?_
 refine bR ?_
 iterate 3 refine sX ?_
 refine sS rfl rfl rfl (zug Tryz.underlying67 rfl rfl) ?_
 refine eX ?_
 refine cX h rfl ?_ ?_
 intro hc3 h
 refine bR ?_
 iterate 2 refine sX ?_
 refine sS rfl rfl rfl ((z1e (xs := [(ofV a2)]) Tryz.underlying67 z1t rfl rfl rfl (by simp only [List.all_cons, List.all_nil, z3t, z29, Bool.and_true, Bool.true_and]; try rfl) (by simp only [List.all_cons, List.all_nil, csz_V, z31, z0t, z10]; try rfl) rfl ⟨lbE rfl, lbE rfl⟩ (by simp only [z8z, z3u, List.flatMap_cons, List.flatMap_nil, z0t, z10]; try rfl)).cast (y := (PV.sl (some 2) 20 1 (List.map ofV ([a2] : (List V))))) rfl rfl) ?_
 obtain ⟨x4, hx4, h⟩ := obind h
 refine sS rfl rfl rfl (zd6 (f := ofV) (l := x2) Tryz.underlying67 z1t rfl rfl Tryz.underlying67 rfl rfl rfl rfl rfl csz_V z4i hx4 rfl) ?_
 refine zow (s := ⟨_, _, _⟩) (f := ofV) (l := x4) 25 3 rfl rfl rfl csz_V rfl ?_
 refine sS rfl rfl rfl ((z15 Tryz.underlying67 rfl rfl rfl).wk ((Wk.iface (Wk.refl _)).trans (Wk.eq (z7w _).symm))) ?_
 refine eX ?_
 obtain rfl := eI h; exact z05 ⟨_, rfl, z0p (y := (ofV (V.list x4))) (Wk.refl _) (ids_V (V.list x4)) ⟨rfl, rfl⟩⟩
 intro hc3 h
 refine z07 ?_
 refine cBx ?_
 refine bR ?_
 iterate 4 refine sX ?_
 obtain ⟨x5, hx5, h⟩ := obind h
 refine sS rfl rfl rfl (zia (l := x2) Tryz.underlying67 z1t rfl rfl rfl rfl hx5) ?_
 refine z0j rfl rfl (zr6 (f := ofV) (a' := a2) z1t rfl rfl rfl rfl (z7y hx5).2 csz_V rfl (q := 0) rfl (z3t _) (csz_V _) rfl (z4i _) (by simp only [z0t]; rfl)) ?_
 refine z0a ?_
 refine cBx ?_
 refine z08 ?_
 refine zf7 (f := ofV) (l := ((x2).set ((a1.f_Index).toNat) a2)) 8 1 rfl (by simp only [List.length_set]) rfl csz_V rfl ?_
 refine z0f ?_
 refine sX ?_
 refine sS rfl rfl rfl ((z15 Tryz.underlying67 rfl rfl rfl).wk ((Wk.iface (Wk.refl _)).trans (Wk.eq (z7w _).symm))) ?_
 refine eX ?_
 obtain rfl := eI h; exact z05 ⟨_, rfl, z0p (y := (ofV (V.list ((x2).set ((a1.f_Index).toNat) a2)))) (Wk.refl _) (ids_V (V.list ((x2).set ((a1.f_Index).toNat) a2))) ⟨rfl, rfl⟩⟩
 intro hc1 h
 refine bR ?_
 refine sS rfl rfl rfl (z2r rfl rfl) ?_
 refine sX ?_
 refine eX ?_
 refine cX h rfl ?_ ?_
 intro hc6 h
 refine bR ?_
 refine eX ?_
 refine bR ?_
 iterate 4 refine sX ?_
 obtain ⟨x7, hx7, h⟩ := obind h
 refine sS rfl rfl rfl (z06 rfl Z3p rfl (wkr (wkr (wkr .nil))) ⟨(z03 z0r ((a0).asDict)), ⟨rfl, ⟨(ids_V a2), trivial⟩⟩⟩ (Z1y ((a0).asDict) a1.f_Name a2 x7 hx7) (z03 z0r x7)) ?_
 refine sS rfl rfl rfl ((z15 Tryz.underlying71 rfl rfl rfl).wk ((Wk.iface (Wk.refl _)).trans (Wk.eq (z50 _).symm))) ?_
 refine eX ?_
 obtain rfl := eI h; exact z05 ⟨_, rfl, z0p (y := (ofV (V.dict x7))) (Wk.refl _) (ids_V (V.dict x7)) ⟨rfl, rfl⟩⟩
 intro hc6 h
 refine bR ?_
 refine sS rfl rfl rfl (z35 rfl rfl) ?_
 refine sX ?_
 refine eX ?_
 refine cX h rfl ?_ ?_
 intro hc8 h
 refine bR ?_
 refine eX ?_
 refine z08 (z1l 16 [] [0] mo (by kernel_rfl) ?_)
 refine gX ?_
 obtain ⟨x9, hx9, h⟩ := obind h
 refine z1p rfl rfl rfl rfl (fun H hp => z1m rfl rfl hx9) ?_
 iterate 3 refine gX ?_
 refine z1p rfl rfl rfl rfl (fun H hp => z1m rfl rfl hx9) ?_
 iterate 3 refine gX ?_
 refine z1p rfl rfl rfl rfl (fun H hp => z1m rfl rfl hx9) ?_
 iterate 5 refine gX ?_
 obtain ⟨x10, hx10, h⟩ := obind h
 refine z1p rfl rfl rfl rfl (fun H hp => z06 rfl Z3p rfl (wkr (wkr (wkr .nil))) ⟨(z03 z0r x9.fields), ⟨rfl, ⟨(ids_V a2), trivial⟩⟩⟩ (Z1y x9.fields a1.f_Name a2 x10 hx10) (z03 z0r x10)) ?_
 refine z1u ?_
 change AO _ _ _ _ _
 refine sS rfl rfl rfl (z1g (cs := [(z0i x9.cls), (I64 x9.ver), (PV.sl none 69 2 (List.map ofFld x10))]) zjd zez rfl rfl rfl rfl) ?_
 refine sX ?_
 refine sS rfl rfl rfl (z15 Tryz.underlying73 rfl rfl rfl) ?_
 refine eX ?_
 refine z3p 1 6 (y := (ofV (V.record x9.cls x9.ver x10))) rfl rfl ((Wk.iface (Wk.pt (x := .agg [(z0i x9.cls), (I64 x9.ver), (PV.sl none 69 2 (List.map ofFld x10))]) (y := zg0 (Rec.mk x9.cls x9.ver x10)) (wkr (wkr (wkr .nil))))).trans (Wk.eq (zet (some (Rec.mk x9.cls x9.ver x10))).symm)) ?_
 obtain rfl := eI h; exact z05 ⟨_, rfl, z0p (y := (ofV (V.record x9.cls x9.ver x10))) (Wk.refl _) (ids_V (V.record x9.cls x9.ver x10)) ⟨rfl, rfl⟩⟩
 intro hc8 h
 refine z07 ?_
 refine cBx ?_
 refine bR ?_
 refine sX ?_
 refine eX ?_
 obtain rfl := eI h; exact z05 ⟨_, rfl, z0p (y := (ofV a0)) (Wk.refl _) (ids_V a0) ⟨rfl, rfl⟩⟩
noncomputable def znv (a0 : V) (a1 : S_api_Step) (a2 : V) : Option V :=
 (zd0 a0 a1 a2).bind fun x1 =>
 some x1
theorem Z4q (a0 : V) (a1 : S_api_Step) (a2 r : V) (h : znv a0 a1 a2 = some r) : z0m Tryz.prog 34 [(ofV a0), (z00 a1), (PV.pt 20 (ofV a2) 0)] (ofV r) := by
 unfold znv at h
 refine z0d Tryz.func34 rfl Tryz.ntmps34 Tryz.results34 rfl (z0g ?_)
 change BW _ _ _ ⟨[(0, (ofV a0)), (1, (z00 a1)), (2, (PV.pt 20 (ofV a2) 0))], [], _⟩ _
 refine bR ?_
 refine sX ?_
 refine eX ?_
 refine bR ?_
 iterate 2 refine sX ?_
 refine sS rfl rfl rfl (z1y (y := (ofV a2)) Tryz.underlying20 rfl rfl rfl (by rw [z0t]; rfl)) ?_
 obtain ⟨x1, hx1, h⟩ := obind h
 refine sS rfl rfl rfl (z06 rfl zvo rfl (wkr (wkr (wkr .nil))) ⟨(ids_V a0), ⟨(z02 a1), ⟨(ids_V a2), trivial⟩⟩⟩ (ztc a0 a1 a2 x1 hx1) (ids_V x1)) ?_
 refine eX ?_
 obtain rfl := eI h; exact z05 ⟨_, rfl, z0p (y := (ofV x1)) (Wk.refl _) (ids_V x1) ⟨rfl, rfl⟩⟩
noncomputable def zhm (a0 a3c0 : V) (x1 : S_api_Step) (s4 : Int) : Option (V × Int) :=
 bif (s4 != 0) then (
 some (V.nil, s4)
 ) else (
 (znv a0 x1 a3c0).bind fun x6 =>
 some (x6, 0)
 )
noncomputable def zbk (a0 a3c0 : V) (x1 : S_api_Step) (x3 : (V × Int)) (s7 : Bool) : Option (V × Int) :=
 bif s7 then (
 zhm a0 a3c0 x1 0
 ) else (
 zhm a0 a3c0 x1 x3.2
 )
noncomputable def zot (r_q0n : V → (List S_api_Step) → Bool → V → Option (V × Int)) (a0 : V) (a1 : (List S_api_Step)) (a2 : Bool) (a3c0 : V) : Option (V × Int) :=
 ((a1)[0]?).bind fun x1 =>
 bif ((((a1).length : Nat) : Int) == 1) then (
 (z8p a0 x1).bind fun x3 =>
 bif a2 then (
 bif (x3.2 == 40) then (
 zbk a0 a3c0 x1 x3 true
 ) else (
 bif (x3.2 == 42) then (
 bif (a0).isList then (
 zbk a0 a3c0 x1 x3 (x1.f_Index == ((((a0).asList).length : Nat) : Int))
 ) else (
 zbk a0 a3c0 x1 x3 false
 )
 ) else (
 zbk a0 a3c0 x1 x3 false
 )
 )
 ) else (
 zbk a0 a3c0 x1 x3 false
 )
 ) else (
 (z8p a0 x1).bind fun x13 =>
 bif (x13.2 != 0) then (
 some (V.nil, x13.2)
 ) else (
 (ziz a1 1 ((a1).length : Int)).bind fun x15 =>
 (r_q0n x13.1 x15 a2 a3c0).bind fun x16 =>
 bif (x16.2 != 0) then (
 some (V.nil, x16.2)
 ) else (
 (zd0 a0 x1 x16.1).bind fun x18 =>
 some (x18, 0)
 )
 )
 )
theorem zwh (r_q0n : OF ρ → V → (List S_api_Step) → Bool → V → Option (V × Int)) (h_r_q0n : ∀ y0 y1 y2 y3, CM (fun G => r_q0n G y0 y1 y2 y3)) (a0 : V) (a1 : (List S_api_Step)) (a2 : Bool) (a3c0 : V) : CM (fun G : OF ρ => zot (r_q0n G) a0 a1 a2 a3c0) := by
 simp only [zot]
 repeat (first | exact z0c | exact h_r_q0n _ _ _ _ | apply q0n_j2_cm | refine z11 ?_ ?_ | refine z12 ?_ (fun _ => ?_) | intro _ | assumption)
inductive C_q0n where
 | k_q0n (a0 : V) (a1 : (List S_api_Step)) (a2 : Bool) (a3c0 : V)
def C_q0n.R : C_q0n → Type
 | .k_q0n _ _ _ _ => (V × Int)
noncomputable def C_q0n.F (g : ∀ i : C_q0n, Option i.R) : ∀ i : C_q0n, Option i.R
 | .k_q0n a0 a1 a2 a3c0 => zot (fun a0 a1 a2 a3c0 => g (.k_q0n a0 a1 a2 a3c0)) a0 a1 a2 a3c0
noncomputable def zo5 (a0 : V) (a1 : (List S_api_Step)) (a2 : Bool) (a3c0 : V) : Option (V × Int) := z2w C_q0n.F (.k_q0n a0 a1 a2 a3c0)
abbrev gg5 := fun (g : ∀ i : C_q0n, Option i.R) a0 a1 a2 a3c0 => g (.k_q0n a0 a1 a2 a3c0)
theorem hh5 (a0 a1 a2 a3c0 : _) : CM (ρ := C_q0n.R) (fun g => g (C_q0n.k_q0n a0 a1 a2 a3c0)) := z17
theorem C_q0n.cm (i : C_q0n) : CM (fun g : (∀ i : C_q0n, Option i.R) => C_q0n.F g i) := by
 cases i with
 | k_q0n a0 a1 a2 a3c0 => exact zwh gg5 hh5 a0 a1 a2 a3c0
theorem Z84 (a0 : V) (a1 : (List S_api_Step)) (a2 : Bool) (a3c0 : V) : zo5 a0 a1 a2 a3c0 = zot zo5 a0 a1 a2 a3c0 := z19 C_q0n.cm (.k_q0n a0 a1 a2 a3c0)
def C_q0n.Q : ∀ i : C_q0n, i.R → Prop
 | .k_q0n a0 a1 a2 a3c0 => fun (r : (V × Int)) => z0m Tryz.prog 33 [(ofV a0), (PV.sl none 83 3 (List.map z00 a1)), (BO a2), (PV.fn (.func 34) [] [(PV.pt 20 (ofV a3c0) 0)])] (PV.tup [(ofV r.1), (I64 r.2)])
theorem z63 (r_q0n : V → (List S_api_Step) → Bool → V → Option (V × Int)) (c_q0n : ∀ (a0 : V) (a1 : (List S_api_Step)) (a2 : Bool) (a3c0 : V) r, r_q0n a0 a1 a2 a3c0 = some r → z0m Tryz.prog 33 [(ofV a0), (PV.sl none 83 3 (List.map z00 a1)), (BO a2), (PV.fn (.func 34) [] [(PV.pt 20 (ofV a3c0) 0)])] (PV.tup [(ofV r.1), (I64 r.2)])) (a0 : V) (a1 : (List S_api_Step)) (a2 : Bool) (a3c0 : V) (r : (V × Int)) (h : zot r_q0n a0 a1 a2 a3c0 = some r) : z0m Tryz.prog 33 [(ofV a0), (PV.sl none 83 3 (List.map z00 a1)), (BO a2), (PV.fn (.func 34) [] [(PV.pt 20 (ofV a3c0) 0)])] (PV.tup [(ofV r.1), (I64 r.2)]) := by
 unfold zot at h
 refine z0d Tryz.func33 rfl Tryz.ntmps33 Tryz.results33 rfl (z0g ?_)
 change BW _ _ _ ⟨[(0, (ofV a0)), (1, (PV.sl none 83 3 (List.map z00 a1))), (2, (BO a2)), (3, (PV.fn (.func 34) [] [(PV.pt 20 (ofV a3c0) 0)]))], [], _⟩ _
 refine bR ?_
 refine sX ?_
 refine eX ?_
 refine bR ?_
 refine sX ?_
 obtain ⟨x1, hx1, h⟩ := obind h
 refine sS rfl rfl rfl (z1r (i := 0) Tryz.underlying30 z1h rfl rfl rfl hx1 rfl) ?_
 refine sX ?_
 refine sS rfl rfl rfl (z14 z1h rfl) ?_
 refine z0j rfl rfl (z0e z1h rfl rfl rfl rfl rfl rfl (lbE rfl) rfl) ?_
 refine z0a ?_
 refine cBx ?_
 refine z08 ?_
 refine bR ?_
 iterate 2 refine sX ?_
 refine eX ?_
 refine cX h rfl ?_ ?_
 intro hc2 h
 refine bR ?_
 iterate 2 refine sX ?_
 obtain ⟨x3, hx3, h⟩ := obind h
 refine sS rfl rfl rfl (z06 rfl zsd rfl (wkr (wkr .nil)) ⟨(ids_V a0), ⟨(z02 x1), trivial⟩⟩ (zp9 a0 x1 x3 hx3) (z01 (ids_V x3.1) (z01 rfl z04))) ?_
 iterate 4 refine sX ?_
 refine eX ?_
 refine bR ?_
 refine sX ?_
 refine sS rfl rfl rfl (z1w rfl rfl) ?_
 iterate 4 refine sX ?_
 refine eX ?_
 refine z2t (ι := Int) (fun i => zhm a0 a3c0 x1 i = some r) (fun i => [(0, (ofV a0)), (3, (PV.fn (.func 34) [] [(PV.pt 20 (ofV a3c0) 0)])), (10, (PV.rf 0 0)), (12, (I64 i))]) (fun i => [.box 83 [(z0i x1.f_Name), (BO x1.f_At), (I64 x1.f_Index)]]) ?_ ?_ ?_
 intro i; exact ⟨lbE rfl, ⟨(z09 (ids_V _)), ⟨(z09 (z4h (z4g (ids_V a3c0) rfl))), ⟨(il_rf rfl), ⟨(z09 rfl), trivial⟩⟩⟩⟩, ⟨⟨(z09 rfl), ⟨(z09 rfl), ⟨(z09 rfl), trivial⟩⟩⟩, trivial⟩⟩
 rintro s4 h; replace h : zhm a0 a3c0 x1 s4 = some r := h; unfold zhm at h
 change BW _ _ _ ⟨[(0, (ofV a0)), (3, (PV.fn (.func 34) [] [(PV.pt 20 (ofV a3c0) 0)])), (10, (PV.rf 0 0)), (12, (I64 s4))], [.box 83 [(z0i x1.f_Name), (BO x1.f_At), (I64 x1.f_Index)]], _⟩ _
 refine z08 ?_
 refine bR ?_
 refine sX ?_
 refine eX ?_
 refine cX h rfl ?_ ?_
 intro hc5 h
 refine bR ?_
 iterate 2 refine sX ?_
 refine eX ?_
 obtain rfl := eI h; exact z05 ⟨_, rfl, z0p (y := (PV.tup [(ofV V.nil), (I64 s4)])) (Wk.tup (.cons (Wk.eq mk_nil.symm) (wkr .nil))) (z01 (ids_V V.nil) (z01 rfl z04)) ⟨rfl, rfl⟩⟩
 intro hc5 h
 refine z07 ?_
 refine cBx ?_
 refine bR ?_
 iterate 3 refine sX ?_
 obtain ⟨x6, hx6, h⟩ := obind h
 refine sS rfl rfl rfl (z39 rfl rfl Z7d rfl (wkr (wkr (wkr .nil))) ⟨(ids_V a0), ⟨(z02 x1), ⟨(z13 (ids_V a3c0)), trivial⟩⟩⟩ (Z4q a0 x1 a3c0 x6 hx6) (ids_V x6)) ?_
 refine sX ?_
 refine eX ?_
 obtain rfl := eI h; exact z05 ⟨_, rfl, z0p (y := (PV.tup [(ofV x6), (I64 0)])) (Wk.refl _) (z01 (ids_V x6) (z01 rfl z04)) ⟨rfl, rfl⟩⟩
 refine z2t (ι := Bool) (fun i => zbk a0 a3c0 x1 x3 i = some r) (fun i => [(0, (ofV a0)), (3, (PV.fn (.func 34) [] [(PV.pt 20 (ofV a3c0) 0)])), (10, (PV.rf 0 0)), (12, (I64 x3.2)), (53, (BO i))]) (fun i => [.box 83 [(z0i x1.f_Name), (BO x1.f_At), (I64 x1.f_Index)]]) ?_ ?_ ?_
 intro i; exact ⟨lbE rfl, ⟨(z09 (ids_V _)), ⟨(z09 (z4h (z4g (ids_V a3c0) rfl))), ⟨(il_rf rfl), ⟨(z09 rfl), ⟨(z09 rfl), trivial⟩⟩⟩⟩⟩, ⟨⟨(z09 rfl), ⟨(z09 rfl), ⟨(z09 rfl), trivial⟩⟩⟩, trivial⟩⟩
 rintro s7 h; replace h : zbk a0 a3c0 x1 x3 s7 = some r := h; unfold zbk at h
 change BW _ _ _ ⟨[(0, (ofV a0)), (3, (PV.fn (.func 34) [] [(PV.pt 20 (ofV a3c0) 0)])), (10, (PV.rf 0 0)), (12, (I64 x3.2)), (53, (BO s7))], [.box 83 [(z0i x1.f_Name), (BO x1.f_At), (I64 x1.f_Index)]], _⟩ _
 refine cX h rfl ?_ ?_
 intro hc8 h
 refine z0f ?_
 refine sX (z0a ?_)
 exact ⟨rfl, 0, h, jN⟩
 intro hc8 h
 refine z07 ?_
 exact ⟨rfl, x3.2, h, jN⟩
 refine z0f ?_
 iterate 2 refine sX ?_
 refine z0q (t := 36) rfl ?_ ?_
 intro hb9; replace h := z0x hb9 h
 iterate 3 refine yX ?_
 refine z0q (t := 39) rfl ?_ ?_
 intro hb10; replace h := z0x hb10 h
 iterate 12 refine nX ?_
 refine yX ?_
 refine sX (z0a ?_)
 exact ⟨rfl, true, h, jN⟩
 intro hb10; replace h := z0y hb10 h
 iterate 3 refine yX ?_
 refine z0q (t := 42) rfl ?_ ?_
 intro hb11; replace h := z0x hb11 h
 iterate 3 refine yX ?_
 refine z0q (t := 45) rfl ?_ ?_
 intro hb12; replace h := z0x hb12 h
 iterate 7 refine yX ?_
 refine sX (z0a ?_)
 exact ⟨rfl, (x1.f_Index == ((((a0).asList).length : Nat) : Int)), h, jN⟩
 intro hb12; replace h := z0y hb12 h
 iterate 5 refine nX ?_
 iterate 2 refine yX ?_
 refine sX (z0a ?_)
 exact ⟨rfl, false, h, jN⟩
 intro hb11; replace h := z0y hb11 h
 refine nX ?_
 iterate 2 refine yX ?_
 iterate 5 refine nX ?_
 iterate 2 refine yX ?_
 refine sX (z0a ?_)
 exact ⟨rfl, false, h, jN⟩
 intro hb9; replace h := z0y hb9 h
 iterate 16 refine nX ?_
 refine sX (z0a ?_)
 exact ⟨rfl, false, h, jN⟩
 intro hc2 h
 refine z07 ?_
 refine cBx ?_
 refine bR ?_
 iterate 2 refine sX ?_
 obtain ⟨x13, hx13, h⟩ := obind h
 refine sS rfl rfl rfl (z06 rfl zsd rfl (wkr (wkr .nil)) ⟨(ids_V a0), ⟨(z02 x1), trivial⟩⟩ (zp9 a0 x1 x13 hx13) (z01 (ids_V x13.1) (z01 rfl z04))) ?_
 iterate 4 refine sX ?_
 refine eX ?_
 refine z08 ?_
 refine bR ?_
 refine sX ?_
 refine eX ?_
 refine cX h rfl ?_ ?_
 intro hc14 h
 refine bR ?_
 iterate 2 refine sX ?_
 refine eX ?_
 obtain rfl := eI h; exact z05 ⟨_, rfl, z0p (y := (PV.tup [(ofV V.nil), (I64 x13.2)])) (Wk.tup (.cons (Wk.eq mk_nil.symm) (wkr .nil))) (z01 (ids_V V.nil) (z01 rfl z04)) ⟨rfl, rfl⟩⟩
 intro hc14 h
 refine z07 ?_
 refine cBx ?_
 refine bR ?_
 iterate 2 refine sX ?_
 obtain ⟨x15, hx15, h⟩ := obind h
 refine sS rfl rfl rfl (zfx (a := 1) (b := ((a1).length : Int)) Tryz.underlying30 z1h rfl rfl rfl rfl rfl rfl hx15) ?_
 iterate 2 refine sX ?_
 obtain ⟨x16, hx16, h⟩ := obind h
 refine sS rfl rfl rfl (z06 rfl zvp rfl (wkr (wkr (wkr (wkr .nil)))) ⟨(ids_V x13.1), ⟨(z03 z02 x15), ⟨rfl, ⟨(z4h (z4g (ids_V a3c0) rfl)), trivial⟩⟩⟩⟩ (c_q0n x13.1 x15 a2 a3c0 x16 hx16) (z01 (ids_V x16.1) (z01 rfl z04))) ?_
 iterate 4 refine sX ?_
 refine eX ?_
 refine z08 ?_
 refine bR ?_
 refine sX ?_
 refine eX ?_
 refine cX h rfl ?_ ?_
 intro hc17 h
 refine bR ?_
 iterate 2 refine sX ?_
 refine eX ?_
 obtain rfl := eI h; exact z05 ⟨_, rfl, z0p (y := (PV.tup [(ofV V.nil), (I64 x16.2)])) (Wk.tup (.cons (Wk.eq mk_nil.symm) (wkr .nil))) (z01 (ids_V V.nil) (z01 rfl z04)) ⟨rfl, rfl⟩⟩
 intro hc17 h
 refine z07 ?_
 refine cBx ?_
 refine bR ?_
 iterate 3 refine sX ?_
 obtain ⟨x18, hx18, h⟩ := obind h
 refine sS rfl rfl rfl (z06 rfl zvo rfl (wkr (wkr (wkr .nil))) ⟨(ids_V a0), ⟨(z02 x1), ⟨(ids_V x16.1), trivial⟩⟩⟩ (ztc a0 x1 x16.1 x18 hx18) (ids_V x18)) ?_
 refine sX ?_
 refine eX ?_
 obtain rfl := eI h; exact z05 ⟨_, rfl, z0p (y := (PV.tup [(ofV x18), (I64 0)])) (Wk.refl _) (z01 (ids_V x18) (z01 rfl z04)) ⟨rfl, rfl⟩⟩
theorem C_q0n.sound : ∀ (i : C_q0n) (r : i.R), z2w C_q0n.F i = some r → C_q0n.Q i r := by
 refine z3z (Φ := C_q0n.F) (Q := C_q0n.Q) ?_
 intro g hg i r h
 cases i with
 | k_q0n a0 a1 a2 a3c0 => exact z63 (fun a0 a1 a2 a3c0 => g (.k_q0n a0 a1 a2 a3c0)) (fun a0 a1 a2 a3c0 r hr => hg (.k_q0n a0 a1 a2 a3c0) r hr) a0 a1 a2 a3c0 r h
theorem Z5d (a0 : V) (a1 : (List S_api_Step)) (a2 : Bool) (a3c0 : V) (r : (V × Int)) (h : zo5 a0 a1 a2 a3c0 = some r) : z0m Tryz.prog 33 [(ofV a0), (PV.sl none 83 3 (List.map z00 a1)), (BO a2), (PV.fn (.func 34) [] [(PV.pt 20 (ofV a3c0) 0)])] (PV.tup [(ofV r.1), (I64 r.2)]) := C_q0n.sound (.k_q0n a0 a1 a2 a3c0) r h
end Go.Proofs.YthidgpcbnieleaaGreatDoor
