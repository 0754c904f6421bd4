/- Pure functions, and that calls answer as they say. -/
import Derived.Test.YthidgpcbnieleaaGreatDoorG1
namespace Go.Proofs.YthidgpcbnieleaaGreatDoor
open Go Aw
set_option linter.unusedVariables false
set_option linter.unusedSimpArgs false
set_option maxRecDepth 20000
set_option maxHeartbeats 2000000
variable {ι : Type} {ρ : ι → Type}
noncomputable def zdi (a1 : S_api_Step) (x5 : ((List (Str × V)) × Bool)) (s6 : Bool) : Option (V × Int) :=
 bif s6 then (
 some (V.nil, 41)
 ) else (
 (zin x5.1 a1.f_Name).bind fun x8 =>
 bif (!x8.2) then (
 some (V.nil, 40)
 ) else (
 (z6n x5.1 x8.1).bind fun x10 =>
 some (x10.2, 0)
 )
 )
noncomputable def zal (a0 : V) (a1 : S_api_Step) (s1 : Bool) : Option (V × Int) :=
 bif s1 then (
 bif (decide (a1.f_Index ≥ ((((a0).asList).length : Nat) : Int))) then (
 some (V.nil, 42)
 ) else (
 (z6n ((a0).asList) a1.f_Index).bind fun x4 =>
 some (x4, 0)
 )
 ) else (
 (zs8 a0).bind fun x5 =>
 bif (!x5.2) then (
 zdi a1 x5 true
 ) else (
 zdi a1 x5 a1.f_At
 )
 )
noncomputable def z5m (a0 : V) (a1 : S_api_Step) : Option (V × Int) :=
 bif (a0).isList then (
 zal a0 a1 a1.f_At
 ) else (
 zal a0 a1 false
 )
theorem zbj (a0 : V) (a1 : S_api_Step) (r : (V × Int)) (h : z5m a0 a1 = some r) : z0k Tryz.prog 56 [(ofV a0), (z03 a1)] (PV.tup [(ofV r.1), (I64 r.2)]) := by
 unfold z5m at h
 refine z0e Tryz.func56 rfl Tryz.ntmps56 Tryz.results56 rfl (z0i ?_)
 change BW _ _ _ ⟨[(0, (ofV a0)), (1, (z03 a1))], [], _⟩ _
 refine bR ?_
 iterate 2 refine sX ?_
 refine eX ?_
 refine z0b ?_
 refine bR ?_
 refine sX ?_
 refine sS rfl rfl rfl (z1u rfl rfl) ?_
 iterate 4 refine sX ?_
 refine eX ?_
 refine z2b (ι := Bool) (fun i => zal a0 a1 i = some r) (fun i => [(0, (ofV a0)), (3, (PV.rf 0 0)), (6, (PV.sl none 20 1 (List.map ofV (a0).asList))), (21, (BO i))]) (fun i => [.box 83 [(z0n a1.f_Name), (BO a1.f_At), (I64 a1.f_Index)]]) ?_ ?_ ?_
 intro i; exact ⟨lbE rfl, ⟨(z0c (ids_V _)), ⟨(il_rf rfl), ⟨(z0c (z07 ids_V _)), ⟨(z0c rfl), trivial⟩⟩⟩⟩, ⟨⟨(z0c rfl), ⟨(z0c rfl), ⟨(z0c rfl), trivial⟩⟩⟩, trivial⟩⟩
 rintro s1 h; replace h : zal a0 a1 s1 = some r := h; unfold zal at h
 change BW _ _ _ ⟨[(0, (ofV a0)), (3, (PV.rf 0 0)), (6, (PV.sl none 20 1 (List.map ofV (a0).asList))), (21, (BO s1))], [.box 83 [(z0n a1.f_Name), (BO a1.f_At), (I64 a1.f_Index)]], _⟩ _
 refine cX h rfl ?_ ?_
 intro hc2 h
 refine z0b ?_
 refine bR ?_
 iterate 4 refine sX ?_
 refine eX ?_
 refine cX h rfl ?_ ?_
 intro hc3 h
 refine bR ?_
 refine sX ?_
 refine eX ?_
 obtain rfl := eI h; exact z04 ⟨_, rfl, z0f (y := (PV.tup [(ofV V.nil), (I64 42)])) (Wk.tup (.cons (Wk.eq mk_nil.symm) (wkr .nil))) (z00 (ids_V V.nil) (z00 rfl z02)) ⟨rfl, rfl⟩⟩
 intro hc3 h
 refine z09 ?_
 refine cBx ?_
 refine bR ?_
 iterate 3 refine sX ?_
 obtain ⟨x4, hx4, h⟩ := obind h
 refine sS rfl rfl rfl (z26 Tryz.underlying67 z29 rfl rfl rfl hx4 rfl) ?_
 refine sS rfl rfl rfl (z44 (y := (ofV x4)) Tryz.underlying20 rfl rfl rfl (by rw [z0x]; rfl)) ?_
 refine sX ?_
 refine eX ?_
 obtain rfl := eI h; exact z04 ⟨_, rfl, z0f (y := (PV.tup [(ofV x4), (I64 0)])) (Wk.refl _) (z00 (ids_V x4) (z00 rfl z02)) ⟨rfl, rfl⟩⟩
 intro hc2 h
 refine z09 ?_
 refine cBx ?_
 refine bR ?_
 refine sX ?_
 obtain ⟨x5, hx5, h⟩ := obind h
 refine sS rfl rfl rfl (z05 rfl Z3a rfl (wkr .nil) ⟨(ids_V a0), trivial⟩ (Z2d a0 x5 hx5) (z00 (z07 z0s x5.1) (z00 rfl z02))) ?_
 iterate 4 refine sX ?_
 refine eX ?_
 refine z0b ?_
 refine jX (ι := Bool) (fun i => zdi a1 x5 i = some r) (fun i => [(3, (PV.rf 0 0)), (8, (PV.sl none 69 2 (List.map ofFld x5.1))), (42, (BO i))]) (fun i => [.box 83 [(z0n a1.f_Name), (BO a1.f_At), (I64 a1.f_Index)]]) ?_ ?_
 rintro s6 h; replace h : zdi a1 x5 s6 = some r := h; unfold zdi at h
 change BW _ _ _ ⟨[(3, (PV.rf 0 0)), (8, (PV.sl none 69 2 (List.map ofFld x5.1))), (42, (BO s6))], [.box 83 [(z0n a1.f_Name), (BO a1.f_At), (I64 a1.f_Index)]], _⟩ _
 refine cX h rfl ?_ ?_
 intro hc7 h
 refine bR ?_
 refine sX ?_
 refine eX ?_
 obtain rfl := eI h; exact z04 ⟨_, rfl, z0f (y := (PV.tup [(ofV V.nil), (I64 41)])) (Wk.tup (.cons (Wk.eq mk_nil.symm) (wkr .nil))) (z00 (ids_V V.nil) (z00 rfl z02)) ⟨rfl, rfl⟩⟩
 intro hc7 h
 refine z09 ?_
 refine cBx ?_
 refine bR ?_
 iterate 3 refine sX ?_
 obtain ⟨x8, hx8, h⟩ := obind h
 refine sS rfl rfl rfl (z05 rfl zxp rfl (wkr (wkr .nil)) ⟨(z07 z0s x5.1), ⟨rfl, trivial⟩⟩ (zw6 x5.1 a1.f_Name x8 hx8) (z00 rfl (z00 rfl z02))) ?_
 iterate 4 refine sX ?_
 refine eX ?_
 refine z0b ?_
 refine bR ?_
 refine sX ?_
 refine eX ?_
 refine cX h rfl ?_ ?_
 intro hc9 h
 refine bR ?_
 refine sX ?_
 refine eX ?_
 obtain rfl := eI h; exact z04 ⟨_, rfl, z0f (y := (PV.tup [(ofV V.nil), (I64 40)])) (Wk.tup (.cons (Wk.eq mk_nil.symm) (wkr .nil))) (z00 (ids_V V.nil) (z00 rfl z02)) ⟨rfl, rfl⟩⟩
 intro hc9 h
 refine z09 ?_
 refine cBx ?_
 refine bR ?_
 iterate 2 refine sX ?_
 obtain ⟨x10, hx10, h⟩ := obind h
 refine sS rfl rfl rfl (z26 Tryz.underlying71 z0v rfl rfl rfl hx10 rfl) ?_
 iterate 3 refine sX ?_
 refine eX ?_
 obtain rfl := eI h; exact z04 ⟨_, rfl, z0f (y := (PV.tup [(ofV x10.2), (I64 0)])) (Wk.refl _) (z00 (ids_V x10.2) (z00 rfl z02)) ⟨rfl, rfl⟩⟩
 refine z0g ?_
 iterate 3 refine sX ?_
 refine z0j (t := 39) rfl ?_ ?_
 intro hb11; replace h := z0o hb11 h
 iterate 2 refine nX ?_
 refine sX (z0d ?_)
 exact ⟨rfl, true, h, jN⟩
 intro hb11; replace h := z0p hb11 h
 iterate 2 refine yX ?_
 refine sX (z0d ?_)
 exact ⟨rfl, a1.f_At, h, jN⟩
 refine z0g ?_
 iterate 2 refine sX ?_
 refine z0j (t := 18) rfl ?_ ?_
 intro hb12; replace h := z0o hb12 h
 iterate 2 refine yX ?_
 refine sX (z0d ?_)
 exact ⟨rfl, a1.f_At, h, jN⟩
 intro hb12; replace h := z0p hb12 h
 iterate 2 refine nX ?_
 refine sX (z0d ?_)
 exact ⟨rfl, false, h, jN⟩
noncomputable def z67 (a1 : (List S_api_Step)) (g1 : V → Nat → Option (V × Int)) (s1 : V) (s2 : Nat) : Option (V × Int) :=
 bif (decide (((s2 : Nat) : Int) < (((a1).length : Nat) : Int))) then (
 ((a1)[s2]?).bind fun x5 =>
 (z5m s1 x5).bind fun x6 =>
 bif (x6.2 != 0) then (
 some (V.nil, x6.2)
 ) else (
 g1 x6.1 (s2 + 1)
 )
 ) else (
 some (s1, 0)
 )
theorem zly (g1 : OF ρ → V → Nat → Option (V × Int)) (h_g1 : ∀ y0 y1, CM (fun G => g1 G y0 y1)) (a1 : (List S_api_Step)) (s1 : V) (s2 : Nat) : CM (fun G : OF ρ => z67 a1 (g1 G) s1 s2) := by
 simp only [z67]
 repeat (first | exact z0h | exact h_g1 _ _ | refine z14 ?_ ?_ | refine z15 ?_ (fun _ => ?_))
noncomputable def zg0 (a1 : (List S_api_Step)) (s1 : V) (s2 : Nat) : Option (V × Int) :=
 z3n (ι := (V × Nat)) (ρ := fun _ => (V × Int)) (fun g i => z67 a1 (fun s1 s2 => g (s1, s2)) i.1 i.2) (s1, s2)
theorem zfz (a1 : (List S_api_Step)) (s1 : V) (s2 : Nat) : zg0 a1 s1 s2 = z67 a1 (zg0 a1) s1 s2 :=
 z1f (ι := (V × Nat)) (ρ := fun _ => (V × Int)) (Φ := fun g i => z67 a1 (fun s1 s2 => g (s1, s2)) i.1 i.2) (fun i => zly (ι := (V × Nat)) (ρ := fun _ => (V × Int)) (fun g => (fun s1 s2 => g (s1, s2))) (fun _ _ => z1j) a1 i.1 i.2) (s1, s2)
noncomputable def zil (a0 : V) (a1 : (List S_api_Step)) : Option (V × Int) :=
 zg0 a1 a0 0
theorem zw5 (a0 : V) (a1 : (List S_api_Step)) (r : (V × Int)) (h : zil a0 a1 = some r) : z0k Tryz.prog 36 [(ofV a0), (PV.sl none 83 3 (List.map z03 a1))] (PV.tup [(ofV r.1), (I64 r.2)]) := by
 unfold zil at h
 refine z0e Tryz.func36 rfl Tryz.ntmps36 Tryz.results36 rfl (z0i ?_)
 change BW _ _ _ ⟨[(0, (ofV a0)), (1, (PV.sl none 83 3 (List.map z03 a1)))], [], _⟩ _
 refine bR ?_
 refine sX ?_
 refine eX ?_
 refine z0b ?_
 refine bR ?_
 iterate 2 refine sX ?_
 refine eX ?_
 refine z0m ?_
 refine cBx ?_
 unfold zg0 at h
 refine z3o (σ := (V × Nat)) (fun i => [(0, (ofV i.1)), (10, (PV.sl none 83 3 (List.map z03 a1))), (11, (I64 ((((a1).length : Nat) : Int)))), (12, (I64 (((i.2 : Nat) : Int))))]) (fun i => []) (a0, 0) h ?_ ?_ ?_
 intro i; exact ⟨lbE rfl, ⟨(z0c (ids_V _)), ⟨(z0c (z07 z01 _)), ⟨(z0c rfl), ⟨(z0c rfl), trivial⟩⟩⟩⟩, trivial⟩
 exact jN
 rintro g1_f ⟨s1, s2⟩ h; replace h : z67 a1 (fun y0 y1 => g1_f (y0, y1)) s1 s2 = some r := h; unfold z67 at h
 change BW _ _ _ ⟨[(0, (ofV s1)), (10, (PV.sl none 83 3 (List.map z03 a1))), (11, (I64 ((((a1).length : Nat) : Int)))), (12, (I64 (((s2 : Nat) : Int))))], [], _⟩ _
 refine bR ?_
 refine eX ?_
 refine z0b ?_
 refine z4u (t := 10) rfl fun hb4 => ?_
 try rw [List.length_map] at hb4
 refine cX h rfl ?_ ?_
 intro hc3 h
 have hc3_ := of_decide_eq_true hc3
 refine z09 ?_
 refine cBx ?_
 refine z0b ?_
 refine z0m ?_
 refine cBx ?_
 refine bR ?_
 obtain ⟨x5, hx5, h⟩ := obind h
 refine sS rfl rfl rfl (z1m (i := s2) Tryz.underlying30 z13 rfl rfl rfl hx5 rfl) ?_
 refine sX ?_
 refine sS rfl rfl rfl (z1t z13 rfl) ?_
 refine z1g rfl rfl (z18 z13 rfl rfl rfl rfl rfl rfl (lbE rfl) rfl) ?_
 refine z0d ?_
 refine cBx ?_
 refine bR ?_
 iterate 2 refine sX ?_
 obtain ⟨x6, hx6, h⟩ := obind h
 refine sS rfl rfl rfl (z05 rfl zcy rfl (wkr (wkr .nil)) ⟨(ids_V s1), ⟨(z01 x5), trivial⟩⟩ (zbj s1 x5 x6 hx6) (z00 (ids_V x6.1) (z00 rfl z02))) ?_
 iterate 4 refine sX ?_
 refine eX ?_
 refine z0b ?_
 refine bR ?_
 refine sX ?_
 refine eX ?_
 refine cX h rfl ?_ ?_
 intro hc7 h
 refine bR ?_
 iterate 2 refine sX ?_
 refine eX ?_
 obtain rfl := eI h; exact z04 ⟨_, rfl, z0f (y := (PV.tup [(ofV V.nil), (I64 x6.2)])) (Wk.tup (.cons (Wk.eq mk_nil.symm) (wkr .nil))) (z00 (ids_V V.nil) (z00 rfl z02)) ⟨rfl, rfl⟩⟩
 intro hc7 h
 refine z09 ?_
 refine cBx ?_
 refine z0g ?_
 refine sX ?_
 refine eX ?_
 refine z0g ?_
 refine sS rfl rfl rfl (z2p (k := s2) (c := 1) rfl rfl rfl (by omega)) ?_
 refine sX (z0d ?_)
 exact ⟨rfl, (x6.1, (s2 + 1)), h, jN⟩
 intro hc3 h
 refine z2c ?_
 refine cBx ?_
 refine bR ?_
 iterate 2 refine sX ?_
 refine eX ?_
 obtain rfl := eI h; exact z04 ⟨_, rfl, z0f (y := (PV.tup [(ofV s1), (I64 0)])) (Wk.refl _) (z00 (ids_V s1) (z00 rfl z02)) ⟨rfl, rfl⟩⟩
noncomputable def z5h (r_q0v : V → Option V) (a0 : (List (Str × V))) (g1 : (List (Str × V)) → Nat → Option (List (Str × V))) (s2 : (List (Str × V))) (s3 : Nat) : Option (List (Str × V)) :=
 bif (decide (((s3 : Nat) : Int) < (((a0).length : Nat) : Int))) then (
 ((a0)[s3]?).bind fun x6 =>
 (r_q0v x6.2).bind fun x7 =>
 (z9p 32 s2 ([(x6.1, x7)] : (List (Str × V)))).bind fun x8 =>
 g1 x8 (s3 + 1)
 ) else (
 some s2
 )
theorem za4 (r_q0v : OF ρ → V → Option V) (h_r_q0v : ∀ y0, CM (fun G => r_q0v G y0)) (g1 : OF ρ → (List (Str × V)) → Nat → Option (List (Str × V))) (h_g1 : ∀ y0 y1, CM (fun G => g1 G y0 y1)) (a0 s2 : (List (Str × V))) (s3 : Nat) : CM (fun G : OF ρ => z5h (r_q0v G) a0 (g1 G) s2 s3) := by
 simp only [z5h]
 repeat (first | exact z0h | exact h_r_q0v _ | exact h_g1 _ _ | refine z14 ?_ ?_ | refine z15 ?_ (fun _ => ?_))
noncomputable def zdo (r_q0v : V → Option V) (a0 s2 : (List (Str × V))) (s3 : Nat) : Option (List (Str × V)) :=
 z3n (ι := ((List (Str × V)) × Nat)) (ρ := fun _ => (List (Str × V))) (fun g i => z5h r_q0v a0 (fun s2 s3 => g (s2, s3)) i.1 i.2) (s2, s3)
theorem zgj (r_q0v : V → Option V) (a0 s2 : (List (Str × V))) (s3 : Nat) : zdo r_q0v a0 s2 s3 = z5h r_q0v a0 (zdo r_q0v a0) s2 s3 :=
 z1f (ι := ((List (Str × V)) × Nat)) (ρ := fun _ => (List (Str × V))) (Φ := fun g i => z5h r_q0v a0 (fun s2 s3 => g (s2, s3)) i.1 i.2) (fun i => za4 (ι := ((List (Str × V)) × Nat)) (ρ := fun _ => (List (Str × V))) (fun _ => r_q0v) (fun _ => z0h) (fun g => (fun s2 s3 => g (s2, s3))) (fun _ _ => z1j) a0 i.1 i.2) (s2, s3)
theorem zoe (r_q0v : OF ρ → V → Option V) (h_r_q0v : ∀ y0, CM (fun G => r_q0v G y0)) (a0 s2 : (List (Str × V))) (s3 : Nat) : CM (fun G : OF ρ => zdo (r_q0v G) a0 s2 s3) :=
 z87 (κ := ((List (Str × V)) × Nat)) (τ := fun _ => (List (Str × V))) (Φ := fun G g i => z5h (r_q0v G) a0 (fun s2 s3 => g (s2, s3)) i.1 i.2) (fun g i => za4 r_q0v h_r_q0v (fun _ => (fun s2 s3 => g (s2, s3))) (fun _ _ => z0h) a0 i.1 i.2) (fun G i => za4 (ι := ((List (Str × V)) × Nat)) (ρ := fun _ => (List (Str × V))) (fun _ => r_q0v G) (fun _ => z0h) (fun g => (fun s2 s3 => g (s2, s3))) (fun _ _ => z1j) a0 i.1 i.2) (s2, s3)
noncomputable def zjk (r_q0g : (List (Str × V)) → Option (List (Str × V))) (r_q0v : V → Option V) (a0 : (List (Str × V))) : Option (List (Str × V)) :=
 (zii ((a0).length) 32).bind fun x1 =>
 zdo r_q0v a0 ([] : (List (Str × V))) 0
theorem zuf (r_q0g : OF ρ → (List (Str × V)) → Option (List (Str × V))) (h_r_q0g : ∀ y0, CM (fun G => r_q0g G y0)) (r_q0v : OF ρ → V → Option V) (h_r_q0v : ∀ y0, CM (fun G => r_q0v G y0)) (a0 : (List (Str × V))) : CM (fun G : OF ρ => zjk (r_q0g G) (r_q0v G) a0) := by
 simp only [zjk]
 repeat (first | exact z0h | exact h_r_q0g _ | exact h_r_q0v _ | apply zoe | refine z14 ?_ ?_ | refine z15 ?_ (fun _ => ?_) | intro _ | assumption)
noncomputable def z5e (r_q0v : V → Option V) (a0 : V) (g1 : (List V) → Nat → Option V) (s5 : (List V)) (s6 : Nat) : Option V :=
 bif (decide (((s6 : Nat) : Int) < ((((a0).asList).length : Nat) : Int))) then (
 (((a0).asList)[s6]?).bind fun x9 =>
 (r_q0v x9).bind fun x10 =>
 (z9p 16 s5 ([x10] : (List V))).bind fun x11 =>
 g1 x11 (s6 + 1)
 ) else (
 some (V.list s5)
 )
theorem za1 (r_q0v : OF ρ → V → Option V) (h_r_q0v : ∀ y0, CM (fun G => r_q0v G y0)) (g1 : OF ρ → (List V) → Nat → Option V) (h_g1 : ∀ y0 y1, CM (fun G => g1 G y0 y1)) (a0 : V) (s5 : (List V)) (s6 : Nat) : CM (fun G : OF ρ => z5e (r_q0v G) a0 (g1 G) s5 s6) := by
 simp only [z5e]
 repeat (first | exact z0h | exact h_r_q0v _ | exact h_g1 _ _ | refine z14 ?_ ?_ | refine z15 ?_ (fun _ => ?_))
noncomputable def zdk (r_q0v : V → Option V) (a0 : V) (s5 : (List V)) (s6 : Nat) : Option V :=
 z3n (ι := ((List V) × Nat)) (ρ := fun _ => V) (fun g i => z5e r_q0v a0 (fun s5 s6 => g (s5, s6)) i.1 i.2) (s5, s6)
theorem zge (r_q0v : V → Option V) (a0 : V) (s5 : (List V)) (s6 : Nat) : zdk r_q0v a0 s5 s6 = z5e r_q0v a0 (zdk r_q0v a0) s5 s6 :=
 z1f (ι := ((List V) × Nat)) (ρ := fun _ => V) (Φ := fun g i => z5e r_q0v a0 (fun s5 s6 => g (s5, s6)) i.1 i.2) (fun i => za1 (ι := ((List V) × Nat)) (ρ := fun _ => V) (fun _ => r_q0v) (fun _ => z0h) (fun g => (fun s5 s6 => g (s5, s6))) (fun _ _ => z1j) a0 i.1 i.2) (s5, s6)
theorem zo8 (r_q0v : OF ρ → V → Option V) (h_r_q0v : ∀ y0, CM (fun G => r_q0v G y0)) (a0 : V) (s5 : (List V)) (s6 : Nat) : CM (fun G : OF ρ => zdk (r_q0v G) a0 s5 s6) :=
 z87 (κ := ((List V) × Nat)) (τ := fun _ => V) (Φ := fun G g i => z5e (r_q0v G) a0 (fun s5 s6 => g (s5, s6)) i.1 i.2) (fun g i => za1 r_q0v h_r_q0v (fun _ => (fun s5 s6 => g (s5, s6))) (fun _ _ => z0h) a0 i.1 i.2) (fun G i => za1 (ι := ((List V) × Nat)) (ρ := fun _ => V) (fun _ => r_q0v G) (fun _ => z0h) (fun g => (fun s5 s6 => g (s5, s6))) (fun _ _ => z1j) a0 i.1 i.2) (s5, s6)
noncomputable def zjh (r_q0g : (List (Str × V)) → Option (List (Str × V))) (r_q0v : V → Option V) (a0 : V) : Option V :=
 bif (a0).isBytes then (
 (z9p 1 ([] : Str) ((a0).asBytes)).bind fun x2 =>
 some (V.bytes x2)
 ) else (
 bif (a0).isList then (
 (zii (((a0).asList).length) 16).bind fun x4 =>
 zdk r_q0v a0 ([] : (List V)) 0
 ) else (
 bif (a0).isDict then (
 (r_q0g ((a0).asDict)).bind fun x13 =>
 some (V.dict x13)
 ) else (
 bif (a0).isRec then (
 ((a0).asRec).bind fun x15 =>
 (r_q0g x15.fields).bind fun x16 =>
 some (V.record x15.cls x15.ver x16)
 ) else (
 some a0
 )
 )
 )
 )
theorem zuc (r_q0g : OF ρ → (List (Str × V)) → Option (List (Str × V))) (h_r_q0g : ∀ y0, CM (fun G => r_q0g G y0)) (r_q0v : OF ρ → V → Option V) (h_r_q0v : ∀ y0, CM (fun G => r_q0v G y0)) (a0 : V) : CM (fun G : OF ρ => zjh (r_q0g G) (r_q0v G) a0) := by
 simp only [zjh]
 repeat (first | exact z0h | exact h_r_q0g _ | exact h_r_q0v _ | apply zo8 | refine z14 ?_ ?_ | refine z15 ?_ (fun _ => ?_) | intro _ | assumption)
inductive C_q0g where
 | k_q0g (a0 : (List (Str × V)))
 | k_q0v (a0 : V)
def C_q0g.R : C_q0g → Type
 | .k_q0g _ => (List (Str × V))
 | .k_q0v _ => V
noncomputable def C_q0g.F (g : ∀ i : C_q0g, Option i.R) : ∀ i : C_q0g, Option i.R
 | .k_q0g a0 => zjk (fun a0 => g (.k_q0g a0)) (fun a0 => g (.k_q0v a0)) a0
 | .k_q0v a0 => zjh (fun a0 => g (.k_q0g a0)) (fun a0 => g (.k_q0v a0)) a0
noncomputable def zsc (a0 : (List (Str × V))) : Option (List (Str × V)) := z3n C_q0g.F (.k_q0g a0)
noncomputable def zce (a0 : V) : Option V := z3n C_q0g.F (.k_q0v a0)
abbrev gg3 := fun (g : ∀ i : C_q0g, Option i.R) a0 => g (.k_q0g a0)
theorem hh3 (a0 : _) : CM (ρ := C_q0g.R) (fun g => g (C_q0g.k_q0g a0)) := z1j
abbrev gg4 := fun (g : ∀ i : C_q0g, Option i.R) a0 => g (.k_q0v a0)
theorem hh4 (a0 : _) : CM (ρ := C_q0g.R) (fun g => g (C_q0g.k_q0v a0)) := z1j
theorem C_q0g.cm (i : C_q0g) : CM (fun g : (∀ i : C_q0g, Option i.R) => C_q0g.F g i) := by
 cases i with
 | k_q0g a0 => exact zuf gg3 hh3 gg4 hh4 a0
 | k_q0v a0 => exact zuc gg3 hh3 gg4 hh4 a0
theorem Z4a (a0 : (List (Str × V))) : zsc a0 = zjk zsc zce a0 := z1f C_q0g.cm (.k_q0g a0)
theorem Z47 (a0 : V) : zce a0 = zjh zsc zce a0 := z1f C_q0g.cm (.k_q0v a0)
def C_q0g.Q : ∀ i : C_q0g, i.R → Prop
 | .k_q0g a0 => fun (r : (List (Str × V))) => z0k Tryz.prog 96 [(PV.sl none 69 2 (List.map ofFld a0))] (PV.sl none 69 2 (List.map ofFld r))
 | .k_q0v a0 => fun (r : V) => z0k Tryz.prog 55 [(ofV a0)] (ofV r)
theorem z8s (r_q0g : (List (Str × V)) → Option (List (Str × V))) (c_q0g : ∀ (a0 : (List (Str × V))) r, r_q0g a0 = some r → z0k Tryz.prog 96 [(PV.sl none 69 2 (List.map ofFld a0))] (PV.sl none 69 2 (List.map ofFld r))) (r_q0v : V → Option V) (c_q0v : ∀ (a0 : V) r, r_q0v a0 = some r → z0k Tryz.prog 55 [(ofV a0)] (ofV r)) (a0 r : (List (Str × V))) (h : zjk r_q0g r_q0v a0 = some r) : z0k Tryz.prog 96 [(PV.sl none 69 2 (List.map ofFld a0))] (PV.sl none 69 2 (List.map ofFld r)) := by
 unfold zjk at h
 refine z0e Tryz.func96 rfl Tryz.ntmps96 Tryz.results96 rfl (z0i ?_)
 change BW _ _ _ ⟨[(0, (PV.sl none 69 2 (List.map ofFld a0)))], [], _⟩ _
 refine bR ?_
 refine eX ?_
 refine bR ?_
 iterate 2 refine sX ?_
 obtain ⟨x1, hx1, h⟩ := obind h
 refine sS rfl rfl rfl ((zpl (f := ofFld) (c := ((a0).length)) Tryz.underlying71 z0v rfl rfl rfl rfl hx1 (p := (PV.agg [(z0n []), (PV.v .nilIface)])) rfl).cast (y := (PV.sl (some 0) 69 2 (List.map ofFld ([] : (List (Str × V)))))) rfl rfl) ?_
 refine eX ?_
 refine z0b ?_
 refine bR ?_
 iterate 2 refine sX ?_
 refine eX ?_
 refine z0m ?_
 refine cBx ?_
 unfold zdo at h
 refine z3o (σ := ((List (Str × V)) × Nat)) (fun i => [(3, (PV.sl (some 0) 69 2 (List.map ofFld i.1))), (9, (PV.sl none 69 2 (List.map ofFld a0))), (10, (I64 ((((a0).length : Nat) : Int)))), (11, (I64 (((i.2 : Nat) : Int))))]) (fun i => [.arr 69 (i.1).length]) (([] : (List (Str × V))), 0) h ?_ ?_ ?_
 intro i; exact ⟨lbE rfl, ⟨(z4o rfl (z1a z0s _)), ⟨(z0c (z07 z0s _)), ⟨(z0c rfl), ⟨(z0c rfl), trivial⟩⟩⟩⟩, trivial⟩
 exact jN
 rintro g1_f ⟨s2, s3⟩ h; replace h : z5h r_q0v a0 (fun y0 y1 => g1_f (y0, y1)) s2 s3 = some r := h; unfold z5h at h
 change BW _ _ _ ⟨[(3, (PV.sl (some 0) 69 2 (List.map ofFld s2))), (9, (PV.sl none 69 2 (List.map ofFld a0))), (10, (I64 ((((a0).length : Nat) : Int)))), (11, (I64 (((s3 : Nat) : Int))))], [.arr 69 (s2).length], _⟩ _
 refine bR ?_
 refine eX ?_
 refine z0b ?_
 refine z4u (t := 9) rfl fun hb5 => ?_
 try rw [List.length_map] at hb5
 refine cX h rfl ?_ ?_
 intro hc4 h
 have hc4_ := of_decide_eq_true hc4
 refine z09 ?_
 refine cBx ?_
 refine z0b ?_
 refine z0m ?_
 refine cBx ?_
 refine bR ?_
 obtain ⟨x6, hx6, h⟩ := obind h
 refine sS rfl rfl rfl (z1m (i := s3) Tryz.underlying71 z0v rfl rfl rfl hx6 rfl) ?_
 refine sX ?_
 refine sS rfl rfl rfl ((z1t z0v rfl).cast (H'' := [.arr 69 (s2).length, .box 69 [(z0n []), (ofV V.nil)]]) rfl (by simp only [mk_nil]; rfl)) ?_
 refine z1g rfl rfl (z18 z0v rfl rfl rfl rfl rfl rfl (lbE rfl) (by show List.all [(z0n x6.1), (ofV x6.2)] z6u = true; simp only [List.all_cons, List.all_nil, zd6, z52, Bool.and_true, Bool.true_and]; try rfl)) ?_
 refine z0d ?_
 refine cBx ?_
 refine z1z 8 [7] [1] mo (by kernel_rfl) ?_
 iterate 5 refine gX ?_
 obtain ⟨x7, hx7, h⟩ := obind h
 refine z1o rfl rfl rfl rfl (fun H hp => z05 rfl zxt rfl (wkr .nil) ⟨(ids_V x6.2), trivial⟩ (c_q0v x6.2 x7 hx7) (ids_V x7)) ?_
 refine z1o rfl rfl rfl rfl (fun H hp => z1i (cs := [(z0n x6.1), (ofV x7)]) zia z0v rfl rfl (by simp only [List.all_cons, List.all_nil, z4c, z1x, Bool.and_true, Bool.true_and]; try rfl) (by simp only [z3k, List.getElem?_cons_zero, List.getElem?_cons_succ, z0x, z0u]; rfl)) ?_
 refine z9o rfl rfl rfl rfl ((z19 (xs := [(PV.agg [(z0n x6.1), (ofV x7)])]) Tryz.underlying71 z0v rfl rfl rfl (by simp only [List.all_cons, List.all_nil, z4c, z1x, Bool.and_true, Bool.true_and]; try rfl) (by simp only [List.all_cons, List.all_nil, csz_V, z2x, z0x, z0u]; try rfl) rfl ⟨lbE rfl, lbE rfl⟩ (by simp only [z8m, z3k, List.flatMap_cons, List.flatMap_nil, z0x, z0u]; try rfl)).cast (y := (PV.sl (some 2) 69 2 (List.map ofFld ([(x6.1, x7)] : (List (Str × V)))))) rfl rfl) ⟨rfl, trivial⟩ ?_
 refine z24 ?_
 change AO _ _ _ _ _
 obtain ⟨x8, hx8, h⟩ := obind h
 refine sS rfl rfl rfl (z34 Tryz.underlying71 z0v rfl Tryz.underlying71 rfl rfl rfl rfl z7i z7l hx8 rfl) ?_
 refine eX ?_
 refine z0g ?_
 refine sS rfl rfl rfl (z2p (k := s3) (c := 1) rfl rfl rfl (by omega)) ?_
 refine sX (z0d ?_)
 exact ⟨rfl, (x8, (s3 + 1)), h, jN⟩
 intro hc4 h
 refine z2c ?_
 refine cBx ?_
 refine bR ?_
 refine sX ?_
 refine eX ?_
 obtain rfl := eI h; exact z04 ⟨_, rfl, z0f (y := (PV.sl none 69 2 (List.map ofFld s2))) Wk.tok (z07 z0s s2) ⟨rfl, rfl⟩⟩
theorem zd2 (r_q0g : (List (Str × V)) → Option (List (Str × V))) (c_q0g : ∀ (a0 : (List (Str × V))) r, r_q0g a0 = some r → z0k Tryz.prog 96 [(PV.sl none 69 2 (List.map ofFld a0))] (PV.sl none 69 2 (List.map ofFld r))) (r_q0v : V → Option V) (c_q0v : ∀ (a0 : V) r, r_q0v a0 = some r → z0k Tryz.prog 55 [(ofV a0)] (ofV r)) (a0 r : V) (h : zjh r_q0g r_q0v a0 = some r) : z0k Tryz.prog 55 [(ofV a0)] (ofV r) := by
 unfold zjh at h
 refine z0e Tryz.func55 rfl Tryz.ntmps55 Tryz.results55 rfl (z0i ?_)
 change BW _ _ _ ⟨[(0, (ofV a0))], [], _⟩ _
 refine bR ?_
 refine eX ?_
 refine z0b ?_
 refine bR ?_
 refine eX ?_
 refine z0m ?_
 refine cBx ?_
 refine bR ?_
 refine sS rfl rfl rfl (z6i rfl rfl) ?_
 refine sX ?_
 refine eX ?_
 refine cX h rfl ?_ ?_
 intro hc1 h
 refine bR ?_
 refine eX ?_
 refine bR ?_
 refine sS rfl rfl rfl ((z19 (xs := []) Tryz.underlying23 inf_5 rfl rfl rfl rfl rfl rfl ⟨lbE rfl, lbE rfl⟩ rfl).cast (y := (PV.sl (some 0) 5 1 (List.map ofB ([] : Str)))) rfl rfl) ?_
 refine sX ?_
 obtain ⟨x2, hx2, h⟩ := obind h
 refine sS rfl rfl rfl (z34 Tryz.underlying23 inf_5 rfl Tryz.underlying23 rfl rfl rfl rfl (fun _ => rfl) (fun _ => rfl) hx2 rfl) ?_
 refine sS rfl rfl rfl ((z10 Tryz.underlying23 rfl rfl rfl).wk ((Wk.iface Wk.tok).trans (Wk.eq (zkf _).symm))) ?_
 refine eX ?_
 obtain rfl := eI h; exact z04 ⟨_, rfl, z0f (y := (ofV (V.bytes x2))) (Wk.refl _) (ids_V (V.bytes x2)) ⟨rfl, rfl⟩⟩
 intro hc1 h
 refine bR ?_
 refine sS rfl rfl rfl (z1u rfl rfl) ?_
 refine sX ?_
 refine eX ?_
 refine cX h rfl ?_ ?_
 intro hc3 h
 refine bR ?_
 refine eX ?_
 refine bR ?_
 iterate 2 refine sX ?_
 obtain ⟨x4, hx4, h⟩ := obind h
 refine sS rfl rfl rfl ((zpl (f := ofV) (c := (((a0).asList).length)) Tryz.underlying67 z29 rfl rfl rfl rfl hx4 (p := (PV.v .nilIface)) rfl).cast (y := (PV.sl (some 0) 20 1 (List.map ofV ([] : (List V))))) rfl rfl) ?_
 refine eX ?_
 refine z0b ?_
 refine bR ?_
 iterate 2 refine sX ?_
 refine eX ?_
 refine z0m ?_
 refine cBx ?_
 unfold zdk at h
 refine z3o (σ := ((List V) × Nat)) (fun i => [(5, (PV.sl (some 0) 20 1 (List.map ofV i.1))), (24, (PV.sl none 20 1 (List.map ofV (a0).asList))), (25, (I64 (((((a0).asList).length : Nat) : Int)))), (26, (I64 (((i.2 : Nat) : Int))))]) (fun i => [.arr 20 (i.1).length]) (([] : (List V)), 0) h ?_ ?_ ?_
 intro i; exact ⟨lbE rfl, ⟨(z4o rfl (z1a ids_V _)), ⟨(z0c (z07 ids_V _)), ⟨(z0c rfl), ⟨(z0c rfl), trivial⟩⟩⟩⟩, trivial⟩
 exact jN
 rintro g1_f ⟨s5, s6⟩ h; replace h : z5e r_q0v a0 (fun y0 y1 => g1_f (y0, y1)) s5 s6 = some r := h; unfold z5e at h
 change BW _ _ _ ⟨[(5, (PV.sl (some 0) 20 1 (List.map ofV s5))), (24, (PV.sl none 20 1 (List.map ofV (a0).asList))), (25, (I64 (((((a0).asList).length : Nat) : Int)))), (26, (I64 (((s6 : Nat) : Int))))], [.arr 20 (s5).length], _⟩ _
 refine bR ?_
 refine eX ?_
 refine z0b ?_
 refine z4u (t := 24) rfl fun hb8 => ?_
 try rw [List.length_map] at hb8
 refine cX h rfl ?_ ?_
 intro hc7 h
 have hc7_ := of_decide_eq_true hc7
 refine z09 ?_
 refine cBx ?_
 refine z0b ?_
 refine z0m ?_
 refine cBx ?_
 refine bR ?_
 obtain ⟨x9, hx9, h⟩ := obind h
 refine sS rfl rfl rfl (z1m (i := s6) Tryz.underlying67 z29 rfl rfl rfl hx9 rfl) ?_
 refine sS rfl rfl rfl (z44 (y := (ofV x9)) Tryz.underlying20 rfl rfl rfl (by rw [z0x]; rfl)) ?_
 refine eX ?_
 refine z0g ?_
 iterate 2 refine sX ?_
 obtain ⟨x10, hx10, h⟩ := obind h
 refine sS rfl rfl rfl (z05 rfl zxt rfl (wkr .nil) ⟨(ids_V x9), trivial⟩ (c_q0v x9 x10 hx10) (ids_V x10)) ?_
 refine sS rfl rfl rfl ((z19 (xs := [(ofV x10)]) Tryz.underlying67 z29 rfl rfl rfl (by simp only [List.all_cons, List.all_nil, z4c, z1x, Bool.and_true, Bool.true_and]; try rfl) (by simp only [List.all_cons, List.all_nil, csz_V, z2x, z0x, z0u]; try rfl) rfl ⟨lbE rfl, lbE rfl⟩ (by simp only [z8m, z3k, List.flatMap_cons, List.flatMap_nil, z0x, z0u]; try rfl)).cast (y := (PV.sl (some 1) 20 1 (List.map ofV ([x10] : (List V))))) rfl rfl) ?_
 obtain ⟨x11, hx11, h⟩ := obind h
 refine sS rfl rfl rfl (z34 Tryz.underlying67 z29 rfl Tryz.underlying67 rfl rfl rfl rfl csz_V z8l hx11 rfl) ?_
 refine eX ?_
 refine z0g ?_
 refine sS rfl rfl rfl (z2p (k := s6) (c := 1) rfl rfl rfl (by omega)) ?_
 refine sX (z0d ?_)
 exact ⟨rfl, (x11, (s6 + 1)), h, jN⟩
 intro hc7 h
 refine z2c ?_
 refine cBx ?_
 refine bR ?_
 refine sX ?_
 refine sS rfl rfl rfl ((z10 Tryz.underlying67 rfl rfl rfl).wk ((Wk.iface Wk.tok).trans (Wk.eq (z8d _).symm))) ?_
 refine eX ?_
 obtain rfl := eI h; exact z04 ⟨_, rfl, z0f (y := (ofV (V.list s5))) (Wk.refl _) (ids_V (V.list s5)) ⟨rfl, rfl⟩⟩
 intro hc3 h
 refine bR ?_
 refine sS rfl rfl rfl (z2r rfl rfl) ?_
 refine sX ?_
 refine eX ?_
 refine cX h rfl ?_ ?_
 intro hc12 h
 refine bR ?_
 refine eX ?_
 refine bR ?_
 refine sX ?_
 obtain ⟨x13, hx13, h⟩ := obind h
 refine sS rfl rfl rfl (z05 rfl Z0s rfl (wkr .nil) ⟨(z07 z0s ((a0).asDict)), trivial⟩ (c_q0g ((a0).asDict) x13 hx13) (z07 z0s x13)) ?_
 refine sS rfl rfl rfl ((z10 Tryz.underlying71 rfl rfl rfl).wk ((Wk.iface (Wk.refl _)).trans (Wk.eq (z5n _).symm))) ?_
 refine eX ?_
 obtain rfl := eI h; exact z04 ⟨_, rfl, z0f (y := (ofV (V.dict x13))) (Wk.refl _) (ids_V (V.dict x13)) ⟨rfl, rfl⟩⟩
 intro hc12 h
 refine bR ?_
 refine sS rfl rfl rfl (z39 rfl rfl) ?_
 refine sX ?_
 refine eX ?_
 refine cX h rfl ?_ ?_
 intro hc14 h
 refine bR ?_
 refine eX ?_
 refine z0b (z1z 13 [] [] mo (by kernel_rfl) ?_)
 refine gX ?_
 obtain ⟨x15, hx15, h⟩ := obind h
 refine z1o rfl rfl rfl rfl (fun H hp => z1k rfl rfl hx15) ?_
 iterate 3 refine gX ?_
 refine z1o rfl rfl rfl rfl (fun H hp => z1k rfl rfl hx15) ?_
 iterate 3 refine gX ?_
 refine z1o rfl rfl rfl rfl (fun H hp => z1k rfl rfl hx15) ?_
 iterate 2 refine gX ?_
 obtain ⟨x16, hx16, h⟩ := obind h
 refine z1o rfl rfl rfl rfl (fun H hp => z05 rfl Z0s rfl (wkr .nil) ⟨(z07 z0s x15.fields), trivial⟩ (c_q0g x15.fields x16 hx16) (z07 z0s x16)) ?_
 refine z24 ?_
 change AO _ _ _ _ _
 refine sS rfl rfl rfl (z1i (cs := [(z0n x15.cls), (I64 x15.ver), (PV.sl none 69 2 (List.map ofFld x16))]) zlo zhl rfl rfl rfl rfl) ?_
 refine sX ?_
 refine sS rfl rfl rfl (z10 Tryz.underlying73 rfl rfl rfl) ?_
 refine eX ?_
 refine z7m 0 2 (y := (ofV (V.record x15.cls x15.ver x16))) rfl rfl ((Wk.iface (Wk.pt (x := .agg [(z0n x15.cls), (I64 x15.ver), (PV.sl none 69 2 (List.map ofFld x16))]) (y := zh8 (Rec.mk x15.cls x15.ver x16)) (wkr (wkr (wkr .nil))))).trans (Wk.eq (zhb (some (Rec.mk x15.cls x15.ver x16))).symm)) ?_
 obtain rfl := eI h; exact z04 ⟨_, rfl, z0f (y := (ofV (V.record x15.cls x15.ver x16))) (Wk.refl _) (ids_V (V.record x15.cls x15.ver x16)) ⟨rfl, rfl⟩⟩
 intro hc14 h
 refine z09 ?_
 refine cBx ?_
 refine bR ?_
 refine sX ?_
 refine eX ?_
 obtain rfl := eI h; exact z04 ⟨_, rfl, z0f (y := (ofV a0)) (Wk.refl _) (ids_V a0) ⟨rfl, rfl⟩⟩
theorem C_q0g.sound : ∀ (i : C_q0g) (r : i.R), z3n C_q0g.F i = some r → C_q0g.Q i r := by
 refine z4b (Φ := C_q0g.F) (Q := C_q0g.Q) ?_
 intro g hg i r h
 cases i with
 | k_q0g a0 => exact z8s (fun a0 => g (.k_q0g a0)) (fun a0 r hr => hg (.k_q0g a0) r hr) (fun a0 => g (.k_q0v a0)) (fun a0 r hr => hg (.k_q0v a0) r hr) a0 r h
 | k_q0v a0 => exact zd2 (fun a0 => g (.k_q0g a0)) (fun a0 r hr => hg (.k_q0g a0) r hr) (fun a0 => g (.k_q0v a0)) (fun a0 r hr => hg (.k_q0v a0) r hr) a0 r h
theorem Z2c (a0 r : V) (h : zce a0 = some r) : z0k Tryz.prog 55 [(ofV a0)] (ofV r) := C_q0g.sound (.k_q0v a0) r h
noncomputable def z73 (a0 : V) : Option (V × Int) :=
 (zgy a0).bind fun x1 =>
 bif (x1.2 != 0) then (
 some (V.nil, x1.2)
 ) else (
 (zce a0).bind fun x3 =>
 some (x3, 0)
 )
theorem zlq (a0 : V) (r : (V × Int)) (h : z73 a0 = some r) : z0k Tryz.prog 32 [(ofV a0)] (PV.tup [(ofV r.1), (I64 r.2)]) := by
 unfold z73 at h
 refine z0e Tryz.func32 rfl Tryz.ntmps32 Tryz.results32 rfl (z0i ?_)
 change BW _ _ _ ⟨[(0, (ofV a0))], [], _⟩ _
 refine bR ?_
 refine sX ?_
 refine eX ?_
 refine z0b ?_
 refine bR ?_
 refine sX ?_
 obtain ⟨x1, hx1, h⟩ := obind h
 refine sS rfl rfl rfl (z05 rfl ztq rfl (wkr .nil) ⟨(ids_V a0), trivial⟩ (zrp a0 x1 hx1) (z00 rfl (z00 rfl z02))) ?_
 iterate 4 refine sX ?_
 refine eX ?_
 refine bR ?_
 refine sX ?_
 refine eX ?_
 refine cX h rfl ?_ ?_
 intro hc2 h
 refine bR ?_
 iterate 2 refine sX ?_
 refine eX ?_
 obtain rfl := eI h; exact z04 ⟨_, rfl, z0f (y := (PV.tup [(ofV V.nil), (I64 x1.2)])) (Wk.tup (.cons (Wk.eq mk_nil.symm) (wkr .nil))) (z00 (ids_V V.nil) (z00 rfl z02)) ⟨rfl, rfl⟩⟩
 intro hc2 h
 refine z09 ?_
 refine cBx ?_
 refine bR ?_
 refine sX ?_
 obtain ⟨x3, hx3, h⟩ := obind h
 refine sS rfl rfl rfl (z05 rfl zxt rfl (wkr .nil) ⟨(ids_V a0), trivial⟩ (Z2c a0 x3 hx3) (ids_V x3)) ?_
 refine sX ?_
 refine eX ?_
 obtain rfl := eI h; exact z04 ⟨_, rfl, z0f (y := (PV.tup [(ofV x3), (I64 0)])) (Wk.refl _) (z00 (ids_V x3) (z00 rfl z02)) ⟨rfl, rfl⟩⟩
noncomputable def zim (a0 : V) (a1 : (List S_api_Step)) : Option (V × Int) :=
 (zip a0 a1).bind fun x1 =>
 bif (x1 != 0) then (
 some (V.nil, x1)
 ) else (
 (zil a0 a1).bind fun x3 =>
 bif (x3.2 != 0) then (
 some (V.nil, x3.2)
 ) else (
 (z73 x3.1).bind fun x5 =>
 some (x5.1, x5.2)
 )
 )
theorem Z1u (a0 : V) (a1 : (List S_api_Step)) (r : (V × Int)) (h : zim a0 a1 = some r) : z0k Tryz.prog 11 [(ofV a0), (PV.sl none 83 3 (List.map z03 a1))] (PV.tup [(ofV r.1), (I64 r.2)]) := by
 unfold zim at h
 refine z0e Tryz.func11 rfl Tryz.ntmps11 Tryz.results11 rfl (z0i ?_)
 change BW _ _ _ ⟨[(0, (ofV a0)), (1, (PV.sl none 83 3 (List.map z03 a1)))], [], _⟩ _
 refine bR ?_
 refine sX ?_
 refine eX ?_
 refine z0b ?_
 refine bR ?_
 iterate 2 refine sX ?_
 obtain ⟨x1, hx1, h⟩ := obind h
 refine sS rfl rfl rfl (z05 rfl zxy rfl (wkr (wkr .nil)) ⟨(ids_V a0), ⟨(z07 z01 a1), trivial⟩⟩ (zw8 a0 a1 x1 hx1) rfl) ?_
 refine eX ?_
 refine bR ?_
 refine sX ?_
 refine eX ?_
 refine cX h rfl ?_ ?_
 intro hc2 h
 refine bR ?_
 iterate 2 refine sX ?_
 refine eX ?_
 obtain rfl := eI h; exact z04 ⟨_, rfl, z0f (y := (PV.tup [(ofV V.nil), (I64 x1)])) (Wk.tup (.cons (Wk.eq mk_nil.symm) (wkr .nil))) (z00 (ids_V V.nil) (z00 rfl z02)) ⟨rfl, rfl⟩⟩
 intro hc2 h
 refine z09 ?_
 refine cBx ?_
 refine bR ?_
 iterate 2 refine sX ?_
 obtain ⟨x3, hx3, h⟩ := obind h
 refine sS rfl rfl rfl (z05 rfl zxx rfl (wkr (wkr .nil)) ⟨(ids_V a0), ⟨(z07 z01 a1), trivial⟩⟩ (zw5 a0 a1 x3 hx3) (z00 (ids_V x3.1) (z00 rfl z02))) ?_
 iterate 4 refine sX ?_
 refine eX ?_
 refine z0b ?_
 refine bR ?_
 refine sX ?_
 refine eX ?_
 refine cX h rfl ?_ ?_
 intro hc4 h
 refine bR ?_
 iterate 2 refine sX ?_
 refine eX ?_
 obtain rfl := eI h; exact z04 ⟨_, rfl, z0f (y := (PV.tup [(ofV V.nil), (I64 x3.2)])) (Wk.tup (.cons (Wk.eq mk_nil.symm) (wkr .nil))) (z00 (ids_V V.nil) (z00 rfl z02)) ⟨rfl, rfl⟩⟩
 intro hc4 h
 refine z09 ?_
 refine cBx ?_
 refine bR ?_
 refine sX ?_
 obtain ⟨x5, hx5, h⟩ := obind h
 refine sS rfl rfl rfl (z05 rfl zn7 rfl (wkr .nil) ⟨(ids_V x3.1), trivial⟩ (zlq x3.1 x5 hx5) (z00 (ids_V x5.1) (z00 rfl z02))) ?_
 iterate 3 refine sX ?_
 refine eX ?_
 obtain rfl := eI h; exact z04 ⟨_, rfl, z0f (y := (PV.tup [(ofV x5.1), (I64 x5.2)])) (Wk.refl _) (z00 (ids_V x5.1) (z00 rfl z02)) ⟨rfl, rfl⟩⟩
noncomputable def zmo (a0 : (List V)) : Option (List V) :=
 (z9p 16 ([] : (List V)) a0).bind fun x2 =>
 some x2
theorem zzf (a0 r : (List V)) (h : zmo a0 = some r) : z7n Tryz.prog 57 [(PV.sl none 20 1 (List.map ofV a0))] [] (PV.rs 0 0 (r).length 20 1) [rowM ofV 20 r] := by
 unfold zmo at h
 refine z0e Tryz.func57 rfl Tryz.ntmps57 Tryz.results57 rfl (z0i ?_)
 change BW _ _ _ ⟨[(0, (PV.sl none 20 1 (List.map ofV a0)))], [], _⟩ _
 refine bR ?_
 refine sS rfl rfl rfl ((z7u (e := 20) (sz := 1) (.inl rfl) rfl).cast (y := (PV.rs 0 0 (([] : (List V))).length 20 1)) (H'' := [rowM ofV 20 ([] : (List V))]) rfl rfl) (z0d ?_)
 refine cBx ?_
 refine z0b ?_
 refine bR ?_
 refine sX ?_
 refine zcz rfl rfl rfl Tryz.underlying67 rfl rfl ?_
 intro nb1 hnb1
 refine z0d ?_
 refine cBx ?_
 cases nb1
 refine zfh rfl ?_
 refine z09 ?_
 refine cBx ?_
 refine bR ?_
 refine sS rfl rfl rfl ((zex (xs := []) Tryz.underlying67 z29 rfl rfl rfl rfl rfl rfl rfl ⟨lbE rfl, lbE rfl⟩ rfl).cast (y := (PV.rs 1 0 (([] : (List V))).length 20 1)) (H'' := [rowM ofV 20 ([] : (List V)), rowM ofV 20 ([] : (List V))]) rfl rfl) ?_
 refine sX ?_
 obtain ⟨x2, hx2, h⟩ := obind h
 refine sS rfl rfl rfl (zcg (f := ofV) (l := ([] : (List V))) Tryz.underlying67 z29 rfl rfl Tryz.underlying67 rfl rfl rfl rfl rfl csz_V z8l hx2 rfl) ?_
 refine eX ?_
 obtain rfl := eI h; exact z04 ⟨_, rfl, zkw (y := (PV.rs 2 0 (x2).length 20 1)) [2] rfl (Wk.refl _) (.rs rfl) (.cons rfl (.same (z56 ids_V)) .nil) ⟨rfl, rfl⟩⟩
 have hz := List.map_eq_nil_iff.1 (hnb1 rfl)
 rw [hz] at h
 replace h : some ([] : (List V)) = some r := h
 refine zfg rfl ?_
 refine bR ?_
 refine sS rfl rfl rfl ((z7u (e := 20) (sz := 1) (.inl rfl) rfl).cast (y := (PV.rs 1 0 (([] : (List V))).length 20 1)) (H'' := [rowM ofV 20 ([] : (List V)), rowM ofV 20 ([] : (List V))]) rfl rfl) (z0d ?_)
 refine cBx ?_
 obtain rfl := eI h; exact z04 ⟨_, rfl, zkw (y := (PV.rs 1 0 (([] : (List V))).length 20 1)) [1] rfl (Wk.refl _) (.rs rfl) (.cons rfl (.same (z56 ids_V)) .nil) ⟨rfl, rfl⟩⟩
noncomputable def zmp (a0 : (List (Str × V))) : Option (List (Str × V)) :=
 (z9p 32 ([] : (List (Str × V))) a0).bind fun x2 =>
 some x2
theorem zzg (a0 r : (List (Str × V))) (h : zmp a0 = some r) : z7n Tryz.prog 94 [(PV.sl none 69 2 (List.map ofFld a0))] [] (PV.rs 0 0 (r).length 69 2) [rowM ofFld 69 r] := by
 unfold zmp at h
 refine z0e Tryz.func94 rfl Tryz.ntmps94 Tryz.results94 rfl (z0i ?_)
 change BW _ _ _ ⟨[(0, (PV.sl none 69 2 (List.map ofFld a0)))], [], _⟩ _
 refine bR ?_
 refine sS rfl rfl rfl ((z7u (e := 69) (sz := 2) (.inl rfl) rfl).cast (y := (PV.rs 0 0 (([] : (List (Str × V)))).length 69 2)) (H'' := [rowM ofFld 69 ([] : (List (Str × V)))]) rfl rfl) (z0d ?_)
 refine cBx ?_
 refine z0b ?_
 refine bR ?_
 refine sX ?_
 refine zcz rfl rfl rfl Tryz.underlying71 rfl rfl ?_
 intro nb1 hnb1
 refine z0d ?_
 refine cBx ?_
 cases nb1
 refine zfh rfl ?_
 refine z09 ?_
 refine cBx ?_
 refine bR ?_
 refine sS rfl rfl rfl ((zex (xs := []) Tryz.underlying71 z0v rfl rfl rfl rfl rfl rfl rfl ⟨lbE rfl, lbE rfl⟩ rfl).cast (y := (PV.rs 1 0 (([] : (List (Str × V)))).length 69 2)) (H'' := [rowM ofFld 69 ([] : (List (Str × V))), rowM ofFld 69 ([] : (List (Str × V)))]) rfl rfl) ?_
 refine sX ?_
 obtain ⟨x2, hx2, h⟩ := obind h
 refine sS rfl rfl rfl (zcg (f := ofFld) (l := ([] : (List (Str × V)))) Tryz.underlying71 z0v rfl rfl Tryz.underlying71 rfl rfl rfl rfl rfl z7i z7l hx2 rfl) ?_
 refine eX ?_
 obtain rfl := eI h; exact z04 ⟨_, rfl, zkw (y := (PV.rs 2 0 (x2).length 69 2)) [2] rfl (Wk.refl _) (.rs rfl) (.cons rfl (.same (z56 z0s)) .nil) ⟨rfl, rfl⟩⟩
 have hz := List.map_eq_nil_iff.1 (hnb1 rfl)
 rw [hz] at h
 replace h : some ([] : (List (Str × V))) = some r := h
 refine zfg rfl ?_
 refine bR ?_
 refine sS rfl rfl rfl ((z7u (e := 69) (sz := 2) (.inl rfl) rfl).cast (y := (PV.rs 1 0 (([] : (List (Str × V)))).length 69 2)) (H'' := [rowM ofFld 69 ([] : (List (Str × V))), rowM ofFld 69 ([] : (List (Str × V)))]) rfl rfl) (z0d ?_)
 refine cBx ?_
 obtain rfl := eI h; exact z04 ⟨_, rfl, zkw (y := (PV.rs 1 0 (([] : (List (Str × V)))).length 69 2)) [1] rfl (Wk.refl _) (.rs rfl) (.cons rfl (.same (z56 z0s)) .nil) ⟨rfl, rfl⟩⟩
noncomputable def zmj (a0 : (List (Str × V))) (a1 : Str) (a2 : V) : Option (List (Str × V)) :=
 (zmp a0).bind fun x1 =>
 (zin x1 a1).bind fun x2 =>
 bif x2.2 then (
 (z6n x1 x2.1).bind fun x4 =>
 some ((x1).set ((x2.1).toNat) (x4.1, a2))
 ) else (
 (zyk 32 x1 x2.1 (a1, a2)).bind fun x5 =>
 some x5
 )
theorem zzc (a0 : (List (Str × V))) (a1 : Str) (a2 : V) (r : (List (Str × V))) (h : zmj a0 a1 a2 = some r) : z0k Tryz.prog 58 [(PV.sl none 69 2 (List.map ofFld a0)), (z0n a1), (ofV a2)] (PV.sl none 69 2 (List.map ofFld r)) := by
 unfold zmj at h
 refine z0e Tryz.func58 rfl Tryz.ntmps58 Tryz.results58 rfl (z0i ?_)
 change BW _ _ _ ⟨[(0, (PV.sl none 69 2 (List.map ofFld a0))), (1, (z0n a1)), (2, (ofV a2))], [], _⟩ _
 refine bR ?_
 refine sS rfl rfl rfl ((z7u (e := 69) (sz := 2) (.inl rfl) rfl).cast (y := (PV.rs 0 0 (([] : (List (Str × V)))).length 69 2)) (H'' := [rowM ofFld 69 ([] : (List (Str × V)))]) rfl rfl) (z0d ?_)
 refine cBx ?_
 refine bR ?_
 refine sX ?_
 obtain ⟨x1, hx1, h⟩ := obind h
 refine sS rfl rfl rfl (z78 rfl Z0t rfl (wkr .nil) ⟨(z07 z0s a0), trivial⟩ (zzg a0 x1 hx1) zrr (zet (z56 z0s) (zk4))) ?_
 refine eX ?_
 refine bR ?_
 iterate 2 refine sX ?_
 obtain ⟨x2, hx2, h⟩ := obind h
 refine sS rfl rfl rfl (zpj rfl zxp rfl (.cons (.row (f := ofFld) (l := x1) rfl rfl z7i rfl z0s) (.cons (.ha (.wk (Wk.refl _) rfl)) .nil)) (zw6 x1 a1 x2 hx2) (Sc.tup (znw Sc.v (znw Sc.v zz1)))) ?_
 iterate 4 refine sX ?_
 refine eX ?_
 refine z0b ?_
 refine bR ?_
 refine eX ?_
 refine cX h rfl ?_ ?_
 intro hc3 h
 refine bR ?_
 iterate 3 refine sX ?_
 obtain ⟨x4, hx4, h⟩ := obind h
 refine sS rfl rfl rfl (zh4 (l := x1) Tryz.underlying71 z0v rfl rfl rfl rfl hx4) ?_
 refine sS rfl rfl rfl ((zpp zia (i := 1) rfl rfl rfl).cast (y := (PV.rf 1 ((x2.1).toNat * 2 + 1))) rfl rfl) ?_
 refine z1g rfl rfl (zpg (f := ofFld) (a' := (x4.1, a2)) z29 rfl rfl rfl rfl (z7f hx4).2 z7i rfl (q := 1) rfl (z4c _) (csz_V _) rfl (z8l _) (by simp only [z0x]; rfl)) ?_
 refine z0d ?_
 refine cBx ?_
 refine bR ?_
 refine sX ?_
 refine eX ?_
 refine zeb (f := ofFld) (l := ((x1).set ((x2.1).toNat) (x4.1, a2))) 6 1 rfl (by simp only [List.length_set]) rfl z7i rfl ?_
 obtain rfl := eI h; exact z04 ⟨_, rfl, z0f (y := (PV.sl none 69 2 (List.map ofFld ((x1).set ((x2.1).toNat) (x4.1, a2))))) (Wk.refl _) (z07 z0s ((x1).set ((x2.1).toNat) (x4.1, a2))) ⟨rfl, rfl⟩⟩
 intro hc3 h
 refine z09 ?_
 refine cBx ?_
 refine bR ?_
 iterate 4 refine sX ?_
 refine sS rfl rfl rfl (z1i (cs := [(z0n a1), (ofV a2)]) zia z0v rfl rfl (by simp only [List.all_cons, List.all_nil, z4c, z1x, Bool.and_true, Bool.true_and]; try rfl) (by simp only [z3k, List.getElem?_cons_zero, List.getElem?_cons_succ, z0x, z0u]; rfl)) ?_
 refine sS rfl rfl rfl ((zex (xs := [(PV.agg [(z0n a1), (ofV a2)])]) Tryz.underlying70 z0v rfl rfl rfl rfl (by simp only [List.all_cons, List.all_nil, z4c, z1x, Bool.and_true, Bool.true_and]; try rfl) (by simp only [List.all_cons, List.all_nil, csz_V, z2x, z0x, z0u]; try rfl) rfl ⟨lbE rfl, lbE rfl⟩ (by simp only [z8m, z3k, List.flatMap_cons, List.flatMap_nil, z0x, z0u]; try rfl)).cast (y := (PV.rs 2 0 (([(a1, a2)] : (List (Str × V)))).length 69 2)) (H'' := [rowM ofFld 69 ([] : (List (Str × V))), rowM ofFld 69 x1, rowM ofFld 69 ([(a1, a2)] : (List (Str × V)))]) rfl rfl) ?_
 obtain ⟨x5, hx5, h⟩ := obind h
 refine sS rfl rfl rfl (zsn (f := ofFld) (l := x1) (a := (a1, a2)) Z0a Z39 rfl rfl rfl rfl rfl rfl rfl rfl z7i z7l rfl hx5) ?_
 refine eX ?_
 obtain rfl := eI h; exact z04 ⟨_, rfl, z0f (y := (PV.sl none 69 2 (List.map ofFld x5))) (Wk.refl _) (z07 z0s x5) ⟨rfl, rfl⟩⟩
noncomputable def z82 (a0 : V) (a1 : S_api_Step) (a2 : V) : Option V :=
 bif (a0).isList then (
 (zmo ((a0).asList)).bind fun x2 =>
 bif (a1.f_Index == (((x2).length : Nat) : Int)) then (
 (z9p 16 x2 ([a2] : (List V))).bind fun x4 =>
 some (V.list x4)
 ) else (
 (z6n x2 a1.f_Index).bind fun x5 =>
 some (V.list ((x2).set ((a1.f_Index).toNat) a2))
 )
 ) else (
 bif (a0).isDict then (
 (zmj ((a0).asDict) a1.f_Name a2).bind fun x7 =>
 some (V.dict x7)
 ) else (
 bif (a0).isRec then (
 ((a0).asRec).bind fun x9 =>
 (zmj x9.fields a1.f_Name a2).bind fun x10 =>
 some (V.record x9.cls x9.ver x10)
 ) else (
 some a0
 )
 )
 )
theorem zie (a0 : V) (a1 : S_api_Step) (a2 r : V) (h : z82 a0 a1 a2 = some r) : z0k Tryz.prog 35 [(ofV a0), (z03 a1), (ofV a2)] (ofV r) := by
 unfold z82 at h
 refine z0e Tryz.func35 rfl Tryz.ntmps35 Tryz.results35 rfl (z0i ?_)
 change BW _ _ _ ⟨[(0, (ofV a0)), (1, (z03 a1)), (2, (ofV a2))], [], _⟩ _
 refine bR ?_
 refine sX ?_
 refine eX ?_
 refine z0b ?_
 refine bR ?_
 refine eX ?_
 refine z0m ?_
 refine cBx ?_
 refine bR ?_
 refine sS rfl rfl rfl (z1u rfl rfl) ?_
 refine sX ?_
 refine eX ?_
 refine cX h rfl ?_ ?_
 intro hc1 h
 refine bR ?_
 refine eX ?_
 refine bR ?_
 refine sX ?_
 obtain ⟨x2, hx2, h⟩ := obind h
 refine sS rfl rfl rfl (z78 rfl Z11 rfl (wkr .nil) ⟨(z07 ids_V ((a0).asList)), trivial⟩ (zzf ((a0).asList) x2 hx2) zrr (zet (z56 ids_V) (zk4))) ?_
 refine eX ?_
 refine z0b ?_
 refine bR ?_
 iterate 3 refine sX ?_
 refine sS rfl rfl rfl (zsm Tryz.underlying67 rfl rfl) ?_
 refine eX ?_
 refine cX h rfl ?_ ?_
 intro hc3 h
 refine bR ?_
 iterate 2 refine sX ?_
 refine sS rfl rfl rfl ((z19 (xs := [(ofV a2)]) Tryz.underlying67 z29 rfl rfl rfl (by simp only [List.all_cons, List.all_nil, z4c, z1x, Bool.and_true, Bool.true_and]; try rfl) (by simp only [List.all_cons, List.all_nil, csz_V, z2x, z0x, z0u]; try rfl) rfl ⟨lbE rfl, lbE rfl⟩ (by simp only [z8m, z3k, List.flatMap_cons, List.flatMap_nil, z0x, z0u]; try rfl)).cast (y := (PV.sl (some 2) 20 1 (List.map ofV ([a2] : (List V))))) rfl rfl) ?_
 obtain ⟨x4, hx4, h⟩ := obind h
 refine sS rfl rfl rfl (zcg (f := ofV) (l := x2) Tryz.underlying67 z29 rfl rfl Tryz.underlying67 rfl rfl rfl rfl rfl csz_V z8l hx4 rfl) ?_
 refine zni (s := ⟨_, _, _⟩) (f := ofV) (l := x4) 25 3 rfl rfl rfl csz_V rfl ?_
 refine sS rfl rfl rfl ((z10 Tryz.underlying67 rfl rfl rfl).wk ((Wk.iface (Wk.refl _)).trans (Wk.eq (z8d _).symm))) ?_
 refine eX ?_
 obtain rfl := eI h; exact z04 ⟨_, rfl, z0f (y := (ofV (V.list x4))) (Wk.refl _) (ids_V (V.list x4)) ⟨rfl, rfl⟩⟩
 intro hc3 h
 refine z09 ?_
 refine cBx ?_
 refine bR ?_
 iterate 4 refine sX ?_
 obtain ⟨x5, hx5, h⟩ := obind h
 refine sS rfl rfl rfl (zh4 (l := x2) Tryz.underlying67 z29 rfl rfl rfl rfl hx5) ?_
 refine z1g rfl rfl (zpg (f := ofV) (a' := a2) z29 rfl rfl rfl rfl (z7f hx5).2 csz_V rfl (q := 0) rfl (z4c _) (csz_V _) rfl (z8l _) (by simp only [z0x]; rfl)) ?_
 refine z0d ?_
 refine cBx ?_
 refine z0b ?_
 refine zeb (f := ofV) (l := ((x2).set ((a1.f_Index).toNat) a2)) 8 1 rfl (by simp only [List.length_set]) rfl csz_V rfl ?_
 refine z0g ?_
 refine sX ?_
 refine sS rfl rfl rfl ((z10 Tryz.underlying67 rfl rfl rfl).wk ((Wk.iface (Wk.refl _)).trans (Wk.eq (z8d _).symm))) ?_
 refine eX ?_
 obtain rfl := eI h; exact z04 ⟨_, rfl, z0f (y := (ofV (V.list ((x2).set ((a1.f_Index).toNat) a2)))) (Wk.refl _) (ids_V (V.list ((x2).set ((a1.f_Index).toNat) a2))) ⟨rfl, rfl⟩⟩
 intro hc1 h
 refine bR ?_
 refine sS rfl rfl rfl (z2r rfl rfl) ?_
 refine sX ?_
 refine eX ?_
 refine cX h rfl ?_ ?_
 intro hc6 h
 refine bR ?_
 refine eX ?_
 refine bR ?_
 iterate 4 refine sX ?_
 obtain ⟨x7, hx7, h⟩ := obind h
 refine sS rfl rfl rfl (z05 rfl Z10 rfl (wkr (wkr (wkr .nil))) ⟨(z07 z0s ((a0).asDict)), ⟨rfl, ⟨(ids_V a2), trivial⟩⟩⟩ (zzc ((a0).asDict) a1.f_Name a2 x7 hx7) (z07 z0s x7)) ?_
 refine sS rfl rfl rfl ((z10 Tryz.underlying71 rfl rfl rfl).wk ((Wk.iface (Wk.refl _)).trans (Wk.eq (z5n _).symm))) ?_
 refine eX ?_
 obtain rfl := eI h; exact z04 ⟨_, rfl, z0f (y := (ofV (V.dict x7))) (Wk.refl _) (ids_V (V.dict x7)) ⟨rfl, rfl⟩⟩
 intro hc6 h
 refine bR ?_
 refine sS rfl rfl rfl (z39 rfl rfl) ?_
 refine sX ?_
 refine eX ?_
 refine cX h rfl ?_ ?_
 intro hc8 h
 refine bR ?_
 refine eX ?_
 refine z0b (z1z 16 [] [0] mo (by kernel_rfl) ?_)
 refine gX ?_
 obtain ⟨x9, hx9, h⟩ := obind h
 refine z1o rfl rfl rfl rfl (fun H hp => z1k rfl rfl hx9) ?_
 iterate 3 refine gX ?_
 refine z1o rfl rfl rfl rfl (fun H hp => z1k rfl rfl hx9) ?_
 iterate 3 refine gX ?_
 refine z1o rfl rfl rfl rfl (fun H hp => z1k rfl rfl hx9) ?_
 iterate 5 refine gX ?_
 obtain ⟨x10, hx10, h⟩ := obind h
 refine z1o rfl rfl rfl rfl (fun H hp => z05 rfl Z10 rfl (wkr (wkr (wkr .nil))) ⟨(z07 z0s x9.fields), ⟨rfl, ⟨(ids_V a2), trivial⟩⟩⟩ (zzc x9.fields a1.f_Name a2 x10 hx10) (z07 z0s x10)) ?_
 refine z24 ?_
 change AO _ _ _ _ _
 refine sS rfl rfl rfl (z1i (cs := [(z0n x9.cls), (I64 x9.ver), (PV.sl none 69 2 (List.map ofFld x10))]) zlo zhl rfl rfl rfl rfl) ?_
 refine sX ?_
 refine sS rfl rfl rfl (z10 Tryz.underlying73 rfl rfl rfl) ?_
 refine eX ?_
 refine z7m 1 6 (y := (ofV (V.record x9.cls x9.ver x10))) rfl rfl ((Wk.iface (Wk.pt (x := .agg [(z0n x9.cls), (I64 x9.ver), (PV.sl none 69 2 (List.map ofFld x10))]) (y := zh8 (Rec.mk x9.cls x9.ver x10)) (wkr (wkr (wkr .nil))))).trans (Wk.eq (zhb (some (Rec.mk x9.cls x9.ver x10))).symm)) ?_
 obtain rfl := eI h; exact z04 ⟨_, rfl, z0f (y := (ofV (V.record x9.cls x9.ver x10))) (Wk.refl _) (ids_V (V.record x9.cls x9.ver x10)) ⟨rfl, rfl⟩⟩
 intro hc8 h
 refine z09 ?_
 refine cBx ?_
 refine bR ?_
 refine sX ?_
 refine eX ?_
 obtain rfl := eI h; exact z04 ⟨_, rfl, z0f (y := (ofV a0)) (Wk.refl _) (ids_V a0) ⟨rfl, rfl⟩⟩
noncomputable def zmc (a0 : V) (a1 : S_api_Step) (a2 : V) : Option V :=
 (z82 a0 a1 a2).bind fun x1 =>
 some x1
theorem Z22 (a0 : V) (a1 : S_api_Step) (a2 r : V) (h : zmc a0 a1 a2 = some r) : z0k Tryz.prog 34 [(ofV a0), (z03 a1), (PV.pt 20 (ofV a2) 0)] (ofV r) := by
 unfold zmc at h
 refine z0e Tryz.func34 rfl Tryz.ntmps34 Tryz.results34 rfl (z0i ?_)
 change BW _ _ _ ⟨[(0, (ofV a0)), (1, (z03 a1)), (2, (PV.pt 20 (ofV a2) 0))], [], _⟩ _
 refine bR ?_
 refine sX ?_
 refine eX ?_
 refine bR ?_
 iterate 2 refine sX ?_
 refine sS rfl rfl rfl (z44 (y := (ofV a2)) Tryz.underlying20 rfl rfl rfl (by rw [z0x]; rfl)) ?_
 obtain ⟨x1, hx1, h⟩ := obind h
 refine sS rfl rfl rfl (z05 rfl zj8 rfl (wkr (wkr (wkr .nil))) ⟨(ids_V a0), ⟨(z01 a1), ⟨(ids_V a2), trivial⟩⟩⟩ (zie a0 a1 a2 x1 hx1) (ids_V x1)) ?_
 refine eX ?_
 obtain rfl := eI h; exact z04 ⟨_, rfl, z0f (y := (ofV x1)) (Wk.refl _) (ids_V x1) ⟨rfl, rfl⟩⟩
noncomputable def zgk (a0 a3c0 : V) (x1 : S_api_Step) (s4 : Int) : Option (V × Int) :=
 bif (s4 != 0) then (
 some (V.nil, s4)
 ) else (
 (zmc a0 x1 a3c0).bind fun x6 =>
 some (x6, 0)
 )
noncomputable def zaq (a0 a3c0 : V) (x1 : S_api_Step) (x3 : (V × Int)) (s7 : Bool) : Option (V × Int) :=
 bif s7 then (
 zgk a0 a3c0 x1 0
 ) else (
 zgk a0 a3c0 x1 x3.2
 )
noncomputable def znd (r_q0d : V → (List S_api_Step) → Bool → V → Option (V × Int)) (a0 : V) (a1 : (List S_api_Step)) (a2 : Bool) (a3c0 : V) : Option (V × Int) :=
 ((a1)[0]?).bind fun x1 =>
 bif ((((a1).length : Nat) : Int) == 1) then (
 (z5m a0 x1).bind fun x3 =>
 bif a2 then (
 bif (x3.2 == 40) then (
 zaq a0 a3c0 x1 x3 true
 ) else (
 bif (x3.2 == 42) then (
 bif (a0).isList then (
 zaq a0 a3c0 x1 x3 (x1.f_Index == ((((a0).asList).length : Nat) : Int))
 ) else (
 zaq a0 a3c0 x1 x3 false
 )
 ) else (
 zaq a0 a3c0 x1 x3 false
 )
 )
 ) else (
 zaq a0 a3c0 x1 x3 false
 )
 ) else (
 (z5m a0 x1).bind fun x13 =>
 bif (x13.2 != 0) then (
 some (V.nil, x13.2)
 ) else (
 (zah a1 1 ((a1).length : Int)).bind fun x15 =>
 (r_q0d x13.1 x15 a2 a3c0).bind fun x16 =>
 bif (x16.2 != 0) then (
 some (V.nil, x16.2)
 ) else (
 (z82 a0 x1 x16.1).bind fun x18 =>
 some (x18, 0)
 )
 )
 )
theorem zug (r_q0d : OF ρ → V → (List S_api_Step) → Bool → V → Option (V × Int)) (h_r_q0d : ∀ y0 y1 y2 y3, CM (fun G => r_q0d G y0 y1 y2 y3)) (a0 : V) (a1 : (List S_api_Step)) (a2 : Bool) (a3c0 : V) : CM (fun G : OF ρ => znd (r_q0d G) a0 a1 a2 a3c0) := by
 simp only [znd]
 repeat (first | exact z0h | exact h_r_q0d _ _ _ _ | apply q0d_j2_cm | refine z14 ?_ ?_ | refine z15 ?_ (fun _ => ?_) | intro _ | assumption)
inductive C_q0d where
 | k_q0d (a0 : V) (a1 : (List S_api_Step)) (a2 : Bool) (a3c0 : V)
def C_q0d.R : C_q0d → Type
 | .k_q0d _ _ _ _ => (V × Int)
noncomputable def C_q0d.F (g : ∀ i : C_q0d, Option i.R) : ∀ i : C_q0d, Option i.R
 | .k_q0d a0 a1 a2 a3c0 => znd (fun a0 a1 a2 a3c0 => g (.k_q0d a0 a1 a2 a3c0)) a0 a1 a2 a3c0
noncomputable def zml (a0 : V) (a1 : (List S_api_Step)) (a2 : Bool) (a3c0 : V) : Option (V × Int) := z3n C_q0d.F (.k_q0d a0 a1 a2 a3c0)
abbrev gg5 := fun (g : ∀ i : C_q0d, Option i.R) a0 a1 a2 a3c0 => g (.k_q0d a0 a1 a2 a3c0)
theorem hh5 (a0 a1 a2 a3c0 : _) : CM (ρ := C_q0d.R) (fun g => g (C_q0d.k_q0d a0 a1 a2 a3c0)) := z1j
theorem C_q0d.cm (i : C_q0d) : CM (fun g : (∀ i : C_q0d, Option i.R) => C_q0d.F g i) := by
 cases i with
 | k_q0d a0 a1 a2 a3c0 => exact zug gg5 hh5 a0 a1 a2 a3c0
theorem Z4b (a0 : V) (a1 : (List S_api_Step)) (a2 : Bool) (a3c0 : V) : zml a0 a1 a2 a3c0 = znd zml a0 a1 a2 a3c0 := z1f C_q0d.cm (.k_q0d a0 a1 a2 a3c0)
def C_q0d.Q : ∀ i : C_q0d, i.R → Prop
 | .k_q0d a0 a1 a2 a3c0 => fun (r : (V × Int)) => z0k Tryz.prog 33 [(ofV a0), (PV.sl none 83 3 (List.map z03 a1)), (BO a2), (PV.fn (.func 34) [] [(PV.pt 20 (ofV a3c0) 0)])] (PV.tup [(ofV r.1), (I64 r.2)])
theorem z5s (r_q0d : V → (List S_api_Step) → Bool → V → Option (V × Int)) (c_q0d : ∀ (a0 : V) (a1 : (List S_api_Step)) (a2 : Bool) (a3c0 : V) r, r_q0d a0 a1 a2 a3c0 = some r → z0k Tryz.prog 33 [(ofV a0), (PV.sl none 83 3 (List.map z03 a1)), (BO a2), (PV.fn (.func 34) [] [(PV.pt 20 (ofV a3c0) 0)])] (PV.tup [(ofV r.1), (I64 r.2)])) (a0 : V) (a1 : (List S_api_Step)) (a2 : Bool) (a3c0 : V) (r : (V × Int)) (h : znd r_q0d a0 a1 a2 a3c0 = some r) : z0k Tryz.prog 33 [(ofV a0), (PV.sl none 83 3 (List.map z03 a1)), (BO a2), (PV.fn (.func 34) [] [(PV.pt 20 (ofV a3c0) 0)])] (PV.tup [(ofV r.1), (I64 r.2)]) := by
 unfold znd at h
 refine z0e Tryz.func33 rfl Tryz.ntmps33 Tryz.results33 rfl (z0i ?_)
 change BW _ _ _ ⟨[(0, (ofV a0)), (1, (PV.sl none 83 3 (List.map z03 a1))), (2, (BO a2)), (3, (PV.fn (.func 34) [] [(PV.pt 20 (ofV a3c0) 0)]))], [], _⟩ _
 refine bR ?_
 refine sX ?_
 refine eX ?_
 refine bR ?_
 refine sX ?_
 obtain ⟨x1, hx1, h⟩ := obind h
 refine sS rfl rfl rfl (z1m (i := 0) Tryz.underlying30 z13 rfl rfl rfl hx1 rfl) ?_
 refine sX ?_
 refine sS rfl rfl rfl (z1t z13 rfl) ?_
 refine z1g rfl rfl (z18 z13 rfl rfl rfl rfl rfl rfl (lbE rfl) rfl) ?_
 refine z0d ?_
 refine cBx ?_
 refine z0b ?_
 refine bR ?_
 iterate 2 refine sX ?_
 refine eX ?_
 refine cX h rfl ?_ ?_
 intro hc2 h
 refine bR ?_
 iterate 2 refine sX ?_
 obtain ⟨x3, hx3, h⟩ := obind h
 refine sS rfl rfl rfl (z05 rfl zcy rfl (wkr (wkr .nil)) ⟨(ids_V a0), ⟨(z01 x1), trivial⟩⟩ (zbj a0 x1 x3 hx3) (z00 (ids_V x3.1) (z00 rfl z02))) ?_
 iterate 4 refine sX ?_
 refine eX ?_
 refine bR ?_
 refine sX ?_
 refine sS rfl rfl rfl (z1u rfl rfl) ?_
 iterate 4 refine sX ?_
 refine eX ?_
 refine z2b (ι := Int) (fun i => zgk a0 a3c0 x1 i = some r) (fun i => [(0, (ofV a0)), (3, (PV.fn (.func 34) [] [(PV.pt 20 (ofV a3c0) 0)])), (10, (PV.rf 0 0)), (12, (I64 i))]) (fun i => [.box 83 [(z0n x1.f_Name), (BO x1.f_At), (I64 x1.f_Index)]]) ?_ ?_ ?_
 intro i; exact ⟨lbE rfl, ⟨(z0c (ids_V _)), ⟨(z0c (z2l (z2k (ids_V a3c0) rfl))), ⟨(il_rf rfl), ⟨(z0c rfl), trivial⟩⟩⟩⟩, ⟨⟨(z0c rfl), ⟨(z0c rfl), ⟨(z0c rfl), trivial⟩⟩⟩, trivial⟩⟩
 rintro s4 h; replace h : zgk a0 a3c0 x1 s4 = some r := h; unfold zgk at h
 change BW _ _ _ ⟨[(0, (ofV a0)), (3, (PV.fn (.func 34) [] [(PV.pt 20 (ofV a3c0) 0)])), (10, (PV.rf 0 0)), (12, (I64 s4))], [.box 83 [(z0n x1.f_Name), (BO x1.f_At), (I64 x1.f_Index)]], _⟩ _
 refine z0b ?_
 refine bR ?_
 refine sX ?_
 refine eX ?_
 refine cX h rfl ?_ ?_
 intro hc5 h
 refine bR ?_
 iterate 2 refine sX ?_
 refine eX ?_
 obtain rfl := eI h; exact z04 ⟨_, rfl, z0f (y := (PV.tup [(ofV V.nil), (I64 s4)])) (Wk.tup (.cons (Wk.eq mk_nil.symm) (wkr .nil))) (z00 (ids_V V.nil) (z00 rfl z02)) ⟨rfl, rfl⟩⟩
 intro hc5 h
 refine z09 ?_
 refine cBx ?_
 refine bR ?_
 iterate 3 refine sX ?_
 obtain ⟨x6, hx6, h⟩ := obind h
 refine sS rfl rfl rfl (z2j rfl rfl Z3v rfl (wkr (wkr (wkr .nil))) ⟨(ids_V a0), ⟨(z01 x1), ⟨(z7g (ids_V a3c0)), trivial⟩⟩⟩ (Z22 a0 x1 a3c0 x6 hx6) (ids_V x6)) ?_
 refine sX ?_
 refine eX ?_
 obtain rfl := eI h; exact z04 ⟨_, rfl, z0f (y := (PV.tup [(ofV x6), (I64 0)])) (Wk.refl _) (z00 (ids_V x6) (z00 rfl z02)) ⟨rfl, rfl⟩⟩
 refine z2b (ι := Bool) (fun i => zaq a0 a3c0 x1 x3 i = some r) (fun i => [(0, (ofV a0)), (3, (PV.fn (.func 34) [] [(PV.pt 20 (ofV a3c0) 0)])), (10, (PV.rf 0 0)), (12, (I64 x3.2)), (53, (BO i))]) (fun i => [.box 83 [(z0n x1.f_Name), (BO x1.f_At), (I64 x1.f_Index)]]) ?_ ?_ ?_
 intro i; exact ⟨lbE rfl, ⟨(z0c (ids_V _)), ⟨(z0c (z2l (z2k (ids_V a3c0) rfl))), ⟨(il_rf rfl), ⟨(z0c rfl), ⟨(z0c rfl), trivial⟩⟩⟩⟩⟩, ⟨⟨(z0c rfl), ⟨(z0c rfl), ⟨(z0c rfl), trivial⟩⟩⟩, trivial⟩⟩
 rintro s7 h; replace h : zaq a0 a3c0 x1 x3 s7 = some r := h; unfold zaq at h
 change BW _ _ _ ⟨[(0, (ofV a0)), (3, (PV.fn (.func 34) [] [(PV.pt 20 (ofV a3c0) 0)])), (10, (PV.rf 0 0)), (12, (I64 x3.2)), (53, (BO s7))], [.box 83 [(z0n x1.f_Name), (BO x1.f_At), (I64 x1.f_Index)]], _⟩ _
 refine cX h rfl ?_ ?_
 intro hc8 h
 refine z0g ?_
 refine sX (z0d ?_)
 exact ⟨rfl, 0, h, jN⟩
 intro hc8 h
 refine z09 ?_
 exact ⟨rfl, x3.2, h, jN⟩
 refine z0g ?_
 iterate 2 refine sX ?_
 refine z0j (t := 36) rfl ?_ ?_
 intro hb9; replace h := z0o hb9 h
 iterate 3 refine yX ?_
 refine z0j (t := 39) rfl ?_ ?_
 intro hb10; replace h := z0o hb10 h
 iterate 12 refine nX ?_
 refine yX ?_
 refine sX (z0d ?_)
 exact ⟨rfl, true, h, jN⟩
 intro hb10; replace h := z0p hb10 h
 iterate 3 refine yX ?_
 refine z0j (t := 42) rfl ?_ ?_
 intro hb11; replace h := z0o hb11 h
 iterate 3 refine yX ?_
 refine z0j (t := 45) rfl ?_ ?_
 intro hb12; replace h := z0o hb12 h
 iterate 7 refine yX ?_
 refine sX (z0d ?_)
 exact ⟨rfl, (x1.f_Index == ((((a0).asList).length : Nat) : Int)), h, jN⟩
 intro hb12; replace h := z0p hb12 h
 iterate 5 refine nX ?_
 iterate 2 refine yX ?_
 refine sX (z0d ?_)
 exact ⟨rfl, false, h, jN⟩
 intro hb11; replace h := z0p hb11 h
 refine nX ?_
 iterate 2 refine yX ?_
 iterate 5 refine nX ?_
 iterate 2 refine yX ?_
 refine sX (z0d ?_)
 exact ⟨rfl, false, h, jN⟩
 intro hb9; replace h := z0p hb9 h
 iterate 16 refine nX ?_
 refine sX (z0d ?_)
 exact ⟨rfl, false, h, jN⟩
 intro hc2 h
 refine z09 ?_
 refine cBx ?_
 refine bR ?_
 iterate 2 refine sX ?_
 obtain ⟨x13, hx13, h⟩ := obind h
 refine sS rfl rfl rfl (z05 rfl zcy rfl (wkr (wkr .nil)) ⟨(ids_V a0), ⟨(z01 x1), trivial⟩⟩ (zbj a0 x1 x13 hx13) (z00 (ids_V x13.1) (z00 rfl z02))) ?_
 iterate 4 refine sX ?_
 refine eX ?_
 refine z0b ?_
 refine bR ?_
 refine sX ?_
 refine eX ?_
 refine cX h rfl ?_ ?_
 intro hc14 h
 refine bR ?_
 iterate 2 refine sX ?_
 refine eX ?_
 obtain rfl := eI h; exact z04 ⟨_, rfl, z0f (y := (PV.tup [(ofV V.nil), (I64 x13.2)])) (Wk.tup (.cons (Wk.eq mk_nil.symm) (wkr .nil))) (z00 (ids_V V.nil) (z00 rfl z02)) ⟨rfl, rfl⟩⟩
 intro hc14 h
 refine z09 ?_
 refine cBx ?_
 refine bR ?_
 iterate 2 refine sX ?_
 obtain ⟨x15, hx15, h⟩ := obind h
 refine sS rfl rfl rfl (z49 (a := 1) (b := ((a1).length : Int)) Tryz.underlying30 z13 rfl rfl rfl rfl rfl rfl hx15) ?_
 iterate 2 refine sX ?_
 obtain ⟨x16, hx16, h⟩ := obind h
 refine sS rfl rfl rfl (z05 rfl zf9 rfl (wkr (wkr (wkr (wkr .nil)))) ⟨(ids_V x13.1), ⟨(z07 z01 x15), ⟨rfl, ⟨(z2l (z2k (ids_V a3c0) rfl)), trivial⟩⟩⟩⟩ (c_q0d x13.1 x15 a2 a3c0 x16 hx16) (z00 (ids_V x16.1) (z00 rfl z02))) ?_
 iterate 4 refine sX ?_
 refine eX ?_
 refine z0b ?_
 refine bR ?_
 refine sX ?_
 refine eX ?_
 refine cX h rfl ?_ ?_
 intro hc17 h
 refine bR ?_
 iterate 2 refine sX ?_
 refine eX ?_
 obtain rfl := eI h; exact z04 ⟨_, rfl, z0f (y := (PV.tup [(ofV V.nil), (I64 x16.2)])) (Wk.tup (.cons (Wk.eq mk_nil.symm) (wkr .nil))) (z00 (ids_V V.nil) (z00 rfl z02)) ⟨rfl, rfl⟩⟩
 intro hc17 h
 refine z09 ?_
 refine cBx ?_
 refine bR ?_
 iterate 3 refine sX ?_
 obtain ⟨x18, hx18, h⟩ := obind h
 refine sS rfl rfl rfl (z05 rfl zj8 rfl (wkr (wkr (wkr .nil))) ⟨(ids_V a0), ⟨(z01 x1), ⟨(ids_V x16.1), trivial⟩⟩⟩ (zie a0 x1 x16.1 x18 hx18) (ids_V x18)) ?_
 refine sX ?_
 refine eX ?_
 obtain rfl := eI h; exact z04 ⟨_, rfl, z0f (y := (PV.tup [(ofV x18), (I64 0)])) (Wk.refl _) (z00 (ids_V x18) (z00 rfl z02)) ⟨rfl, rfl⟩⟩
theorem C_q0d.sound : ∀ (i : C_q0d) (r : i.R), z3n C_q0d.F i = some r → C_q0d.Q i r := by
 refine z4b (Φ := C_q0d.F) (Q := C_q0d.Q) ?_
 intro g hg i r h
 cases i with
 | k_q0d a0 a1 a2 a3c0 => exact z5s (fun a0 a1 a2 a3c0 => g (.k_q0d a0 a1 a2 a3c0)) (fun a0 a1 a2 a3c0 r hr => hg (.k_q0d a0 a1 a2 a3c0) r hr) a0 a1 a2 a3c0 r h
theorem Z2k (a0 : V) (a1 : (List S_api_Step)) (a2 : Bool) (a3c0 : V) (r : (V × Int)) (h : zml a0 a1 a2 a3c0 = some r) : z0k Tryz.prog 33 [(ofV a0), (PV.sl none 83 3 (List.map z03 a1)), (BO a2), (PV.fn (.func 34) [] [(PV.pt 20 (ofV a3c0) 0)])] (PV.tup [(ofV r.1), (I64 r.2)]) := C_q0d.sound (.k_q0d a0 a1 a2 a3c0) r h
end Go.Proofs.YthidgpcbnieleaaGreatDoor
