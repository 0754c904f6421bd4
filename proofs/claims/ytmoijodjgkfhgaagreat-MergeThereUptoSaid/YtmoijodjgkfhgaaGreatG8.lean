/- Pure functions, and that calls answer as they say. -/
import Derived.Test.YtmoijodjgkfhgaaGreatG7
namespace Go.Proofs.YtmoijodjgkfhgaaGreat
open Go Aw
set_option linter.unusedVariables false
set_option linter.unusedSimpArgs false
set_option maxRecDepth 20000
set_option maxHeartbeats 2000000
variable {ι : Type} {ρ : ι → Type}
noncomputable def z7a (a1 : (List S_api_Step)) (g1 : V → Nat → Option (V × Int)) (s1 : V) (s2 : Nat) : Option (V × Int) :=
 bif (decide (((s2 : Nat) : Int) < (((a1).length : Nat) : Int))) then (
 ((a1)[s2]?).bind fun x5 =>
 (z7k s1 x5).bind fun x6 =>
 bif (x6.2 != 0) then (
 some (V.nil, x6.2)
 ) else (
 g1 x6.1 (s2 + 1)
 )
 ) else (
 some (s1, 0)
 )
theorem zop (g1 : OF ρ → V → Nat → Option (V × Int)) (h_g1 : ∀ y0 y1, CM (fun G => g1 G y0 y1)) (a1 : (List S_api_Step)) (s1 : V) (s2 : Nat) : CM (fun G : OF ρ => z7a a1 (g1 G) s1 s2) := by
 simp only [z7a]
 repeat (first | exact z0i | exact h_g1 _ _ | refine z18 ?_ ?_ | refine z19 ?_ (fun _ => ?_))
noncomputable def zhx (a1 : (List S_api_Step)) (s1 : V) (s2 : Nat) : Option (V × Int) :=
 z3q (ι := (V × Nat)) (ρ := fun _ => (V × Int)) (fun g i => z7a a1 (fun s1 s2 => g (s1, s2)) i.1 i.2) (s1, s2)
theorem zhw (a1 : (List S_api_Step)) (s1 : V) (s2 : Nat) : zhx a1 s1 s2 = z7a a1 (zhx a1) s1 s2 :=
 z1j (ι := (V × Nat)) (ρ := fun _ => (V × Int)) (Φ := fun g i => z7a a1 (fun s1 s2 => g (s1, s2)) i.1 i.2) (fun i => zop (ι := (V × Nat)) (ρ := fun _ => (V × Int)) (fun g => (fun s1 s2 => g (s1, s2))) (fun _ _ => z1l) a1 i.1 i.2) (s1, s2)
noncomputable def zsc (a0 : V) (a1 : (List S_api_Step)) : Option (V × Int) :=
 zhx a1 a0 0
theorem Z3w (a0 : V) (a1 : (List S_api_Step)) (r : (V × Int)) (h : zsc a0 a1 = some r) : z0p Tryz.prog 63 [(ofV a0), (PV.sl none 82 3 (List.map z01 a1))] (PV.tup [(ofV r.1), (I64 r.2)]) := by
 unfold zsc at h
 refine z0j Tryz.func63 rfl Tryz.ntmps63 Tryz.results63 rfl (z0n ?_)
 change BW _ _ _ ⟨[(0, (ofV a0)), (1, (PV.sl none 82 3 (List.map z01 a1)))], [], _⟩ _
 refine bR ?_
 refine sX ?_
 refine eX ?_
 refine z0f ?_
 refine bR ?_
 iterate 2 refine sX ?_
 refine eX ?_
 refine z0o ?_
 refine cBx ?_
 unfold zhx at h
 refine z3p (σ := (V × Nat)) (fun i => [(0, (ofV i.1)), (10, (PV.sl none 82 3 (List.map z01 a1))), (11, (I64 ((((a1).length : Nat) : Int)))), (12, (I64 (((i.2 : Nat) : Int))))]) (fun i => []) (a0, 0) h ?_ ?_ ?_
 intro i; exact ⟨lbE rfl, ⟨(z07 (ids_V _)), ⟨(z07 (z05 z02 _)), ⟨(z07 rfl), ⟨(z07 rfl), trivial⟩⟩⟩⟩, trivial⟩
 exact jN
 rintro g1_f ⟨s1, s2⟩ h; replace h : z7a a1 (fun y0 y1 => g1_f (y0, y1)) s1 s2 = some r := h; unfold z7a at h
 change BW _ _ _ ⟨[(0, (ofV s1)), (10, (PV.sl none 82 3 (List.map z01 a1))), (11, (I64 ((((a1).length : Nat) : Int)))), (12, (I64 (((s2 : Nat) : Int))))], [], _⟩ _
 refine bR ?_
 refine eX ?_
 refine z0f ?_
 refine z4a (t := 10) rfl fun hb4 => ?_
 try rw [List.length_map] at hb4
 refine cX h rfl ?_ ?_
 intro hc3 h
 have hc3_ := of_decide_eq_true hc3
 refine z0g ?_
 refine cBx ?_
 refine z0f ?_
 refine z0o ?_
 refine cBx ?_
 refine bR ?_
 obtain ⟨x5, hx5, h⟩ := obind h
 refine sS rfl rfl rfl (z1p (i := s2) Tryz.underlying47 z1u rfl rfl rfl hx5 rfl) ?_
 refine sX ?_
 refine sS rfl rfl rfl (z1h z1u rfl) ?_
 refine z14 rfl rfl (z0y z1u rfl rfl rfl rfl rfl rfl (lbE rfl) rfl) ?_
 refine z0h ?_
 refine cBx ?_
 refine bR ?_
 iterate 2 refine sX ?_
 obtain ⟨x6, hx6, h⟩ := obind h
 refine sS rfl rfl rfl (z08 rfl zh9 rfl (wkr (wkr .nil)) ⟨(ids_V s1), ⟨(z02 x5), trivial⟩⟩ (zgk s1 x5 x6 hx6) (z00 (ids_V x6.1) (z00 rfl z04))) ?_
 iterate 4 refine sX ?_
 refine eX ?_
 refine z0f ?_
 refine bR ?_
 refine sX ?_
 refine eX ?_
 refine cX h rfl ?_ ?_
 intro hc7 h
 refine bR ?_
 iterate 2 refine sX ?_
 refine eX ?_
 obtain rfl := eI h; exact z06 ⟨_, rfl, z0r (y := (PV.tup [(ofV V.nil), (I64 x6.2)])) (Wk.tup (.cons (Wk.eq mk_nil.symm) (wkr .nil))) (z00 (ids_V V.nil) (z00 rfl z04)) ⟨rfl, rfl⟩⟩
 intro hc7 h
 refine z0g ?_
 refine cBx ?_
 refine z0l ?_
 refine sX ?_
 refine eX ?_
 refine z0l ?_
 refine sS rfl rfl rfl (z2o (k := s2) (c := 1) rfl rfl rfl (by omega)) ?_
 refine sX (z0h ?_)
 exact ⟨rfl, (x6.1, (s2 + 1)), h, jN⟩
 intro hc3 h
 refine z2b ?_
 refine cBx ?_
 refine bR ?_
 iterate 2 refine sX ?_
 refine eX ?_
 obtain rfl := eI h; exact z06 ⟨_, rfl, z0r (y := (PV.tup [(ofV s1), (I64 0)])) (Wk.refl _) (z00 (ids_V s1) (z00 rfl z04)) ⟨rfl, rfl⟩⟩
noncomputable def zw0 (a0 : V) (a1 : S_api_Step) (a2 : S_api_Edit) : Option V :=
 (zan a0 a1 a2.f_Value).bind fun x1 =>
 some x1
theorem Z7b (a0 : V) (a1 : S_api_Step) (a2 : S_api_Edit) (r : V) (h : zw0 a0 a1 a2 = some r) : z0p Tryz.prog 65 [(ofV a0), (z01 a1), (PV.pt 49 (z0b a2) 0)] (ofV r) := by
 unfold zw0 at h
 refine z0j Tryz.func65 rfl Tryz.ntmps65 Tryz.results65 rfl (z0n ?_)
 change BW _ _ _ ⟨[(0, (ofV a0)), (1, (z01 a1)), (2, (PV.pt 49 (z0b a2) 0))], [], _⟩ _
 refine bR ?_
 refine sX ?_
 refine eX ?_
 refine bR ?_
 iterate 4 refine sX ?_
 obtain ⟨x1, hx1, h⟩ := obind h
 refine sS rfl rfl rfl (z08 rfl zu9 rfl (wkr (wkr (wkr .nil))) ⟨(ids_V a0), ⟨(z02 a1), ⟨(ids_V a2.f_Value), trivial⟩⟩⟩ (zr3 a0 a1 a2.f_Value x1 hx1) (ids_V x1)) ?_
 refine eX ?_
 obtain rfl := eI h; exact z06 ⟨_, rfl, z0r (y := (ofV x1)) (Wk.refl _) (ids_V x1) ⟨rfl, rfl⟩⟩
noncomputable def zip (a0 : V) (a3c0 : S_api_Edit) (x1 : S_api_Step) (s4 : Int) : Option (V × Int) :=
 bif (s4 != 0) then (
 some (V.nil, s4)
 ) else (
 (zw0 a0 x1 a3c0).bind fun x6 =>
 some (x6, 0)
 )
noncomputable def zcd (a0 : V) (a3c0 : S_api_Edit) (x1 : S_api_Step) (x3 : (V × Int)) (s7 : Bool) : Option (V × Int) :=
 bif s7 then (
 zip a0 a3c0 x1 0
 ) else (
 zip a0 a3c0 x1 x3.2
 )
noncomputable def zq7 (r_q0a : V → (List S_api_Step) → Bool → S_api_Edit → Option (V × Int)) (a0 : V) (a1 : (List S_api_Step)) (a2 : Bool) (a3c0 : S_api_Edit) : Option (V × Int) :=
 ((a1)[0]?).bind fun x1 =>
 bif ((((a1).length : Nat) : Int) == 1) then (
 (z7k a0 x1).bind fun x3 =>
 bif a2 then (
 bif (x3.2 == 40) then (
 zcd a0 a3c0 x1 x3 true
 ) else (
 bif (x3.2 == 42) then (
 bif (a0).isList then (
 zcd a0 a3c0 x1 x3 (x1.f_Index == ((((a0).asList).length : Nat) : Int))
 ) else (
 zcd a0 a3c0 x1 x3 false
 )
 ) else (
 zcd a0 a3c0 x1 x3 false
 )
 )
 ) else (
 zcd a0 a3c0 x1 x3 false
 )
 ) else (
 (z7k a0 x1).bind fun x13 =>
 bif (x13.2 != 0) then (
 some (V.nil, x13.2)
 ) else (
 (zhi a1 1 ((a1).length : Int)).bind fun x15 =>
 (r_q0a x13.1 x15 a2 a3c0).bind fun x16 =>
 bif (x16.2 != 0) then (
 some (V.nil, x16.2)
 ) else (
 (zan a0 x1 x16.1).bind fun x18 =>
 some (x18, 0)
 )
 )
 )
theorem zyk (r_q0a : OF ρ → V → (List S_api_Step) → Bool → S_api_Edit → Option (V × Int)) (h_r_q0a : ∀ y0 y1 y2 y3, CM (fun G => r_q0a G y0 y1 y2 y3)) (a0 : V) (a1 : (List S_api_Step)) (a2 : Bool) (a3c0 : S_api_Edit) : CM (fun G : OF ρ => zq7 (r_q0a G) a0 a1 a2 a3c0) := by
 simp only [zq7]
 repeat (first | exact z0i | exact h_r_q0a _ _ _ _ | apply q0a_j2_cm | refine z18 ?_ ?_ | refine z19 ?_ (fun _ => ?_) | intro _ | assumption)
inductive C_q0a where
 | k_q0a (a0 : V) (a1 : (List S_api_Step)) (a2 : Bool) (a3c0 : S_api_Edit)
def C_q0a.R : C_q0a → Type
 | .k_q0a _ _ _ _ => (V × Int)
noncomputable def C_q0a.F (g : ∀ i : C_q0a, Option i.R) : ∀ i : C_q0a, Option i.R
 | .k_q0a a0 a1 a2 a3c0 => zq7 (fun a0 a1 a2 a3c0 => g (.k_q0a a0 a1 a2 a3c0)) a0 a1 a2 a3c0
noncomputable def zpc (a0 : V) (a1 : (List S_api_Step)) (a2 : Bool) (a3c0 : S_api_Edit) : Option (V × Int) := z3q C_q0a.F (.k_q0a a0 a1 a2 a3c0)
abbrev Zah := fun (g : ∀ i : C_q0a, Option i.R) a0 a1 a2 a3c0 => g (.k_q0a a0 a1 a2 a3c0)
theorem Zac (a0 a1 a2 a3c0 : _) : CM (ρ := C_q0a.R) (fun g => g (C_q0a.k_q0a a0 a1 a2 a3c0)) := z1l
theorem C_q0a.cm (i : C_q0a) : CM (fun g : (∀ i : C_q0a, Option i.R) => C_q0a.F g i) := by
 cases i with
 | k_q0a a0 a1 a2 a3c0 => exact zyk Zah Zac a0 a1 a2 a3c0
theorem Z92 (a0 : V) (a1 : (List S_api_Step)) (a2 : Bool) (a3c0 : S_api_Edit) : zpc a0 a1 a2 a3c0 = zq7 zpc a0 a1 a2 a3c0 := z1j C_q0a.cm (.k_q0a a0 a1 a2 a3c0)
def C_q0a.Q : ∀ i : C_q0a, i.R → Prop
 | .k_q0a a0 a1 a2 a3c0 => fun (r : (V × Int)) => z0p Tryz.prog 60 [(ofV a0), (PV.sl none 82 3 (List.map z01 a1)), (BO a2), (PV.fn (.func 65) [] [(PV.pt 49 (z0b a3c0) 0)])] (PV.tup [(ofV r.1), (I64 r.2)])
theorem z5p (r_q0a : V → (List S_api_Step) → Bool → S_api_Edit → Option (V × Int)) (c_q0a : ∀ (a0 : V) (a1 : (List S_api_Step)) (a2 : Bool) (a3c0 : S_api_Edit) r, r_q0a a0 a1 a2 a3c0 = some r → z0p Tryz.prog 60 [(ofV a0), (PV.sl none 82 3 (List.map z01 a1)), (BO a2), (PV.fn (.func 65) [] [(PV.pt 49 (z0b a3c0) 0)])] (PV.tup [(ofV r.1), (I64 r.2)])) (a0 : V) (a1 : (List S_api_Step)) (a2 : Bool) (a3c0 : S_api_Edit) (r : (V × Int)) (h : zq7 r_q0a a0 a1 a2 a3c0 = some r) : z0p Tryz.prog 60 [(ofV a0), (PV.sl none 82 3 (List.map z01 a1)), (BO a2), (PV.fn (.func 65) [] [(PV.pt 49 (z0b a3c0) 0)])] (PV.tup [(ofV r.1), (I64 r.2)]) := by
 unfold zq7 at h
 refine z0j Tryz.func60 rfl Tryz.ntmps60 Tryz.results60 rfl (z0n ?_)
 change BW _ _ _ ⟨[(0, (ofV a0)), (1, (PV.sl none 82 3 (List.map z01 a1))), (2, (BO a2)), (3, (PV.fn (.func 65) [] [(PV.pt 49 (z0b a3c0) 0)]))], [], _⟩ _
 refine bR ?_
 refine sX ?_
 refine eX ?_
 refine bR ?_
 refine sX ?_
 obtain ⟨x1, hx1, h⟩ := obind h
 refine sS rfl rfl rfl (z1p (i := 0) Tryz.underlying47 z1u rfl rfl rfl hx1 rfl) ?_
 refine sX ?_
 refine sS rfl rfl rfl (z1h z1u rfl) ?_
 refine z14 rfl rfl (z0y z1u rfl rfl rfl rfl rfl rfl (lbE rfl) rfl) ?_
 refine z0h ?_
 refine cBx ?_
 refine z0f ?_
 refine bR ?_
 iterate 2 refine sX ?_
 refine eX ?_
 refine cX h rfl ?_ ?_
 intro hc2 h
 refine bR ?_
 iterate 2 refine sX ?_
 obtain ⟨x3, hx3, h⟩ := obind h
 refine sS rfl rfl rfl (z08 rfl zh9 rfl (wkr (wkr .nil)) ⟨(ids_V a0), ⟨(z02 x1), trivial⟩⟩ (zgk a0 x1 x3 hx3) (z00 (ids_V x3.1) (z00 rfl z04))) ?_
 iterate 4 refine sX ?_
 refine eX ?_
 refine bR ?_
 refine sX ?_
 refine sS rfl rfl rfl (z1x rfl rfl) ?_
 iterate 4 refine sX ?_
 refine eX ?_
 refine z2e (ι := Int) (fun i => zip a0 a3c0 x1 i = some r) (fun i => [(0, (ofV a0)), (3, (PV.fn (.func 65) [] [(PV.pt 49 (z0b a3c0) 0)])), (10, (PV.rf 0 0)), (12, (I64 i))]) (fun i => [.box 82 [(ofStr x1.f_Name), (BO x1.f_At), (I64 x1.f_Index)]]) ?_ ?_ ?_
 intro i; exact ⟨lbE rfl, ⟨(z07 (ids_V _)), ⟨(z07 (z3a (z39 (z0e a3c0) rfl))), ⟨(il_rf rfl), ⟨(z07 rfl), trivial⟩⟩⟩⟩, ⟨⟨(z07 rfl), ⟨(z07 rfl), ⟨(z07 rfl), trivial⟩⟩⟩, trivial⟩⟩
 rintro s4 h; replace h : zip a0 a3c0 x1 s4 = some r := h; unfold zip at h
 change BW _ _ _ ⟨[(0, (ofV a0)), (3, (PV.fn (.func 65) [] [(PV.pt 49 (z0b a3c0) 0)])), (10, (PV.rf 0 0)), (12, (I64 s4))], [.box 82 [(ofStr x1.f_Name), (BO x1.f_At), (I64 x1.f_Index)]], _⟩ _
 refine z0f ?_
 refine bR ?_
 refine sX ?_
 refine eX ?_
 refine cX h rfl ?_ ?_
 intro hc5 h
 refine bR ?_
 iterate 2 refine sX ?_
 refine eX ?_
 obtain rfl := eI h; exact z06 ⟨_, rfl, z0r (y := (PV.tup [(ofV V.nil), (I64 s4)])) (Wk.tup (.cons (Wk.eq mk_nil.symm) (wkr .nil))) (z00 (ids_V V.nil) (z00 rfl z04)) ⟨rfl, rfl⟩⟩
 intro hc5 h
 refine z0g ?_
 refine cBx ?_
 refine bR ?_
 iterate 3 refine sX ?_
 obtain ⟨x6, hx6, h⟩ := obind h
 refine sS rfl rfl rfl (z2q rfl rfl Z8i rfl (wkr (wkr (wkr .nil))) ⟨(ids_V a0), ⟨(z02 x1), ⟨(z0e a3c0), trivial⟩⟩⟩ (Z7b a0 x1 a3c0 x6 hx6) (ids_V x6)) ?_
 refine sX ?_
 refine eX ?_
 obtain rfl := eI h; exact z06 ⟨_, rfl, z0r (y := (PV.tup [(ofV x6), (I64 0)])) (Wk.refl _) (z00 (ids_V x6) (z00 rfl z04)) ⟨rfl, rfl⟩⟩
 refine z2e (ι := Bool) (fun i => zcd a0 a3c0 x1 x3 i = some r) (fun i => [(0, (ofV a0)), (3, (PV.fn (.func 65) [] [(PV.pt 49 (z0b a3c0) 0)])), (10, (PV.rf 0 0)), (12, (I64 x3.2)), (53, (BO i))]) (fun i => [.box 82 [(ofStr x1.f_Name), (BO x1.f_At), (I64 x1.f_Index)]]) ?_ ?_ ?_
 intro i; exact ⟨lbE rfl, ⟨(z07 (ids_V _)), ⟨(z07 (z3a (z39 (z0e a3c0) rfl))), ⟨(il_rf rfl), ⟨(z07 rfl), ⟨(z07 rfl), trivial⟩⟩⟩⟩⟩, ⟨⟨(z07 rfl), ⟨(z07 rfl), ⟨(z07 rfl), trivial⟩⟩⟩, trivial⟩⟩
 rintro s7 h; replace h : zcd a0 a3c0 x1 x3 s7 = some r := h; unfold zcd at h
 change BW _ _ _ ⟨[(0, (ofV a0)), (3, (PV.fn (.func 65) [] [(PV.pt 49 (z0b a3c0) 0)])), (10, (PV.rf 0 0)), (12, (I64 x3.2)), (53, (BO s7))], [.box 82 [(ofStr x1.f_Name), (BO x1.f_At), (I64 x1.f_Index)]], _⟩ _
 refine cX h rfl ?_ ?_
 intro hc8 h
 refine z0l ?_
 refine sX (z0h ?_)
 exact ⟨rfl, 0, h, jN⟩
 intro hc8 h
 refine z0g ?_
 exact ⟨rfl, x3.2, h, jN⟩
 refine z0l ?_
 iterate 2 refine sX ?_
 refine z0t (t := 36) rfl ?_ ?_
 intro hb9; replace h := z10 hb9 h
 iterate 3 refine yX ?_
 refine z0t (t := 39) rfl ?_ ?_
 intro hb10; replace h := z10 hb10 h
 iterate 12 refine nX ?_
 refine yX ?_
 refine sX (z0h ?_)
 exact ⟨rfl, true, h, jN⟩
 intro hb10; replace h := z11 hb10 h
 iterate 3 refine yX ?_
 refine z0t (t := 42) rfl ?_ ?_
 intro hb11; replace h := z10 hb11 h
 iterate 3 refine yX ?_
 refine z0t (t := 45) rfl ?_ ?_
 intro hb12; replace h := z10 hb12 h
 iterate 7 refine yX ?_
 refine sX (z0h ?_)
 exact ⟨rfl, (x1.f_Index == ((((a0).asList).length : Nat) : Int)), h, jN⟩
 intro hb12; replace h := z11 hb12 h
 iterate 5 refine nX ?_
 iterate 2 refine yX ?_
 refine sX (z0h ?_)
 exact ⟨rfl, false, h, jN⟩
 intro hb11; replace h := z11 hb11 h
 refine nX ?_
 iterate 2 refine yX ?_
 iterate 5 refine nX ?_
 iterate 2 refine yX ?_
 refine sX (z0h ?_)
 exact ⟨rfl, false, h, jN⟩
 intro hb9; replace h := z11 hb9 h
 iterate 16 refine nX ?_
 refine sX (z0h ?_)
 exact ⟨rfl, false, h, jN⟩
 intro hc2 h
 refine z0g ?_
 refine cBx ?_
 refine bR ?_
 iterate 2 refine sX ?_
 obtain ⟨x13, hx13, h⟩ := obind h
 refine sS rfl rfl rfl (z08 rfl zh9 rfl (wkr (wkr .nil)) ⟨(ids_V a0), ⟨(z02 x1), trivial⟩⟩ (zgk a0 x1 x13 hx13) (z00 (ids_V x13.1) (z00 rfl z04))) ?_
 iterate 4 refine sX ?_
 refine eX ?_
 refine z0f ?_
 refine bR ?_
 refine sX ?_
 refine eX ?_
 refine cX h rfl ?_ ?_
 intro hc14 h
 refine bR ?_
 iterate 2 refine sX ?_
 refine eX ?_
 obtain rfl := eI h; exact z06 ⟨_, rfl, z0r (y := (PV.tup [(ofV V.nil), (I64 x13.2)])) (Wk.tup (.cons (Wk.eq mk_nil.symm) (wkr .nil))) (z00 (ids_V V.nil) (z00 rfl z04)) ⟨rfl, rfl⟩⟩
 intro hc14 h
 refine z0g ?_
 refine cBx ?_
 refine bR ?_
 iterate 2 refine sX ?_
 obtain ⟨x15, hx15, h⟩ := obind h
 refine sS rfl rfl rfl (zcw (a := 1) (b := ((a1).length : Int)) Tryz.underlying47 z1u rfl rfl rfl rfl rfl rfl hx15) ?_
 iterate 2 refine sX ?_
 obtain ⟨x16, hx16, h⟩ := obind h
 refine sS rfl rfl rfl (z08 rfl zq0 rfl (wkr (wkr (wkr (wkr .nil)))) ⟨(ids_V x13.1), ⟨(z05 z02 x15), ⟨rfl, ⟨(z3a (z39 (z0e a3c0) rfl)), trivial⟩⟩⟩⟩ (c_q0a x13.1 x15 a2 a3c0 x16 hx16) (z00 (ids_V x16.1) (z00 rfl z04))) ?_
 iterate 4 refine sX ?_
 refine eX ?_
 refine z0f ?_
 refine bR ?_
 refine sX ?_
 refine eX ?_
 refine cX h rfl ?_ ?_
 intro hc17 h
 refine bR ?_
 iterate 2 refine sX ?_
 refine eX ?_
 obtain rfl := eI h; exact z06 ⟨_, rfl, z0r (y := (PV.tup [(ofV V.nil), (I64 x16.2)])) (Wk.tup (.cons (Wk.eq mk_nil.symm) (wkr .nil))) (z00 (ids_V V.nil) (z00 rfl z04)) ⟨rfl, rfl⟩⟩
 intro hc17 h
 refine z0g ?_
 refine cBx ?_
 refine bR ?_
 iterate 3 refine sX ?_
 obtain ⟨x18, hx18, h⟩ := obind h
 refine sS rfl rfl rfl (z08 rfl zu9 rfl (wkr (wkr (wkr .nil))) ⟨(ids_V a0), ⟨(z02 x1), ⟨(ids_V x16.1), trivial⟩⟩⟩ (zr3 a0 x1 x16.1 x18 hx18) (ids_V x18)) ?_
 refine sX ?_
 refine eX ?_
 obtain rfl := eI h; exact z06 ⟨_, rfl, z0r (y := (PV.tup [(ofV x18), (I64 0)])) (Wk.refl _) (z00 (ids_V x18) (z00 rfl z04)) ⟨rfl, rfl⟩⟩
theorem C_q0a.sound : ∀ (i : C_q0a) (r : i.R), z3q C_q0a.F i = some r → C_q0a.Q i r := by
 refine z50 (Φ := C_q0a.F) (Q := C_q0a.Q) ?_
 intro g hg i r h
 cases i with
 | k_q0a a0 a1 a2 a3c0 => exact z5p (fun a0 a1 a2 a3c0 => g (.k_q0a a0 a1 a2 a3c0)) (fun a0 a1 a2 a3c0 r hr => hg (.k_q0a a0 a1 a2 a3c0) r hr) a0 a1 a2 a3c0 r h
theorem Z7r (a0 : V) (a1 : (List S_api_Step)) (a2 : Bool) (a3c0 : S_api_Edit) (r : (V × Int)) (h : zpc a0 a1 a2 a3c0 = some r) : z0p Tryz.prog 60 [(ofV a0), (PV.sl none 82 3 (List.map z01 a1)), (BO a2), (PV.fn (.func 65) [] [(PV.pt 49 (z0b a3c0) 0)])] (PV.tup [(ofV r.1), (I64 r.2)]) := C_q0a.sound (.k_q0a a0 a1 a2 a3c0) r h
noncomputable def zp6 (a0 : (List (Str × V))) (a1 : S_api_Step) : Option (List (Str × V)) :=
 (zkw a0 a1.f_Name).bind fun x1 =>
 (zpg a0).bind fun x2 =>
 (Z2n x2 x1.1 (IntKind.i64.wrap (x1.1 + 1))).bind fun x3 =>
 some x3
theorem Z43 (a0 : (List (Str × V))) (a1 : S_api_Step) (r : (List (Str × V))) (h : zp6 a0 a1 = some r) : z0p Tryz.prog 102 [(PV.sl none 86 2 (List.map ofFld a0)), (PV.pt 82 (z01 a1) 0)] (PV.sl none 86 2 (List.map ofFld r)) := by
 unfold zp6 at h
 refine z0j Tryz.func102 rfl Tryz.ntmps102 Tryz.results102 rfl (z0n ?_)
 change BW _ _ _ ⟨[(0, (PV.sl none 86 2 (List.map ofFld a0))), (1, (PV.pt 82 (z01 a1) 0))], [], _⟩ _
 refine bR ?_
 refine sS rfl rfl rfl ((z7p (e := 86) (sz := 2) (.inl rfl) rfl).cast (y := (PV.rs 0 0 (([] : (List (Str × V)))).length 86 2)) (H'' := [rowM ofFld 86 ([] : (List (Str × V)))]) rfl rfl) (z0h ?_)
 refine cBx ?_
 refine bR ?_
 iterate 3 refine sX ?_
 obtain ⟨x1, hx1, h⟩ := obind h
 refine sS rfl rfl rfl (z08 rfl zue rfl (wkr (wkr .nil)) ⟨(z05 z0m a0), ⟨rfl, trivial⟩⟩ (Z0j a0 a1.f_Name x1 hx1) (z00 rfl (z00 rfl z04))) ?_
 iterate 4 refine sX ?_
 refine eX ?_
 refine bR ?_
 refine sX ?_
 obtain ⟨x2, hx2, h⟩ := obind h
 refine sS rfl rfl rfl (z4m rfl zzx rfl (wkr .nil) ⟨(z05 z0m a0), trivial⟩ (Z4b a0 x2 hx2) zvm (zgn (z4k z0m) (zmw))) ?_
 iterate 3 refine sX ?_
 obtain ⟨x3, hx3, h⟩ := obind h
 refine sS rfl rfl rfl (zn6 (f := ofFld) (l := x2) Z2m Z61 rfl rfl rfl rfl rfl rfl z7w z75 rfl hx3) ?_
 refine eX ?_
 obtain rfl := eI h; exact z06 ⟨_, rfl, z0r (y := (PV.sl none 86 2 (List.map ofFld x3))) (Wk.refl _) (z05 z0m x3) ⟨rfl, rfl⟩⟩
noncomputable def zj3 (a0 : V) (a1 : S_api_Step) : Option V :=
 bif (a0).isList then (
 (zpe ((a0).asList)).bind fun x2 =>
 (Z2n x2 a1.f_Index (IntKind.i64.wrap (a1.f_Index + 1))).bind fun x3 =>
 some (V.list x3)
 ) else (
 bif (a0).isDict then (
 (zp6 ((a0).asDict) a1).bind fun x5 =>
 some (V.dict x5)
 ) else (
 bif (a0).isRec then (
 ((a0).asRec).bind fun x7 =>
 (zp6 x7.fields a1).bind fun x8 =>
 some (V.record x7.cls x7.ver x8)
 ) else (
 some a0
 )
 )
 )
theorem Z7a (a0 : V) (a1 : S_api_Step) (r : V) (h : zj3 a0 a1 = some r) : z0p Tryz.prog 66 [(ofV a0), (z01 a1)] (ofV r) := by
 unfold zj3 at h
 refine z0j Tryz.func66 rfl Tryz.ntmps66 Tryz.results66 rfl (z0n ?_)
 change BW _ _ _ ⟨[(0, (ofV a0)), (1, (z01 a1))], [], _⟩ _
 refine bR ?_
 refine sX ?_
 refine eX ?_
 refine z0f ?_
 refine z4v 0 3 (y := (PV.pt 82 (z01 a1) 0)) rfl rfl (Wk.pt (x := .agg [(ofStr a1.f_Name), (BO a1.f_At), (I64 a1.f_Index)]) (y := (z01 a1)) (wkr (wkr (wkr .nil)))) ?_
 refine z0l ?_
 refine sS rfl rfl rfl (ze8 rfl rfl rfl) ?_
 refine eX ?_
 refine z0f ?_
 refine bR ?_
 refine eX ?_
 refine z0o ?_
 refine cBx ?_
 refine bR ?_
 refine sS rfl rfl rfl (z1x rfl rfl) ?_
 refine sX ?_
 refine eX ?_
 refine cX h rfl ?_ ?_
 intro hc1 h
 refine bR ?_
 refine eX ?_
 refine z0f (z1w 7 [1] [] mo (by kernel_rfl) ?_)
 refine gX ?_
 obtain ⟨x2, hx2, h⟩ := obind h
 refine zci rfl rfl rfl rfl (z4m rfl Z5e rfl (wkr .nil) ⟨(z05 ids_V ((a0).asList)), trivial⟩ (Z49 ((a0).asList) x2 hx2) zvm (zgn (z4k ids_V) (zmw))) trivial ?_
 iterate 5 refine gX ?_
 refine z20 ?_
 change AO _ _ _ _ _
 obtain ⟨x3, hx3, h⟩ := obind h
 refine sS rfl rfl rfl (zn6 (f := ofV) (l := x2) Z2l Z60 rfl rfl rfl rfl rfl rfl csz_V z7x rfl hx3) ?_
 refine sS rfl rfl rfl ((z15 Tryz.underlying66 rfl rfl rfl).wk ((Wk.iface (Wk.refl _)).trans (Wk.eq (zby _).symm))) ?_
 refine eX ?_
 obtain rfl := eI h; exact z06 ⟨_, rfl, z0r (y := (ofV (V.list x3))) (Wk.refl _) (ids_V (V.list x3)) ⟨rfl, rfl⟩⟩
 intro hc1 h
 refine bR ?_
 refine sS rfl rfl rfl (z2v rfl rfl) ?_
 refine sX ?_
 refine eX ?_
 refine cX h rfl ?_ ?_
 intro hc4 h
 refine bR ?_
 refine eX ?_
 refine bR ?_
 iterate 2 refine sX ?_
 obtain ⟨x5, hx5, h⟩ := obind h
 refine sS rfl rfl rfl (z2q rfl rfl zzy rfl (wkr (wkr .nil)) ⟨(z05 z0m ((a0).asDict)), ⟨(z02 a1), trivial⟩⟩ (Z43 ((a0).asDict) a1 x5 hx5) (z05 z0m x5)) ?_
 refine sS rfl rfl rfl ((z15 Tryz.underlying68 rfl rfl rfl).wk ((Wk.iface (Wk.refl _)).trans (Wk.eq (z4t _).symm))) ?_
 refine eX ?_
 obtain rfl := eI h; exact z06 ⟨_, rfl, z0r (y := (ofV (V.dict x5))) (Wk.refl _) (ids_V (V.dict x5)) ⟨rfl, rfl⟩⟩
 intro hc4 h
 refine bR ?_
 refine sS rfl rfl rfl (z3g rfl rfl) ?_
 refine sX ?_
 refine eX ?_
 refine cX h rfl ?_ ?_
 intro hc6 h
 refine bR ?_
 refine eX ?_
 refine z0f (z1w 14 [] [] mo (by kernel_rfl) ?_)
 refine gX ?_
 obtain ⟨x7, hx7, h⟩ := obind h
 refine z1r rfl rfl rfl rfl (fun H hp => z1o rfl rfl hx7) ?_
 iterate 3 refine gX ?_
 refine z1r rfl rfl rfl rfl (fun H hp => z1o rfl rfl hx7) ?_
 iterate 4 refine gX ?_
 refine z1r rfl rfl rfl rfl (fun H hp => z1o rfl rfl hx7) ?_
 iterate 2 refine gX ?_
 obtain ⟨x8, hx8, h⟩ := obind h
 refine z1r rfl rfl rfl rfl (fun H hp => z2q rfl rfl zzy rfl (wkr (wkr .nil)) ⟨(z05 z0m x7.fields), ⟨(z02 a1), trivial⟩⟩ (Z43 x7.fields a1 x8 hx8) (z05 z0m x8)) ?_
 refine z20 ?_
 change AO _ _ _ _ _
 refine sS rfl rfl rfl (z12 (cs := [(ofStr x7.cls), (I64 x7.ver), (PV.sl none 86 2 (List.map ofFld x8))]) zkl zfu rfl rfl rfl rfl) ?_
 refine sX ?_
 refine sS rfl rfl rfl (z15 Tryz.underlying70 rfl rfl rfl) ?_
 refine eX ?_
 refine z4v 1 4 (y := (ofV (V.record x7.cls x7.ver x8))) rfl rfl ((Wk.iface (Wk.pt (x := .agg [(ofStr x7.cls), (I64 x7.ver), (PV.sl none 86 2 (List.map ofFld x8))]) (y := zgy (Rec.mk x7.cls x7.ver x8)) (wkr (wkr (wkr .nil))))).trans (Wk.eq (zfp (some (Rec.mk x7.cls x7.ver x8))).symm)) ?_
 obtain rfl := eI h; exact z06 ⟨_, rfl, z0r (y := (ofV (V.record x7.cls x7.ver x8))) (Wk.refl _) (ids_V (V.record x7.cls x7.ver x8)) ⟨rfl, rfl⟩⟩
 intro hc6 h
 refine z0g ?_
 refine cBx ?_
 refine bR ?_
 refine sX ?_
 refine eX ?_
 obtain rfl := eI h; exact z06 ⟨_, rfl, z0r (y := (ofV a0)) (Wk.refl _) (ids_V a0) ⟨rfl, rfl⟩⟩
noncomputable def zio (a0 : V) (x1 : S_api_Step) (s4 : Int) : Option (V × Int) :=
 bif (s4 != 0) then (
 some (V.nil, s4)
 ) else (
 (zj3 a0 x1).bind fun x6 =>
 some (x6, 0)
 )
noncomputable def zcc (a0 : V) (x1 : S_api_Step) (x3 : (V × Int)) (s7 : Bool) : Option (V × Int) :=
 bif s7 then (
 zio a0 x1 0
 ) else (
 zio a0 x1 x3.2
 )
noncomputable def zq6 (r_q0b : V → (List S_api_Step) → Bool → Option (V × Int)) (a0 : V) (a1 : (List S_api_Step)) (a2 : Bool) : Option (V × Int) :=
 ((a1)[0]?).bind fun x1 =>
 bif ((((a1).length : Nat) : Int) == 1) then (
 (z7k a0 x1).bind fun x3 =>
 bif a2 then (
 bif (x3.2 == 40) then (
 zcc a0 x1 x3 true
 ) else (
 bif (x3.2 == 42) then (
 bif (a0).isList then (
 zcc a0 x1 x3 (x1.f_Index == ((((a0).asList).length : Nat) : Int))
 ) else (
 zcc a0 x1 x3 false
 )
 ) else (
 zcc a0 x1 x3 false
 )
 )
 ) else (
 zcc a0 x1 x3 false
 )
 ) else (
 (z7k a0 x1).bind fun x13 =>
 bif (x13.2 != 0) then (
 some (V.nil, x13.2)
 ) else (
 (zhi a1 1 ((a1).length : Int)).bind fun x15 =>
 (r_q0b x13.1 x15 a2).bind fun x16 =>
 bif (x16.2 != 0) then (
 some (V.nil, x16.2)
 ) else (
 (zan a0 x1 x16.1).bind fun x18 =>
 some (x18, 0)
 )
 )
 )
theorem zyj (r_q0b : OF ρ → V → (List S_api_Step) → Bool → Option (V × Int)) (h_r_q0b : ∀ y0 y1 y2, CM (fun G => r_q0b G y0 y1 y2)) (a0 : V) (a1 : (List S_api_Step)) (a2 : Bool) : CM (fun G : OF ρ => zq6 (r_q0b G) a0 a1 a2) := by
 simp only [zq6]
 repeat (first | exact z0i | exact h_r_q0b _ _ _ | apply q0b_j2_cm | refine z18 ?_ ?_ | refine z19 ?_ (fun _ => ?_) | intro _ | assumption)
inductive C_q0b where
 | k_q0b (a0 : V) (a1 : (List S_api_Step)) (a2 : Bool)
def C_q0b.R : C_q0b → Type
 | .k_q0b _ _ _ => (V × Int)
noncomputable def C_q0b.F (g : ∀ i : C_q0b, Option i.R) : ∀ i : C_q0b, Option i.R
 | .k_q0b a0 a1 a2 => zq6 (fun a0 a1 a2 => g (.k_q0b a0 a1 a2)) a0 a1 a2
noncomputable def zpb (a0 : V) (a1 : (List S_api_Step)) (a2 : Bool) : Option (V × Int) := z3q C_q0b.F (.k_q0b a0 a1 a2)
abbrev Zag := fun (g : ∀ i : C_q0b, Option i.R) a0 a1 a2 => g (.k_q0b a0 a1 a2)
theorem Zab (a0 a1 a2 : _) : CM (ρ := C_q0b.R) (fun g => g (C_q0b.k_q0b a0 a1 a2)) := z1l
theorem C_q0b.cm (i : C_q0b) : CM (fun g : (∀ i : C_q0b, Option i.R) => C_q0b.F g i) := by
 cases i with
 | k_q0b a0 a1 a2 => exact zyj Zag Zab a0 a1 a2
theorem Z91 (a0 : V) (a1 : (List S_api_Step)) (a2 : Bool) : zpb a0 a1 a2 = zq6 zpb a0 a1 a2 := z1j C_q0b.cm (.k_q0b a0 a1 a2)
def C_q0b.Q : ∀ i : C_q0b, i.R → Prop
 | .k_q0b a0 a1 a2 => fun (r : (V × Int)) => z0p Tryz.prog 60 [(ofV a0), (PV.sl none 82 3 (List.map z01 a1)), (BO a2), (PV.fn (.func 66) [] [])] (PV.tup [(ofV r.1), (I64 r.2)])
theorem z5o (r_q0b : V → (List S_api_Step) → Bool → Option (V × Int)) (c_q0b : ∀ (a0 : V) (a1 : (List S_api_Step)) (a2 : Bool) r, r_q0b a0 a1 a2 = some r → z0p Tryz.prog 60 [(ofV a0), (PV.sl none 82 3 (List.map z01 a1)), (BO a2), (PV.fn (.func 66) [] [])] (PV.tup [(ofV r.1), (I64 r.2)])) (a0 : V) (a1 : (List S_api_Step)) (a2 : Bool) (r : (V × Int)) (h : zq6 r_q0b a0 a1 a2 = some r) : z0p Tryz.prog 60 [(ofV a0), (PV.sl none 82 3 (List.map z01 a1)), (BO a2), (PV.fn (.func 66) [] [])] (PV.tup [(ofV r.1), (I64 r.2)]) := by
 unfold zq6 at h
 refine z0j Tryz.func60 rfl Tryz.ntmps60 Tryz.results60 rfl (z0n ?_)
 change BW _ _ _ ⟨[(0, (ofV a0)), (1, (PV.sl none 82 3 (List.map z01 a1))), (2, (BO a2)), (3, (PV.fn (.func 66) [] []))], [], _⟩ _
 refine bR ?_
 refine sX ?_
 refine eX ?_
 refine bR ?_
 refine sX ?_
 obtain ⟨x1, hx1, h⟩ := obind h
 refine sS rfl rfl rfl (z1p (i := 0) Tryz.underlying47 z1u rfl rfl rfl hx1 rfl) ?_
 refine sX ?_
 refine sS rfl rfl rfl (z1h z1u rfl) ?_
 refine z14 rfl rfl (z0y z1u rfl rfl rfl rfl rfl rfl (lbE rfl) rfl) ?_
 refine z0h ?_
 refine cBx ?_
 refine z0f ?_
 refine bR ?_
 iterate 2 refine sX ?_
 refine eX ?_
 refine cX h rfl ?_ ?_
 intro hc2 h
 refine bR ?_
 iterate 2 refine sX ?_
 obtain ⟨x3, hx3, h⟩ := obind h
 refine sS rfl rfl rfl (z08 rfl zh9 rfl (wkr (wkr .nil)) ⟨(ids_V a0), ⟨(z02 x1), trivial⟩⟩ (zgk a0 x1 x3 hx3) (z00 (ids_V x3.1) (z00 rfl z04))) ?_
 iterate 4 refine sX ?_
 refine eX ?_
 refine bR ?_
 refine sX ?_
 refine sS rfl rfl rfl (z1x rfl rfl) ?_
 iterate 4 refine sX ?_
 refine eX ?_
 refine z2e (ι := Int) (fun i => zio a0 x1 i = some r) (fun i => [(0, (ofV a0)), (3, (PV.fn (.func 66) [] [])), (10, (PV.rf 0 0)), (12, (I64 i))]) (fun i => [.box 82 [(ofStr x1.f_Name), (BO x1.f_At), (I64 x1.f_Index)]]) ?_ ?_ ?_
 intro i; exact ⟨lbE rfl, ⟨(z07 (ids_V _)), ⟨(z07 rfl), ⟨(il_rf rfl), ⟨(z07 rfl), trivial⟩⟩⟩⟩, ⟨⟨(z07 rfl), ⟨(z07 rfl), ⟨(z07 rfl), trivial⟩⟩⟩, trivial⟩⟩
 rintro s4 h; replace h : zio a0 x1 s4 = some r := h; unfold zio at h
 change BW _ _ _ ⟨[(0, (ofV a0)), (3, (PV.fn (.func 66) [] [])), (10, (PV.rf 0 0)), (12, (I64 s4))], [.box 82 [(ofStr x1.f_Name), (BO x1.f_At), (I64 x1.f_Index)]], _⟩ _
 refine z0f ?_
 refine bR ?_
 refine sX ?_
 refine eX ?_
 refine cX h rfl ?_ ?_
 intro hc5 h
 refine bR ?_
 iterate 2 refine sX ?_
 refine eX ?_
 obtain rfl := eI h; exact z06 ⟨_, rfl, z0r (y := (PV.tup [(ofV V.nil), (I64 s4)])) (Wk.tup (.cons (Wk.eq mk_nil.symm) (wkr .nil))) (z00 (ids_V V.nil) (z00 rfl z04)) ⟨rfl, rfl⟩⟩
 intro hc5 h
 refine z0g ?_
 refine cBx ?_
 refine bR ?_
 iterate 3 refine sX ?_
 obtain ⟨x6, hx6, h⟩ := obind h
 refine sS rfl rfl rfl (z6t rfl rfl Z8h rfl (wkr (wkr .nil)) ⟨(ids_V a0), ⟨(z02 x1), trivial⟩⟩ (Z7a a0 x1 x6 hx6) (ids_V x6)) ?_
 refine sX ?_
 refine eX ?_
 obtain rfl := eI h; exact z06 ⟨_, rfl, z0r (y := (PV.tup [(ofV x6), (I64 0)])) (Wk.refl _) (z00 (ids_V x6) (z00 rfl z04)) ⟨rfl, rfl⟩⟩
 refine z2e (ι := Bool) (fun i => zcc a0 x1 x3 i = some r) (fun i => [(0, (ofV a0)), (3, (PV.fn (.func 66) [] [])), (10, (PV.rf 0 0)), (12, (I64 x3.2)), (53, (BO i))]) (fun i => [.box 82 [(ofStr x1.f_Name), (BO x1.f_At), (I64 x1.f_Index)]]) ?_ ?_ ?_
 intro i; exact ⟨lbE rfl, ⟨(z07 (ids_V _)), ⟨(z07 rfl), ⟨(il_rf rfl), ⟨(z07 rfl), ⟨(z07 rfl), trivial⟩⟩⟩⟩⟩, ⟨⟨(z07 rfl), ⟨(z07 rfl), ⟨(z07 rfl), trivial⟩⟩⟩, trivial⟩⟩
 rintro s7 h; replace h : zcc a0 x1 x3 s7 = some r := h; unfold zcc at h
 change BW _ _ _ ⟨[(0, (ofV a0)), (3, (PV.fn (.func 66) [] [])), (10, (PV.rf 0 0)), (12, (I64 x3.2)), (53, (BO s7))], [.box 82 [(ofStr x1.f_Name), (BO x1.f_At), (I64 x1.f_Index)]], _⟩ _
 refine cX h rfl ?_ ?_
 intro hc8 h
 refine z0l ?_
 refine sX (z0h ?_)
 exact ⟨rfl, 0, h, jN⟩
 intro hc8 h
 refine z0g ?_
 exact ⟨rfl, x3.2, h, jN⟩
 refine z0l ?_
 iterate 2 refine sX ?_
 refine z0t (t := 36) rfl ?_ ?_
 intro hb9; replace h := z10 hb9 h
 iterate 3 refine yX ?_
 refine z0t (t := 39) rfl ?_ ?_
 intro hb10; replace h := z10 hb10 h
 iterate 12 refine nX ?_
 refine yX ?_
 refine sX (z0h ?_)
 exact ⟨rfl, true, h, jN⟩
 intro hb10; replace h := z11 hb10 h
 iterate 3 refine yX ?_
 refine z0t (t := 42) rfl ?_ ?_
 intro hb11; replace h := z10 hb11 h
 iterate 3 refine yX ?_
 refine z0t (t := 45) rfl ?_ ?_
 intro hb12; replace h := z10 hb12 h
 iterate 7 refine yX ?_
 refine sX (z0h ?_)
 exact ⟨rfl, (x1.f_Index == ((((a0).asList).length : Nat) : Int)), h, jN⟩
 intro hb12; replace h := z11 hb12 h
 iterate 5 refine nX ?_
 iterate 2 refine yX ?_
 refine sX (z0h ?_)
 exact ⟨rfl, false, h, jN⟩
 intro hb11; replace h := z11 hb11 h
 refine nX ?_
 iterate 2 refine yX ?_
 iterate 5 refine nX ?_
 iterate 2 refine yX ?_
 refine sX (z0h ?_)
 exact ⟨rfl, false, h, jN⟩
 intro hb9; replace h := z11 hb9 h
 iterate 16 refine nX ?_
 refine sX (z0h ?_)
 exact ⟨rfl, false, h, jN⟩
 intro hc2 h
 refine z0g ?_
 refine cBx ?_
 refine bR ?_
 iterate 2 refine sX ?_
 obtain ⟨x13, hx13, h⟩ := obind h
 refine sS rfl rfl rfl (z08 rfl zh9 rfl (wkr (wkr .nil)) ⟨(ids_V a0), ⟨(z02 x1), trivial⟩⟩ (zgk a0 x1 x13 hx13) (z00 (ids_V x13.1) (z00 rfl z04))) ?_
 iterate 4 refine sX ?_
 refine eX ?_
 refine z0f ?_
 refine bR ?_
 refine sX ?_
 refine eX ?_
 refine cX h rfl ?_ ?_
 intro hc14 h
 refine bR ?_
 iterate 2 refine sX ?_
 refine eX ?_
 obtain rfl := eI h; exact z06 ⟨_, rfl, z0r (y := (PV.tup [(ofV V.nil), (I64 x13.2)])) (Wk.tup (.cons (Wk.eq mk_nil.symm) (wkr .nil))) (z00 (ids_V V.nil) (z00 rfl z04)) ⟨rfl, rfl⟩⟩
 intro hc14 h
 refine z0g ?_
 refine cBx ?_
 refine bR ?_
 iterate 2 refine sX ?_
 obtain ⟨x15, hx15, h⟩ := obind h
 refine sS rfl rfl rfl (zcw (a := 1) (b := ((a1).length : Int)) Tryz.underlying47 z1u rfl rfl rfl rfl rfl rfl hx15) ?_
 iterate 2 refine sX ?_
 obtain ⟨x16, hx16, h⟩ := obind h
 refine sS rfl rfl rfl (z08 rfl zq0 rfl (wkr (wkr (wkr (wkr .nil)))) ⟨(ids_V x13.1), ⟨(z05 z02 x15), ⟨rfl, ⟨rfl, trivial⟩⟩⟩⟩ (c_q0b x13.1 x15 a2 x16 hx16) (z00 (ids_V x16.1) (z00 rfl z04))) ?_
 iterate 4 refine sX ?_
 refine eX ?_
 refine z0f ?_
 refine bR ?_
 refine sX ?_
 refine eX ?_
 refine cX h rfl ?_ ?_
 intro hc17 h
 refine bR ?_
 iterate 2 refine sX ?_
 refine eX ?_
 obtain rfl := eI h; exact z06 ⟨_, rfl, z0r (y := (PV.tup [(ofV V.nil), (I64 x16.2)])) (Wk.tup (.cons (Wk.eq mk_nil.symm) (wkr .nil))) (z00 (ids_V V.nil) (z00 rfl z04)) ⟨rfl, rfl⟩⟩
 intro hc17 h
 refine z0g ?_
 refine cBx ?_
 refine bR ?_
 iterate 3 refine sX ?_
 obtain ⟨x18, hx18, h⟩ := obind h
 refine sS rfl rfl rfl (z08 rfl zu9 rfl (wkr (wkr (wkr .nil))) ⟨(ids_V a0), ⟨(z02 x1), ⟨(ids_V x16.1), trivial⟩⟩⟩ (zr3 a0 x1 x16.1 x18 hx18) (ids_V x18)) ?_
 refine sX ?_
 refine eX ?_
 obtain rfl := eI h; exact z06 ⟨_, rfl, z0r (y := (PV.tup [(ofV x18), (I64 0)])) (Wk.refl _) (z00 (ids_V x18) (z00 rfl z04)) ⟨rfl, rfl⟩⟩
theorem C_q0b.sound : ∀ (i : C_q0b) (r : i.R), z3q C_q0b.F i = some r → C_q0b.Q i r := by
 refine z50 (Φ := C_q0b.F) (Q := C_q0b.Q) ?_
 intro g hg i r h
 cases i with
 | k_q0b a0 a1 a2 => exact z5o (fun a0 a1 a2 => g (.k_q0b a0 a1 a2)) (fun a0 a1 a2 r hr => hg (.k_q0b a0 a1 a2) r hr) a0 a1 a2 r h
theorem Z7q (a0 : V) (a1 : (List S_api_Step)) (a2 : Bool) (r : (V × Int)) (h : zpb a0 a1 a2 = some r) : z0p Tryz.prog 60 [(ofV a0), (PV.sl none 82 3 (List.map z01 a1)), (BO a2), (PV.fn (.func 66) [] [])] (PV.tup [(ofV r.1), (I64 r.2)]) := C_q0b.sound (.k_q0b a0 a1 a2) r h
noncomputable def zds (a0 : V) (a1 : S_api_Edit) (s21 : Bool) : Option (V × Int) :=
 bif s21 then (
 some (V.nil, 1)
 ) else (
 (zpb a0 a1.f_Way false).bind fun x23 =>
 some (x23.1, x23.2)
 )
noncomputable def zdt (a0 : V) (a1 : S_api_Edit) : Option (V × Int) :=
 bif ((((a1.f_Way).length : Nat) : Int) == 0) then (
 bif (a1.f_What == 1) then (
 some (a1.f_Value, 0)
 ) else (
 some (V.nil, 1)
 )
 ) else (
 (zhi a1.f_Way 0 (IntKind.i64.wrap ((((a1.f_Way).length : Nat) : Int) - 1))).bind fun x7 =>
 (z82 a1.f_Way (IntKind.i64.wrap ((((a1.f_Way).length : Nat) : Int) - 1))).bind fun x8 =>
 bif (a1.f_What == 1) then (
 (zpd a0 a1.f_Way false a1).bind fun x10 =>
 some (x10.1, x10.2)
 ) else (
 bif (a1.f_What == 2) then (
 (zsc a0 x7).bind fun x12 =>
 bif (x12.2 != 0) then (
 some (V.nil, x12.2)
 ) else (
 (z7k x12.1 x8).bind fun x14 =>
 bif (x14.2 == 0) then (
 some (V.nil, 1)
 ) else (
 (zpc a0 a1.f_Way true a1).bind fun x16 =>
 some (x16.1, x16.2)
 )
 )
 ) else (
 (zsc a0 x7).bind fun x17 =>
 bif (x17.2 != 0) then (
 some (V.nil, x17.2)
 ) else (
 (z7k x17.1 x8).bind fun x19 =>
 bif (x19.2 != 0) then (
 some (V.nil, x19.2)
 ) else (
 bif (x17.1).isList then (
 zds a0 a1 (x8.f_Index != (IntKind.i64.wrap (((((x17.1).asList).length : Nat) : Int) - 1)))
 ) else (
 zds a0 a1 false
 )
 )
 )
 )
 )
 )
noncomputable def zdu (a0 : V) (a1 : S_api_Edit) (s1 : Bool) : Option (V × Int) :=
 bif s1 then (
 some (V.nil, 1)
 ) else (
 (zsh a1.f_Way).bind fun x3 =>
 bif (x3 != 0) then (
 some (V.nil, x3)
 ) else (
 bif (a1.f_What != 3) then (
 (zgs a1.f_Value).bind fun x26 =>
 bif (x26.2 != 0) then (
 some (V.nil, x26.2)
 ) else (
 zdt a0 a1
 )
 ) else (
 zdt a0 a1
 )
 )
 )
noncomputable def zsi (a0 : V) (a1 : S_api_Edit) : Option (V × Int) :=
 bif (decide (a1.f_What < 1)) then (
 zdu a0 a1 true
 ) else (
 zdu a0 a1 (decide (a1.f_What > 3))
 )
theorem Z72 (a0 : V) (a1 : S_api_Edit) (r : (V × Int)) (h : zsi a0 a1 = some r) : z0p Tryz.prog 37 [(ofV a0), (z0b a1)] (PV.tup [(ofV r.1), (I64 r.2)]) := by
 unfold zsi at h
 refine z0j Tryz.func37 rfl Tryz.ntmps37 Tryz.results37 rfl (z0n ?_)
 change BW _ _ _ ⟨[(0, (ofV a0)), (1, (z0b a1))], [], _⟩ _
 refine bR ?_
 iterate 2 refine sX ?_
 refine eX ?_
 refine z0f ?_
 refine z2e (ι := Bool) (fun i => zdu a0 a1 i = some r) (fun i => [(0, (ofV a0)), (3, (PV.pt 49 (z0b a1) 0)), (28, (BO i))]) (fun i => []) ?_ ?_ ?_
 intro i; exact ⟨lbE rfl, ⟨(z07 (ids_V _)), ⟨(z07 (z0e _)), ⟨(z07 rfl), trivial⟩⟩⟩, trivial⟩
 rintro s1 h; replace h : zdu a0 a1 s1 = some r := h; unfold zdu at h
 change BW _ _ _ ⟨[(0, (ofV a0)), (3, (PV.pt 49 (z0b a1) 0)), (28, (BO s1))], [], _⟩ _
 refine cX h rfl ?_ ?_
 intro hc2 h
 refine bR ?_
 refine sX ?_
 refine eX ?_
 obtain rfl := eI h; exact z06 ⟨_, rfl, z0r (y := (PV.tup [(ofV V.nil), (I64 1)])) (Wk.tup (.cons (Wk.eq mk_nil.symm) (wkr .nil))) (z00 (ids_V V.nil) (z00 rfl z04)) ⟨rfl, rfl⟩⟩
 intro hc2 h
 refine z0g ?_
 refine cBx ?_
 refine z0f ?_
 refine bR ?_
 iterate 2 refine sX ?_
 obtain ⟨x3, hx3, h⟩ := obind h
 refine sS rfl rfl rfl (z08 rfl Z8k rfl (wkr .nil) ⟨(z05 z02 a1.f_Way), trivial⟩ (Z70 a1.f_Way x3 hx3) rfl) ?_
 refine eX ?_
 refine bR ?_
 refine sX ?_
 refine eX ?_
 refine cX h rfl ?_ ?_
 intro hc4 h
 refine bR ?_
 iterate 2 refine sX ?_
 refine eX ?_
 obtain rfl := eI h; exact z06 ⟨_, rfl, z0r (y := (PV.tup [(ofV V.nil), (I64 x3)])) (Wk.tup (.cons (Wk.eq mk_nil.symm) (wkr .nil))) (z00 (ids_V V.nil) (z00 rfl z04)) ⟨rfl, rfl⟩⟩
 intro hc4 h
 refine z0g ?_
 refine cBx ?_
 refine z2e (ι := Unit) (fun i => zdt a0 a1 = some r) (fun i => [(0, (ofV a0)), (3, (PV.pt 49 (z0b a1) 0))]) (fun i => []) ?_ ?_ ?_
 intro i; exact ⟨lbE rfl, ⟨(z07 (ids_V _)), ⟨(z07 (z0e _)), trivial⟩⟩, trivial⟩
 rintro ⟨⟩ h; replace h : zdt a0 a1 = some r := h; unfold zdt at h
 change BW _ _ _ ⟨[(0, (ofV a0)), (3, (PV.pt 49 (z0b a1) 0))], [], _⟩ _
 refine z0f ?_
 refine bR ?_
 iterate 3 refine sX ?_
 refine eX ?_
 refine cX h rfl ?_ ?_
 intro hc5 h
 refine z0f ?_
 refine bR ?_
 iterate 2 refine sX ?_
 refine eX ?_
 refine cX h rfl ?_ ?_
 intro hc6 h
 refine bR ?_
 iterate 3 refine sX ?_
 refine eX ?_
 obtain rfl := eI h; exact z06 ⟨_, rfl, z0r (y := (PV.tup [(ofV a1.f_Value), (I64 0)])) (Wk.refl _) (z00 (ids_V a1.f_Value) (z00 rfl z04)) ⟨rfl, rfl⟩⟩
 intro hc6 h
 refine z0g ?_
 refine cBx ?_
 refine bR ?_
 refine sX ?_
 refine eX ?_
 obtain rfl := eI h; exact z06 ⟨_, rfl, z0r (y := (PV.tup [(ofV V.nil), (I64 1)])) (Wk.tup (.cons (Wk.eq mk_nil.symm) (wkr .nil))) (z00 (ids_V V.nil) (z00 rfl z04)) ⟨rfl, rfl⟩⟩
 intro hc5 h
 refine z0g ?_
 refine cBx ?_
 refine z0f (z1w 17 [15] [] mo (by kernel_rfl) ?_)
 iterate 5 refine gX ?_
 refine z1r rfl rfl rfl rfl (fun H hp => z97 rfl rfl rfl) ?_
 obtain ⟨x7, hx7, h⟩ := obind h
 refine z1r rfl rfl rfl rfl (fun H hp => zcw (a := 0) (b := (IntKind.i64.wrap ((((a1.f_Way).length : Nat) : Int) - 1))) Tryz.underlying47 z1u rfl rfl rfl rfl rfl rfl hx7) ?_
 iterate 5 refine gX ?_
 refine z1r rfl rfl rfl rfl (fun H hp => z97 rfl rfl rfl) ?_
 obtain ⟨x8, hx8, h⟩ := obind h
 refine z1r rfl rfl rfl rfl (fun H hp => z26 Tryz.underlying47 z1u rfl rfl rfl hx8 rfl) ?_
 refine gX ?_
 refine zci rfl rfl rfl rfl (z1h z1u rfl) trivial ?_
 refine gX ?_
 refine z20 ?_
 change AO _ _ _ _ _
 refine z14 rfl rfl (z0y z1u rfl rfl rfl rfl rfl rfl (lbE rfl) rfl) ?_
 refine z0h ?_
 refine cBx ?_
 refine z0f ?_
 refine bR ?_
 refine sX ?_
 refine eX ?_
 refine z0o ?_
 refine cBx ?_
 refine bR ?_
 refine sX ?_
 refine eX ?_
 refine cX h rfl ?_ ?_
 intro hc9 h
 refine bR ?_
 iterate 3 refine sX ?_
 refine sS rfl rfl rfl (ze8 rfl rfl rfl) ?_
 obtain ⟨x10, hx10, h⟩ := obind h
 refine sS rfl rfl rfl (z08 rfl zq0 rfl (wkr (wkr (wkr (wkr .nil)))) ⟨(ids_V a0), ⟨(z05 z02 a1.f_Way), ⟨rfl, ⟨(z3a (z39 (z0e a1) rfl)), trivial⟩⟩⟩⟩ (Z7s a0 a1.f_Way false a1 x10 hx10) (z00 (ids_V x10.1) (z00 rfl z04))) ?_
 iterate 3 refine sX ?_
 refine eX ?_
 obtain rfl := eI h; exact z06 ⟨_, rfl, z0r (y := (PV.tup [(ofV x10.1), (I64 x10.2)])) (Wk.refl _) (z00 (ids_V x10.1) (z00 rfl z04)) ⟨rfl, rfl⟩⟩
 intro hc9 h
 refine bR ?_
 refine sX ?_
 refine eX ?_
 refine cX h rfl ?_ ?_
 intro hc11 h
 refine bR ?_
 iterate 2 refine sX ?_
 obtain ⟨x12, hx12, h⟩ := obind h
 refine sS rfl rfl rfl (z08 rfl Z5i rfl (wkr (wkr .nil)) ⟨(ids_V a0), ⟨(z05 z02 x7), trivial⟩⟩ (Z3w a0 x7 x12 hx12) (z00 (ids_V x12.1) (z00 rfl z04))) ?_
 iterate 4 refine sX ?_
 refine eX ?_
 refine z0f ?_
 refine bR ?_
 refine sX ?_
 refine eX ?_
 refine cX h rfl ?_ ?_
 intro hc13 h
 refine bR ?_
 iterate 2 refine sX ?_
 refine eX ?_
 obtain rfl := eI h; exact z06 ⟨_, rfl, z0r (y := (PV.tup [(ofV V.nil), (I64 x12.2)])) (Wk.tup (.cons (Wk.eq mk_nil.symm) (wkr .nil))) (z00 (ids_V V.nil) (z00 rfl z04)) ⟨rfl, rfl⟩⟩
 intro hc13 h
 refine z0g ?_
 refine cBx ?_
 refine z0f ?_
 refine bR ?_
 iterate 2 refine sX ?_
 obtain ⟨x14, hx14, h⟩ := obind h
 refine sS rfl rfl rfl (z08 rfl zh9 rfl (wkr (wkr .nil)) ⟨(ids_V x12.1), ⟨(z02 x8), trivial⟩⟩ (zgk x12.1 x8 x14 hx14) (z00 (ids_V x14.1) (z00 rfl z04))) ?_
 iterate 4 refine sX ?_
 refine eX ?_
 refine bR ?_
 refine sX ?_
 refine eX ?_
 refine cX h rfl ?_ ?_
 intro hc15 h
 refine bR ?_
 refine sX ?_
 refine eX ?_
 obtain rfl := eI h; exact z06 ⟨_, rfl, z0r (y := (PV.tup [(ofV V.nil), (I64 1)])) (Wk.tup (.cons (Wk.eq mk_nil.symm) (wkr .nil))) (z00 (ids_V V.nil) (z00 rfl z04)) ⟨rfl, rfl⟩⟩
 intro hc15 h
 refine z0g ?_
 refine cBx ?_
 refine bR ?_
 iterate 3 refine sX ?_
 refine sS rfl rfl rfl (ze8 rfl rfl rfl) ?_
 obtain ⟨x16, hx16, h⟩ := obind h
 refine sS rfl rfl rfl (z08 rfl zq0 rfl (wkr (wkr (wkr (wkr .nil)))) ⟨(ids_V a0), ⟨(z05 z02 a1.f_Way), ⟨rfl, ⟨(z3a (z39 (z0e a1) rfl)), trivial⟩⟩⟩⟩ (Z7r a0 a1.f_Way true a1 x16 hx16) (z00 (ids_V x16.1) (z00 rfl z04))) ?_
 iterate 3 refine sX ?_
 refine eX ?_
 obtain rfl := eI h; exact z06 ⟨_, rfl, z0r (y := (PV.tup [(ofV x16.1), (I64 x16.2)])) (Wk.refl _) (z00 (ids_V x16.1) (z00 rfl z04)) ⟨rfl, rfl⟩⟩
 intro hc11 h
 refine z0g ?_
 refine cBx ?_
 refine bR ?_
 iterate 2 refine sX ?_
 obtain ⟨x17, hx17, h⟩ := obind h
 refine sS rfl rfl rfl (z08 rfl Z5i rfl (wkr (wkr .nil)) ⟨(ids_V a0), ⟨(z05 z02 x7), trivial⟩⟩ (Z3w a0 x7 x17 hx17) (z00 (ids_V x17.1) (z00 rfl z04))) ?_
 iterate 4 refine sX ?_
 refine eX ?_
 refine z0f ?_
 refine bR ?_
 refine sX ?_
 refine eX ?_
 refine cX h rfl ?_ ?_
 intro hc18 h
 refine bR ?_
 iterate 2 refine sX ?_
 refine eX ?_
 obtain rfl := eI h; exact z06 ⟨_, rfl, z0r (y := (PV.tup [(ofV V.nil), (I64 x17.2)])) (Wk.tup (.cons (Wk.eq mk_nil.symm) (wkr .nil))) (z00 (ids_V V.nil) (z00 rfl z04)) ⟨rfl, rfl⟩⟩
 intro hc18 h
 refine z0g ?_
 refine cBx ?_
 refine z0f ?_
 refine bR ?_
 iterate 2 refine sX ?_
 obtain ⟨x19, hx19, h⟩ := obind h
 refine sS rfl rfl rfl (z08 rfl zh9 rfl (wkr (wkr .nil)) ⟨(ids_V x17.1), ⟨(z02 x8), trivial⟩⟩ (zgk x17.1 x8 x19 hx19) (z00 (ids_V x19.1) (z00 rfl z04))) ?_
 iterate 4 refine sX ?_
 refine eX ?_
 refine bR ?_
 refine sX ?_
 refine eX ?_
 refine cX h rfl ?_ ?_
 intro hc20 h
 refine bR ?_
 iterate 2 refine sX ?_
 refine eX ?_
 obtain rfl := eI h; exact z06 ⟨_, rfl, z0r (y := (PV.tup [(ofV V.nil), (I64 x19.2)])) (Wk.tup (.cons (Wk.eq mk_nil.symm) (wkr .nil))) (z00 (ids_V V.nil) (z00 rfl z04)) ⟨rfl, rfl⟩⟩
 intro hc20 h
 refine z0g ?_
 refine cBx ?_
 refine z0f ?_
 refine bR ?_
 refine sX ?_
 refine sS rfl rfl rfl (z1x rfl rfl) ?_
 iterate 4 refine sX ?_
 refine eX ?_
 refine z2e (ι := Bool) (fun i => zds a0 a1 i = some r) (fun i => [(0, (ofV a0)), (3, (PV.pt 49 (z0b a1) 0)), (139, (BO i))]) (fun i => []) ?_ ?_ ?_
 intro i; exact ⟨lbE rfl, ⟨(z07 (ids_V _)), ⟨(z07 (z0e _)), ⟨(z07 rfl), trivial⟩⟩⟩, trivial⟩
 rintro s21 h; replace h : zds a0 a1 s21 = some r := h; unfold zds at h
 change BW _ _ _ ⟨[(0, (ofV a0)), (3, (PV.pt 49 (z0b a1) 0)), (139, (BO s21))], [], _⟩ _
 refine cX h rfl ?_ ?_
 intro hc22 h
 refine bR ?_
 refine sX ?_
 refine eX ?_
 obtain rfl := eI h; exact z06 ⟨_, rfl, z0r (y := (PV.tup [(ofV V.nil), (I64 1)])) (Wk.tup (.cons (Wk.eq mk_nil.symm) (wkr .nil))) (z00 (ids_V V.nil) (z00 rfl z04)) ⟨rfl, rfl⟩⟩
 intro hc22 h
 refine z0g ?_
 refine cBx ?_
 refine bR ?_
 iterate 3 refine sX ?_
 obtain ⟨x23, hx23, h⟩ := obind h
 refine sS rfl rfl rfl (z08 rfl zq0 rfl (wkr (wkr (wkr (wkr .nil)))) ⟨(ids_V a0), ⟨(z05 z02 a1.f_Way), ⟨rfl, ⟨rfl, trivial⟩⟩⟩⟩ (Z7q a0 a1.f_Way false x23 hx23) (z00 (ids_V x23.1) (z00 rfl z04))) ?_
 iterate 3 refine sX ?_
 refine eX ?_
 obtain rfl := eI h; exact z06 ⟨_, rfl, z0r (y := (PV.tup [(ofV x23.1), (I64 x23.2)])) (Wk.refl _) (z00 (ids_V x23.1) (z00 rfl z04)) ⟨rfl, rfl⟩⟩
 refine z0l ?_
 iterate 2 refine sX ?_
 refine z0t (t := 132) rfl ?_ ?_
 intro hb24; replace h := z10 hb24 h
 iterate 4 refine yX ?_
 refine z23 rfl rfl rfl rfl rfl rfl (z97 rfl rfl rfl) ?_
 refine yX ?_
 refine sX (z0h ?_)
 exact ⟨rfl, (x8.f_Index != (IntKind.i64.wrap (((((x17.1).asList).length : Nat) : Int) - 1))), h, jN⟩
 intro hb24; replace h := z11 hb24 h
 iterate 6 refine nX ?_
 refine sX (z0h ?_)
 exact ⟨rfl, false, h, jN⟩
 refine bR ?_
 iterate 2 refine sX ?_
 refine eX ?_
 refine cX h rfl ?_ ?_
 intro hc25 h
 refine bR ?_
 iterate 2 refine sX ?_
 obtain ⟨x26, hx26, h⟩ := obind h
 refine sS rfl rfl rfl (z08 rfl zub rfl (wkr .nil) ⟨(ids_V a1.f_Value), trivial⟩ (zr5 a1.f_Value x26 hx26) (z00 rfl (z00 rfl z04))) ?_
 iterate 4 refine sX ?_
 refine eX ?_
 refine bR ?_
 refine sX ?_
 refine eX ?_
 refine cX h rfl ?_ ?_
 intro hc27 h
 refine bR ?_
 iterate 2 refine sX ?_
 refine eX ?_
 obtain rfl := eI h; exact z06 ⟨_, rfl, z0r (y := (PV.tup [(ofV V.nil), (I64 x26.2)])) (Wk.tup (.cons (Wk.eq mk_nil.symm) (wkr .nil))) (z00 (ids_V V.nil) (z00 rfl z04)) ⟨rfl, rfl⟩⟩
 intro hc27 h
 refine z0g ?_
 exact ⟨rfl, (), h, jN⟩
 intro hc25 h
 refine z0g ?_
 exact ⟨rfl, (), h, jN⟩
 refine z4v 0 3 (y := (PV.pt 49 (z0b a1) 0)) rfl rfl (Wk.pt (x := .agg [(I64 a1.f_What), (PV.sl none 82 3 (List.map z01 a1.f_Way)), (ofV a1.f_Value)]) (y := (z0b a1)) (wkr (wkr (wkr .nil)))) ?_
 refine z0l ?_
 iterate 4 refine sX ?_
 refine z0t (t := 24) rfl ?_ ?_
 intro hb28; replace h := z10 hb28 h
 iterate 3 refine nX ?_
 refine sX (z0h ?_)
 exact ⟨rfl, true, h, jN⟩
 intro hb28; replace h := z11 hb28 h
 iterate 3 refine yX ?_
 refine sX (z0h ?_)
 exact ⟨rfl, (decide (a1.f_What > 3)), h, jN⟩
noncomputable def z7d (a1 : (List S_api_Edit)) (g1 : V → Nat → Option (V × Int)) (s3 : V) (s4 : Nat) : Option (V × Int) :=
 bif (decide (((s4 : Nat) : Int) < (((a1).length : Nat) : Int))) then (
 ((a1)[s4]?).bind fun x7 =>
 (zsi s3 x7).bind fun x8 =>
 bif (x8.2 != 0) then (
 some (V.nil, x8.2)
 ) else (
 g1 x8.1 (s4 + 1)
 )
 ) else (
 (ze1 s3).bind fun x10 =>
 some (x10.1, x10.2)
 )
theorem zos (g1 : OF ρ → V → Nat → Option (V × Int)) (h_g1 : ∀ y0 y1, CM (fun G => g1 G y0 y1)) (a1 : (List S_api_Edit)) (s3 : V) (s4 : Nat) : CM (fun G : OF ρ => z7d a1 (g1 G) s3 s4) := by
 simp only [z7d]
 repeat (first | exact z0i | exact h_g1 _ _ | refine z18 ?_ ?_ | refine z19 ?_ (fun _ => ?_))
noncomputable def zi4 (a1 : (List S_api_Edit)) (s3 : V) (s4 : Nat) : Option (V × Int) :=
 z3q (ι := (V × Nat)) (ρ := fun _ => (V × Int)) (fun g i => z7d a1 (fun s3 s4 => g (s3, s4)) i.1 i.2) (s3, s4)
theorem zi3 (a1 : (List S_api_Edit)) (s3 : V) (s4 : Nat) : zi4 a1 s3 s4 = z7d a1 (zi4 a1) s3 s4 :=
 z1j (ι := (V × Nat)) (ρ := fun _ => (V × Int)) (Φ := fun g i => z7d a1 (fun s3 s4 => g (s3, s4)) i.1 i.2) (fun i => zos (ι := (V × Nat)) (ρ := fun _ => (V × Int)) (fun g => (fun s3 s4 => g (s3, s4))) (fun _ _ => z1l) a1 i.1 i.2) (s3, s4)
noncomputable def zky (a0 : V) (a1 : (List S_api_Edit)) : Option (V × Int) :=
 (zgs a0).bind fun x1 =>
 bif (x1.2 != 0) then (
 some (V.nil, x1.2)
 ) else (
 zi4 a1 a0 0
 )
theorem Z74 (a0 : V) (a1 : (List S_api_Edit)) (r : (V × Int)) (h : zky a0 a1 = some r) : z0p Tryz.prog 19 [(ofV a0), (PV.sl none 49 3 (List.map z0b a1))] (PV.tup [(ofV r.1), (I64 r.2)]) := by
 unfold zky at h
 refine z0j Tryz.func19 rfl Tryz.ntmps19 Tryz.results19 rfl (z0n ?_)
 change BW _ _ _ ⟨[(0, (ofV a0)), (1, (PV.sl none 49 3 (List.map z0b a1)))], [], _⟩ _
 refine bR ?_
 refine sX ?_
 refine eX ?_
 refine z0f ?_
 refine bR ?_
 refine sX ?_
 obtain ⟨x1, hx1, h⟩ := obind h
 refine sS rfl rfl rfl (z08 rfl zub rfl (wkr .nil) ⟨(ids_V a0), trivial⟩ (zr5 a0 x1 hx1) (z00 rfl (z00 rfl z04))) ?_
 iterate 4 refine sX ?_
 refine eX ?_
 refine bR ?_
 refine sX ?_
 refine eX ?_
 refine cX h rfl ?_ ?_
 intro hc2 h
 refine bR ?_
 iterate 2 refine sX ?_
 refine eX ?_
 obtain rfl := eI h; exact z06 ⟨_, rfl, z0r (y := (PV.tup [(ofV V.nil), (I64 x1.2)])) (Wk.tup (.cons (Wk.eq mk_nil.symm) (wkr .nil))) (z00 (ids_V V.nil) (z00 rfl z04)) ⟨rfl, rfl⟩⟩
 intro hc2 h
 refine z0g ?_
 refine cBx ?_
 refine z0f ?_
 refine bR ?_
 iterate 2 refine sX ?_
 refine eX ?_
 refine z0o ?_
 refine cBx ?_
 unfold zi4 at h
 refine z3p (σ := (V × Nat)) (fun i => [(0, (ofV i.1)), (20, (PV.sl none 49 3 (List.map z0b a1))), (21, (I64 ((((a1).length : Nat) : Int)))), (22, (I64 (((i.2 : Nat) : Int))))]) (fun i => []) (a0, 0) h ?_ ?_ ?_
 intro i; exact ⟨lbE rfl, ⟨(z07 (ids_V _)), ⟨(z07 (z05 z0e _)), ⟨(z07 rfl), ⟨(z07 rfl), trivial⟩⟩⟩⟩, trivial⟩
 exact jN
 rintro g1_f ⟨s3, s4⟩ h; replace h : z7d a1 (fun y0 y1 => g1_f (y0, y1)) s3 s4 = some r := h; unfold z7d at h
 change BW _ _ _ ⟨[(0, (ofV s3)), (20, (PV.sl none 49 3 (List.map z0b a1))), (21, (I64 ((((a1).length : Nat) : Int)))), (22, (I64 (((s4 : Nat) : Int))))], [], _⟩ _
 refine bR ?_
 refine eX ?_
 refine z0f ?_
 refine z4a (t := 20) rfl fun hb6 => ?_
 try rw [List.length_map] at hb6
 refine cX h rfl ?_ ?_
 intro hc5 h
 have hc5_ := of_decide_eq_true hc5
 refine z0g ?_
 refine cBx ?_
 refine z0f ?_
 refine z0o ?_
 refine cBx ?_
 refine bR ?_
 obtain ⟨x7, hx7, h⟩ := obind h
 refine sS rfl rfl rfl (z1p (i := s4) Tryz.underlying41 zcg rfl rfl rfl hx7 rfl) ?_
 refine sX ?_
 refine sS rfl rfl rfl ((z1h zcg rfl).cast (H'' := [.box 49 [(I64 0), (PV.v (.slice none 0 0)), (ofV V.nil)]]) rfl (by simp only [mk_nil]; rfl)) ?_
 refine z14 rfl rfl (z0y zcg rfl rfl rfl rfl rfl rfl (lbE rfl) (by show List.all [(I64 x7.f_What), (PV.sl none 82 3 (List.map z01 x7.f_Way)), (ofV x7.f_Value)] z45 = true; simp only [List.all_cons, List.all_nil, z3w, z1q, Bool.and_true, Bool.true_and]; try rfl)) ?_
 refine z0h ?_
 refine cBx ?_
 refine bR ?_
 iterate 2 refine sX ?_
 obtain ⟨x8, hx8, h⟩ := obind h
 refine sS rfl rfl rfl (z08 rfl Z8n rfl (wkr (wkr .nil)) ⟨(ids_V s3), ⟨(z0e x7), trivial⟩⟩ (Z72 s3 x7 x8 hx8) (z00 (ids_V x8.1) (z00 rfl z04))) ?_
 iterate 4 refine sX ?_
 refine eX ?_
 refine z0f ?_
 refine bR ?_
 refine sX ?_
 refine eX ?_
 refine cX h rfl ?_ ?_
 intro hc9 h
 refine bR ?_
 iterate 2 refine sX ?_
 refine eX ?_
 obtain rfl := eI h; exact z06 ⟨_, rfl, z0r (y := (PV.tup [(ofV V.nil), (I64 x8.2)])) (Wk.tup (.cons (Wk.eq mk_nil.symm) (wkr .nil))) (z00 (ids_V V.nil) (z00 rfl z04)) ⟨rfl, rfl⟩⟩
 intro hc9 h
 refine z0g ?_
 refine cBx ?_
 refine z0l ?_
 refine sX ?_
 refine eX ?_
 refine z0l ?_
 refine sS rfl rfl rfl (z2o (k := s4) (c := 1) rfl rfl rfl (by omega)) ?_
 refine sX (z0h ?_)
 exact ⟨rfl, (x8.1, (s4 + 1)), h, jN⟩
 intro hc5 h
 refine z2b ?_
 refine cBx ?_
 refine bR ?_
 refine sX ?_
 obtain ⟨x10, hx10, h⟩ := obind h
 refine sS rfl rfl rfl (z08 rfl Z2f rfl (wkr .nil) ⟨(ids_V s3), trivial⟩ (Z0k s3 x10 hx10) (z00 (ids_V x10.1) (z00 rfl z04))) ?_
 iterate 3 refine sX ?_
 refine eX ?_
 obtain rfl := eI h; exact z06 ⟨_, rfl, z0r (y := (PV.tup [(ofV x10.1), (I64 x10.2)])) (Wk.refl _) (z00 (ids_V x10.1) (z00 rfl z04)) ⟨rfl, rfl⟩⟩
end Go.Proofs.YtmoijodjgkfhgaaGreat
