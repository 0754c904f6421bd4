/- Pure functions, and that calls answer as they say. -/
import Derived.Test.YthidgpcbnieleaaG4
namespace Go.Proofs.Ythidgpcbnieleaa
open Go Aw
set_option linter.unusedVariables false
set_option linter.unusedSimpArgs false
set_option maxRecDepth 20000
set_option maxHeartbeats 2000000
variable {ι : Type} {ρ : ι → Type}
noncomputable def zi5 (a0 a3c0 : V) (x1 : S_api_Step) (s4 : Int) : Option (V × Int) :=
 bif (s4 != 0) then (
 some (V.nil, s4)
 ) else (
 (znf a0 x1 a3c0).bind fun x6 =>
 some (x6, 0)
 )
noncomputable def zbd (a0 a3c0 : V) (x1 : S_api_Step) (x3 : (V × Int)) (s7 : Bool) : Option (V × Int) :=
 bif s7 then (
 zi5 a0 a3c0 x1 0
 ) else (
 zi5 a0 a3c0 x1 x3.2
 )
noncomputable def zo5 (r_q05 : V → (List S_api_Step) → Bool → V → Option (V × Int)) (a0 : V) (a1 : (List S_api_Step)) (a2 : Bool) (a3c0 : V) : Option (V × Int) :=
 ((a1)[0]?).bind fun x1 =>
 bif ((((a1).length : Nat) : Int) == 1) then (
 (z8g a0 x1).bind fun x3 =>
 bif a2 then (
 bif (x3.2 == 40) then (
 zbd a0 a3c0 x1 x3 true
 ) else (
 bif (x3.2 == 42) then (
 bif (a0).isList then (
 zbd a0 a3c0 x1 x3 (x1.f_Index == ((((a0).asList).length : Nat) : Int))
 ) else (
 zbd a0 a3c0 x1 x3 false
 )
 ) else (
 zbd a0 a3c0 x1 x3 false
 )
 )
 ) else (
 zbd a0 a3c0 x1 x3 false
 )
 ) else (
 (z8g a0 x1).bind fun x13 =>
 bif (x13.2 != 0) then (
 some (V.nil, x13.2)
 ) else (
 (z83 a1 1 ((a1).length : Int)).bind fun x15 =>
 (r_q05 x13.1 x15 a2 a3c0).bind fun x16 =>
 bif (x16.2 != 0) then (
 some (V.nil, x16.2)
 ) else (
 (zdy a0 x1 x16.1).bind fun x18 =>
 some (x18, 0)
 )
 )
 )
theorem zvb (r_q05 : OF ρ → V → (List S_api_Step) → Bool → V → Option (V × Int)) (h_r_q05 : ∀ y0 y1 y2 y3, CM (fun G => r_q05 G y0 y1 y2 y3)) (a0 : V) (a1 : (List S_api_Step)) (a2 : Bool) (a3c0 : V) : CM (fun G : OF ρ => zo5 (r_q05 G) a0 a1 a2 a3c0) := by
 simp only [zo5]
 repeat (first | exact z0h | exact h_r_q05 _ _ _ _ | apply q05_j2_cm | refine z10 ?_ ?_ | refine z11 ?_ (fun _ => ?_) | intro _ | assumption)
inductive C_q05 where
 | k_q05 (a0 : V) (a1 : (List S_api_Step)) (a2 : Bool) (a3c0 : V)
def C_q05.R : C_q05 → Type
 | .k_q05 _ _ _ _ => (V × Int)
noncomputable def C_q05.F (g : ∀ i : C_q05, Option i.R) : ∀ i : C_q05, Option i.R
 | .k_q05 a0 a1 a2 a3c0 => zo5 (fun a0 a1 a2 a3c0 => g (.k_q05 a0 a1 a2 a3c0)) a0 a1 a2 a3c0
noncomputable def znm (a0 : V) (a1 : (List S_api_Step)) (a2 : Bool) (a3c0 : V) : Option (V × Int) := z3b C_q05.F (.k_q05 a0 a1 a2 a3c0)
abbrev gg8 := fun (g : ∀ i : C_q05, Option i.R) a0 a1 a2 a3c0 => g (.k_q05 a0 a1 a2 a3c0)
theorem hh8 (a0 a1 a2 a3c0 : _) : CM (ρ := C_q05.R) (fun g => g (C_q05.k_q05 a0 a1 a2 a3c0)) := z1i
theorem C_q05.cm (i : C_q05) : CM (fun g : (∀ i : C_q05, Option i.R) => C_q05.F g i) := by
 cases i with
 | k_q05 a0 a1 a2 a3c0 => exact zvb gg8 hh8 a0 a1 a2 a3c0
theorem Z57 (a0 : V) (a1 : (List S_api_Step)) (a2 : Bool) (a3c0 : V) : znm a0 a1 a2 a3c0 = zo5 znm a0 a1 a2 a3c0 := z1f C_q05.cm (.k_q05 a0 a1 a2 a3c0)
def C_q05.Q : ∀ i : C_q05, i.R → Prop
 | .k_q05 a0 a1 a2 a3c0 => fun (r : (V × Int)) => z0o Try.prog 44 [(ofV a0), (PV.sl none 76 3 (List.map z01 a1)), (BO a2), (PV.fn (.func 45) [] [(PV.pt 20 (ofV a3c0) 0)])] (PV.tup [(ofV r.1), (I64 r.2)])
theorem z5h (r_q05 : V → (List S_api_Step) → Bool → V → Option (V × Int)) (c_q05 : ∀ (a0 : V) (a1 : (List S_api_Step)) (a2 : Bool) (a3c0 : V) r, r_q05 a0 a1 a2 a3c0 = some r → z0o Try.prog 44 [(ofV a0), (PV.sl none 76 3 (List.map z01 a1)), (BO a2), (PV.fn (.func 45) [] [(PV.pt 20 (ofV a3c0) 0)])] (PV.tup [(ofV r.1), (I64 r.2)])) (a0 : V) (a1 : (List S_api_Step)) (a2 : Bool) (a3c0 : V) (r : (V × Int)) (h : zo5 r_q05 a0 a1 a2 a3c0 = some r) : z0o Try.prog 44 [(ofV a0), (PV.sl none 76 3 (List.map z01 a1)), (BO a2), (PV.fn (.func 45) [] [(PV.pt 20 (ofV a3c0) 0)])] (PV.tup [(ofV r.1), (I64 r.2)]) := by
 unfold zo5 at h
 refine z0j Try.func44 rfl Try.ntmps44 Try.results44 rfl (z0q ?_)
 change BW _ _ _ ⟨[(0, (ofV a0)), (1, (PV.sl none 76 3 (List.map z01 a1))), (2, (BO a2)), (3, (PV.fn (.func 45) [] [(PV.pt 20 (ofV a3c0) 0)]))], [], _⟩ _
 refine bR ?_
 refine sX ?_
 refine eX ?_
 refine bR ?_
 refine sX ?_
 obtain ⟨x1, hx1, h⟩ := obind h
 refine sS rfl rfl rfl (z1d (i := 0) Try.underlying37 z1w rfl rfl rfl hx1 rfl) ?_
 refine sX ?_
 refine sS rfl rfl rfl (z1b z1w rfl) ?_
 refine z0l rfl rfl (z0g z1w rfl rfl rfl rfl rfl rfl (lbE rfl) rfl) ?_
 refine z08 ?_
 refine cBx ?_
 refine z0d ?_
 refine bR ?_
 iterate 2 refine sX ?_
 refine eX ?_
 refine cX h rfl ?_ ?_
 intro hc2 h
 refine bR ?_
 iterate 2 refine sX ?_
 obtain ⟨x3, hx3, h⟩ := obind h
 refine sS rfl rfl rfl (z03 rfl zs5 rfl (wkr (wkr .nil)) ⟨(ids_V a0), ⟨(z07 x1), trivial⟩⟩ (zos a0 x1 x3 hx3) (z00 (ids_V x3.1) (z00 rfl z05))) ?_
 iterate 4 refine sX ?_
 refine eX ?_
 refine bR ?_
 refine sX ?_
 refine sS rfl rfl rfl (z2t rfl rfl) ?_
 iterate 4 refine sX ?_
 refine eX ?_
 refine z2l (ι := Int) (fun i => zi5 a0 a3c0 x1 i = some r) (fun i => [(0, (ofV a0)), (3, (PV.fn (.func 45) [] [(PV.pt 20 (ofV a3c0) 0)])), (10, (PV.rf 0 0)), (12, (I64 i))]) (fun i => [.box 76 [(z0k x1.f_Name), (BO x1.f_At), (I64 x1.f_Index)]]) ?_ ?_ ?_
 intro i; exact ⟨lbE rfl, ⟨(z02 (ids_V _)), ⟨(z02 (zk5 (zk4 (ids_V a3c0) rfl))), ⟨(il_rf rfl), ⟨(z02 rfl), trivial⟩⟩⟩⟩, ⟨⟨(z02 rfl), ⟨(z02 rfl), ⟨(z02 rfl), trivial⟩⟩⟩, trivial⟩⟩
 rintro s4 h; replace h : zi5 a0 a3c0 x1 s4 = some r := h; unfold zi5 at h
 change BW _ _ _ ⟨[(0, (ofV a0)), (3, (PV.fn (.func 45) [] [(PV.pt 20 (ofV a3c0) 0)])), (10, (PV.rf 0 0)), (12, (I64 s4))], [.box 76 [(z0k x1.f_Name), (BO x1.f_At), (I64 x1.f_Index)]], _⟩ _
 refine z0d ?_
 refine bR ?_
 refine sX ?_
 refine eX ?_
 refine cX h rfl ?_ ?_
 intro hc5 h
 refine bR ?_
 iterate 2 refine sX ?_
 refine eX ?_
 obtain rfl := eI h; exact z04 ⟨_, rfl, z0p (y := (PV.tup [(ofV V.nil), (I64 s4)])) (Wk.tup (.cons (Wk.eq mk_nil.symm) (wkr .nil))) (z00 (ids_V V.nil) (z00 rfl z05)) ⟨rfl, rfl⟩⟩
 intro hc5 h
 refine z0c ?_
 refine cBx ?_
 refine bR ?_
 iterate 3 refine sX ?_
 obtain ⟨x6, hx6, h⟩ := obind h
 refine sS rfl rfl rfl (zap rfl rfl Z4j rfl (wkr (wkr (wkr .nil))) ⟨(ids_V a0), ⟨(z07 x1), ⟨(zy2 (ids_V a3c0)), trivial⟩⟩⟩ (Z38 a0 x1 a3c0 x6 hx6) (ids_V x6)) ?_
 refine sX ?_
 refine eX ?_
 obtain rfl := eI h; exact z04 ⟨_, rfl, z0p (y := (PV.tup [(ofV x6), (I64 0)])) (Wk.refl _) (z00 (ids_V x6) (z00 rfl z05)) ⟨rfl, rfl⟩⟩
 refine z2l (ι := Bool) (fun i => zbd a0 a3c0 x1 x3 i = some r) (fun i => [(0, (ofV a0)), (3, (PV.fn (.func 45) [] [(PV.pt 20 (ofV a3c0) 0)])), (10, (PV.rf 0 0)), (12, (I64 x3.2)), (53, (BO i))]) (fun i => [.box 76 [(z0k x1.f_Name), (BO x1.f_At), (I64 x1.f_Index)]]) ?_ ?_ ?_
 intro i; exact ⟨lbE rfl, ⟨(z02 (ids_V _)), ⟨(z02 (zk5 (zk4 (ids_V a3c0) rfl))), ⟨(il_rf rfl), ⟨(z02 rfl), ⟨(z02 rfl), trivial⟩⟩⟩⟩⟩, ⟨⟨(z02 rfl), ⟨(z02 rfl), ⟨(z02 rfl), trivial⟩⟩⟩, trivial⟩⟩
 rintro s7 h; replace h : zbd a0 a3c0 x1 x3 s7 = some r := h; unfold zbd at h
 change BW _ _ _ ⟨[(0, (ofV a0)), (3, (PV.fn (.func 45) [] [(PV.pt 20 (ofV a3c0) 0)])), (10, (PV.rf 0 0)), (12, (I64 x3.2)), (53, (BO s7))], [.box 76 [(z0k x1.f_Name), (BO x1.f_At), (I64 x1.f_Index)]], _⟩ _
 refine cX h rfl ?_ ?_
 intro hc8 h
 refine z0e ?_
 refine sX (z08 ?_)
 exact ⟨rfl, 0, h, jN⟩
 intro hc8 h
 refine z0c ?_
 exact ⟨rfl, x3.2, h, jN⟩
 refine z0e ?_
 iterate 2 refine sX ?_
 refine z0n (t := 36) rfl ?_ ?_
 intro hb9; replace h := z0t hb9 h
 iterate 3 refine yX ?_
 refine z0n (t := 39) rfl ?_ ?_
 intro hb10; replace h := z0t hb10 h
 iterate 12 refine nX ?_
 refine yX ?_
 refine sX (z08 ?_)
 exact ⟨rfl, true, h, jN⟩
 intro hb10; replace h := z0u hb10 h
 iterate 3 refine yX ?_
 refine z0n (t := 42) rfl ?_ ?_
 intro hb11; replace h := z0t hb11 h
 iterate 3 refine yX ?_
 refine z0n (t := 45) rfl ?_ ?_
 intro hb12; replace h := z0t hb12 h
 iterate 7 refine yX ?_
 refine sX (z08 ?_)
 exact ⟨rfl, (x1.f_Index == ((((a0).asList).length : Nat) : Int)), h, jN⟩
 intro hb12; replace h := z0u hb12 h
 iterate 5 refine nX ?_
 iterate 2 refine yX ?_
 refine sX (z08 ?_)
 exact ⟨rfl, false, h, jN⟩
 intro hb11; replace h := z0u hb11 h
 refine nX ?_
 iterate 2 refine yX ?_
 iterate 5 refine nX ?_
 iterate 2 refine yX ?_
 refine sX (z08 ?_)
 exact ⟨rfl, false, h, jN⟩
 intro hb9; replace h := z0u hb9 h
 iterate 16 refine nX ?_
 refine sX (z08 ?_)
 exact ⟨rfl, false, h, jN⟩
 intro hc2 h
 refine z0c ?_
 refine cBx ?_
 refine bR ?_
 iterate 2 refine sX ?_
 obtain ⟨x13, hx13, h⟩ := obind h
 refine sS rfl rfl rfl (z03 rfl zs5 rfl (wkr (wkr .nil)) ⟨(ids_V a0), ⟨(z07 x1), trivial⟩⟩ (zos a0 x1 x13 hx13) (z00 (ids_V x13.1) (z00 rfl z05))) ?_
 iterate 4 refine sX ?_
 refine eX ?_
 refine z0d ?_
 refine bR ?_
 refine sX ?_
 refine eX ?_
 refine cX h rfl ?_ ?_
 intro hc14 h
 refine bR ?_
 iterate 2 refine sX ?_
 refine eX ?_
 obtain rfl := eI h; exact z04 ⟨_, rfl, z0p (y := (PV.tup [(ofV V.nil), (I64 x13.2)])) (Wk.tup (.cons (Wk.eq mk_nil.symm) (wkr .nil))) (z00 (ids_V V.nil) (z00 rfl z05)) ⟨rfl, rfl⟩⟩
 intro hc14 h
 refine z0c ?_
 refine cBx ?_
 refine bR ?_
 iterate 2 refine sX ?_
 obtain ⟨x15, hx15, h⟩ := obind h
 refine sS rfl rfl rfl (z3j (a := 1) (b := ((a1).length : Int)) Try.underlying37 z1w rfl rfl rfl rfl rfl rfl hx15) ?_
 iterate 2 refine sX ?_
 obtain ⟨x16, hx16, h⟩ := obind h
 refine sS rfl rfl rfl (z03 rfl zuj rfl (wkr (wkr (wkr (wkr .nil)))) ⟨(ids_V x13.1), ⟨(z0f z07 x15), ⟨rfl, ⟨(zk5 (zk4 (ids_V a3c0) rfl)), trivial⟩⟩⟩⟩ (c_q05 x13.1 x15 a2 a3c0 x16 hx16) (z00 (ids_V x16.1) (z00 rfl z05))) ?_
 iterate 4 refine sX ?_
 refine eX ?_
 refine z0d ?_
 refine bR ?_
 refine sX ?_
 refine eX ?_
 refine cX h rfl ?_ ?_
 intro hc17 h
 refine bR ?_
 iterate 2 refine sX ?_
 refine eX ?_
 obtain rfl := eI h; exact z04 ⟨_, rfl, z0p (y := (PV.tup [(ofV V.nil), (I64 x16.2)])) (Wk.tup (.cons (Wk.eq mk_nil.symm) (wkr .nil))) (z00 (ids_V V.nil) (z00 rfl z05)) ⟨rfl, rfl⟩⟩
 intro hc17 h
 refine z0c ?_
 refine cBx ?_
 refine bR ?_
 iterate 3 refine sX ?_
 obtain ⟨x18, hx18, h⟩ := obind h
 refine sS rfl rfl rfl (z03 rfl zyi rfl (wkr (wkr (wkr .nil))) ⟨(ids_V a0), ⟨(z07 x1), ⟨(ids_V x16.1), trivial⟩⟩⟩ (zx1 a0 x1 x16.1 x18 hx18) (ids_V x18)) ?_
 refine sX ?_
 refine eX ?_
 obtain rfl := eI h; exact z04 ⟨_, rfl, z0p (y := (PV.tup [(ofV x18), (I64 0)])) (Wk.refl _) (z00 (ids_V x18) (z00 rfl z05)) ⟨rfl, rfl⟩⟩
theorem C_q05.sound : ∀ (i : C_q05) (r : i.R), z3b C_q05.F i = some r → C_q05.Q i r := by
 refine z42 (Φ := C_q05.F) (Q := C_q05.Q) ?_
 intro g hg i r h
 cases i with
 | k_q05 a0 a1 a2 a3c0 => exact z5h (fun a0 a1 a2 a3c0 => g (.k_q05 a0 a1 a2 a3c0)) (fun a0 a1 a2 a3c0 r hr => hg (.k_q05 a0 a1 a2 a3c0) r hr) a0 a1 a2 a3c0 r h
theorem Z3l (a0 : V) (a1 : (List S_api_Step)) (a2 : Bool) (a3c0 : V) (r : (V × Int)) (h : znm a0 a1 a2 a3c0 = some r) : z0o Try.prog 44 [(ofV a0), (PV.sl none 76 3 (List.map z01 a1)), (BO a2), (PV.fn (.func 45) [] [(PV.pt 20 (ofV a3c0) 0)])] (PV.tup [(ofV r.1), (I64 r.2)]) := C_q05.sound (.k_q05 a0 a1 a2 a3c0) r h
noncomputable def zq6 (a0 : V) (a1 : (List S_api_Step)) (a2 : V) : Option (V × Int) :=
 (zjw a0 a1).bind fun x1 =>
 bif (x1 != 0) then (
 some (V.nil, x1)
 ) else (
 (zng a2).bind fun x3 =>
 bif (x3.2 != 0) then (
 some (V.nil, x3.2)
 ) else (
 bif ((((a1).length : Nat) : Int) == 0) then (
 (zcw a2).bind fun x6 =>
 some (x6.1, x6.2)
 ) else (
 (znm a0 a1 true a2).bind fun x7 =>
 bif (x7.2 != 0) then (
 some (V.nil, x7.2)
 ) else (
 (zcw x7.1).bind fun x9 =>
 some (x9.1, x9.2)
 )
 )
 )
 )
theorem Z2x (a0 : V) (a1 : (List S_api_Step)) (a2 : V) (r : (V × Int)) (h : zq6 a0 a1 a2 = some r) : z0o Try.prog 20 [(PV.old (ofV a0)), (PV.old (PV.sl none 76 3 (List.map z01 a1))), (PV.old (ofV a2))] (PV.tup [(ofV r.1), (I64 r.2)]) := by
 unfold zq6 at h
 refine z0j Try.func20 rfl Try.ntmps20 Try.results20 rfl (z0q ?_)
 change BW _ _ _ ⟨[(0, (PV.old (ofV a0))), (1, (PV.old (PV.sl none 76 3 (List.map z01 a1)))), (2, (PV.old (ofV a2)))], [], _⟩ _
 refine bR ?_
 refine sS rfl rfl rfl (zfy rfl rfl (zk1 _)) ?_
 refine sX ?_
 refine eX ?_
 refine z0d ?_
 refine z0d ?_
 refine zav 0 5 (y := (PV.pt 20 (PV.old (ofV a2)) 0)) rfl rfl (Wk.pt (x := .agg [(PV.old (ofV a2))]) (y := (PV.old (ofV a2))) (wkr .nil)) ?_
 refine z0e ?_
 iterate 2 refine sX ?_
 obtain ⟨x1, hx1, h⟩ := obind h
 refine sS rfl rfl rfl (z26 (z03 rfl zyk rfl (wkr (wkr .nil)) ⟨(ids_V a0), ⟨(z0f z07 a1), trivial⟩⟩ (zx3 a0 a1 x1 hx1) rfl) Sc.v) ?_
 refine eX ?_
 refine bR ?_
 refine sX ?_
 refine eX ?_
 refine cX h rfl ?_ ?_
 intro hc2 h
 refine bR ?_
 iterate 2 refine sX ?_
 refine eX ?_
 obtain rfl := eI h; exact z04 ⟨_, rfl, z0p (y := (PV.tup [(ofV V.nil), (I64 x1)])) (Wk.tup (.cons (Wk.eq mk_nil.symm) (wkr .nil))) (z00 (ids_V V.nil) (z00 rfl z05)) ⟨rfl, rfl⟩⟩
 intro hc2 h
 refine z0c ?_
 refine cBx ?_
 refine z0d ?_
 refine bR ?_
 refine sX ?_
 obtain ⟨x3, hx3, h⟩ := obind h
 refine sS rfl rfl rfl (z26 (z03 rfl Z21 rfl (wkr .nil) ⟨(ids_V a2), trivial⟩ (Z06 a2 x3 hx3) (z00 rfl (z00 rfl z05))) (Sc.tup (z8e Sc.v (z8e Sc.v zh0)))) ?_
 iterate 4 refine sX ?_
 refine eX ?_
 refine bR ?_
 refine sX ?_
 refine eX ?_
 refine cX h rfl ?_ ?_
 intro hc4 h
 refine bR ?_
 iterate 2 refine sX ?_
 refine eX ?_
 obtain rfl := eI h; exact z04 ⟨_, rfl, z0p (y := (PV.tup [(ofV V.nil), (I64 x3.2)])) (Wk.tup (.cons (Wk.eq mk_nil.symm) (wkr .nil))) (z00 (ids_V V.nil) (z00 rfl z05)) ⟨rfl, rfl⟩⟩
 intro hc4 h
 refine z0c ?_
 refine cBx ?_
 refine z0d ?_
 refine bR ?_
 refine sX ?_
 refine sS rfl rfl rfl (z26 (z6i Try.underlying37 rfl rfl) Sc.v) ?_
 refine eX ?_
 refine cX h rfl ?_ ?_
 intro hc5 h
 refine bR ?_
 refine sX ?_
 obtain ⟨x6, hx6, h⟩ := obind h
 refine sS rfl rfl rfl (z03 rfl zuk rfl (wkr .nil) ⟨(z4o (ids_V a2)), trivial⟩ (zt9 a2 x6 hx6) (z00 (ids_V x6.1) (z00 rfl z05))) ?_
 iterate 3 refine sX ?_
 refine eX ?_
 obtain rfl := eI h; exact z04 ⟨_, rfl, z0p (y := (PV.tup [(ofV x6.1), (I64 x6.2)])) (Wk.refl _) (z00 (ids_V x6.1) (z00 rfl z05)) ⟨rfl, rfl⟩⟩
 intro hc5 h
 refine z0c ?_
 refine cBx ?_
 refine bR ?_
 iterate 2 refine sX ?_
 refine sS rfl rfl rfl (zvy rfl rfl rfl) ?_
 obtain ⟨x7, hx7, h⟩ := obind h
 refine sS rfl rfl rfl (znq rfl zuj rfl (.cons (.old (ids_V a0)) (.cons (.old (z0f z07 a1)) (.cons (.wk (Wk.refl _) rfl) (.cons (.fn (.cons (.pt (by rw [z1x]; exact (.cons (.old (ids_V a2)) .nil)) (ids_V a2)) .nil)) .nil)))) (Z3l a0 a1 true a2 x7 hx7) (z00 (ids_V x7.1) (z00 rfl z05)) (.tup (.old (zzd x7.1) (.sc Sc.v .nil)))) ?_
 iterate 4 refine sX ?_
 refine eX ?_
 refine z0d ?_
 refine bR ?_
 refine sX ?_
 refine eX ?_
 refine cX h rfl ?_ ?_
 intro hc8 h
 refine bR ?_
 iterate 2 refine sX ?_
 refine eX ?_
 obtain rfl := eI h; exact z04 ⟨_, rfl, z0p (y := (PV.tup [(ofV V.nil), (I64 x7.2)])) (Wk.tup (.cons (Wk.eq mk_nil.symm) (wkr .nil))) (z00 (ids_V V.nil) (z00 rfl z05)) ⟨rfl, rfl⟩⟩
 intro hc8 h
 refine z0c ?_
 refine cBx ?_
 refine bR ?_
 refine sX ?_
 obtain ⟨x9, hx9, h⟩ := obind h
 refine sS rfl rfl rfl (z03 rfl zuk rfl (wkr .nil) ⟨(z4o (ids_V x7.1)), trivial⟩ (zt9 x7.1 x9 hx9) (z00 (ids_V x9.1) (z00 rfl z05))) ?_
 iterate 3 refine sX ?_
 refine eX ?_
 obtain rfl := eI h; exact z04 ⟨_, rfl, z0p (y := (PV.tup [(ofV x9.1), (I64 x9.2)])) (Wk.refl _) (z00 (ids_V x9.1) (z00 rfl z05)) ⟨rfl, rfl⟩⟩
noncomputable def zhr (a0 : Term) (s5 : (List Term)) : Option Term :=
 some (Term.mk a0.kind a0.bool a0.int a0.float a0.text a0.bytes a0.ref s5 a0.fields a0.cls a0.ver)
noncomputable def zcm (a0 : Term) (a1 : S_api_Step) (s4 : (List Term)) : Option Term :=
 bif (decide (a1.f_Index < (((a0.list).length : Nat) : Int))) then (
 (z83 a0.list (IntKind.i64.wrap (a1.f_Index + 1)) ((a0.list).length : Int)).bind fun x7 =>
 (z6x 152 s4 x7).bind fun x8 =>
 zhr a0 x8
 ) else (
 zhr a0 s4
 )
noncomputable def zb9 (a0 : Term) (s14 : (List (Str × Term))) (s15 : Int) : Option Term :=
 (z83 a0.fields s15 ((a0.fields).length : Int)).bind fun x16 =>
 (z6x 168 s14 x16).bind fun x17 =>
 some (Term.mk a0.kind a0.bool a0.int a0.float a0.text a0.bytes a0.ref a0.list x17 a0.cls a0.ver)
noncomputable def zba (a0 : Term) (x11 : (Int × Bool)) (s14 : (List (Str × Term))) : Option Term :=
 bif x11.2 then (
 zb9 a0 s14 (IntKind.i64.wrap (x11.1 + 1))
 ) else (
 zb9 a0 s14 x11.1
 )
noncomputable def zcx (a0 : Term) (a1 : S_api_Step) (a2 : Term) (a3 : Bool) : Option Term :=
 bif a1.f_At then (
 (z83 a0.list 0 a1.f_Index).bind fun x2 =>
 (z6x 152 ([] : (List Term)) x2).bind fun x3 =>
 bif (!a3) then (
 (z6x 152 x3 ([a2] : (List Term))).bind fun x10 =>
 zcm a0 a1 x10
 ) else (
 zcm a0 a1 x3
 )
 ) else (
 (zjx a0.fields a1.f_Name).bind fun x11 =>
 (z83 a0.fields 0 x11.1).bind fun x12 =>
 (z6x 168 ([] : (List (Str × Term))) x12).bind fun x13 =>
 bif (!a3) then (
 (z6x 168 x13 ([(a1.f_Name, a2)] : (List (Str × Term)))).bind fun x20 =>
 zba a0 x11 x20
 ) else (
 zba a0 x11 x13
 )
 )
theorem Z03 (a0 : Term) (a1 : S_api_Step) (a2 : Term) (a3 : Bool) (r : Term) (h : zcx a0 a1 a2 a3 = some r) : z0o Try.prog 74 [(z0b a0), (z01 a1), (z0b a2), (BO a3)] (z0b r) := by
 unfold zcx at h
 refine z0j Try.func74 rfl Try.ntmps74 Try.results74 rfl (z0q ?_)
 change BW _ _ _ ⟨[(0, (z0b a0)), (1, (z01 a1)), (2, (z0b a2)), (3, (BO a3))], [], _⟩ _
 refine bR ?_
 iterate 3 refine sX ?_
 refine sS rfl rfl rfl (z1b z0v rfl) (z08 ?_)
 refine cBx ?_
 refine z0d ?_
 refine bR ?_
 refine sX ?_
 refine eX ?_
 refine cX h rfl ?_ ?_
 intro hc1 h
 refine bR ?_
 refine sS rfl rfl rfl ((z16 (xs := []) Try.underlying26 z0v rfl rfl rfl rfl rfl rfl ⟨lbE rfl, lbE rfl⟩ rfl).cast (y := (PV.sl (some 4) 29 11 (List.map z15 ([] : (List Term))))) rfl rfl) ?_
 iterate 4 refine sX ?_
 obtain ⟨x2, hx2, h⟩ := obind h
 refine sS rfl rfl rfl (z3j (a := 0) (b := a1.f_Index) Try.underlying26 z0v rfl rfl rfl rfl rfl rfl hx2) ?_
 obtain ⟨x3, hx3, h⟩ := obind h
 refine sS rfl rfl rfl (z21 Try.underlying26 z0v rfl Try.underlying26 rfl rfl rfl rfl z7y z4g hx3 rfl) ?_
 refine eX ?_
 refine z2l (ι := (List Term)) (fun i => zcm a0 a1 i = some r) (fun i => [(4, (PV.rf 0 0)), (5, (PV.rf 1 0)), (8, (PV.rf 3 0)), (9, (PV.sl (some 4) 29 11 (List.map z15 i)))]) (fun i => [.box 29 (z1r a0), .box 76 [(z0k a1.f_Name), (BO a1.f_At), (I64 a1.f_Index)], .dead, .box 29 z3d, .arr 29 (i).length]) ?_ ?_ ?_
 intro i; exact ⟨lbE rfl, ⟨(il_rf rfl), ⟨(il_rf rfl), ⟨(il_rf rfl), ⟨(z4m rfl (z36 z2e _)), trivial⟩⟩⟩⟩, ⟨wfC29, ⟨⟨(z02 rfl), ⟨(z02 rfl), ⟨(z02 rfl), trivial⟩⟩⟩, ⟨⟨(z02 rfl), ⟨(z02 rfl), ⟨(z02 rfl), ⟨(z02 rfl), ⟨(z02 rfl), ⟨(z02 rfl), ⟨(z02 rfl), ⟨(z02 rfl), ⟨(z02 rfl), ⟨(z02 rfl), ⟨(z02 rfl), trivial⟩⟩⟩⟩⟩⟩⟩⟩⟩⟩⟩, trivial⟩⟩⟩⟩
 rintro s4 h; replace h : zcm a0 a1 s4 = some r := h; unfold zcm at h
 change BW _ _ _ ⟨[(4, (PV.rf 0 0)), (5, (PV.rf 1 0)), (8, (PV.rf 3 0)), (9, (PV.sl (some 4) 29 11 (List.map z15 s4)))], [.box 29 (z1r a0), .box 76 [(z0k a1.f_Name), (BO a1.f_At), (I64 a1.f_Index)], .dead, .box 29 z3d, .arr 29 (s4).length], _⟩ _
 refine z2l (ι := (List Term)) (fun i => zhr a0 i = some r) (fun i => [(4, (PV.rf 0 0)), (8, (PV.rf 3 0)), (9, (PV.sl (some 4) 29 11 (List.map z15 i)))]) (fun i => [.box 29 (z1r a0), .dead, .dead, .box 29 z3d, .arr 29 (i).length]) ?_ ?_ ?_
 intro i; exact ⟨lbE rfl, ⟨(il_rf rfl), ⟨(il_rf rfl), ⟨(z4m rfl (z36 z2e _)), trivial⟩⟩⟩, ⟨wfC29, ⟨⟨(z02 rfl), ⟨(z02 rfl), ⟨(z02 rfl), ⟨(z02 rfl), ⟨(z02 rfl), ⟨(z02 rfl), ⟨(z02 rfl), ⟨(z02 rfl), ⟨(z02 rfl), ⟨(z02 rfl), ⟨(z02 rfl), trivial⟩⟩⟩⟩⟩⟩⟩⟩⟩⟩⟩, trivial⟩⟩⟩
 rintro s5 h; replace h : zhr a0 s5 = some r := h; unfold zhr at h
 change BW _ _ _ ⟨[(4, (PV.rf 0 0)), (8, (PV.rf 3 0)), (9, (PV.sl (some 4) 29 11 (List.map z15 s5)))], [.box 29 (z1r a0), .dead, .dead, .box 29 z3d, .arr 29 (s5).length], _⟩ _
 refine bR ?_
 iterate 2 refine sX ?_
 refine z0l rfl rfl (z0g zrs rfl rfl rfl rfl rfl rfl (lbE rfl) rfl) ?_
 refine z08 ?_
 refine cBx ?_
 refine bR ?_
 refine sX ?_
 refine z0l rfl rfl (z0g z0v rfl rfl rfl rfl rfl rfl (lbE rfl) rfl) ?_
 refine z08 ?_
 refine cBx ?_
 obtain rfl := eI h; exact z04 ⟨_, rfl, z0p (y := (z0b (Term.mk a0.kind a0.bool a0.int a0.float a0.text a0.bytes a0.ref s5 a0.fields a0.cls a0.ver))) (Wk.agg (wkr (wkr (wkr (wkr (wkr (wkr (wkr (.cons Wk.tok (wkr (wkr (wkr .nil)))))))))))) (z06 (Term.mk a0.kind a0.bool a0.int a0.float a0.text a0.bytes a0.ref s5 a0.fields a0.cls a0.ver)) ⟨rfl, rfl⟩⟩
 refine bR ?_
 iterate 5 refine sX ?_
 refine eX ?_
 refine cX h rfl ?_ ?_
 intro hc6 h
 refine z0e ?_
 iterate 6 refine sX ?_
 obtain ⟨x7, hx7, h⟩ := obind h
 refine sS rfl rfl rfl (z3j (a := (IntKind.i64.wrap (a1.f_Index + 1))) (b := ((a0.list).length : Int)) Try.underlying26 z0v rfl rfl rfl rfl rfl rfl hx7) ?_
 obtain ⟨x8, hx8, h⟩ := obind h
 refine sS rfl rfl rfl (z21 Try.underlying26 z0v rfl Try.underlying26 rfl rfl rfl rfl z7y z4g hx8 rfl) ?_
 refine sX (z08 ?_)
 exact ⟨rfl, x8, h, ⟨(.cons .same (.cons .dead (.cons .dead (.cons .same (.cons .same .nil))))), (sC rfl (sC rfl (sC rfl z2a)))⟩⟩
 intro hc6 h
 refine z0c ?_
 exact ⟨rfl, s4, h, ⟨(.cons .same (.cons .dead (.cons .dead (.cons .same (.cons .same .nil))))), (sC rfl (sC rfl (sC rfl z2a)))⟩⟩
 refine bR ?_
 refine sX ?_
 refine eX ?_
 refine cX h rfl ?_ ?_
 intro hc9 h
 refine z0e ?_
 iterate 2 refine sX ?_
 refine sS rfl rfl rfl ((z16 (xs := [(PV.agg [(I64 a2.kind), (BO a2.bool), (I64 a2.int), (PV.v (.float .f64 a2.float)), (z0k a2.text), (PV.sl none 5 1 (List.map ofB a2.bytes)), (PV.v (.int .u64 a2.ref)), (PV.sl none 29 11 (List.map z15 a2.list)), (PV.sl none 94 12 (List.map z0s a2.fields)), (z0k a2.cls), (I64 a2.ver)])]) Try.underlying26 z0v rfl rfl rfl rfl rfl rfl ⟨lbE rfl, lbE rfl⟩ rfl).cast (y := (PV.sl (some 5) 29 11 (List.map z15 ([a2] : (List Term))))) (by simp only [List.map_cons, List.map_nil, z2b]; try rfl) rfl) ?_
 obtain ⟨x10, hx10, h⟩ := obind h
 refine sS rfl rfl rfl (z21 Try.underlying26 z0v rfl Try.underlying26 rfl rfl rfl rfl z7y z4g hx10 rfl) ?_
 refine sX (z08 ?_)
 exact ⟨rfl, x10, h, ⟨(.cons .same (.cons .same (.cons .dead (.cons .same (.cons .same .nil))))), (sC rfl (sC rfl (sC rfl (sC rfl z2a))))⟩⟩
 intro hc9 h
 refine z0c ?_
 exact ⟨rfl, x3, h, ⟨(.cons .same (.cons .same (.cons .dead (.cons .same (.cons .same .nil))))), (sC rfl (sC rfl (sC rfl (sC rfl z2a))))⟩⟩
 intro hc1 h
 refine z0c ?_
 refine cBx ?_
 refine bR ?_
 iterate 4 refine sX ?_
 obtain ⟨x11, hx11, h⟩ := obind h
 refine sS rfl rfl rfl (z03 rfl zye rfl (wkr (wkr .nil)) ⟨(z0f z1l a0.fields), ⟨rfl, trivial⟩⟩ (zx4 a0.fields a1.f_Name x11 hx11) (z00 rfl (z00 rfl z05))) ?_
 iterate 4 refine sX ?_
 refine eX ?_
 refine bR ?_
 refine sS rfl rfl rfl ((z16 (xs := []) Try.underlying27 z22 rfl rfl rfl rfl rfl rfl ⟨lbE rfl, lbE rfl⟩ rfl).cast (y := (PV.sl (some 4) 94 12 (List.map z0s ([] : (List (Str × Term)))))) rfl rfl) ?_
 iterate 3 refine sX ?_
 obtain ⟨x12, hx12, h⟩ := obind h
 refine sS rfl rfl rfl (z3j (a := 0) (b := x11.1) Try.underlying27 z22 rfl rfl rfl rfl rfl rfl hx12) ?_
 obtain ⟨x13, hx13, h⟩ := obind h
 refine sS rfl rfl rfl (z21 Try.underlying27 z22 rfl Try.underlying27 rfl rfl rfl rfl z7j z4q hx13 rfl) ?_
 refine eX ?_
 refine z2l (ι := (List (Str × Term))) (fun i => zba a0 x11 i = some r) (fun i => [(4, (PV.rf 0 0)), (8, (PV.rf 3 0)), (10, (I64 x11.1)), (11, (BO x11.2)), (12, (PV.sl (some 4) 94 12 (List.map z0s i)))]) (fun i => [.box 29 (z1r a0), .dead, .dead, .box 29 z3d, .arr 94 (i).length]) ?_ ?_ ?_
 intro i; exact ⟨lbE rfl, ⟨(il_rf rfl), ⟨(il_rf rfl), ⟨(z02 rfl), ⟨(z02 rfl), ⟨(z4m rfl (z36 z1l _)), trivial⟩⟩⟩⟩⟩, ⟨wfC29, ⟨⟨(z02 rfl), ⟨(z02 rfl), ⟨(z02 rfl), ⟨(z02 rfl), ⟨(z02 rfl), ⟨(z02 rfl), ⟨(z02 rfl), ⟨(z02 rfl), ⟨(z02 rfl), ⟨(z02 rfl), ⟨(z02 rfl), trivial⟩⟩⟩⟩⟩⟩⟩⟩⟩⟩⟩, trivial⟩⟩⟩
 rintro s14 h; replace h : zba a0 x11 s14 = some r := h; unfold zba at h
 change BW _ _ _ ⟨[(4, (PV.rf 0 0)), (8, (PV.rf 3 0)), (10, (I64 x11.1)), (11, (BO x11.2)), (12, (PV.sl (some 4) 94 12 (List.map z0s s14)))], [.box 29 (z1r a0), .dead, .dead, .box 29 z3d, .arr 94 (s14).length], _⟩ _
 refine z2l (ι := Int) (fun i => zb9 a0 s14 i = some r) (fun i => [(4, (PV.rf 0 0)), (8, (PV.rf 3 0)), (10, (I64 i)), (12, (PV.sl (some 4) 94 12 (List.map z0s s14)))]) (fun i => [.box 29 (z1r a0), .dead, .dead, .box 29 z3d, .arr 94 (s14).length]) ?_ ?_ ?_
 intro i; exact ⟨lbE rfl, ⟨(il_rf rfl), ⟨(il_rf rfl), ⟨(z02 rfl), ⟨(z4m rfl (z36 z1l _)), trivial⟩⟩⟩⟩, ⟨wfC29, ⟨⟨(z02 rfl), ⟨(z02 rfl), ⟨(z02 rfl), ⟨(z02 rfl), ⟨(z02 rfl), ⟨(z02 rfl), ⟨(z02 rfl), ⟨(z02 rfl), ⟨(z02 rfl), ⟨(z02 rfl), ⟨(z02 rfl), trivial⟩⟩⟩⟩⟩⟩⟩⟩⟩⟩⟩, trivial⟩⟩⟩
 rintro s15 h; replace h : zb9 a0 s14 s15 = some r := h; unfold zb9 at h
 change BW _ _ _ ⟨[(4, (PV.rf 0 0)), (8, (PV.rf 3 0)), (10, (I64 s15)), (12, (PV.sl (some 4) 94 12 (List.map z0s s14)))], [.box 29 (z1r a0), .dead, .dead, .box 29 z3d, .arr 94 (s14).length], _⟩ _
 refine bR ?_
 iterate 4 refine sX ?_
 obtain ⟨x16, hx16, h⟩ := obind h
 refine sS rfl rfl rfl (z3j (a := s15) (b := ((a0.fields).length : Int)) Try.underlying27 z22 rfl rfl rfl rfl rfl rfl hx16) ?_
 obtain ⟨x17, hx17, h⟩ := obind h
 refine sS rfl rfl rfl (z21 Try.underlying27 z22 rfl Try.underlying27 rfl rfl rfl rfl z7j z4q hx17 rfl) ?_
 refine sX ?_
 refine z0l rfl rfl (z0g zrr rfl rfl rfl rfl rfl rfl (lbE rfl) rfl) ?_
 refine z08 ?_
 refine cBx ?_
 refine bR ?_
 refine sX ?_
 refine z0l rfl rfl (z0g z0v rfl rfl rfl rfl rfl rfl (lbE rfl) rfl) ?_
 refine z08 ?_
 refine cBx ?_
 obtain rfl := eI h; exact z04 ⟨_, rfl, z0p (y := (z0b (Term.mk a0.kind a0.bool a0.int a0.float a0.text a0.bytes a0.ref a0.list x17 a0.cls a0.ver))) (Wk.agg (wkr (wkr (wkr (wkr (wkr (wkr (wkr (wkr (.cons Wk.tok (wkr (wkr .nil)))))))))))) (z06 (Term.mk a0.kind a0.bool a0.int a0.float a0.text a0.bytes a0.ref a0.list x17 a0.cls a0.ver)) ⟨rfl, rfl⟩⟩
 refine bR ?_
 refine eX ?_
 refine cX h rfl ?_ ?_
 intro hc18 h
 refine z0e ?_
 iterate 2 refine sX ?_
 refine sX (z08 ?_)
 exact ⟨rfl, (IntKind.i64.wrap (x11.1 + 1)), h, ⟨(.cons .same (.cons .dead (.cons .dead (.cons .same (.cons .same .nil))))), (sC rfl (sC rfl (sC rfl (sC rfl z2a))))⟩⟩
 intro hc18 h
 refine z0c ?_
 exact ⟨rfl, x11.1, h, ⟨(.cons .same (.cons .dead (.cons .dead (.cons .same (.cons .same .nil))))), (sC rfl (sC rfl (sC rfl (sC rfl z2a))))⟩⟩
 refine bR ?_
 refine sX ?_
 refine eX ?_
 refine cX h rfl ?_ ?_
 intro hc19 h
 refine z0e ?_
 iterate 4 refine sX ?_
 refine sS rfl rfl rfl (z1a (cs := [(z0k a1.f_Name), (I64 a2.kind), (BO a2.bool), (I64 a2.int), (PV.v (.float .f64 a2.float)), (z0k a2.text), (PV.sl none 5 1 (List.map ofB a2.bytes)), (PV.v (.int .u64 a2.ref)), (PV.sl none 29 11 (List.map z15 a2.list)), (PV.sl none 94 12 (List.map z0s a2.fields)), (z0k a2.cls), (I64 a2.ver)]) zt4 z22 rfl rfl rfl rfl) ?_
 refine sS rfl rfl rfl ((z16 (xs := [(PV.agg [(z0k a1.f_Name), (I64 a2.kind), (BO a2.bool), (I64 a2.int), (PV.v (.float .f64 a2.float)), (z0k a2.text), (PV.sl none 5 1 (List.map ofB a2.bytes)), (PV.v (.int .u64 a2.ref)), (PV.sl none 29 11 (List.map z15 a2.list)), (PV.sl none 94 12 (List.map z0s a2.fields)), (z0k a2.cls), (I64 a2.ver)])]) Try.underlying27 z22 rfl rfl rfl rfl rfl rfl ⟨lbE rfl, lbE rfl⟩ rfl).cast (y := (PV.sl (some 5) 94 12 (List.map z0s ([(a1.f_Name, a2)] : (List (Str × Term)))))) (by simp only [List.map_cons, List.map_nil, z1o]; try rfl) rfl) ?_
 obtain ⟨x20, hx20, h⟩ := obind h
 refine sS rfl rfl rfl (z21 Try.underlying27 z22 rfl Try.underlying27 rfl rfl rfl rfl z7j z4q hx20 rfl) ?_
 refine sX (z08 ?_)
 exact ⟨rfl, x20, h, ⟨(.cons .same (.cons .dead (.cons .dead (.cons .same (.cons .same .nil))))), (sC rfl (sC rfl (sC rfl (sC rfl (sC rfl z2a)))))⟩⟩
 intro hc19 h
 refine z0c ?_
 exact ⟨rfl, x13, h, ⟨(.cons .same (.cons .dead (.cons .dead (.cons .same (.cons .same .nil))))), (sC rfl (sC rfl (sC rfl (sC rfl (sC rfl z2a)))))⟩⟩
noncomputable def z9b (a0 a2 : Term) (a3 : Bool) (x2 : S_api_Step) : Option (Term × Int) :=
 (zcx a0 x2 a2 a3).bind fun x19 =>
 some (x19, 0)
noncomputable def z9a (a0 a2 : Term) (a3 : Bool) (x2 : S_api_Step) (s20 : Bool) : Option (Term × Int) :=
 bif s20 then (
 (zjx a0.fields x2.f_Name).bind fun x22 =>
 bif (!x22.2) then (
 (z8i).bind fun x24 =>
 some (x24, 40)
 ) else (
 z9b a0 a2 a3 x2
 )
 ) else (
 z9b a0 a2 a3 x2
 )
noncomputable def z6u (a0 a2 : Term) (a3 : Bool) (x2 : S_api_Step) (s16 : Bool) : Option (Term × Int) :=
 bif s16 then (
 (z8i).bind fun x18 =>
 some (x18, 42)
 ) else (
 bif a3 then (
 z9a a0 a2 a3 x2 (!x2.f_At)
 ) else (
 z9a a0 a2 a3 x2 false
 )
 )
noncomputable def zgk (r_q18 : Term → (List S_api_Step) → Term → Bool → Option (Term × Int)) (a0 : Term) (a1 : (List S_api_Step)) (a2 : Term) (a3 : Bool) : Option (Term × Int) :=
 bif ((((a1).length : Nat) : Int) == 0) then (
 some (a2, 0)
 ) else (
 ((a1)[0]?).bind fun x2 =>
 bif (decide ((((a1).length : Nat) : Int) > 1)) then (
 (z83 a1 0 1).bind fun x4 =>
 (zqc a0 x4).bind fun x5 =>
 bif (x5.2 != 0) then (
 (z8i).bind fun x7 =>
 some (x7, x5.2)
 ) else (
 (z83 a1 1 ((a1).length : Int)).bind fun x8 =>
 (r_q18 (x5.1) x8 a2 a3).bind fun x9 =>
 bif (x9.2 != 0) then (
 (z8i).bind fun x11 =>
 some (x11, x9.2)
 ) else (
 (zcx a0 x2 (x9.1) false).bind fun x12 =>
 some (x12, 0)
 )
 )
 ) else (
 (zic a0 x2).bind fun x13 =>
 bif (!x13) then (
 (z8i).bind fun x15 =>
 some (x15, 41)
 ) else (
 bif x2.f_At then (
 bif (decide (x2.f_Index > (((a0.list).length : Nat) : Int))) then (
 z6u a0 a2 a3 x2 true
 ) else (
 bif a3 then (
 z6u a0 a2 a3 x2 (x2.f_Index == (((a0.list).length : Nat) : Int))
 ) else (
 z6u a0 a2 a3 x2 false
 )
 )
 ) else (
 z6u a0 a2 a3 x2 false
 )
 )
 )
 )
theorem zv1 (r_q18 : OF ρ → Term → (List S_api_Step) → Term → Bool → Option (Term × Int)) (h_r_q18 : ∀ y0 y1 y2 y3, CM (fun G => r_q18 G y0 y1 y2 y3)) (a0 : Term) (a1 : (List S_api_Step)) (a2 : Term) (a3 : Bool) : CM (fun G : OF ρ => zgk (r_q18 G) a0 a1 a2 a3) := by
 simp only [zgk]
 repeat (first | exact z0h | exact h_r_q18 _ _ _ _ | apply q18_j1_cm | refine z10 ?_ ?_ | refine z11 ?_ (fun _ => ?_) | intro _ | assumption)
inductive C_q18 where
 | k_q18 (a0 : Term) (a1 : (List S_api_Step)) (a2 : Term) (a3 : Bool)
def C_q18.R : C_q18 → Type
 | .k_q18 _ _ _ _ => (Term × Int)
noncomputable def C_q18.F (g : ∀ i : C_q18, Option i.R) : ∀ i : C_q18, Option i.R
 | .k_q18 a0 a1 a2 a3 => zgk (fun a0 a1 a2 a3 => g (.k_q18 a0 a1 a2 a3)) a0 a1 a2 a3
noncomputable def z82 (a0 : Term) (a1 : (List S_api_Step)) (a2 : Term) (a3 : Bool) : Option (Term × Int) := z3b C_q18.F (.k_q18 a0 a1 a2 a3)
abbrev gg9 := fun (g : ∀ i : C_q18, Option i.R) a0 a1 a2 a3 => g (.k_q18 a0 a1 a2 a3)
theorem hh9 (a0 a1 a2 a3 : _) : CM (ρ := C_q18.R) (fun g => g (C_q18.k_q18 a0 a1 a2 a3)) := z1i
theorem C_q18.cm (i : C_q18) : CM (fun g : (∀ i : C_q18, Option i.R) => C_q18.F g i) := by
 cases i with
 | k_q18 a0 a1 a2 a3 => exact zv1 gg9 hh9 a0 a1 a2 a3
theorem zyn (a0 : Term) (a1 : (List S_api_Step)) (a2 : Term) (a3 : Bool) : z82 a0 a1 a2 a3 = zgk z82 a0 a1 a2 a3 := z1f C_q18.cm (.k_q18 a0 a1 a2 a3)
def C_q18.Q : ∀ i : C_q18, i.R → Prop
 | .k_q18 a0 a1 a2 a3 => fun (r : (Term × Int)) => z0o Try.prog 48 [(z0b a0), (PV.sl none 76 3 (List.map z01 a1)), (z0b a2), (BO a3)] (PV.tup [(z0b r.1), (I64 r.2)])
theorem zgs (r_q18 : Term → (List S_api_Step) → Term → Bool → Option (Term × Int)) (c_q18 : ∀ (a0 : Term) (a1 : (List S_api_Step)) (a2 : Term) (a3 : Bool) r, r_q18 a0 a1 a2 a3 = some r → z0o Try.prog 48 [(z0b a0), (PV.sl none 76 3 (List.map z01 a1)), (z0b a2), (BO a3)] (PV.tup [(z0b r.1), (I64 r.2)])) (a0 : Term) (a1 : (List S_api_Step)) (a2 : Term) (a3 : Bool) (r : (Term × Int)) (h : zgk r_q18 a0 a1 a2 a3 = some r) : z0o Try.prog 48 [(z0b a0), (PV.sl none 76 3 (List.map z01 a1)), (z0b a2), (BO a3)] (PV.tup [(z0b r.1), (I64 r.2)]) := by
 unfold zgk at h
 refine z0j Try.func48 rfl Try.ntmps48 Try.results48 rfl (z0q ?_)
 change BW _ _ _ ⟨[(0, (z0b a0)), (1, (PV.sl none 76 3 (List.map z01 a1))), (2, (z0b a2)), (3, (BO a3))], [], _⟩ _
 refine bR ?_
 iterate 2 refine sX ?_
 refine sS rfl rfl rfl (z1b z0v rfl) ?_
 refine eX ?_
 refine z0d ?_
 refine bR ?_
 iterate 2 refine sX ?_
 refine eX ?_
 refine cX h rfl ?_ ?_
 intro hc1 h
 refine bR ?_
 refine sX ?_
 refine z0l rfl rfl (z0g z0v rfl rfl rfl rfl rfl rfl (lbE rfl) rfl) ?_
 refine eX ?_
 obtain rfl := eI h; exact z04 ⟨_, rfl, z0p (y := (PV.tup [(z0b a2), (I64 0)])) (Wk.refl _) (z00 (z06 a2) (z00 rfl z05)) ⟨rfl, rfl⟩⟩
 intro hc1 h
 refine z0c ?_
 refine cBx ?_
 refine bR ?_
 refine sX ?_
 obtain ⟨x2, hx2, h⟩ := obind h
 refine sS rfl rfl rfl (z1d (i := 0) Try.underlying37 z1w rfl rfl rfl hx2 rfl) ?_
 refine sX ?_
 refine sS rfl rfl rfl (z1b z1w rfl) ?_
 refine z0l rfl rfl (z0g z1w rfl rfl rfl rfl rfl rfl (lbE rfl) rfl) ?_
 refine z08 ?_
 refine cBx ?_
 refine z0d ?_
 refine bR ?_
 iterate 2 refine sX ?_
 refine eX ?_
 refine cX h rfl ?_ ?_
 intro hc3 h
 refine z0d (z1y 9 [7, 8] [0] mo (by kernel_rfl) ?_)
 iterate 2 refine gX ?_
 obtain ⟨x4, hx4, h⟩ := obind h
 refine z1v rfl rfl rfl rfl (fun H hp => z3j (a := 0) (b := 1) Try.underlying37 z1w rfl rfl rfl rfl rfl rfl hx4) ?_
 obtain ⟨x5, hx5, h⟩ := obind h
 refine z1v rfl rfl rfl rfl (fun H hp => z03 rfl Z1y rfl (wkr (wkr .nil)) ⟨(z06 a0), ⟨(z0f z07 x4), trivial⟩⟩ (zzy a0 x4 x5 hx5) (z00 (z06 x5.1) (z00 rfl z05))) ?_
 iterate 3 refine gX ?_
 refine z9y rfl rfl rfl rfl (z1b z0v rfl) ⟨rfl, trivial⟩ ?_
 refine zko rfl rfl rfl (z0g z0v rfl rfl rfl rfl rfl rfl (lbE rfl) rfl) ⟨rfl, trivial⟩ ?_
 refine z23 ?_
 change AO _ _ _ _ _
 refine eX ?_
 refine z0d ?_
 refine bR ?_
 refine sX ?_
 refine eX ?_
 refine cX h rfl ?_ ?_
 intro hc6 h
 refine bR ?_
 obtain ⟨x7, hx7, h⟩ := obind h
 refine sS rfl rfl rfl (z03 rfl zas rfl .nil trivial (za8  x7 hx7) (z06 x7)) ?_
 refine sX ?_
 refine z0l rfl rfl (z0g z0v rfl rfl rfl rfl rfl rfl (lbE rfl) rfl) ?_
 refine eX ?_
 obtain rfl := eI h; exact z04 ⟨_, rfl, z0p (y := (PV.tup [(z0b x7), (I64 x5.2)])) (Wk.refl _) (z00 (z06 x7) (z00 rfl z05)) ⟨rfl, rfl⟩⟩
 intro hc6 h
 refine z0c ?_
 refine cBx ?_
 refine z0d (z1y 10 [0, 9] [1] mo (by kernel_rfl) ?_)
 refine z9y rfl rfl rfl rfl ((zld z0v Try.underlying29 rfl rfl rfl rfl rfl rfl)) ⟨rfl, trivial⟩ ?_
 refine gX ?_
 obtain ⟨x8, hx8, h⟩ := obind h
 refine z1v rfl rfl rfl rfl (fun H hp => z3j (a := 1) (b := ((a1).length : Int)) Try.underlying37 z1w rfl rfl rfl rfl rfl rfl hx8) ?_
 iterate 2 refine gX ?_
 obtain ⟨x9, hx9, h⟩ := obind h
 refine z1v rfl rfl rfl rfl (fun H hp => z03 rfl zyh rfl (wkr (wkr (wkr (wkr .nil)))) ⟨(z06 (x5.1)), ⟨(z0f z07 x8), ⟨(z06 a2), ⟨rfl, trivial⟩⟩⟩⟩ (c_q18 (x5.1) x8 a2 a3 x9 hx9) (z00 (z06 x9.1) (z00 rfl z05))) ?_
 iterate 3 refine gX ?_
 refine zko rfl rfl rfl (z0g z0v rfl rfl rfl rfl rfl rfl (lbE rfl) rfl) ⟨rfl, trivial⟩ ?_
 refine z23 ?_
 change AO _ _ _ _ _
 refine eX ?_
 refine z0d ?_
 refine bR ?_
 refine sX ?_
 refine eX ?_
 refine cX h rfl ?_ ?_
 intro hc10 h
 refine bR ?_
 obtain ⟨x11, hx11, h⟩ := obind h
 refine sS rfl rfl rfl (z03 rfl zas rfl .nil trivial (za8  x11 hx11) (z06 x11)) ?_
 refine sX ?_
 refine z0l rfl rfl (z0g z0v rfl rfl rfl rfl rfl rfl (lbE rfl) rfl) ?_
 refine eX ?_
 obtain rfl := eI h; exact z04 ⟨_, rfl, z0p (y := (PV.tup [(z0b x11), (I64 x9.2)])) (Wk.refl _) (z00 (z06 x11) (z00 rfl z05)) ⟨rfl, rfl⟩⟩
 intro hc10 h
 refine z0c ?_
 refine cBx ?_
 refine bR ?_
 iterate 3 refine sX ?_
 obtain ⟨x12, hx12, h⟩ := obind h
 refine sS rfl rfl rfl (z03 rfl Z1q rfl (wkr (wkr (wkr (wkr .nil)))) ⟨(z06 a0), ⟨(z07 x2), ⟨(z06 (x9.1)), ⟨rfl, trivial⟩⟩⟩⟩ (Z03 a0 x2 (x9.1) false x12 hx12) (z06 x12)) ?_
 refine z0l rfl rfl (z0g z0v rfl rfl rfl rfl rfl rfl (lbE rfl) rfl) ?_
 refine eX ?_
 obtain rfl := eI h; exact z04 ⟨_, rfl, z0p (y := (PV.tup [(z0b x12), (I64 0)])) (Wk.refl _) (z00 (z06 x12) (z00 rfl z05)) ⟨rfl, rfl⟩⟩
 intro hc3 h
 refine z0c ?_
 refine cBx ?_
 refine z0d ?_
 refine bR ?_
 iterate 2 refine sX ?_
 obtain ⟨x13, hx13, h⟩ := obind h
 refine sS rfl rfl rfl (z03 rfl Z1t rfl (wkr (wkr .nil)) ⟨(z06 a0), ⟨(z07 x2), trivial⟩⟩ (Z04 a0 x2 x13 hx13) rfl) ?_
 refine eX ?_
 refine cX h rfl ?_ ?_
 intro hc14 h
 refine bR ?_
 obtain ⟨x15, hx15, h⟩ := obind h
 refine sS rfl rfl rfl (z03 rfl zas rfl .nil trivial (za8  x15 hx15) (z06 x15)) ?_
 refine z0l rfl rfl (z0g z0v rfl rfl rfl rfl rfl rfl (lbE rfl) rfl) ?_
 refine eX ?_
 obtain rfl := eI h; exact z04 ⟨_, rfl, z0p (y := (PV.tup [(z0b x15), (I64 41)])) (Wk.refl _) (z00 (z06 x15) (z00 rfl z05)) ⟨rfl, rfl⟩⟩
 intro hc14 h
 refine z0c ?_
 refine cBx ?_
 refine z0d ?_
 refine jX (ι := Bool) (fun i => z6u a0 a2 a3 x2 i = some r) (fun i => [(3, (BO a3)), (4, (PV.rf 0 0)), (6, (PV.rf 1 0)), (8, (PV.rf 2 0)), (10, (PV.rf 3 0)), (78, (BO i))]) (fun i => [.box 29 (z1r a0), .box 29 (z1r a2), .box 29 z3d, .box 76 [(z0k x2.f_Name), (BO x2.f_At), (I64 x2.f_Index)]]) ?_ ?_
 rintro s16 h; replace h : z6u a0 a2 a3 x2 s16 = some r := h; unfold z6u at h
 change BW _ _ _ ⟨[(3, (BO a3)), (4, (PV.rf 0 0)), (6, (PV.rf 1 0)), (8, (PV.rf 2 0)), (10, (PV.rf 3 0)), (78, (BO s16))], [.box 29 (z1r a0), .box 29 (z1r a2), .box 29 z3d, .box 76 [(z0k x2.f_Name), (BO x2.f_At), (I64 x2.f_Index)]], _⟩ _
 refine cX h rfl ?_ ?_
 intro hc17 h
 refine bR ?_
 obtain ⟨x18, hx18, h⟩ := obind h
 refine sS rfl rfl rfl (z03 rfl zas rfl .nil trivial (za8  x18 hx18) (z06 x18)) ?_
 refine z0l rfl rfl (z0g z0v rfl rfl rfl rfl rfl rfl (lbE rfl) rfl) ?_
 refine eX ?_
 obtain rfl := eI h; exact z04 ⟨_, rfl, z0p (y := (PV.tup [(z0b x18), (I64 42)])) (Wk.refl _) (z00 (z06 x18) (z00 rfl z05)) ⟨rfl, rfl⟩⟩
 intro hc17 h
 refine z0c ?_
 refine cBx ?_
 refine jX (ι := Unit) (fun i => z9b a0 a2 a3 x2 = some r) (fun i => [(3, (BO a3)), (4, (PV.rf 0 0)), (6, (PV.rf 1 0)), (8, (PV.rf 2 0)), (10, (PV.rf 3 0))]) (fun i => [.box 29 (z1r a0), .box 29 (z1r a2), .box 29 z3d, .box 76 [(z0k x2.f_Name), (BO x2.f_At), (I64 x2.f_Index)]]) ?_ ?_
 rintro ⟨⟩ h; replace h : z9b a0 a2 a3 x2 = some r := h; unfold z9b at h
 change BW _ _ _ ⟨[(3, (BO a3)), (4, (PV.rf 0 0)), (6, (PV.rf 1 0)), (8, (PV.rf 2 0)), (10, (PV.rf 3 0))], [.box 29 (z1r a0), .box 29 (z1r a2), .box 29 z3d, .box 76 [(z0k x2.f_Name), (BO x2.f_At), (I64 x2.f_Index)]], _⟩ _
 refine bR ?_
 iterate 4 refine sX ?_
 obtain ⟨x19, hx19, h⟩ := obind h
 refine sS rfl rfl rfl (z03 rfl Z1q rfl (wkr (wkr (wkr (wkr .nil)))) ⟨(z06 a0), ⟨(z07 x2), ⟨(z06 a2), ⟨rfl, trivial⟩⟩⟩⟩ (Z03 a0 x2 a2 a3 x19 hx19) (z06 x19)) ?_
 refine z0l rfl rfl (z0g z0v rfl rfl rfl rfl rfl rfl (lbE rfl) rfl) ?_
 refine eX ?_
 obtain rfl := eI h; exact z04 ⟨_, rfl, z0p (y := (PV.tup [(z0b x19), (I64 0)])) (Wk.refl _) (z00 (z06 x19) (z00 rfl z05)) ⟨rfl, rfl⟩⟩
 refine jX (ι := Bool) (fun i => z9a a0 a2 a3 x2 i = some r) (fun i => [(3, (BO a3)), (4, (PV.rf 0 0)), (6, (PV.rf 1 0)), (8, (PV.rf 2 0)), (10, (PV.rf 3 0)), (85, (BO i))]) (fun i => [.box 29 (z1r a0), .box 29 (z1r a2), .box 29 z3d, .box 76 [(z0k x2.f_Name), (BO x2.f_At), (I64 x2.f_Index)]]) ?_ ?_
 rintro s20 h; replace h : z9a a0 a2 a3 x2 s20 = some r := h; unfold z9a at h
 change BW _ _ _ ⟨[(3, (BO a3)), (4, (PV.rf 0 0)), (6, (PV.rf 1 0)), (8, (PV.rf 2 0)), (10, (PV.rf 3 0)), (85, (BO s20))], [.box 29 (z1r a0), .box 29 (z1r a2), .box 29 z3d, .box 76 [(z0k x2.f_Name), (BO x2.f_At), (I64 x2.f_Index)]], _⟩ _
 refine cX h rfl ?_ ?_
 intro hc21 h
 refine bR ?_
 iterate 4 refine sX ?_
 obtain ⟨x22, hx22, h⟩ := obind h
 refine sS rfl rfl rfl (z03 rfl zye rfl (wkr (wkr .nil)) ⟨(z0f z1l a0.fields), ⟨rfl, trivial⟩⟩ (zx4 a0.fields x2.f_Name x22 hx22) (z00 rfl (z00 rfl z05))) ?_
 iterate 4 refine sX ?_
 refine eX ?_
 refine bR ?_
 refine sX ?_
 refine eX ?_
 refine cX h rfl ?_ ?_
 intro hc23 h
 refine bR ?_
 obtain ⟨x24, hx24, h⟩ := obind h
 refine sS rfl rfl rfl (z03 rfl zas rfl .nil trivial (za8  x24 hx24) (z06 x24)) ?_
 refine z0l rfl rfl (z0g z0v rfl rfl rfl rfl rfl rfl (lbE rfl) rfl) ?_
 refine eX ?_
 obtain rfl := eI h; exact z04 ⟨_, rfl, z0p (y := (PV.tup [(z0b x24), (I64 40)])) (Wk.refl _) (z00 (z06 x24) (z00 rfl z05)) ⟨rfl, rfl⟩⟩
 intro hc23 h
 refine z0c ?_
 exact ⟨rfl, (), h, jN⟩
 intro hc21 h
 refine z0c ?_
 exact ⟨rfl, (), h, jN⟩
 refine z0e ?_
 iterate 2 refine sX ?_
 refine z0n (t := 81) rfl ?_ ?_
 intro hb25; replace h := z0t hb25 h
 iterate 3 refine yX ?_
 refine sX (z08 ?_)
 exact ⟨rfl, (!x2.f_At), h, jN⟩
 intro hb25; replace h := z0u hb25 h
 iterate 3 refine nX ?_
 refine sX (z08 ?_)
 exact ⟨rfl, false, h, jN⟩
 refine z0e ?_
 iterate 3 refine sX ?_
 refine z0n (t := 60) rfl ?_ ?_
 intro hb26; replace h := z0t hb26 h
 iterate 7 refine yX ?_
 refine z0n (t := 67) rfl ?_ ?_
 intro hb27; replace h := z0t hb27 h
 iterate 9 refine nX ?_
 refine yX ?_
 refine sX (z08 ?_)
 exact ⟨rfl, true, h, jN⟩
 intro hb27; replace h := z0u hb27 h
 iterate 2 refine yX ?_
 refine z0n (t := 69) rfl ?_ ?_
 intro hb28; replace h := z0t hb28 h
 iterate 8 refine yX ?_
 refine sX (z08 ?_)
 exact ⟨rfl, (x2.f_Index == (((a0.list).length : Nat) : Int)), h, jN⟩
 intro hb28; replace h := z0u hb28 h
 iterate 6 refine nX ?_
 iterate 2 refine yX ?_
 refine sX (z08 ?_)
 exact ⟨rfl, false, h, jN⟩
 intro hb26; replace h := z0u hb26 h
 iterate 17 refine nX ?_
 refine sX (z08 ?_)
 exact ⟨rfl, false, h, jN⟩
theorem C_q18.sound : ∀ (i : C_q18) (r : i.R), z3b C_q18.F i = some r → C_q18.Q i r := by
 refine z42 (Φ := C_q18.F) (Q := C_q18.Q) ?_
 intro g hg i r h
 cases i with
 | k_q18 a0 a1 a2 a3 => exact zgs (fun a0 a1 a2 a3 => g (.k_q18 a0 a1 a2 a3)) (fun a0 a1 a2 a3 r hr => hg (.k_q18 a0 a1 a2 a3) r hr) a0 a1 a2 a3 r h
theorem Z00 (a0 : Term) (a1 : (List S_api_Step)) (a2 : Term) (a3 : Bool) (r : (Term × Int)) (h : z82 a0 a1 a2 a3 = some r) : z0o Try.prog 48 [(z0b a0), (PV.sl none 76 3 (List.map z01 a1)), (z0b a2), (BO a3)] (PV.tup [(z0b r.1), (I64 r.2)]) := C_q18.sound (.k_q18 a0 a1 a2 a3) r h
noncomputable def zci (a0 : Term) (s1 : Int) : Option (Term × Int) :=
 bif (s1 != 0) then (
 (z8i).bind fun x3 =>
 some (x3, s1)
 ) else (
 some (a0, 0)
 )
noncomputable def zjt (a0 : Term) (a1 : Int) : Option (Term × Int) :=
 bif (a1 == 0) then (
 (zid a0).bind fun x5 =>
 zci a0 x5.2
 ) else (
 zci a0 a1
 )
theorem zzx (a0 : Term) (a1 : Int) (r : (Term × Int)) (h : zjt a0 a1 = some r) : z0o Try.prog 47 [(z0b a0), (I64 a1)] (PV.tup [(z0b r.1), (I64 r.2)]) := by
 unfold zjt at h
 refine z0j Try.func47 rfl Try.ntmps47 Try.results47 rfl (z0q ?_)
 change BW _ _ _ ⟨[(0, (z0b a0)), (1, (I64 a1))], [], _⟩ _
 refine bR ?_
 refine sX ?_
 refine sS rfl rfl rfl (z1b z0v rfl) ?_
 refine eX ?_
 refine jX (ι := Int) (fun i => zci a0 i = some r) (fun i => [(1, (I64 i)), (2, (PV.rf 0 0)), (4, (PV.rf 1 0))]) (fun i => [.box 29 (z1r a0), .box 29 z3d]) ?_ ?_
 rintro s1 h; replace h : zci a0 s1 = some r := h; unfold zci at h
 change BW _ _ _ ⟨[(1, (I64 s1)), (2, (PV.rf 0 0)), (4, (PV.rf 1 0))], [.box 29 (z1r a0), .box 29 z3d], _⟩ _
 refine z0d ?_
 refine bR ?_
 refine sX ?_
 refine eX ?_
 refine cX h rfl ?_ ?_
 intro hc2 h
 refine bR ?_
 obtain ⟨x3, hx3, h⟩ := obind h
 refine sS rfl rfl rfl (z03 rfl zas rfl .nil trivial (za8  x3 hx3) (z06 x3)) ?_
 refine sX ?_
 refine z0l rfl rfl (z0g z0v rfl rfl rfl rfl rfl rfl (lbE rfl) rfl) ?_
 refine eX ?_
 obtain rfl := eI h; exact z04 ⟨_, rfl, z0p (y := (PV.tup [(z0b x3), (I64 s1)])) (Wk.refl _) (z00 (z06 x3) (z00 rfl z05)) ⟨rfl, rfl⟩⟩
 intro hc2 h
 refine z0c ?_
 refine cBx ?_
 refine bR ?_
 refine sX ?_
 refine z0l rfl rfl (z0g z0v rfl rfl rfl rfl rfl rfl (lbE rfl) rfl) ?_
 refine eX ?_
 obtain rfl := eI h; exact z04 ⟨_, rfl, z0p (y := (PV.tup [(z0b a0), (I64 0)])) (Wk.refl _) (z00 (z06 a0) (z00 rfl z05)) ⟨rfl, rfl⟩⟩
 refine bR ?_
 refine sX ?_
 refine eX ?_
 refine cX h rfl ?_ ?_
 intro hc4 h
 refine z0e ?_
 refine sX ?_
 obtain ⟨x5, hx5, h⟩ := obind h
 refine sS rfl rfl rfl (z03 rfl zum rfl (wkr .nil) ⟨(z06 a0), trivial⟩ (ztb a0 x5 hx5) (z00 rfl (z00 rfl z05))) ?_
 iterate 3 refine sX ?_
 refine sX (z08 ?_)
 exact ⟨rfl, x5.2, h, jN⟩
 intro hc4 h
 refine z0c ?_
 exact ⟨rfl, a1, h, jN⟩
end Go.Proofs.Ythidgpcbnieleaa
