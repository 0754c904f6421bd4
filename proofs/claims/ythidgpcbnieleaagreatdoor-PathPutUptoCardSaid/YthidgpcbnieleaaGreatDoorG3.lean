/- Pure functions, and that calls answer as they say. -/
import Derived.Test.YthidgpcbnieleaaGreatDoorG2
namespace Go.Proofs.YthidgpcbnieleaaGreatDoor
open Go Aw
set_option linter.unusedVariables false
set_option linter.unusedSimpArgs false
set_option maxRecDepth 20000
set_option maxHeartbeats 2000000
variable {ι : Type} {ρ : ι → Type}
noncomputable def zbq (a0 : V) (a1 : (List S_api_Step)) (a2 : V) : Option (V × Int) :=
 (zi2 a0 a1).bind fun x1 =>
 bif (x1 != 0) then (
 some (V.nil, x1)
 ) else (
 (zgi a2).bind fun x3 =>
 bif (x3.2 != 0) then (
 some (V.nil, x3.2)
 ) else (
 bif ((((a1).length : Nat) : Int) == 0) then (
 (z9w a2).bind fun x6 =>
 some (x6.1, x6.2)
 ) else (
 (zlu a0 a1 true a2).bind fun x7 =>
 bif (x7.2 != 0) then (
 some (V.nil, x7.2)
 ) else (
 (z9w x7.1).bind fun x9 =>
 some (x9.1, x9.2)
 )
 )
 )
 )
theorem zl2 (a0 : V) (a1 : (List S_api_Step)) (a2 : V) (r : (V × Int)) (h : zbq a0 a1 a2 = some r) : z0l Tryz.prog 10 [(ofV a0), (PV.sl none 83 3 (List.map z02 a1)), (ofV a2)] (PV.tup [(ofV r.1), (I64 r.2)]) := by
 unfold zbq at h
 refine z0c Tryz.func10 rfl Tryz.ntmps10 Tryz.results10 rfl (z0i ?_)
 change BW _ _ _ ⟨[(0, (ofV a0)), (1, (PV.sl none 83 3 (List.map z02 a1))), (2, (ofV a2))], [], _⟩ _
 refine bR ?_
 refine sS rfl rfl rfl ((zen rfl rfl (z5c _)).cast rfl (by rw [z11])) ?_
 refine sX ?_
 refine eX ?_
 refine z09 ?_
 refine z09 ?_
 refine z87 0 5 (y := (PV.pt 20 (ofV a2) 0)) rfl rfl (Wk.pt (x := .agg [(ofV a2)]) (y := (ofV a2)) (by rw [z11]; exact (wkr .nil))) ?_
 refine z0f ?_
 iterate 2 refine sX ?_
 obtain ⟨x1, hx1, h⟩ := obind h
 refine sS rfl rfl rfl (z05 rfl zx2 rfl (wkr (wkr .nil)) ⟨(ids_V a0), ⟨(z06 z01 a1), trivial⟩⟩ (zvc a0 a1 x1 hx1) rfl) ?_
 refine eX ?_
 refine bR ?_
 refine sX ?_
 refine eX ?_
 refine cX h rfl ?_ ?_
 intro hc2 h
 refine bR ?_
 iterate 2 refine sX ?_
 refine eX ?_
 obtain rfl := eI h; exact z04 ⟨_, rfl, z0n (y := (PV.tup [(ofV V.nil), (I64 x1)])) (Wk.tup (.cons (Wk.eq mk_nil.symm) (wkr .nil))) (z00 (ids_V V.nil) (z00 rfl z03)) ⟨rfl, rfl⟩⟩
 intro hc2 h
 refine z08 ?_
 refine cBx ?_
 refine z09 ?_
 refine bR ?_
 refine sS rfl rfl rfl (z3x (y := (ofV a2)) Tryz.underlying20 rfl rfl rfl (by rw [z11]; rfl)) ?_
 obtain ⟨x3, hx3, h⟩ := obind h
 refine sS rfl rfl rfl (z05 rfl zsw rfl (wkr .nil) ⟨(ids_V a2), trivial⟩ (zqu a2 x3 hx3) (z00 rfl (z00 rfl z03))) ?_
 iterate 4 refine sX ?_
 refine eX ?_
 refine bR ?_
 refine sX ?_
 refine eX ?_
 refine cX h rfl ?_ ?_
 intro hc4 h
 refine bR ?_
 iterate 2 refine sX ?_
 refine eX ?_
 obtain rfl := eI h; exact z04 ⟨_, rfl, z0n (y := (PV.tup [(ofV V.nil), (I64 x3.2)])) (Wk.tup (.cons (Wk.eq mk_nil.symm) (wkr .nil))) (z00 (ids_V V.nil) (z00 rfl z03)) ⟨rfl, rfl⟩⟩
 intro hc4 h
 refine z08 ?_
 refine cBx ?_
 refine z09 ?_
 refine bR ?_
 iterate 2 refine sX ?_
 refine eX ?_
 refine cX h rfl ?_ ?_
 intro hc5 h
 refine bR ?_
 refine sS rfl rfl rfl (z3x (y := (ofV a2)) Tryz.underlying20 rfl rfl rfl (by rw [z11]; rfl)) ?_
 obtain ⟨x6, hx6, h⟩ := obind h
 refine sS rfl rfl rfl (z05 rfl zpz rfl (wkr .nil) ⟨(ids_V a2), trivial⟩ (zn6 a2 x6 hx6) (z00 (ids_V x6.1) (z00 rfl z03))) ?_
 iterate 3 refine sX ?_
 refine eX ?_
 obtain rfl := eI h; exact z04 ⟨_, rfl, z0n (y := (PV.tup [(ofV x6.1), (I64 x6.2)])) (Wk.refl _) (z00 (ids_V x6.1) (z00 rfl z03)) ⟨rfl, rfl⟩⟩
 intro hc5 h
 refine z08 ?_
 refine cBx ?_
 refine bR ?_
 iterate 2 refine sX ?_
 refine sS rfl rfl rfl (zjq rfl rfl rfl) ?_
 obtain ⟨x7, hx7, h⟩ := obind h
 refine sS rfl rfl rfl (z05 rfl zsv rfl (wkr (wkr (wkr (wkr .nil)))) ⟨(ids_V a0), ⟨(z06 z01 a1), ⟨rfl, ⟨(z3z (z3y (ids_V a2) rfl)), trivial⟩⟩⟩⟩ (Z1e a0 a1 true a2 x7 hx7) (z00 (ids_V x7.1) (z00 rfl z03))) ?_
 iterate 4 refine sX ?_
 refine eX ?_
 refine z09 ?_
 refine bR ?_
 refine sX ?_
 refine eX ?_
 refine cX h rfl ?_ ?_
 intro hc8 h
 refine bR ?_
 iterate 2 refine sX ?_
 refine eX ?_
 obtain rfl := eI h; exact z04 ⟨_, rfl, z0n (y := (PV.tup [(ofV V.nil), (I64 x7.2)])) (Wk.tup (.cons (Wk.eq mk_nil.symm) (wkr .nil))) (z00 (ids_V V.nil) (z00 rfl z03)) ⟨rfl, rfl⟩⟩
 intro hc8 h
 refine z08 ?_
 refine cBx ?_
 refine bR ?_
 refine sX ?_
 obtain ⟨x9, hx9, h⟩ := obind h
 refine sS rfl rfl rfl (z05 rfl zpz rfl (wkr .nil) ⟨(ids_V x7.1), trivial⟩ (zn6 x7.1 x9 hx9) (z00 (ids_V x9.1) (z00 rfl z03))) ?_
 iterate 3 refine sX ?_
 refine eX ?_
 obtain rfl := eI h; exact z04 ⟨_, rfl, z0n (y := (PV.tup [(ofV x9.1), (I64 x9.2)])) (Wk.refl _) (z00 (ids_V x9.1) (z00 rfl z03)) ⟨rfl, rfl⟩⟩
noncomputable def zlo (a0 a1 : Int) : Option Int :=
 bif (decide (a0 < a1)) then (
 some (-1)
 ) else (
 bif (decide (a0 > a1)) then (
 some 1
 ) else (
 some 0
 )
 )
theorem zvd (a0 a1 r : Int) (h : zlo a0 a1 = some r) : z0l Tryz.prog 59 [(I64 a0), (I64 a1)] (I64 r) := by
 unfold zlo at h
 refine z0c Tryz.func59 rfl Tryz.ntmps59 Tryz.results59 rfl (z0i ?_)
 change BW _ _ _ ⟨[(0, (I64 a0)), (1, (I64 a1))], [], _⟩ _
 refine bR ?_
 refine eX ?_
 refine z09 ?_
 refine z0j ?_
 refine cBx ?_
 refine bR ?_
 iterate 3 refine sX ?_
 refine eX ?_
 refine cX h rfl ?_ ?_
 intro hc1 h
 refine bR ?_
 refine eX ?_
 obtain rfl := eI h; exact z04 eK
 intro hc1 h
 refine bR ?_
 iterate 3 refine sX ?_
 refine eX ?_
 refine cX h rfl ?_ ?_
 intro hc2 h
 refine bR ?_
 refine eX ?_
 obtain rfl := eI h; exact z04 eK
 intro hc2 h
 refine z08 ?_
 refine cBx ?_
 refine bR ?_
 refine eX ?_
 obtain rfl := eI h; exact z04 eK
noncomputable def zok (a0 : Bool) : Option Int :=
 bif a0 then (
 some 1
 ) else (
 some 0
 )
theorem zyd (a0 : Bool) (r : Int) (h : zok a0 = some r) : z0l Tryz.prog 61 [(BO a0)] (I64 r) := by
 unfold zok at h
 refine z0c Tryz.func61 rfl Tryz.ntmps61 Tryz.results61 rfl (z0i ?_)
 change BW _ _ _ ⟨[(0, (BO a0))], [], _⟩ _
 refine bR ?_
 refine eX ?_
 refine z09 ?_
 refine bR ?_
 refine eX ?_
 refine cX h rfl ?_ ?_
 intro hc1 h
 refine bR ?_
 refine eX ?_
 obtain rfl := eI h; exact z04 eK
 intro hc1 h
 refine z08 ?_
 refine cBx ?_
 refine bR ?_
 refine eX ?_
 obtain rfl := eI h; exact z04 eK
noncomputable def zrd (a0 a1 : Int) : Option Int :=
 bif (decide (a0 < a1)) then (
 some (-1)
 ) else (
 bif (decide (a0 > a1)) then (
 some 1
 ) else (
 some 0
 )
 )
theorem Z19 (a0 a1 r : Int) (h : zrd a0 a1 = some r) : z0l Tryz.prog 62 [(I64 a0), (I64 a1)] (I64 r) := by
 unfold zrd at h
 refine z0c Tryz.func62 rfl Tryz.ntmps62 Tryz.results62 rfl (z0i ?_)
 change BW _ _ _ ⟨[(0, (I64 a0)), (1, (I64 a1))], [], _⟩ _
 refine bR ?_
 refine eX ?_
 refine z09 ?_
 refine z0j ?_
 refine cBx ?_
 refine bR ?_
 iterate 3 refine sX ?_
 refine eX ?_
 refine cX h rfl ?_ ?_
 intro hc1 h
 refine bR ?_
 refine eX ?_
 obtain rfl := eI h; exact z04 eK
 intro hc1 h
 refine bR ?_
 iterate 3 refine sX ?_
 refine eX ?_
 refine cX h rfl ?_ ?_
 intro hc2 h
 refine bR ?_
 refine eX ?_
 obtain rfl := eI h; exact z04 eK
 intro hc2 h
 refine z08 ?_
 refine cBx ?_
 refine bR ?_
 refine eX ?_
 obtain rfl := eI h; exact z04 eK
noncomputable def zlm (a0 : Nat) : Option Int :=
 bif ((zl1 .u64 ((a0 : Nat) : Int) 63) == 1) then (
 some (Z3j .u64 ((a0 : Nat) : Int))
 ) else (
 some (orK .u64 ((a0 : Nat) : Int) 9223372036854775808)
 )
theorem zyb (a0 : Nat) (r : Int) (h : zlm a0 = some r) : z0l Tryz.prog 64 [(PV.v (.float .f64 a0))] (PV.v (.int .u64 r)) := by
 unfold zlm at h
 refine z0c Tryz.func64 rfl Tryz.ntmps64 Tryz.results64 rfl (z0i ?_)
 change BW _ _ _ ⟨[(0, (PV.v (.float .f64 a0)))], [], _⟩ _
 refine bR ?_
 refine eX ?_
 refine bR ?_
 refine sX ?_
 refine sS rfl rfl rfl (zic rfl rfl) ?_
 refine eX ?_
 refine z09 ?_
 refine bR ?_
 refine sX ?_
 refine sS rfl rfl rfl ((zos rfl rfl rfl (by decide)).cast (y := (PV.v (.int .u64 (zl1 .u64 ((a0 : Nat) : Int) 63)))) rfl rfl) ?_
 refine eX ?_
 refine cX h rfl ?_ ?_
 intro hc1 h
 refine bR ?_
 refine sX ?_
 refine sS rfl rfl rfl (zrm rfl rfl) ?_
 refine eX ?_
 obtain rfl := eI h; exact z04 eK
 intro hc1 h
 refine z08 ?_
 refine cBx ?_
 refine bR ?_
 refine sX ?_
 refine sS rfl rfl rfl ((zvw rfl rfl rfl).cast (y := (PV.v (.int .u64 (orK .u64 ((a0 : Nat) : Int) 9223372036854775808)))) rfl rfl) ?_
 refine eX ?_
 obtain rfl := eI h; exact z04 eK
noncomputable def zrf (a0 a1 : Int) : Option Int :=
 bif (decide (a0 < a1)) then (
 some (-1)
 ) else (
 bif (decide (a0 > a1)) then (
 some 1
 ) else (
 some 0
 )
 )
theorem Z1b (a0 a1 r : Int) (h : zrf a0 a1 = some r) : z0l Tryz.prog 63 [(PV.v (.int .u64 a0)), (PV.v (.int .u64 a1))] (I64 r) := by
 unfold zrf at h
 refine z0c Tryz.func63 rfl Tryz.ntmps63 Tryz.results63 rfl (z0i ?_)
 change BW _ _ _ ⟨[(0, (PV.v (.int .u64 a0))), (1, (PV.v (.int .u64 a1)))], [], _⟩ _
 refine bR ?_
 refine eX ?_
 refine z09 ?_
 refine z0j ?_
 refine cBx ?_
 refine bR ?_
 iterate 3 refine sX ?_
 refine eX ?_
 refine cX h rfl ?_ ?_
 intro hc1 h
 refine bR ?_
 refine eX ?_
 obtain rfl := eI h; exact z04 eK
 intro hc1 h
 refine bR ?_
 iterate 3 refine sX ?_
 refine eX ?_
 refine cX h rfl ?_ ?_
 intro hc2 h
 refine bR ?_
 refine eX ?_
 obtain rfl := eI h; exact z04 eK
 intro hc2 h
 refine z08 ?_
 refine cBx ?_
 refine bR ?_
 refine eX ?_
 obtain rfl := eI h; exact z04 eK
noncomputable def zi7 (a0 a1 : Str) : Option Int :=
 bif (Op.bytesLess a0 a1) then (
 some (-1)
 ) else (
 bif (!(Op.bytesLess a0 a1 || a0 == a1)) then (
 some 1
 ) else (
 some 0
 )
 )
theorem zve (a0 a1 : Str) (r : Int) (h : zi7 a0 a1 = some r) : z0l Tryz.prog 65 [(z0k a0), (z0k a1)] (I64 r) := by
 unfold zi7 at h
 refine z0c Tryz.func65 rfl Tryz.ntmps65 Tryz.results65 rfl (z0i ?_)
 change BW _ _ _ ⟨[(0, (z0k a0)), (1, (z0k a1))], [], _⟩ _
 refine bR ?_
 refine eX ?_
 refine z09 ?_
 refine z0j ?_
 refine cBx ?_
 refine bR ?_
 iterate 2 refine sX ?_
 refine sS rfl rfl rfl ((z2e (a := a0) (b := a1) rfl rfl rfl rfl).cast (y := (BO ((Op.bytesLess a0 a1)))) rfl rfl) ?_
 refine eX ?_
 refine cX h rfl ?_ ?_
 intro hc1 h
 refine bR ?_
 refine eX ?_
 obtain rfl := eI h; exact z04 eK
 intro hc1 h
 refine bR ?_
 iterate 2 refine sX ?_
 refine sS rfl rfl rfl ((z2e (a := a0) (b := a1) rfl rfl rfl rfl).cast (y := (BO ((!(Op.bytesLess a0 a1 || a0 == a1))))) rfl rfl) ?_
 refine eX ?_
 refine cX h rfl ?_ ?_
 intro hc2 h
 refine bR ?_
 refine eX ?_
 obtain rfl := eI h; exact z04 eK
 intro hc2 h
 refine z08 ?_
 refine cBx ?_
 refine bR ?_
 refine eX ?_
 obtain rfl := eI h; exact z04 eK
noncomputable def zlr (a0 : UInt8) : Option Bool :=
 some (((a0).toNat : Int) != ((a0).toNat : Int))
theorem zyh (a0 : UInt8) (r : Bool) (h : zlr a0 = some r) : z0l Tryz.prog 115 [(ofB a0)] (BO r) := by
 unfold zlr at h
 refine z0c Tryz.func115 rfl Tryz.ntmps115 Tryz.results115 rfl (z0i ?_)
 change BW _ _ _ ⟨[(0, (ofB a0))], [], _⟩ _
 refine bR ?_
 refine eX ?_
 refine bR ?_
 iterate 3 refine sX ?_
 refine eX ?_
 obtain rfl := eI h; exact z04 eK
noncomputable def zol (a0 a1 : UInt8) : Option Int :=
 (zlr a0).bind fun x1 =>
 (zlr a1).bind fun x2 =>
 bif x1 then (
 bif x2 then (
 some 0
 ) else (
 some (-1)
 )
 ) else (
 bif x2 then (
 some 1
 ) else (
 bif (decide (((a0).toNat : Int) < ((a1).toNat : Int))) then (
 some (-1)
 ) else (
 bif (decide (((a0).toNat : Int) > ((a1).toNat : Int))) then (
 some 1
 ) else (
 some 0
 )
 )
 )
 )
theorem Z1a (a0 a1 : UInt8) (r : Int) (h : zol a0 a1 = some r) : z0l Tryz.prog 100 [(ofB a0), (ofB a1)] (I64 r) := by
 unfold zol at h
 refine z0c Tryz.func100 rfl Tryz.ntmps100 Tryz.results100 rfl (z0i ?_)
 change BW _ _ _ ⟨[(0, (ofB a0)), (1, (ofB a1))], [], _⟩ _
 refine bR ?_
 refine eX ?_
 refine bR ?_
 refine sX ?_
 obtain ⟨x1, hx1, h⟩ := obind h
 refine sS rfl rfl rfl (z05 rfl zuj rfl (wkr .nil) ⟨rfl, trivial⟩ (zyh a0 x1 hx1) rfl) ?_
 refine eX ?_
 refine bR ?_
 refine sX ?_
 obtain ⟨x2, hx2, h⟩ := obind h
 refine sS rfl rfl rfl (z05 rfl zuj rfl (wkr .nil) ⟨rfl, trivial⟩ (zyh a1 x2 hx2) rfl) ?_
 refine eX ?_
 refine z09 ?_
 refine bR ?_
 refine eX ?_
 refine cX h rfl ?_ ?_
 intro hc3 h
 refine z09 ?_
 refine bR ?_
 refine eX ?_
 refine cX h rfl ?_ ?_
 intro hc4 h
 refine bR ?_
 refine eX ?_
 obtain rfl := eI h; exact z04 eK
 intro hc4 h
 refine z08 ?_
 refine cBx ?_
 refine bR ?_
 refine eX ?_
 obtain rfl := eI h; exact z04 eK
 intro hc3 h
 refine z08 ?_
 refine cBx ?_
 refine z09 ?_
 refine bR ?_
 refine eX ?_
 refine cX h rfl ?_ ?_
 intro hc5 h
 refine bR ?_
 refine eX ?_
 obtain rfl := eI h; exact z04 eK
 intro hc5 h
 refine z08 ?_
 refine cBx ?_
 refine z09 ?_
 refine bR ?_
 iterate 2 refine sX ?_
 refine eX ?_
 refine cX h rfl ?_ ?_
 intro hc6 h
 refine bR ?_
 refine eX ?_
 obtain rfl := eI h; exact z04 eK
 intro hc6 h
 refine z08 ?_
 refine cBx ?_
 refine z09 ?_
 refine bR ?_
 iterate 2 refine sX ?_
 refine eX ?_
 refine cX h rfl ?_ ?_
 intro hc7 h
 refine bR ?_
 refine eX ?_
 obtain rfl := eI h; exact z04 eK
 intro hc7 h
 refine z08 ?_
 refine cBx ?_
 refine bR ?_
 refine eX ?_
 obtain rfl := eI h; exact z04 eK
noncomputable def z60 (a0 a1 : Str) (g1 : Nat → Option Int) (s1 : Nat) : Option Int :=
 bif (decide (((s1 : Nat) : Int) < (((a0).length : Nat) : Int))) then (
 ((a0)[s1]?).bind fun x4 =>
 bif (decide (((s1 : Nat) : Int) ≥ (((a1).length : Nat) : Int))) then (
 some 1
 ) else (
 ((a1)[s1]?).bind fun x6 =>
 (zol x4 x6).bind fun x7 =>
 bif (x7 != 0) then (
 some x7
 ) else (
 g1 (s1 + 1)
 )
 )
 ) else (
 bif (decide ((((a0).length : Nat) : Int) < (((a1).length : Nat) : Int))) then (
 some (-1)
 ) else (
 some 0
 )
 )
theorem zli (g1 : OF ρ → Nat → Option Int) (h_g1 : ∀ y0, CM (fun G => g1 G y0)) (a0 a1 : Str) (s1 : Nat) : CM (fun G : OF ρ => z60 a0 a1 (g1 G) s1) := by
 simp only [z60]
 repeat (first | exact z0e | exact h_g1 _ | refine z13 ?_ ?_ | refine z14 ?_ (fun _ => ?_))
noncomputable def zga (a0 a1 : Str) (s1 : Nat) : Option Int :=
 z3r (ι := Nat) (ρ := fun _ => Int) (fun g i => z60 a0 a1 (fun s1 => g s1) i) s1
theorem zg9 (a0 a1 : Str) (s1 : Nat) : zga a0 a1 s1 = z60 a0 a1 (zga a0 a1) s1 :=
 z1f (ι := Nat) (ρ := fun _ => Int) (Φ := fun g i => z60 a0 a1 (fun s1 => g s1) i) (fun i => zli (ι := Nat) (ρ := fun _ => Int) (fun g => (fun s1 => g s1)) (fun _ => z1h) a0 a1 i) s1
noncomputable def zrh (a0 a1 : Str) : Option Int :=
 zga a0 a1 0
theorem Z1h (a0 a1 : Str) (r : Int) (h : zrh a0 a1 = some r) : z0l Tryz.prog 66 [(PV.sl none 5 1 (List.map ofB a0)), (PV.sl none 5 1 (List.map ofB a1))] (I64 r) := by
 unfold zrh at h
 refine z0c Tryz.func66 rfl Tryz.ntmps66 Tryz.results66 rfl (z0i ?_)
 change BW _ _ _ ⟨[(0, (PV.sl none 5 1 (List.map ofB a0))), (1, (PV.sl none 5 1 (List.map ofB a1)))], [], _⟩ _
 refine bR ?_
 refine eX ?_
 refine z09 ?_
 refine bR ?_
 iterate 2 refine sX ?_
 refine eX ?_
 refine z0j ?_
 refine cBx ?_
 unfold zga at h
 refine lX (σ := Nat) (fun i => [(0, (PV.sl none 5 1 (List.map ofB a0))), (1, (PV.sl none 5 1 (List.map ofB a1))), (9, (PV.sl none 5 1 (List.map ofB a0))), (10, (I64 ((((a0).length : Nat) : Int)))), (11, (I64 (((i : Nat) : Int))))]) (fun i => []) 0 h ?_ ?_
 exact jN
 rintro g1_f s1 h; replace h : z60 a0 a1 (fun y0 => g1_f y0) s1 = some r := h; unfold z60 at h
 change BW _ _ _ ⟨[(0, (PV.sl none 5 1 (List.map ofB a0))), (1, (PV.sl none 5 1 (List.map ofB a1))), (9, (PV.sl none 5 1 (List.map ofB a0))), (10, (I64 ((((a0).length : Nat) : Int)))), (11, (I64 (((s1 : Nat) : Int))))], [], _⟩ _
 refine bR ?_
 refine eX ?_
 refine z09 ?_
 refine z5r (t := 9) rfl fun hb3 => ?_
 try rw [List.length_map] at hb3
 refine cX h rfl ?_ ?_
 intro hc2 h
 have hc2_ := of_decide_eq_true hc2
 refine z08 ?_
 refine cBx ?_
 refine z09 ?_
 refine z0j ?_
 refine cBx ?_
 refine bR ?_
 refine sX ?_
 obtain ⟨x4, hx4, h⟩ := obind h
 refine sS rfl rfl rfl (z1v (i := s1) Tryz.underlying23 inf_5 rfl rfl rfl hx4 rfl) ?_
 iterate 2 refine sX ?_
 refine eX ?_
 refine z09 ?_
 refine bR ?_
 iterate 3 refine sX ?_
 refine eX ?_
 refine cX h rfl ?_ ?_
 intro hc5 h
 refine bR ?_
 refine eX ?_
 obtain rfl := eI h; exact z04 eK
 intro hc5 h
 refine z08 ?_
 refine cBx ?_
 refine bR ?_
 iterate 2 refine sX ?_
 obtain ⟨x6, hx6, h⟩ := obind h
 refine sS rfl rfl rfl (z1v (i := s1) Tryz.underlying23 inf_5 rfl rfl rfl hx6 rfl) ?_
 refine sX ?_
 refine eX ?_
 refine bR ?_
 iterate 2 refine sX ?_
 obtain ⟨x7, hx7, h⟩ := obind h
 refine sS rfl rfl rfl (z05 rfl Z09 rfl (wkr (wkr .nil)) ⟨rfl, ⟨rfl, trivial⟩⟩ (Z1a x4 x6 x7 hx7) rfl) ?_
 refine eX ?_
 refine bR ?_
 refine sX ?_
 refine eX ?_
 refine cX h rfl ?_ ?_
 intro hc8 h
 refine bR ?_
 refine sX ?_
 refine eX ?_
 obtain rfl := eI h; exact z04 eK
 intro hc8 h
 refine z08 ?_
 refine cBx ?_
 refine z0f ?_
 refine sS rfl rfl rfl (z2v (k := s1) (c := 1) rfl rfl rfl (by omega)) ?_
 refine sX (z0b ?_)
 exact ⟨rfl, (s1 + 1), h, jN⟩
 intro hc2 h
 refine z2b ?_
 refine cBx ?_
 refine z09 ?_
 refine bR ?_
 iterate 4 refine sX ?_
 refine eX ?_
 refine cX h rfl ?_ ?_
 intro hc9 h
 refine bR ?_
 refine eX ?_
 obtain rfl := eI h; exact z04 eK
 intro hc9 h
 refine z08 ?_
 refine cBx ?_
 refine bR ?_
 refine eX ?_
 obtain rfl := eI h; exact z04 eK
noncomputable def zrg (a0 a1 : Int) : Option Int :=
 bif (decide (a0 < a1)) then (
 some (-1)
 ) else (
 bif (decide (a0 > a1)) then (
 some 1
 ) else (
 some 0
 )
 )
theorem Z1d (a0 a1 r : Int) (h : zrg a0 a1 = some r) : z0l Tryz.prog 67 [(PV.v (.int .u64 a0)), (PV.v (.int .u64 a1))] (I64 r) := by
 unfold zrg at h
 refine z0c Tryz.func67 rfl Tryz.ntmps67 Tryz.results67 rfl (z0i ?_)
 change BW _ _ _ ⟨[(0, (PV.v (.int .u64 a0))), (1, (PV.v (.int .u64 a1)))], [], _⟩ _
 refine bR ?_
 refine eX ?_
 refine z09 ?_
 refine z0j ?_
 refine cBx ?_
 refine bR ?_
 iterate 3 refine sX ?_
 refine eX ?_
 refine cX h rfl ?_ ?_
 intro hc1 h
 refine bR ?_
 refine eX ?_
 obtain rfl := eI h; exact z04 eK
 intro hc1 h
 refine bR ?_
 iterate 3 refine sX ?_
 refine eX ?_
 refine cX h rfl ?_ ?_
 intro hc2 h
 refine bR ?_
 refine eX ?_
 obtain rfl := eI h; exact z04 eK
 intro hc2 h
 refine z08 ?_
 refine cBx ?_
 refine bR ?_
 refine eX ?_
 obtain rfl := eI h; exact z04 eK
end Go.Proofs.YthidgpcbnieleaaGreatDoor
