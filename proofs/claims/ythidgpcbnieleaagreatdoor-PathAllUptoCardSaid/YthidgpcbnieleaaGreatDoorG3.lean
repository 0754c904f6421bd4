/- Pure functions, and that calls answer as they say. -/
import Derived.Test.YthidgpcbnieleaaGreatDoorG2
namespace Go.Proofs.YthidgpcbnieleaaGreatDoor
open Go Aw
set_option linter.unusedVariables false
set_option linter.unusedSimpArgs false
set_option maxRecDepth 20000
set_option maxHeartbeats 2000000
variable {ι : Type} {ρ : ι → Type}
noncomputable def znu (a0 : V) (a1 : (List S_api_Step)) (a2 : V) : Option (V × Int) :=
 (zjr a0 a1).bind fun x1 =>
 bif (x1 != 0) then (
 some (V.nil, x1)
 ) else (
 (zd3 a2).bind fun x3 =>
 bif (x3.2 != 0) then (
 some (V.nil, x3.2)
 ) else (
 bif ((((a1).length : Nat) : Int) == 0) then (
 (z8q a2).bind fun x6 =>
 some (x6.1, x6.2)
 ) else (
 (zo5 a0 a1 true a2).bind fun x7 =>
 bif (x7.2 != 0) then (
 some (V.nil, x7.2)
 ) else (
 (z8q x7.1).bind fun x9 =>
 some (x9.1, x9.2)
 )
 )
 )
 )
theorem Z4k (a0 : V) (a1 : (List S_api_Step)) (a2 : V) (r : (V × Int)) (h : znu a0 a1 a2 = some r) : z0m Tryz.prog 10 [(ofV a0), (PV.sl none 83 3 (List.map z00 a1)), (ofV a2)] (PV.tup [(ofV r.1), (I64 r.2)]) := by
 unfold znu at h
 refine z0d Tryz.func10 rfl Tryz.ntmps10 Tryz.results10 rfl (z0g ?_)
 change BW _ _ _ ⟨[(0, (ofV a0)), (1, (PV.sl none 83 3 (List.map z00 a1))), (2, (ofV a2))], [], _⟩ _
 refine bR ?_
 refine sS rfl rfl rfl ((zb4 rfl rfl (z3t _)).cast rfl (by rw [z0t])) ?_
 refine sX ?_
 refine eX ?_
 refine z08 ?_
 refine z08 ?_
 refine z3p 0 5 (y := (PV.pt 20 (ofV a2) 0)) rfl rfl (Wk.pt (x := .agg [(ofV a2)]) (y := (ofV a2)) (by rw [z0t]; exact (wkr .nil))) ?_
 refine z0f ?_
 iterate 2 refine sX ?_
 obtain ⟨x1, hx1, h⟩ := obind h
 refine sS rfl rfl rfl (z06 rfl Z0a rfl (wkr (wkr .nil)) ⟨(ids_V a0), ⟨(z03 z02 a1), trivial⟩⟩ (zye a0 a1 x1 hx1) rfl) ?_
 refine eX ?_
 refine bR ?_
 refine sX ?_
 refine eX ?_
 refine cX h rfl ?_ ?_
 intro hc2 h
 refine bR ?_
 iterate 2 refine sX ?_
 refine eX ?_
 obtain rfl := eI h; exact z05 ⟨_, rfl, z0p (y := (PV.tup [(ofV V.nil), (I64 x1)])) (Wk.tup (.cons (Wk.eq mk_nil.symm) (wkr .nil))) (z01 (ids_V V.nil) (z01 rfl z04)) ⟨rfl, rfl⟩⟩
 intro hc2 h
 refine z07 ?_
 refine cBx ?_
 refine z08 ?_
 refine bR ?_
 refine sS rfl rfl rfl (z1y (y := (ofV a2)) Tryz.underlying20 rfl rfl rfl (by rw [z0t]; rfl)) ?_
 obtain ⟨x3, hx3, h⟩ := obind h
 refine sS rfl rfl rfl (z06 rfl zki rfl (wkr .nil) ⟨(ids_V a2), trivial⟩ (zji a2 x3 hx3) (z01 rfl (z01 rfl z04))) ?_
 iterate 4 refine sX ?_
 refine eX ?_
 refine bR ?_
 refine sX ?_
 refine eX ?_
 refine cX h rfl ?_ ?_
 intro hc4 h
 refine bR ?_
 iterate 2 refine sX ?_
 refine eX ?_
 obtain rfl := eI h; exact z05 ⟨_, rfl, z0p (y := (PV.tup [(ofV V.nil), (I64 x3.2)])) (Wk.tup (.cons (Wk.eq mk_nil.symm) (wkr .nil))) (z01 (ids_V V.nil) (z01 rfl z04)) ⟨rfl, rfl⟩⟩
 intro hc4 h
 refine z07 ?_
 refine cBx ?_
 refine z08 ?_
 refine bR ?_
 iterate 2 refine sX ?_
 refine eX ?_
 refine cX h rfl ?_ ?_
 intro hc5 h
 refine bR ?_
 refine sS rfl rfl rfl (z1y (y := (ofV a2)) Tryz.underlying20 rfl rfl rfl (by rw [z0t]; rfl)) ?_
 obtain ⟨x6, hx6, h⟩ := obind h
 refine sS rfl rfl rfl (z06 rfl zkh rfl (wkr .nil) ⟨(ids_V a2), trivial⟩ (zjh a2 x6 hx6) (z01 (ids_V x6.1) (z01 rfl z04))) ?_
 iterate 3 refine sX ?_
 refine eX ?_
 obtain rfl := eI h; exact z05 ⟨_, rfl, z0p (y := (PV.tup [(ofV x6.1), (I64 x6.2)])) (Wk.refl _) (z01 (ids_V x6.1) (z01 rfl z04)) ⟨rfl, rfl⟩⟩
 intro hc5 h
 refine z07 ?_
 refine cBx ?_
 refine bR ?_
 iterate 2 refine sX ?_
 refine sS rfl rfl rfl (z69 rfl rfl rfl) ?_
 obtain ⟨x7, hx7, h⟩ := obind h
 refine sS rfl rfl rfl (z06 rfl zvp rfl (wkr (wkr (wkr (wkr .nil)))) ⟨(ids_V a0), ⟨(z03 z02 a1), ⟨rfl, ⟨(z4h (z4g (ids_V a2) rfl)), trivial⟩⟩⟩⟩ (Z5d a0 a1 true a2 x7 hx7) (z01 (ids_V x7.1) (z01 rfl z04))) ?_
 iterate 4 refine sX ?_
 refine eX ?_
 refine z08 ?_
 refine bR ?_
 refine sX ?_
 refine eX ?_
 refine cX h rfl ?_ ?_
 intro hc8 h
 refine bR ?_
 iterate 2 refine sX ?_
 refine eX ?_
 obtain rfl := eI h; exact z05 ⟨_, rfl, z0p (y := (PV.tup [(ofV V.nil), (I64 x7.2)])) (Wk.tup (.cons (Wk.eq mk_nil.symm) (wkr .nil))) (z01 (ids_V V.nil) (z01 rfl z04)) ⟨rfl, rfl⟩⟩
 intro hc8 h
 refine z07 ?_
 refine cBx ?_
 refine bR ?_
 refine sX ?_
 obtain ⟨x9, hx9, h⟩ := obind h
 refine sS rfl rfl rfl (z06 rfl zkh rfl (wkr .nil) ⟨(ids_V x7.1), trivial⟩ (zjh x7.1 x9 hx9) (z01 (ids_V x9.1) (z01 rfl z04))) ?_
 iterate 3 refine sX ?_
 refine eX ?_
 obtain rfl := eI h; exact z05 ⟨_, rfl, z0p (y := (PV.tup [(ofV x9.1), (I64 x9.2)])) (Wk.refl _) (z01 (ids_V x9.1) (z01 rfl z04)) ⟨rfl, rfl⟩⟩
noncomputable def zny (a0 a1 : Int) : Option Int :=
 bif (decide (a0 < a1)) then (
 some (-1)
 ) else (
 bif (decide (a0 > a1)) then (
 some 1
 ) else (
 some 0
 )
 )
theorem zyf (a0 a1 r : Int) (h : zny a0 a1 = some r) : z0m Tryz.prog 59 [(I64 a0), (I64 a1)] (I64 r) := by
 unfold zny at h
 refine z0d Tryz.func59 rfl Tryz.ntmps59 Tryz.results59 rfl (z0g ?_)
 change BW _ _ _ ⟨[(0, (I64 a0)), (1, (I64 a1))], [], _⟩ _
 refine bR ?_
 refine eX ?_
 refine z08 ?_
 refine z0h ?_
 refine cBx ?_
 refine bR ?_
 iterate 3 refine sX ?_
 refine eX ?_
 refine cX h rfl ?_ ?_
 intro hc1 h
 refine bR ?_
 refine eX ?_
 obtain rfl := eI h; exact z05 eK
 intro hc1 h
 refine bR ?_
 iterate 3 refine sX ?_
 refine eX ?_
 refine cX h rfl ?_ ?_
 intro hc2 h
 refine bR ?_
 refine eX ?_
 obtain rfl := eI h; exact z05 eK
 intro hc2 h
 refine z07 ?_
 refine cBx ?_
 refine bR ?_
 refine eX ?_
 obtain rfl := eI h; exact z05 eK
noncomputable def zqq (a0 : Bool) : Option Int :=
 bif a0 then (
 some 1
 ) else (
 some 0
 )
theorem Z1u (a0 : Bool) (r : Int) (h : zqq a0 = some r) : z0m Tryz.prog 61 [(BO a0)] (I64 r) := by
 unfold zqq at h
 refine z0d Tryz.func61 rfl Tryz.ntmps61 Tryz.results61 rfl (z0g ?_)
 change BW _ _ _ ⟨[(0, (BO a0))], [], _⟩ _
 refine bR ?_
 refine eX ?_
 refine z08 ?_
 refine bR ?_
 refine eX ?_
 refine cX h rfl ?_ ?_
 intro hc1 h
 refine bR ?_
 refine eX ?_
 obtain rfl := eI h; exact z05 eK
 intro hc1 h
 refine z07 ?_
 refine cBx ?_
 refine bR ?_
 refine eX ?_
 obtain rfl := eI h; exact z05 eK
noncomputable def zu3 (a0 a1 : Int) : Option Int :=
 bif (decide (a0 < a1)) then (
 some (-1)
 ) else (
 bif (decide (a0 > a1)) then (
 some 1
 ) else (
 some 0
 )
 )
theorem Z56 (a0 a1 r : Int) (h : zu3 a0 a1 = some r) : z0m Tryz.prog 62 [(I64 a0), (I64 a1)] (I64 r) := by
 unfold zu3 at h
 refine z0d Tryz.func62 rfl Tryz.ntmps62 Tryz.results62 rfl (z0g ?_)
 change BW _ _ _ ⟨[(0, (I64 a0)), (1, (I64 a1))], [], _⟩ _
 refine bR ?_
 refine eX ?_
 refine z08 ?_
 refine z0h ?_
 refine cBx ?_
 refine bR ?_
 iterate 3 refine sX ?_
 refine eX ?_
 refine cX h rfl ?_ ?_
 intro hc1 h
 refine bR ?_
 refine eX ?_
 obtain rfl := eI h; exact z05 eK
 intro hc1 h
 refine bR ?_
 iterate 3 refine sX ?_
 refine eX ?_
 refine cX h rfl ?_ ?_
 intro hc2 h
 refine bR ?_
 refine eX ?_
 obtain rfl := eI h; exact z05 eK
 intro hc2 h
 refine z07 ?_
 refine cBx ?_
 refine bR ?_
 refine eX ?_
 obtain rfl := eI h; exact z05 eK
noncomputable def znw (a0 : Nat) : Option Int :=
 bif ((znc .u64 ((a0 : Nat) : Int) 63) == 1) then (
 some (Z8r .u64 ((a0 : Nat) : Int))
 ) else (
 some (orK .u64 ((a0 : Nat) : Int) 9223372036854775808)
 )
theorem Z1s (a0 : Nat) (r : Int) (h : znw a0 = some r) : z0m Tryz.prog 64 [(PV.v (.float .f64 a0))] (PV.v (.int .u64 r)) := by
 unfold znw at h
 refine z0d Tryz.func64 rfl Tryz.ntmps64 Tryz.results64 rfl (z0g ?_)
 change BW _ _ _ ⟨[(0, (PV.v (.float .f64 a0)))], [], _⟩ _
 refine bR ?_
 refine eX ?_
 refine bR ?_
 refine sX ?_
 refine sS rfl rfl rfl (zk9 rfl rfl) ?_
 refine eX ?_
 refine z08 ?_
 refine bR ?_
 refine sX ?_
 refine sS rfl rfl rfl ((zr5 rfl rfl rfl (by decide)).cast (y := (PV.v (.int .u64 (znc .u64 ((a0 : Nat) : Int) 63)))) rfl rfl) ?_
 refine eX ?_
 refine cX h rfl ?_ ?_
 intro hc1 h
 refine bR ?_
 refine sX ?_
 refine sS rfl rfl rfl (zud rfl rfl) ?_
 refine eX ?_
 obtain rfl := eI h; exact z05 eK
 intro hc1 h
 refine z07 ?_
 refine cBx ?_
 refine bR ?_
 refine sX ?_
 refine sS rfl rfl rfl ((zz3 rfl rfl rfl).cast (y := (PV.v (.int .u64 (orK .u64 ((a0 : Nat) : Int) 9223372036854775808)))) rfl rfl) ?_
 refine eX ?_
 obtain rfl := eI h; exact z05 eK
noncomputable def zu6 (a0 a1 : Int) : Option Int :=
 bif (decide (a0 < a1)) then (
 some (-1)
 ) else (
 bif (decide (a0 > a1)) then (
 some 1
 ) else (
 some 0
 )
 )
theorem Z59 (a0 a1 r : Int) (h : zu6 a0 a1 = some r) : z0m Tryz.prog 63 [(PV.v (.int .u64 a0)), (PV.v (.int .u64 a1))] (I64 r) := by
 unfold zu6 at h
 refine z0d Tryz.func63 rfl Tryz.ntmps63 Tryz.results63 rfl (z0g ?_)
 change BW _ _ _ ⟨[(0, (PV.v (.int .u64 a0))), (1, (PV.v (.int .u64 a1)))], [], _⟩ _
 refine bR ?_
 refine eX ?_
 refine z08 ?_
 refine z0h ?_
 refine cBx ?_
 refine bR ?_
 iterate 3 refine sX ?_
 refine eX ?_
 refine cX h rfl ?_ ?_
 intro hc1 h
 refine bR ?_
 refine eX ?_
 obtain rfl := eI h; exact z05 eK
 intro hc1 h
 refine bR ?_
 iterate 3 refine sX ?_
 refine eX ?_
 refine cX h rfl ?_ ?_
 intro hc2 h
 refine bR ?_
 refine eX ?_
 obtain rfl := eI h; exact z05 eK
 intro hc2 h
 refine z07 ?_
 refine cBx ?_
 refine bR ?_
 refine eX ?_
 obtain rfl := eI h; exact z05 eK
noncomputable def zk0 (a0 a1 : Str) : Option Int :=
 bif (Op.bytesLess a0 a1) then (
 some (-1)
 ) else (
 bif (!(Op.bytesLess a0 a1 || a0 == a1)) then (
 some 1
 ) else (
 some 0
 )
 )
theorem zyg (a0 a1 : Str) (r : Int) (h : zk0 a0 a1 = some r) : z0m Tryz.prog 65 [(z0i a0), (z0i a1)] (I64 r) := by
 unfold zk0 at h
 refine z0d Tryz.func65 rfl Tryz.ntmps65 Tryz.results65 rfl (z0g ?_)
 change BW _ _ _ ⟨[(0, (z0i a0)), (1, (z0i a1))], [], _⟩ _
 refine bR ?_
 refine eX ?_
 refine z08 ?_
 refine z0h ?_
 refine cBx ?_
 refine bR ?_
 iterate 2 refine sX ?_
 refine sS rfl rfl rfl ((z2p (a := a0) (b := a1) rfl rfl rfl rfl).cast (y := (BO ((Op.bytesLess a0 a1)))) rfl rfl) ?_
 refine eX ?_
 refine cX h rfl ?_ ?_
 intro hc1 h
 refine bR ?_
 refine eX ?_
 obtain rfl := eI h; exact z05 eK
 intro hc1 h
 refine bR ?_
 iterate 2 refine sX ?_
 refine sS rfl rfl rfl ((z2p (a := a0) (b := a1) rfl rfl rfl rfl).cast (y := (BO ((!(Op.bytesLess a0 a1 || a0 == a1))))) rfl rfl) ?_
 refine eX ?_
 refine cX h rfl ?_ ?_
 intro hc2 h
 refine bR ?_
 refine eX ?_
 obtain rfl := eI h; exact z05 eK
 intro hc2 h
 refine z07 ?_
 refine cBx ?_
 refine bR ?_
 refine eX ?_
 obtain rfl := eI h; exact z05 eK
noncomputable def znz (a0 : UInt8) : Option Bool :=
 some (((a0).toNat : Int) != ((a0).toNat : Int))
theorem Z1w (a0 : UInt8) (r : Bool) (h : znz a0 = some r) : z0m Tryz.prog 115 [(ofB a0)] (BO r) := by
 unfold znz at h
 refine z0d Tryz.func115 rfl Tryz.ntmps115 Tryz.results115 rfl (z0g ?_)
 change BW _ _ _ ⟨[(0, (ofB a0))], [], _⟩ _
 refine bR ?_
 refine eX ?_
 refine bR ?_
 iterate 3 refine sX ?_
 refine eX ?_
 obtain rfl := eI h; exact z05 eK
noncomputable def zqr (a0 a1 : UInt8) : Option Int :=
 (znz a0).bind fun x1 =>
 (znz a1).bind fun x2 =>
 bif x1 then (
 bif x2 then (
 some 0
 ) else (
 some (-1)
 )
 ) else (
 bif x2 then (
 some 1
 ) else (
 bif (decide (((a0).toNat : Int) < ((a1).toNat : Int))) then (
 some (-1)
 ) else (
 bif (decide (((a0).toNat : Int) > ((a1).toNat : Int))) then (
 some 1
 ) else (
 some 0
 )
 )
 )
 )
theorem Z5a (a0 a1 : UInt8) (r : Int) (h : zqr a0 a1 = some r) : z0m Tryz.prog 100 [(ofB a0), (ofB a1)] (I64 r) := by
 unfold zqr at h
 refine z0d Tryz.func100 rfl Tryz.ntmps100 Tryz.results100 rfl (z0g ?_)
 change BW _ _ _ ⟨[(0, (ofB a0)), (1, (ofB a1))], [], _⟩ _
 refine bR ?_
 refine eX ?_
 refine bR ?_
 refine sX ?_
 obtain ⟨x1, hx1, h⟩ := obind h
 refine sS rfl rfl rfl (z06 rfl zxn rfl (wkr .nil) ⟨rfl, trivial⟩ (Z1w a0 x1 hx1) rfl) ?_
 refine eX ?_
 refine bR ?_
 refine sX ?_
 obtain ⟨x2, hx2, h⟩ := obind h
 refine sS rfl rfl rfl (z06 rfl zxn rfl (wkr .nil) ⟨rfl, trivial⟩ (Z1w a1 x2 hx2) rfl) ?_
 refine eX ?_
 refine z08 ?_
 refine bR ?_
 refine eX ?_
 refine cX h rfl ?_ ?_
 intro hc3 h
 refine z08 ?_
 refine bR ?_
 refine eX ?_
 refine cX h rfl ?_ ?_
 intro hc4 h
 refine bR ?_
 refine eX ?_
 obtain rfl := eI h; exact z05 eK
 intro hc4 h
 refine z07 ?_
 refine cBx ?_
 refine bR ?_
 refine eX ?_
 obtain rfl := eI h; exact z05 eK
 intro hc3 h
 refine z07 ?_
 refine cBx ?_
 refine z08 ?_
 refine bR ?_
 refine eX ?_
 refine cX h rfl ?_ ?_
 intro hc5 h
 refine bR ?_
 refine eX ?_
 obtain rfl := eI h; exact z05 eK
 intro hc5 h
 refine z07 ?_
 refine cBx ?_
 refine z08 ?_
 refine bR ?_
 iterate 2 refine sX ?_
 refine eX ?_
 refine cX h rfl ?_ ?_
 intro hc6 h
 refine bR ?_
 refine eX ?_
 obtain rfl := eI h; exact z05 eK
 intro hc6 h
 refine z07 ?_
 refine cBx ?_
 refine z08 ?_
 refine bR ?_
 iterate 2 refine sX ?_
 refine eX ?_
 refine cX h rfl ?_ ?_
 intro hc7 h
 refine bR ?_
 refine eX ?_
 obtain rfl := eI h; exact z05 eK
 intro hc7 h
 refine z07 ?_
 refine cBx ?_
 refine bR ?_
 refine eX ?_
 obtain rfl := eI h; exact z05 eK
noncomputable def z6w (a0 a1 : Str) (g1 : Nat → Option Int) (s1 : Nat) : Option Int :=
 bif (decide (((s1 : Nat) : Int) < (((a0).length : Nat) : Int))) then (
 ((a0)[s1]?).bind fun x4 =>
 bif (decide (((s1 : Nat) : Int) ≥ (((a1).length : Nat) : Int))) then (
 some 1
 ) else (
 ((a1)[s1]?).bind fun x6 =>
 (zqr x4 x6).bind fun x7 =>
 bif (x7 != 0) then (
 some x7
 ) else (
 g1 (s1 + 1)
 )
 )
 ) else (
 bif (decide ((((a0).length : Nat) : Int) < (((a1).length : Nat) : Int))) then (
 some (-1)
 ) else (
 some 0
 )
 )
theorem znr (g1 : OF ρ → Nat → Option Int) (h_g1 : ∀ y0, CM (fun G => g1 G y0)) (a0 a1 : Str) (s1 : Nat) : CM (fun G : OF ρ => z6w a0 a1 (g1 G) s1) := by
 simp only [z6w]
 repeat (first | exact z0c | exact h_g1 _ | refine z11 ?_ ?_ | refine z12 ?_ (fun _ => ?_))
noncomputable def zhu (a0 a1 : Str) (s1 : Nat) : Option Int :=
 z2w (ι := Nat) (ρ := fun _ => Int) (fun g i => z6w a0 a1 (fun s1 => g s1) i) s1
theorem zht (a0 a1 : Str) (s1 : Nat) : zhu a0 a1 s1 = z6w a0 a1 (zhu a0 a1) s1 :=
 z19 (ι := Nat) (ρ := fun _ => Int) (Φ := fun g i => z6w a0 a1 (fun s1 => g s1) i) (fun i => znr (ι := Nat) (ρ := fun _ => Int) (fun g => (fun s1 => g s1)) (fun _ => z17) a0 a1 i) s1
noncomputable def zu9 (a0 a1 : Str) : Option Int :=
 zhu a0 a1 0
theorem Z5j (a0 a1 : Str) (r : Int) (h : zu9 a0 a1 = some r) : z0m Tryz.prog 66 [(PV.sl none 5 1 (List.map ofB a0)), (PV.sl none 5 1 (List.map ofB a1))] (I64 r) := by
 unfold zu9 at h
 refine z0d Tryz.func66 rfl Tryz.ntmps66 Tryz.results66 rfl (z0g ?_)
 change BW _ _ _ ⟨[(0, (PV.sl none 5 1 (List.map ofB a0))), (1, (PV.sl none 5 1 (List.map ofB a1)))], [], _⟩ _
 refine bR ?_
 refine eX ?_
 refine z08 ?_
 refine bR ?_
 iterate 2 refine sX ?_
 refine eX ?_
 refine z0h ?_
 refine cBx ?_
 unfold zhu at h
 refine lX (σ := Nat) (fun i => [(0, (PV.sl none 5 1 (List.map ofB a0))), (1, (PV.sl none 5 1 (List.map ofB a1))), (9, (PV.sl none 5 1 (List.map ofB a0))), (10, (I64 ((((a0).length : Nat) : Int)))), (11, (I64 (((i : Nat) : Int))))]) (fun i => []) 0 h ?_ ?_
 exact jN
 rintro g1_f s1 h; replace h : z6w a0 a1 (fun y0 => g1_f y0) s1 = some r := h; unfold z6w at h
 change BW _ _ _ ⟨[(0, (PV.sl none 5 1 (List.map ofB a0))), (1, (PV.sl none 5 1 (List.map ofB a1))), (9, (PV.sl none 5 1 (List.map ofB a0))), (10, (I64 ((((a0).length : Nat) : Int)))), (11, (I64 (((s1 : Nat) : Int))))], [], _⟩ _
 refine bR ?_
 refine eX ?_
 refine z08 ?_
 refine z3j (t := 9) rfl fun hb3 => ?_
 try rw [List.length_map] at hb3
 refine cX h rfl ?_ ?_
 intro hc2 h
 have hc2_ := of_decide_eq_true hc2
 refine z07 ?_
 refine cBx ?_
 refine z08 ?_
 refine z0h ?_
 refine cBx ?_
 refine bR ?_
 refine sX ?_
 obtain ⟨x4, hx4, h⟩ := obind h
 refine sS rfl rfl rfl (z1r (i := s1) Tryz.underlying23 inf_5 rfl rfl rfl hx4 rfl) ?_
 iterate 2 refine sX ?_
 refine eX ?_
 refine z08 ?_
 refine bR ?_
 iterate 3 refine sX ?_
 refine eX ?_
 refine cX h rfl ?_ ?_
 intro hc5 h
 refine bR ?_
 refine eX ?_
 obtain rfl := eI h; exact z05 eK
 intro hc5 h
 refine z07 ?_
 refine cBx ?_
 refine bR ?_
 iterate 2 refine sX ?_
 obtain ⟨x6, hx6, h⟩ := obind h
 refine sS rfl rfl rfl (z1r (i := s1) Tryz.underlying23 inf_5 rfl rfl rfl hx6 rfl) ?_
 refine sX ?_
 refine eX ?_
 refine bR ?_
 iterate 2 refine sX ?_
 obtain ⟨x7, hx7, h⟩ := obind h
 refine sS rfl rfl rfl (z06 rfl Z3x rfl (wkr (wkr .nil)) ⟨rfl, ⟨rfl, trivial⟩⟩ (Z5a x4 x6 x7 hx7) rfl) ?_
 refine eX ?_
 refine bR ?_
 refine sX ?_
 refine eX ?_
 refine cX h rfl ?_ ?_
 intro hc8 h
 refine bR ?_
 refine sX ?_
 refine eX ?_
 obtain rfl := eI h; exact z05 eK
 intro hc8 h
 refine z07 ?_
 refine cBx ?_
 refine z0f ?_
 refine sS rfl rfl rfl (z27 (k := s1) (c := 1) rfl rfl rfl (by omega)) ?_
 refine sX (z0a ?_)
 exact ⟨rfl, (s1 + 1), h, jN⟩
 intro hc2 h
 refine z1z ?_
 refine cBx ?_
 refine z08 ?_
 refine bR ?_
 iterate 4 refine sX ?_
 refine eX ?_
 refine cX h rfl ?_ ?_
 intro hc9 h
 refine bR ?_
 refine eX ?_
 obtain rfl := eI h; exact z05 eK
 intro hc9 h
 refine z07 ?_
 refine cBx ?_
 refine bR ?_
 refine eX ?_
 obtain rfl := eI h; exact z05 eK
noncomputable def zu8 (a0 a1 : Int) : Option Int :=
 bif (decide (a0 < a1)) then (
 some (-1)
 ) else (
 bif (decide (a0 > a1)) then (
 some 1
 ) else (
 some 0
 )
 )
theorem Z5b (a0 a1 r : Int) (h : zu8 a0 a1 = some r) : z0m Tryz.prog 67 [(PV.v (.int .u64 a0)), (PV.v (.int .u64 a1))] (I64 r) := by
 unfold zu8 at h
 refine z0d Tryz.func67 rfl Tryz.ntmps67 Tryz.results67 rfl (z0g ?_)
 change BW _ _ _ ⟨[(0, (PV.v (.int .u64 a0))), (1, (PV.v (.int .u64 a1)))], [], _⟩ _
 refine bR ?_
 refine eX ?_
 refine z08 ?_
 refine z0h ?_
 refine cBx ?_
 refine bR ?_
 iterate 3 refine sX ?_
 refine eX ?_
 refine cX h rfl ?_ ?_
 intro hc1 h
 refine bR ?_
 refine eX ?_
 obtain rfl := eI h; exact z05 eK
 intro hc1 h
 refine bR ?_
 iterate 3 refine sX ?_
 refine eX ?_
 refine cX h rfl ?_ ?_
 intro hc2 h
 refine bR ?_
 refine eX ?_
 obtain rfl := eI h; exact z05 eK
 intro hc2 h
 refine z07 ?_
 refine cBx ?_
 refine bR ?_
 refine eX ?_
 obtain rfl := eI h; exact z05 eK
end Go.Proofs.YthidgpcbnieleaaGreatDoor
