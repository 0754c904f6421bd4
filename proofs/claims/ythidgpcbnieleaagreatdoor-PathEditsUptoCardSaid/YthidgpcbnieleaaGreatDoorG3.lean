/- Pure functions, and that calls answer as they say. -/
import Derived.Test.YthidgpcbnieleaaGreatDoorG2
namespace Go.Proofs.YthidgpcbnieleaaGreatDoor
open Go Aw
set_option linter.unusedVariables false
set_option linter.unusedSimpArgs false
set_option maxRecDepth 20000
set_option maxHeartbeats 2000000
variable {ι : Type} {ρ : ι → Type}
noncomputable def zmb (a0 : V) (a1 : (List S_api_Step)) (a2 : V) : Option (V × Int) :=
 (zip a0 a1).bind fun x1 =>
 bif (x1 != 0) then (
 some (V.nil, x1)
 ) else (
 (zd5 a2).bind fun x3 =>
 bif (x3.2 != 0) then (
 some (V.nil, x3.2)
 ) else (
 bif ((((a1).length : Nat) : Int) == 0) then (
 (z73 a2).bind fun x6 =>
 some (x6.1, x6.2)
 ) else (
 (zml a0 a1 true a2).bind fun x7 =>
 bif (x7.2 != 0) then (
 some (V.nil, x7.2)
 ) else (
 (z73 x7.1).bind fun x9 =>
 some (x9.1, x9.2)
 )
 )
 )
 )
theorem Z1w (a0 : V) (a1 : (List S_api_Step)) (a2 : V) (r : (V × Int)) (h : zmb a0 a1 a2 = some r) : z0k Tryz.prog 10 [(ofV a0), (PV.sl none 83 3 (List.map z03 a1)), (ofV a2)] (PV.tup [(ofV r.1), (I64 r.2)]) := by
 unfold zmb at h
 refine z0e Tryz.func10 rfl Tryz.ntmps10 Tryz.results10 rfl (z0i ?_)
 change BW _ _ _ ⟨[(0, (ofV a0)), (1, (PV.sl none 83 3 (List.map z03 a1))), (2, (ofV a2))], [], _⟩ _
 refine bR ?_
 refine sS rfl rfl rfl ((zez rfl rfl (z4c _)).cast rfl (by rw [z0x])) ?_
 refine sX ?_
 refine eX ?_
 refine z0b ?_
 refine z0b ?_
 refine z7m 0 5 (y := (PV.pt 20 (ofV a2) 0)) rfl rfl (Wk.pt (x := .agg [(ofV a2)]) (y := (ofV a2)) (by rw [z0x]; exact (wkr .nil))) ?_
 refine z0g ?_
 iterate 2 refine sX ?_
 obtain ⟨x1, hx1, h⟩ := obind h
 refine sS rfl rfl rfl (z05 rfl zxy rfl (wkr (wkr .nil)) ⟨(ids_V a0), ⟨(z07 z01 a1), trivial⟩⟩ (zw8 a0 a1 x1 hx1) rfl) ?_
 refine eX ?_
 refine bR ?_
 refine sX ?_
 refine eX ?_
 refine cX h rfl ?_ ?_
 intro hc2 h
 refine bR ?_
 iterate 2 refine sX ?_
 refine eX ?_
 obtain rfl := eI h; exact z04 ⟨_, rfl, z0f (y := (PV.tup [(ofV V.nil), (I64 x1)])) (Wk.tup (.cons (Wk.eq mk_nil.symm) (wkr .nil))) (z00 (ids_V V.nil) (z00 rfl z02)) ⟨rfl, rfl⟩⟩
 intro hc2 h
 refine z09 ?_
 refine cBx ?_
 refine z0b ?_
 refine bR ?_
 refine sS rfl rfl rfl (z44 (y := (ofV a2)) Tryz.underlying20 rfl rfl rfl (by rw [z0x]; rfl)) ?_
 obtain ⟨x3, hx3, h⟩ := obind h
 refine sS rfl rfl rfl (z05 rfl zn8 rfl (wkr .nil) ⟨(ids_V a2), trivial⟩ (zlr a2 x3 hx3) (z00 rfl (z00 rfl z02))) ?_
 iterate 4 refine sX ?_
 refine eX ?_
 refine bR ?_
 refine sX ?_
 refine eX ?_
 refine cX h rfl ?_ ?_
 intro hc4 h
 refine bR ?_
 iterate 2 refine sX ?_
 refine eX ?_
 obtain rfl := eI h; exact z04 ⟨_, rfl, z0f (y := (PV.tup [(ofV V.nil), (I64 x3.2)])) (Wk.tup (.cons (Wk.eq mk_nil.symm) (wkr .nil))) (z00 (ids_V V.nil) (z00 rfl z02)) ⟨rfl, rfl⟩⟩
 intro hc4 h
 refine z09 ?_
 refine cBx ?_
 refine z0b ?_
 refine bR ?_
 iterate 2 refine sX ?_
 refine eX ?_
 refine cX h rfl ?_ ?_
 intro hc5 h
 refine bR ?_
 refine sS rfl rfl rfl (z44 (y := (ofV a2)) Tryz.underlying20 rfl rfl rfl (by rw [z0x]; rfl)) ?_
 obtain ⟨x6, hx6, h⟩ := obind h
 refine sS rfl rfl rfl (z05 rfl zn7 rfl (wkr .nil) ⟨(ids_V a2), trivial⟩ (zlq a2 x6 hx6) (z00 (ids_V x6.1) (z00 rfl z02))) ?_
 iterate 3 refine sX ?_
 refine eX ?_
 obtain rfl := eI h; exact z04 ⟨_, rfl, z0f (y := (PV.tup [(ofV x6.1), (I64 x6.2)])) (Wk.refl _) (z00 (ids_V x6.1) (z00 rfl z02)) ⟨rfl, rfl⟩⟩
 intro hc5 h
 refine z09 ?_
 refine cBx ?_
 refine bR ?_
 iterate 2 refine sX ?_
 refine sS rfl rfl rfl (zdv rfl rfl rfl) ?_
 obtain ⟨x7, hx7, h⟩ := obind h
 refine sS rfl rfl rfl (z05 rfl zf9 rfl (wkr (wkr (wkr (wkr .nil)))) ⟨(ids_V a0), ⟨(z07 z01 a1), ⟨rfl, ⟨(z2l (z2k (ids_V a2) rfl)), trivial⟩⟩⟩⟩ (Z2k a0 a1 true a2 x7 hx7) (z00 (ids_V x7.1) (z00 rfl z02))) ?_
 iterate 4 refine sX ?_
 refine eX ?_
 refine z0b ?_
 refine bR ?_
 refine sX ?_
 refine eX ?_
 refine cX h rfl ?_ ?_
 intro hc8 h
 refine bR ?_
 iterate 2 refine sX ?_
 refine eX ?_
 obtain rfl := eI h; exact z04 ⟨_, rfl, z0f (y := (PV.tup [(ofV V.nil), (I64 x7.2)])) (Wk.tup (.cons (Wk.eq mk_nil.symm) (wkr .nil))) (z00 (ids_V V.nil) (z00 rfl z02)) ⟨rfl, rfl⟩⟩
 intro hc8 h
 refine z09 ?_
 refine cBx ?_
 refine bR ?_
 refine sX ?_
 obtain ⟨x9, hx9, h⟩ := obind h
 refine sS rfl rfl rfl (z05 rfl zn7 rfl (wkr .nil) ⟨(ids_V x7.1), trivial⟩ (zlq x7.1 x9 hx9) (z00 (ids_V x9.1) (z00 rfl z02))) ?_
 iterate 3 refine sX ?_
 refine eX ?_
 obtain rfl := eI h; exact z04 ⟨_, rfl, z0f (y := (PV.tup [(ofV x9.1), (I64 x9.2)])) (Wk.refl _) (z00 (ids_V x9.1) (z00 rfl z02)) ⟨rfl, rfl⟩⟩
noncomputable def zmg (a0 a1 : Int) : Option Int :=
 bif (decide (a0 < a1)) then (
 some (-1)
 ) else (
 bif (decide (a0 > a1)) then (
 some 1
 ) else (
 some 0
 )
 )
theorem zwa (a0 a1 r : Int) (h : zmg a0 a1 = some r) : z0k Tryz.prog 59 [(I64 a0), (I64 a1)] (I64 r) := by
 unfold zmg at h
 refine z0e Tryz.func59 rfl Tryz.ntmps59 Tryz.results59 rfl (z0i ?_)
 change BW _ _ _ ⟨[(0, (I64 a0)), (1, (I64 a1))], [], _⟩ _
 refine bR ?_
 refine eX ?_
 refine z0b ?_
 refine z0m ?_
 refine cBx ?_
 refine bR ?_
 iterate 3 refine sX ?_
 refine eX ?_
 refine cX h rfl ?_ ?_
 intro hc1 h
 refine bR ?_
 refine eX ?_
 obtain rfl := eI h; exact z04 eK
 intro hc1 h
 refine bR ?_
 iterate 3 refine sX ?_
 refine eX ?_
 refine cX h rfl ?_ ?_
 intro hc2 h
 refine bR ?_
 refine eX ?_
 obtain rfl := eI h; exact z04 eK
 intro hc2 h
 refine z09 ?_
 refine cBx ?_
 refine bR ?_
 refine eX ?_
 obtain rfl := eI h; exact z04 eK
noncomputable def zp7 (a0 : Bool) : Option Int :=
 bif a0 then (
 some 1
 ) else (
 some 0
 )
theorem zz5 (a0 : Bool) (r : Int) (h : zp7 a0 = some r) : z0k Tryz.prog 61 [(BO a0)] (I64 r) := by
 unfold zp7 at h
 refine z0e Tryz.func61 rfl Tryz.ntmps61 Tryz.results61 rfl (z0i ?_)
 change BW _ _ _ ⟨[(0, (BO a0))], [], _⟩ _
 refine bR ?_
 refine eX ?_
 refine z0b ?_
 refine bR ?_
 refine eX ?_
 refine cX h rfl ?_ ?_
 intro hc1 h
 refine bR ?_
 refine eX ?_
 obtain rfl := eI h; exact z04 eK
 intro hc1 h
 refine z09 ?_
 refine cBx ?_
 refine bR ?_
 refine eX ?_
 obtain rfl := eI h; exact z04 eK
noncomputable def zs9 (a0 a1 : Int) : Option Int :=
 bif (decide (a0 < a1)) then (
 some (-1)
 ) else (
 bif (decide (a0 > a1)) then (
 some 1
 ) else (
 some 0
 )
 )
theorem Z2e (a0 a1 r : Int) (h : zs9 a0 a1 = some r) : z0k Tryz.prog 62 [(I64 a0), (I64 a1)] (I64 r) := by
 unfold zs9 at h
 refine z0e Tryz.func62 rfl Tryz.ntmps62 Tryz.results62 rfl (z0i ?_)
 change BW _ _ _ ⟨[(0, (I64 a0)), (1, (I64 a1))], [], _⟩ _
 refine bR ?_
 refine eX ?_
 refine z0b ?_
 refine z0m ?_
 refine cBx ?_
 refine bR ?_
 iterate 3 refine sX ?_
 refine eX ?_
 refine cX h rfl ?_ ?_
 intro hc1 h
 refine bR ?_
 refine eX ?_
 obtain rfl := eI h; exact z04 eK
 intro hc1 h
 refine bR ?_
 iterate 3 refine sX ?_
 refine eX ?_
 refine cX h rfl ?_ ?_
 intro hc2 h
 refine bR ?_
 refine eX ?_
 obtain rfl := eI h; exact z04 eK
 intro hc2 h
 refine z09 ?_
 refine cBx ?_
 refine bR ?_
 refine eX ?_
 obtain rfl := eI h; exact z04 eK
noncomputable def zme (a0 : Nat) : Option Int :=
 bif ((zlp .u64 ((a0 : Nat) : Int) 63) == 1) then (
 some (Z4v .u64 ((a0 : Nat) : Int))
 ) else (
 some (orK .u64 ((a0 : Nat) : Int) 9223372036854775808)
 )
theorem zz6 (a0 : Nat) (r : Int) (h : zme a0 = some r) : z0k Tryz.prog 64 [(PV.v (.float .f64 a0))] (PV.v (.int .u64 r)) := by
 unfold zme at h
 refine z0e Tryz.func64 rfl Tryz.ntmps64 Tryz.results64 rfl (z0i ?_)
 change BW _ _ _ ⟨[(0, (PV.v (.float .f64 a0)))], [], _⟩ _
 refine bR ?_
 refine eX ?_
 refine bR ?_
 refine sX ?_
 refine sS rfl rfl rfl (zj0 rfl rfl) ?_
 refine eX ?_
 refine z0b ?_
 refine bR ?_
 refine sX ?_
 refine sS rfl rfl rfl ((zpf rfl rfl rfl (by decide)).cast (y := (PV.v (.int .u64 (zlp .u64 ((a0 : Nat) : Int) 63)))) rfl rfl) ?_
 refine eX ?_
 refine cX h rfl ?_ ?_
 intro hc1 h
 refine bR ?_
 refine sX ?_
 refine sS rfl rfl rfl (zsj rfl rfl) ?_
 refine eX ?_
 obtain rfl := eI h; exact z04 eK
 intro hc1 h
 refine z09 ?_
 refine cBx ?_
 refine bR ?_
 refine sX ?_
 refine sS rfl rfl rfl ((zwt rfl rfl rfl).cast (y := (PV.v (.int .u64 (orK .u64 ((a0 : Nat) : Int) 9223372036854775808)))) rfl rfl) ?_
 refine eX ?_
 obtain rfl := eI h; exact z04 eK
noncomputable def zsb (a0 a1 : Int) : Option Int :=
 bif (decide (a0 < a1)) then (
 some (-1)
 ) else (
 bif (decide (a0 > a1)) then (
 some 1
 ) else (
 some 0
 )
 )
theorem Z2g (a0 a1 r : Int) (h : zsb a0 a1 = some r) : z0k Tryz.prog 63 [(PV.v (.int .u64 a0)), (PV.v (.int .u64 a1))] (I64 r) := by
 unfold zsb at h
 refine z0e Tryz.func63 rfl Tryz.ntmps63 Tryz.results63 rfl (z0i ?_)
 change BW _ _ _ ⟨[(0, (PV.v (.int .u64 a0))), (1, (PV.v (.int .u64 a1)))], [], _⟩ _
 refine bR ?_
 refine eX ?_
 refine z0b ?_
 refine z0m ?_
 refine cBx ?_
 refine bR ?_
 iterate 3 refine sX ?_
 refine eX ?_
 refine cX h rfl ?_ ?_
 intro hc1 h
 refine bR ?_
 refine eX ?_
 obtain rfl := eI h; exact z04 eK
 intro hc1 h
 refine bR ?_
 iterate 3 refine sX ?_
 refine eX ?_
 refine cX h rfl ?_ ?_
 intro hc2 h
 refine bR ?_
 refine eX ?_
 obtain rfl := eI h; exact z04 eK
 intro hc2 h
 refine z09 ?_
 refine cBx ?_
 refine bR ?_
 refine eX ?_
 obtain rfl := eI h; exact z04 eK
noncomputable def ziu (a0 a1 : Str) : Option Int :=
 bif (Op.bytesLess a0 a1) then (
 some (-1)
 ) else (
 bif (!(Op.bytesLess a0 a1 || a0 == a1)) then (
 some 1
 ) else (
 some 0
 )
 )
theorem zwb (a0 a1 : Str) (r : Int) (h : ziu a0 a1 = some r) : z0k Tryz.prog 65 [(z0n a0), (z0n a1)] (I64 r) := by
 unfold ziu at h
 refine z0e Tryz.func65 rfl Tryz.ntmps65 Tryz.results65 rfl (z0i ?_)
 change BW _ _ _ ⟨[(0, (z0n a0)), (1, (z0n a1))], [], _⟩ _
 refine bR ?_
 refine eX ?_
 refine z0b ?_
 refine z0m ?_
 refine cBx ?_
 refine bR ?_
 iterate 2 refine sX ?_
 refine sS rfl rfl rfl ((z2h (a := a0) (b := a1) rfl rfl rfl rfl).cast (y := (BO ((Op.bytesLess a0 a1)))) rfl rfl) ?_
 refine eX ?_
 refine cX h rfl ?_ ?_
 intro hc1 h
 refine bR ?_
 refine eX ?_
 obtain rfl := eI h; exact z04 eK
 intro hc1 h
 refine bR ?_
 iterate 2 refine sX ?_
 refine sS rfl rfl rfl ((z2h (a := a0) (b := a1) rfl rfl rfl rfl).cast (y := (BO ((!(Op.bytesLess a0 a1 || a0 == a1))))) rfl rfl) ?_
 refine eX ?_
 refine cX h rfl ?_ ?_
 intro hc2 h
 refine bR ?_
 refine eX ?_
 obtain rfl := eI h; exact z04 eK
 intro hc2 h
 refine z09 ?_
 refine cBx ?_
 refine bR ?_
 refine eX ?_
 obtain rfl := eI h; exact z04 eK
noncomputable def zmh (a0 : UInt8) : Option Bool :=
 some (((a0).toNat : Int) != ((a0).toNat : Int))
theorem zza (a0 : UInt8) (r : Bool) (h : zmh a0 = some r) : z0k Tryz.prog 115 [(ofB a0)] (BO r) := by
 unfold zmh at h
 refine z0e Tryz.func115 rfl Tryz.ntmps115 Tryz.results115 rfl (z0i ?_)
 change BW _ _ _ ⟨[(0, (ofB a0))], [], _⟩ _
 refine bR ?_
 refine eX ?_
 refine bR ?_
 iterate 3 refine sX ?_
 refine eX ?_
 obtain rfl := eI h; exact z04 eK
noncomputable def zp9 (a0 a1 : UInt8) : Option Int :=
 (zmh a0).bind fun x1 =>
 (zmh a1).bind fun x2 =>
 bif x1 then (
 bif x2 then (
 some 0
 ) else (
 some (-1)
 )
 ) else (
 bif x2 then (
 some 1
 ) else (
 bif (decide (((a0).toNat : Int) < ((a1).toNat : Int))) then (
 some (-1)
 ) else (
 bif (decide (((a0).toNat : Int) > ((a1).toNat : Int))) then (
 some 1
 ) else (
 some 0
 )
 )
 )
 )
theorem Z2h (a0 a1 : UInt8) (r : Int) (h : zp9 a0 a1 = some r) : z0k Tryz.prog 100 [(ofB a0), (ofB a1)] (I64 r) := by
 unfold zp9 at h
 refine z0e Tryz.func100 rfl Tryz.ntmps100 Tryz.results100 rfl (z0i ?_)
 change BW _ _ _ ⟨[(0, (ofB a0)), (1, (ofB a1))], [], _⟩ _
 refine bR ?_
 refine eX ?_
 refine bR ?_
 refine sX ?_
 obtain ⟨x1, hx1, h⟩ := obind h
 refine sS rfl rfl rfl (z05 rfl zvk rfl (wkr .nil) ⟨rfl, trivial⟩ (zza a0 x1 hx1) rfl) ?_
 refine eX ?_
 refine bR ?_
 refine sX ?_
 obtain ⟨x2, hx2, h⟩ := obind h
 refine sS rfl rfl rfl (z05 rfl zvk rfl (wkr .nil) ⟨rfl, trivial⟩ (zza a1 x2 hx2) rfl) ?_
 refine eX ?_
 refine z0b ?_
 refine bR ?_
 refine eX ?_
 refine cX h rfl ?_ ?_
 intro hc3 h
 refine z0b ?_
 refine bR ?_
 refine eX ?_
 refine cX h rfl ?_ ?_
 intro hc4 h
 refine bR ?_
 refine eX ?_
 obtain rfl := eI h; exact z04 eK
 intro hc4 h
 refine z09 ?_
 refine cBx ?_
 refine bR ?_
 refine eX ?_
 obtain rfl := eI h; exact z04 eK
 intro hc3 h
 refine z09 ?_
 refine cBx ?_
 refine z0b ?_
 refine bR ?_
 refine eX ?_
 refine cX h rfl ?_ ?_
 intro hc5 h
 refine bR ?_
 refine eX ?_
 obtain rfl := eI h; exact z04 eK
 intro hc5 h
 refine z09 ?_
 refine cBx ?_
 refine z0b ?_
 refine bR ?_
 iterate 2 refine sX ?_
 refine eX ?_
 refine cX h rfl ?_ ?_
 intro hc6 h
 refine bR ?_
 refine eX ?_
 obtain rfl := eI h; exact z04 eK
 intro hc6 h
 refine z09 ?_
 refine cBx ?_
 refine z0b ?_
 refine bR ?_
 iterate 2 refine sX ?_
 refine eX ?_
 refine cX h rfl ?_ ?_
 intro hc7 h
 refine bR ?_
 refine eX ?_
 obtain rfl := eI h; exact z04 eK
 intro hc7 h
 refine z09 ?_
 refine cBx ?_
 refine bR ?_
 refine eX ?_
 obtain rfl := eI h; exact z04 eK
noncomputable def z6d (a0 a1 : Str) (g1 : Nat → Option Int) (s1 : Nat) : Option Int :=
 bif (decide (((s1 : Nat) : Int) < (((a0).length : Nat) : Int))) then (
 ((a0)[s1]?).bind fun x4 =>
 bif (decide (((s1 : Nat) : Int) ≥ (((a1).length : Nat) : Int))) then (
 some 1
 ) else (
 ((a1)[s1]?).bind fun x6 =>
 (zp9 x4 x6).bind fun x7 =>
 bif (x7 != 0) then (
 some x7
 ) else (
 g1 (s1 + 1)
 )
 )
 ) else (
 bif (decide ((((a0).length : Nat) : Int) < (((a1).length : Nat) : Int))) then (
 some (-1)
 ) else (
 some 0
 )
 )
theorem zm8 (g1 : OF ρ → Nat → Option Int) (h_g1 : ∀ y0, CM (fun G => g1 G y0)) (a0 a1 : Str) (s1 : Nat) : CM (fun G : OF ρ => z6d a0 a1 (g1 G) s1) := by
 simp only [z6d]
 repeat (first | exact z0h | exact h_g1 _ | refine z14 ?_ ?_ | refine z15 ?_ (fun _ => ?_))
noncomputable def zgp (a0 a1 : Str) (s1 : Nat) : Option Int :=
 z3n (ι := Nat) (ρ := fun _ => Int) (fun g i => z6d a0 a1 (fun s1 => g s1) i) s1
theorem zgo (a0 a1 : Str) (s1 : Nat) : zgp a0 a1 s1 = z6d a0 a1 (zgp a0 a1) s1 :=
 z1f (ι := Nat) (ρ := fun _ => Int) (Φ := fun g i => z6d a0 a1 (fun s1 => g s1) i) (fun i => zm8 (ι := Nat) (ρ := fun _ => Int) (fun g => (fun s1 => g s1)) (fun _ => z1j) a0 a1 i) s1
noncomputable def zse (a0 a1 : Str) : Option Int :=
 zgp a0 a1 0
theorem Z2n (a0 a1 : Str) (r : Int) (h : zse a0 a1 = some r) : z0k Tryz.prog 66 [(PV.sl none 5 1 (List.map ofB a0)), (PV.sl none 5 1 (List.map ofB a1))] (I64 r) := by
 unfold zse at h
 refine z0e Tryz.func66 rfl Tryz.ntmps66 Tryz.results66 rfl (z0i ?_)
 change BW _ _ _ ⟨[(0, (PV.sl none 5 1 (List.map ofB a0))), (1, (PV.sl none 5 1 (List.map ofB a1)))], [], _⟩ _
 refine bR ?_
 refine eX ?_
 refine z0b ?_
 refine bR ?_
 iterate 2 refine sX ?_
 refine eX ?_
 refine z0m ?_
 refine cBx ?_
 unfold zgp at h
 refine lX (σ := Nat) (fun i => [(0, (PV.sl none 5 1 (List.map ofB a0))), (1, (PV.sl none 5 1 (List.map ofB a1))), (9, (PV.sl none 5 1 (List.map ofB a0))), (10, (I64 ((((a0).length : Nat) : Int)))), (11, (I64 (((i : Nat) : Int))))]) (fun i => []) 0 h ?_ ?_
 exact jN
 rintro g1_f s1 h; replace h : z6d a0 a1 (fun y0 => g1_f y0) s1 = some r := h; unfold z6d at h
 change BW _ _ _ ⟨[(0, (PV.sl none 5 1 (List.map ofB a0))), (1, (PV.sl none 5 1 (List.map ofB a1))), (9, (PV.sl none 5 1 (List.map ofB a0))), (10, (I64 ((((a0).length : Nat) : Int)))), (11, (I64 (((s1 : Nat) : Int))))], [], _⟩ _
 refine bR ?_
 refine eX ?_
 refine z0b ?_
 refine z4u (t := 9) rfl fun hb3 => ?_
 try rw [List.length_map] at hb3
 refine cX h rfl ?_ ?_
 intro hc2 h
 have hc2_ := of_decide_eq_true hc2
 refine z09 ?_
 refine cBx ?_
 refine z0b ?_
 refine z0m ?_
 refine cBx ?_
 refine bR ?_
 refine sX ?_
 obtain ⟨x4, hx4, h⟩ := obind h
 refine sS rfl rfl rfl (z1m (i := s1) Tryz.underlying23 inf_5 rfl rfl rfl hx4 rfl) ?_
 iterate 2 refine sX ?_
 refine eX ?_
 refine z0b ?_
 refine bR ?_
 iterate 3 refine sX ?_
 refine eX ?_
 refine cX h rfl ?_ ?_
 intro hc5 h
 refine bR ?_
 refine eX ?_
 obtain rfl := eI h; exact z04 eK
 intro hc5 h
 refine z09 ?_
 refine cBx ?_
 refine bR ?_
 iterate 2 refine sX ?_
 obtain ⟨x6, hx6, h⟩ := obind h
 refine sS rfl rfl rfl (z1m (i := s1) Tryz.underlying23 inf_5 rfl rfl rfl hx6 rfl) ?_
 refine sX ?_
 refine eX ?_
 refine bR ?_
 iterate 2 refine sX ?_
 obtain ⟨x7, hx7, h⟩ := obind h
 refine sS rfl rfl rfl (z05 rfl Z16 rfl (wkr (wkr .nil)) ⟨rfl, ⟨rfl, trivial⟩⟩ (Z2h x4 x6 x7 hx7) rfl) ?_
 refine eX ?_
 refine bR ?_
 refine sX ?_
 refine eX ?_
 refine cX h rfl ?_ ?_
 intro hc8 h
 refine bR ?_
 refine sX ?_
 refine eX ?_
 obtain rfl := eI h; exact z04 eK
 intro hc8 h
 refine z09 ?_
 refine cBx ?_
 refine z0g ?_
 refine sS rfl rfl rfl (z2p (k := s1) (c := 1) rfl rfl rfl (by omega)) ?_
 refine sX (z0d ?_)
 exact ⟨rfl, (s1 + 1), h, jN⟩
 intro hc2 h
 refine z2c ?_
 refine cBx ?_
 refine z0b ?_
 refine bR ?_
 iterate 4 refine sX ?_
 refine eX ?_
 refine cX h rfl ?_ ?_
 intro hc9 h
 refine bR ?_
 refine eX ?_
 obtain rfl := eI h; exact z04 eK
 intro hc9 h
 refine z09 ?_
 refine cBx ?_
 refine bR ?_
 refine eX ?_
 obtain rfl := eI h; exact z04 eK
noncomputable def zsd (a0 a1 : Int) : Option Int :=
 bif (decide (a0 < a1)) then (
 some (-1)
 ) else (
 bif (decide (a0 > a1)) then (
 some 1
 ) else (
 some 0
 )
 )
theorem Z2j (a0 a1 r : Int) (h : zsd a0 a1 = some r) : z0k Tryz.prog 67 [(PV.v (.int .u64 a0)), (PV.v (.int .u64 a1))] (I64 r) := by
 unfold zsd at h
 refine z0e Tryz.func67 rfl Tryz.ntmps67 Tryz.results67 rfl (z0i ?_)
 change BW _ _ _ ⟨[(0, (PV.v (.int .u64 a0))), (1, (PV.v (.int .u64 a1)))], [], _⟩ _
 refine bR ?_
 refine eX ?_
 refine z0b ?_
 refine z0m ?_
 refine cBx ?_
 refine bR ?_
 iterate 3 refine sX ?_
 refine eX ?_
 refine cX h rfl ?_ ?_
 intro hc1 h
 refine bR ?_
 refine eX ?_
 obtain rfl := eI h; exact z04 eK
 intro hc1 h
 refine bR ?_
 iterate 3 refine sX ?_
 refine eX ?_
 refine cX h rfl ?_ ?_
 intro hc2 h
 refine bR ?_
 refine eX ?_
 obtain rfl := eI h; exact z04 eK
 intro hc2 h
 refine z09 ?_
 refine cBx ?_
 refine bR ?_
 refine eX ?_
 obtain rfl := eI h; exact z04 eK
end Go.Proofs.YthidgpcbnieleaaGreatDoor
