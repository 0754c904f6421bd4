/- Pure functions, and that calls answer as they say. Written by gen.py. -/
import Derived.Test.YtiapdjdhaclmnaaG1
namespace Go.Proofs.Ytiapdjdhaclmnaa
open Go Aw
set_option linter.unusedVariables false
set_option linter.unusedSimpArgs false
set_option maxRecDepth 20000
set_option maxHeartbeats 2000000
variable {ι : Type} {ρ : ι → Type}
noncomputable def znt (a0 : Int) (a1 : Int) : Option Int :=
 bif (decide (a0 < a1)) then (
  some (-1)
 ) else (
  bif (decide (a0 > a1)) then (
   some 1
  ) else (
   some 0
  )
 )
theorem zyf (a0 : Int) (a1 : Int) (r : Int) (h : znt a0 a1 = some r) : z0g Try.prog 104 [(I64 a0), (I64 a1)] (I64 r) := by
 unfold znt at h
 refine z0w Try.func104 rfl Try.ntmps104 Try.results104 rfl (z10 ?_)
 change BW _ _ _ ⟨[(0, (I64 a0)), (1, (I64 a1))], [], _⟩ _
 refine bR ?_
 refine sAx (z00 ?_)
 refine cBx ?_
 refine z0o ?_
 refine z0x ?_
 refine cBx ?_
 refine bR ?_
 refine sMx ?_
 refine sMx ?_
 refine sS rfl rfl rfl ((z06 rfl rfl rfl rfl).cast (y := (BO ((decide (a0 < a1))))) rfl rfl) ?_
 refine sAx (z00 ?_)
 refine cBx ?_
 refine z05 rfl ?_ ?_
 ·intro hc1; replace h := z02 hc1 h
  refine bR ?_
  refine sAx (z00 ?_)
  refine cBx ?_
  refine z0a ?_
  change ∃ xs, _ = some xs ∧ EndOk _ _ _ _
  obtain rfl := Option.some.inj h
  exact ⟨_, rfl, z0d (y := (I64 ((-1)))) (Wk.refl _) rfl ⟨rfl, rfl⟩⟩
 ·intro hc1; replace h := z03 hc1 h
  refine bR ?_
  refine sMx ?_
  refine sMx ?_
  refine sS rfl rfl rfl ((z06 rfl rfl rfl rfl).cast (y := (BO ((decide (a0 > a1))))) rfl rfl) ?_
  refine sAx (z00 ?_)
  refine cBx ?_
  refine z05 rfl ?_ ?_
  ·intro hc2; replace h := z02 hc2 h
   refine bR ?_
   refine sAx (z00 ?_)
   refine cBx ?_
   refine z0a ?_
   change ∃ xs, _ = some xs ∧ EndOk _ _ _ _
   obtain rfl := Option.some.inj h
   exact ⟨_, rfl, z0d (y := (I64 1)) (Wk.refl _) rfl ⟨rfl, rfl⟩⟩
  ·intro hc2; replace h := z03 hc2 h
   refine z0l ?_
   refine cBx ?_
   refine bR ?_
   refine sAx (z00 ?_)
   refine cBx ?_
   refine z0a ?_
   change ∃ xs, _ = some xs ∧ EndOk _ _ _ _
   obtain rfl := Option.some.inj h
   exact ⟨_, rfl, z0d (y := (I64 0)) (Wk.refl _) rfl ⟨rfl, rfl⟩⟩
noncomputable def zqu (a0 : Bool) : Option Int :=
 bif a0 then (
  some 1
 ) else (
  some 0
 )
theorem Z0k (a0 : Bool) (r : Int) (h : zqu a0 = some r) : z0g Try.prog 105 [(BO a0)] (I64 r) := by
 unfold zqu at h
 refine z0w Try.func105 rfl Try.ntmps105 Try.results105 rfl (z10 ?_)
 change BW _ _ _ ⟨[(0, (BO a0))], [], _⟩ _
 refine bR ?_
 refine sAx (z00 ?_)
 refine cBx ?_
 refine z0o ?_
 refine bR ?_
 refine sMx (z00 ?_)
 refine cBx ?_
 refine z05 rfl ?_ ?_
 ·intro hc1; replace h := z02 hc1 h
  refine bR ?_
  refine sAx (z00 ?_)
  refine cBx ?_
  refine z0a ?_
  change ∃ xs, _ = some xs ∧ EndOk _ _ _ _
  obtain rfl := Option.some.inj h
  exact ⟨_, rfl, z0d (y := (I64 1)) (Wk.refl _) rfl ⟨rfl, rfl⟩⟩
 ·intro hc1; replace h := z03 hc1 h
  refine z0l ?_
  refine cBx ?_
  refine bR ?_
  refine sAx (z00 ?_)
  refine cBx ?_
  refine z0a ?_
  change ∃ xs, _ = some xs ∧ EndOk _ _ _ _
  obtain rfl := Option.some.inj h
  exact ⟨_, rfl, z0d (y := (I64 0)) (Wk.refl _) rfl ⟨rfl, rfl⟩⟩
noncomputable def zu5 (a0 : Int) (a1 : Int) : Option Int :=
 bif (decide (a0 < a1)) then (
  some (-1)
 ) else (
  bif (decide (a0 > a1)) then (
   some 1
  ) else (
   some 0
  )
 )
theorem Z3w (a0 : Int) (a1 : Int) (r : Int) (h : zu5 a0 a1 = some r) : z0g Try.prog 106 [(I64 a0), (I64 a1)] (I64 r) := by
 unfold zu5 at h
 refine z0w Try.func106 rfl Try.ntmps106 Try.results106 rfl (z10 ?_)
 change BW _ _ _ ⟨[(0, (I64 a0)), (1, (I64 a1))], [], _⟩ _
 refine bR ?_
 refine sAx (z00 ?_)
 refine cBx ?_
 refine z0o ?_
 refine z0x ?_
 refine cBx ?_
 refine bR ?_
 refine sMx ?_
 refine sMx ?_
 refine sS rfl rfl rfl ((z06 rfl rfl rfl rfl).cast (y := (BO ((decide (a0 < a1))))) rfl rfl) ?_
 refine sAx (z00 ?_)
 refine cBx ?_
 refine z05 rfl ?_ ?_
 ·intro hc1; replace h := z02 hc1 h
  refine bR ?_
  refine sAx (z00 ?_)
  refine cBx ?_
  refine z0a ?_
  change ∃ xs, _ = some xs ∧ EndOk _ _ _ _
  obtain rfl := Option.some.inj h
  exact ⟨_, rfl, z0d (y := (I64 ((-1)))) (Wk.refl _) rfl ⟨rfl, rfl⟩⟩
 ·intro hc1; replace h := z03 hc1 h
  refine bR ?_
  refine sMx ?_
  refine sMx ?_
  refine sS rfl rfl rfl ((z06 rfl rfl rfl rfl).cast (y := (BO ((decide (a0 > a1))))) rfl rfl) ?_
  refine sAx (z00 ?_)
  refine cBx ?_
  refine z05 rfl ?_ ?_
  ·intro hc2; replace h := z02 hc2 h
   refine bR ?_
   refine sAx (z00 ?_)
   refine cBx ?_
   refine z0a ?_
   change ∃ xs, _ = some xs ∧ EndOk _ _ _ _
   obtain rfl := Option.some.inj h
   exact ⟨_, rfl, z0d (y := (I64 1)) (Wk.refl _) rfl ⟨rfl, rfl⟩⟩
  ·intro hc2; replace h := z03 hc2 h
   refine z0l ?_
   refine cBx ?_
   refine bR ?_
   refine sAx (z00 ?_)
   refine cBx ?_
   refine z0a ?_
   change ∃ xs, _ = some xs ∧ EndOk _ _ _ _
   obtain rfl := Option.some.inj h
   exact ⟨_, rfl, z0d (y := (I64 0)) (Wk.refl _) rfl ⟨rfl, rfl⟩⟩
noncomputable def znn (a0 : Nat) : Option Int :=
 bif ((zzx .u64 ((a0 : Nat) : Int) 63) == 1) then (
  some (Z4c .u64 ((a0 : Nat) : Int))
 ) else (
  some (orK .u64 ((a0 : Nat) : Int) 9223372036854775808)
 )
theorem Z0i (a0 : Nat) (r : Int) (h : znn a0 = some r) : z0g Try.prog 108 [(PV.v (.float .f64 a0))] (PV.v (.int .u64 r)) := by
 unfold znn at h
 refine z0w Try.func108 rfl Try.ntmps108 Try.results108 rfl (z10 ?_)
 change BW _ _ _ ⟨[(0, (PV.v (.float .f64 a0)))], [], _⟩ _
 refine bR ?_
 refine sAx (z00 ?_)
 refine cBx ?_
 refine bR ?_
 refine sMx ?_
 refine sS rfl rfl rfl (zjx rfl rfl) ?_
 refine sAx (z00 ?_)
 refine cBx ?_
 refine z0o ?_
 refine bR ?_
 refine sMx ?_
 refine sS rfl rfl rfl ((zyp rfl rfl rfl (by decide)).cast (y := (PV.v (.int .u64 (zzx .u64 ((a0 : Nat) : Int) 63)))) rfl rfl) ?_
 refine sS rfl rfl rfl ((z06 rfl rfl rfl rfl).cast (y := (BO (((zzx .u64 ((a0 : Nat) : Int) 63) == 1)))) rfl rfl) (z00 ?_)
 refine cBx ?_
 refine z05 rfl ?_ ?_
 ·intro hc1; replace h := z02 hc1 h
  refine bR ?_
  refine sMx ?_
  refine sS rfl rfl rfl (zuc rfl rfl) ?_
  refine sAx (z00 ?_)
  refine cBx ?_
  refine z0a ?_
  change ∃ xs, _ = some xs ∧ EndOk _ _ _ _
  obtain rfl := Option.some.inj h
  exact ⟨_, rfl, z0d (y := (PV.v (.int .u64 (Z4c .u64 ((a0 : Nat) : Int))))) (Wk.refl _) rfl ⟨rfl, rfl⟩⟩
 ·intro hc1; replace h := z03 hc1 h
  refine z0l ?_
  refine cBx ?_
  refine bR ?_
  refine sMx ?_
  refine sS rfl rfl rfl ((zyr rfl rfl rfl).cast (y := (PV.v (.int .u64 (orK .u64 ((a0 : Nat) : Int) 9223372036854775808)))) rfl rfl) ?_
  refine sAx (z00 ?_)
  refine cBx ?_
  refine z0a ?_
  change ∃ xs, _ = some xs ∧ EndOk _ _ _ _
  obtain rfl := Option.some.inj h
  exact ⟨_, rfl, z0d (y := (PV.v (.int .u64 (orK .u64 ((a0 : Nat) : Int) 9223372036854775808)))) (Wk.refl _) rfl ⟨rfl, rfl⟩⟩
noncomputable def zu6 (a0 : Int) (a1 : Int) : Option Int :=
 bif (decide (a0 < a1)) then (
  some (-1)
 ) else (
  bif (decide (a0 > a1)) then (
   some 1
  ) else (
   some 0
  )
 )
theorem Z3z (a0 : Int) (a1 : Int) (r : Int) (h : zu6 a0 a1 = some r) : z0g Try.prog 107 [(PV.v (.int .u64 a0)), (PV.v (.int .u64 a1))] (I64 r) := by
 unfold zu6 at h
 refine z0w Try.func107 rfl Try.ntmps107 Try.results107 rfl (z10 ?_)
 change BW _ _ _ ⟨[(0, (PV.v (.int .u64 a0))), (1, (PV.v (.int .u64 a1)))], [], _⟩ _
 refine bR ?_
 refine sAx (z00 ?_)
 refine cBx ?_
 refine z0o ?_
 refine z0x ?_
 refine cBx ?_
 refine bR ?_
 refine sMx ?_
 refine sMx ?_
 refine sS rfl rfl rfl ((z06 rfl rfl rfl rfl).cast (y := (BO ((decide (a0 < a1))))) rfl rfl) ?_
 refine sAx (z00 ?_)
 refine cBx ?_
 refine z05 rfl ?_ ?_
 ·intro hc1; replace h := z02 hc1 h
  refine bR ?_
  refine sAx (z00 ?_)
  refine cBx ?_
  refine z0a ?_
  change ∃ xs, _ = some xs ∧ EndOk _ _ _ _
  obtain rfl := Option.some.inj h
  exact ⟨_, rfl, z0d (y := (I64 ((-1)))) (Wk.refl _) rfl ⟨rfl, rfl⟩⟩
 ·intro hc1; replace h := z03 hc1 h
  refine bR ?_
  refine sMx ?_
  refine sMx ?_
  refine sS rfl rfl rfl ((z06 rfl rfl rfl rfl).cast (y := (BO ((decide (a0 > a1))))) rfl rfl) ?_
  refine sAx (z00 ?_)
  refine cBx ?_
  refine z05 rfl ?_ ?_
  ·intro hc2; replace h := z02 hc2 h
   refine bR ?_
   refine sAx (z00 ?_)
   refine cBx ?_
   refine z0a ?_
   change ∃ xs, _ = some xs ∧ EndOk _ _ _ _
   obtain rfl := Option.some.inj h
   exact ⟨_, rfl, z0d (y := (I64 1)) (Wk.refl _) rfl ⟨rfl, rfl⟩⟩
  ·intro hc2; replace h := z03 hc2 h
   refine z0l ?_
   refine cBx ?_
   refine bR ?_
   refine sAx (z00 ?_)
   refine cBx ?_
   refine z0a ?_
   change ∃ xs, _ = some xs ∧ EndOk _ _ _ _
   obtain rfl := Option.some.inj h
   exact ⟨_, rfl, z0d (y := (I64 0)) (Wk.refl _) rfl ⟨rfl, rfl⟩⟩
noncomputable def zjs (a0 : Str) (a1 : Str) : Option Int :=
 bif (Op.bytesLess a0 a1) then (
  some (-1)
 ) else (
  bif (!(Op.bytesLess a0 a1 || a0 == a1)) then (
   some 1
  ) else (
   some 0
  )
 )
theorem zyg (a0 : Str) (a1 : Str) (r : Int) (h : zjs a0 a1 = some r) : z0g Try.prog 109 [(z0f a0), (z0f a1)] (I64 r) := by
 unfold zjs at h
 refine z0w Try.func109 rfl Try.ntmps109 Try.results109 rfl (z10 ?_)
 change BW _ _ _ ⟨[(0, (z0f a0)), (1, (z0f a1))], [], _⟩ _
 refine bR ?_
 refine sAx (z00 ?_)
 refine cBx ?_
 refine z0o ?_
 refine z0x ?_
 refine cBx ?_
 refine bR ?_
 refine sMx ?_
 refine sMx ?_
 refine sS rfl rfl rfl ((z40 (a := a0) (b := a1) rfl rfl rfl rfl).cast (y := (BO ((Op.bytesLess a0 a1)))) rfl rfl) ?_
 refine sAx (z00 ?_)
 refine cBx ?_
 refine z05 rfl ?_ ?_
 ·intro hc1; replace h := z02 hc1 h
  refine bR ?_
  refine sAx (z00 ?_)
  refine cBx ?_
  refine z0a ?_
  change ∃ xs, _ = some xs ∧ EndOk _ _ _ _
  obtain rfl := Option.some.inj h
  exact ⟨_, rfl, z0d (y := (I64 ((-1)))) (Wk.refl _) rfl ⟨rfl, rfl⟩⟩
 ·intro hc1; replace h := z03 hc1 h
  refine bR ?_
  refine sMx ?_
  refine sMx ?_
  refine sS rfl rfl rfl ((z40 (a := a0) (b := a1) rfl rfl rfl rfl).cast (y := (BO ((!(Op.bytesLess a0 a1 || a0 == a1))))) rfl rfl) ?_
  refine sAx (z00 ?_)
  refine cBx ?_
  refine z05 rfl ?_ ?_
  ·intro hc2; replace h := z02 hc2 h
   refine bR ?_
   refine sAx (z00 ?_)
   refine cBx ?_
   refine z0a ?_
   change ∃ xs, _ = some xs ∧ EndOk _ _ _ _
   obtain rfl := Option.some.inj h
   exact ⟨_, rfl, z0d (y := (I64 1)) (Wk.refl _) rfl ⟨rfl, rfl⟩⟩
  ·intro hc2; replace h := z03 hc2 h
   refine z0l ?_
   refine cBx ?_
   refine bR ?_
   refine sAx (z00 ?_)
   refine cBx ?_
   refine z0a ?_
   change ∃ xs, _ = some xs ∧ EndOk _ _ _ _
   obtain rfl := Option.some.inj h
   exact ⟨_, rfl, z0d (y := (I64 0)) (Wk.refl _) rfl ⟨rfl, rfl⟩⟩
noncomputable def znx (a0 : UInt8) : Option Bool :=
 some (((a0).toNat : Int) != ((a0).toNat : Int))
theorem Z0s (a0 : UInt8) (r : Bool) (h : znx a0 = some r) : z0g Try.prog 123 [(ofB a0)] (BO r) := by
 unfold znx at h
 refine z0w Try.func123 rfl Try.ntmps123 Try.results123 rfl (z10 ?_)
 change BW _ _ _ ⟨[(0, (ofB a0))], [], _⟩ _
 refine bR ?_
 refine sAx (z00 ?_)
 refine cBx ?_
 refine bR ?_
 refine sMx ?_
 refine sMx ?_
 refine sS rfl rfl rfl ((z06 rfl rfl rfl rfl).cast (y := (BO ((((a0).toNat : Int) != ((a0).toNat : Int))))) rfl rfl) ?_
 refine sAx (z00 ?_)
 refine cBx ?_
 refine z0a ?_
 change ∃ xs, _ = some xs ∧ EndOk _ _ _ _
 obtain rfl := Option.some.inj h
 exact ⟨_, rfl, z0d (y := (BO ((((a0).toNat : Int) != ((a0).toNat : Int))))) (Wk.refl _) rfl ⟨rfl, rfl⟩⟩
noncomputable def zqz (a0 : UInt8) (a1 : UInt8) : Option Int :=
 Option.bind (znx a0) fun x1 =>
 Option.bind (znx a1) fun x2 =>
 bif x1 then (
  bif x2 then (
   some 0
  ) else (
   some (-1)
  )
 ) else (
  bif x2 then (
   some 1
  ) else (
   bif (decide (((a0).toNat : Int) < ((a1).toNat : Int))) then (
    some (-1)
   ) else (
    bif (decide (((a0).toNat : Int) > ((a1).toNat : Int))) then (
     some 1
    ) else (
     some 0
    )
   )
  )
 )
theorem Z3y (a0 : UInt8) (a1 : UInt8) (r : Int) (h : zqz a0 a1 = some r) : z0g Try.prog 120 [(ofB a0), (ofB a1)] (I64 r) := by
 unfold zqz at h
 refine z0w Try.func120 rfl Try.ntmps120 Try.results120 rfl (z10 ?_)
 change BW _ _ _ ⟨[(0, (ofB a0)), (1, (ofB a1))], [], _⟩ _
 refine bR ?_
 refine sAx (z00 ?_)
 refine cBx ?_
 refine bR ?_
 refine sMx ?_
 obtain ⟨x1, hx1, h⟩ := obind h
 refine sS rfl rfl rfl (z0b rfl zxt rfl (.cons (Wk.refl _) .nil) ⟨rfl, trivial⟩ (Z0s a0 x1 hx1) rfl) ?_
 refine sAx (z00 ?_)
 refine cBx ?_
 refine bR ?_
 refine sMx ?_
 obtain ⟨x2, hx2, h⟩ := obind h
 refine sS rfl rfl rfl (z0b rfl zxt rfl (.cons (Wk.refl _) .nil) ⟨rfl, trivial⟩ (Z0s a1 x2 hx2) rfl) ?_
 refine sAx (z00 ?_)
 refine cBx ?_
 refine z0o ?_
 refine bR ?_
 refine sMx (z00 ?_)
 refine cBx ?_
 refine z05 rfl ?_ ?_
 ·intro hc3; replace h := z02 hc3 h
  refine z0o ?_
  refine bR ?_
  refine sMx (z00 ?_)
  refine cBx ?_
  refine z05 rfl ?_ ?_
  ·intro hc4; replace h := z02 hc4 h
   refine bR ?_
   refine sAx (z00 ?_)
   refine cBx ?_
   refine z0a ?_
   change ∃ xs, _ = some xs ∧ EndOk _ _ _ _
   obtain rfl := Option.some.inj h
   exact ⟨_, rfl, z0d (y := (I64 0)) (Wk.refl _) rfl ⟨rfl, rfl⟩⟩
  ·intro hc4; replace h := z03 hc4 h
   refine z0l ?_
   refine cBx ?_
   refine bR ?_
   refine sAx (z00 ?_)
   refine cBx ?_
   refine z0a ?_
   change ∃ xs, _ = some xs ∧ EndOk _ _ _ _
   obtain rfl := Option.some.inj h
   exact ⟨_, rfl, z0d (y := (I64 ((-1)))) (Wk.refl _) rfl ⟨rfl, rfl⟩⟩
 ·intro hc3; replace h := z03 hc3 h
  refine z0l ?_
  refine cBx ?_
  refine z0o ?_
  refine bR ?_
  refine sMx (z00 ?_)
  refine cBx ?_
  refine z05 rfl ?_ ?_
  ·intro hc5; replace h := z02 hc5 h
   refine bR ?_
   refine sAx (z00 ?_)
   refine cBx ?_
   refine z0a ?_
   change ∃ xs, _ = some xs ∧ EndOk _ _ _ _
   obtain rfl := Option.some.inj h
   exact ⟨_, rfl, z0d (y := (I64 1)) (Wk.refl _) rfl ⟨rfl, rfl⟩⟩
  ·intro hc5; replace h := z03 hc5 h
   refine z0l ?_
   refine cBx ?_
   refine z0o ?_
   refine bR ?_
   refine sMx ?_
   refine sMx ?_
   refine sS rfl rfl rfl ((z06 rfl rfl rfl rfl).cast (y := (BO ((decide (((a0).toNat : Int) < ((a1).toNat : Int)))))) rfl rfl) (z00 ?_)
   refine cBx ?_
   refine z05 rfl ?_ ?_
   ·intro hc6; replace h := z02 hc6 h
    refine bR ?_
    refine sAx (z00 ?_)
    refine cBx ?_
    refine z0a ?_
    change ∃ xs, _ = some xs ∧ EndOk _ _ _ _
    obtain rfl := Option.some.inj h
    exact ⟨_, rfl, z0d (y := (I64 ((-1)))) (Wk.refl _) rfl ⟨rfl, rfl⟩⟩
   ·intro hc6; replace h := z03 hc6 h
    refine z0l ?_
    refine cBx ?_
    refine z0o ?_
    refine bR ?_
    refine sMx ?_
    refine sMx ?_
    refine sS rfl rfl rfl ((z06 rfl rfl rfl rfl).cast (y := (BO ((decide (((a0).toNat : Int) > ((a1).toNat : Int)))))) rfl rfl) (z00 ?_)
    refine cBx ?_
    refine z05 rfl ?_ ?_
    ·intro hc7; replace h := z02 hc7 h
     refine bR ?_
     refine sAx (z00 ?_)
     refine cBx ?_
     refine z0a ?_
     change ∃ xs, _ = some xs ∧ EndOk _ _ _ _
     obtain rfl := Option.some.inj h
     exact ⟨_, rfl, z0d (y := (I64 1)) (Wk.refl _) rfl ⟨rfl, rfl⟩⟩
    ·intro hc7; replace h := z03 hc7 h
     refine z0l ?_
     refine cBx ?_
     refine bR ?_
     refine sAx (z00 ?_)
     refine cBx ?_
     refine z0a ?_
     change ∃ xs, _ = some xs ∧ EndOk _ _ _ _
     obtain rfl := Option.some.inj h
     exact ⟨_, rfl, z0d (y := (I64 0)) (Wk.refl _) rfl ⟨rfl, rfl⟩⟩
noncomputable def z73 (a0 : Str) (a1 : Str) (g1 : Nat → Option Int) (s1 : Nat) : Option Int :=
 bif (decide (((s1 : Nat) : Int) < (((a0).length : Nat) : Int))) then (
  Option.bind ((a0)[s1]?) fun x4 =>
  bif (decide (((s1 : Nat) : Int) ≥ (((a1).length : Nat) : Int))) then (
   some 1
  ) else (
   Option.bind ((a1)[s1]?) fun x6 =>
   Option.bind (zqz x4 x6) fun x7 =>
   bif (x7 != 0) then (
    some x7
   ) else (
    g1 (s1 + 1)
   )
  )
 ) else (
  bif (decide ((((a0).length : Nat) : Int) < (((a1).length : Nat) : Int))) then (
   some (-1)
  ) else (
   some 0
  )
 )
theorem znd (g1 : OF ρ → Nat → Option Int) (h_g1 : ∀ y0, CM (fun G => g1 G y0)) (a0 : Str) (a1 : Str) (s1 : Nat) : CM (fun G : OF ρ => z73 a0 a1 (g1 G) s1) := by
 simp only [z73]
 repeat (first | exact z0c | exact h_g1 _ | refine z14 ?_ ?_ | refine z15 ?_ (fun _ => ?_))
noncomputable def zhu (a0 : Str) (a1 : Str) (s1 : Nat) : Option Int :=
 z38 (ι := Nat) (ρ := fun _ => Int) (fun g i => z73 a0 a1 (fun s1 => g s1) i) s1
theorem zht (a0 : Str) (a1 : Str) (s1 : Nat) : zhu a0 a1 s1 = z73 a0 a1 (zhu a0 a1) s1 :=
 z1d (ι := Nat) (ρ := fun _ => Int) (Φ := fun g i => z73 a0 a1 (fun s1 => g s1) i) (fun i => znd (ι := Nat) (ρ := fun _ => Int) (fun g => (fun s1 => g s1)) (fun _ => z1c) a0 a1 i) s1
noncomputable def zu8 (a0 : Str) (a1 : Str) : Option Int :=
 zhu a0 a1 0
theorem Z43 (a0 : Str) (a1 : Str) (r : Int) (h : zu8 a0 a1 = some r) : z0g Try.prog 110 [(PV.sl none 5 1 (List.map ofB a0)), (PV.sl none 5 1 (List.map ofB a1))] (I64 r) := by
 unfold zu8 at h
 refine z0w Try.func110 rfl Try.ntmps110 Try.results110 rfl (z10 ?_)
 change BW _ _ _ ⟨[(0, (PV.sl none 5 1 (List.map ofB a0))), (1, (PV.sl none 5 1 (List.map ofB a1)))], [], _⟩ _
 refine bR ?_
 refine sAx (z00 ?_)
 refine cBx ?_
 refine z0o ?_
 refine bR ?_
 refine sMx ?_
 refine sS rfl rfl rfl (z17 Try.underlying23 rfl rfl) ?_
 refine sMx (z00 ?_)
 refine cBx ?_
 refine z0x ?_
 refine cBx ?_
 unfold zhu at h
 refine z26 (σ := Nat) (fun i => [(0, (PV.sl none 5 1 (List.map ofB a0))), (1, (PV.sl none 5 1 (List.map ofB a1))), (9, (PV.sl none 5 1 (List.map ofB a0))), (10, (I64 ((((a0).length : Nat) : Int)))), (11, (I64 (((i : Nat) : Int))))]) (fun i => []) 0 h ?_ ?_ ?_
 ·intro i; exact ⟨lbE rfl, ⟨(z01 (z0q (fun _ => rfl) _)), ⟨(z01 (z0q (fun _ => rfl) _)), ⟨(z01 (z0q (fun _ => rfl) _)), ⟨(z01 rfl), ⟨(z01 rfl), trivial⟩⟩⟩⟩⟩, trivial⟩
 ·exact ⟨.nil, (sC rfl (sC rfl (sC rfl (sC rfl (sC rfl z09)))))⟩
 ·rintro g1_f s1 h; replace h : z73 a0 a1 (fun y0 => g1_f y0) s1 = some r := h; unfold z73 at h
  change BW _ _ _ ⟨[(0, (PV.sl none 5 1 (List.map ofB a0))), (1, (PV.sl none 5 1 (List.map ofB a1))), (9, (PV.sl none 5 1 (List.map ofB a0))), (10, (I64 ((((a0).length : Nat) : Int)))), (11, (I64 (((s1 : Nat) : Int))))], [], _⟩ _
  refine bR ?_
  refine sS rfl rfl rfl ((z06 rfl rfl rfl rfl).cast (y := (BO ((decide (((s1 : Nat) : Int) < (((a0).length : Nat) : Int)))))) rfl rfl) (z00 ?_)
  refine cBx ?_
  refine z0o ?_
  refine z2z (t := 9) rfl fun hb3 => ?_
  try rw [List.length_map] at hb3
  refine z05 rfl ?_ ?_
  ·intro hc2; replace h := z02 hc2 h
   have hc2_ := of_decide_eq_true hc2
   refine z0l ?_
   refine cBx ?_
   refine z0o ?_
   refine z0x ?_
   refine cBx ?_
   refine bR ?_
   refine sMx ?_
   obtain ⟨x4, hx4, h⟩ := obind h
   refine sS rfl rfl rfl (z1i (i := s1) Try.underlying23 inf_5 rfl rfl rfl hx4 rfl) ?_
   refine sS rfl rfl rfl (z13 (y := (ofB x4)) Try.underlying5 rfl rfl rfl rfl) ?_
   refine sAx ?_
   refine sAx (z00 ?_)
   refine cBx ?_
   refine z0o ?_
   refine bR ?_
   refine sMx ?_
   refine sMx ?_
   refine sS rfl rfl rfl (z17 Try.underlying23 rfl rfl) ?_
   refine sS rfl rfl rfl ((z06 rfl rfl rfl rfl).cast (y := (BO ((decide (((s1 : Nat) : Int) ≥ (((a1).length : Nat) : Int)))))) rfl rfl) (z00 ?_)
   refine cBx ?_
   refine z05 rfl ?_ ?_
   ·intro hc5; replace h := z02 hc5 h
    refine bR ?_
    refine sAx (z00 ?_)
    refine cBx ?_
    refine z0a ?_
    change ∃ xs, _ = some xs ∧ EndOk _ _ _ _
    obtain rfl := Option.some.inj h
    exact ⟨_, rfl, z0d (y := (I64 1)) (Wk.refl _) rfl ⟨rfl, rfl⟩⟩
   ·intro hc5; replace h := z03 hc5 h
    refine z0l ?_
    refine cBx ?_
    refine bR ?_
    refine sMx ?_
    refine sMx ?_
    obtain ⟨x6, hx6, h⟩ := obind h
    refine sS rfl rfl rfl (z1i (i := s1) Try.underlying23 inf_5 rfl rfl rfl hx6 rfl) ?_
    refine sS rfl rfl rfl (z13 (y := (ofB x6)) Try.underlying5 rfl rfl rfl rfl) ?_
    refine sAx (z00 ?_)
    refine cBx ?_
    refine bR ?_
    refine sMx ?_
    refine sMx ?_
    obtain ⟨x7, hx7, h⟩ := obind h
    refine sS rfl rfl rfl (z0b rfl Z2d rfl (.cons (Wk.refl _) (.cons (Wk.refl _) .nil)) ⟨rfl, ⟨rfl, trivial⟩⟩ (Z3y x4 x6 x7 hx7) rfl) ?_
    refine sAx (z00 ?_)
    refine cBx ?_
    refine bR ?_
    refine sMx ?_
    refine sS rfl rfl rfl ((z06 rfl rfl rfl rfl).cast (y := (BO ((x7 != 0)))) rfl rfl) (z00 ?_)
    refine cBx ?_
    refine z05 rfl ?_ ?_
    ·intro hc8; replace h := z02 hc8 h
     refine bR ?_
     refine sMx ?_
     refine sAx (z00 ?_)
     refine cBx ?_
     refine z0a ?_
     change ∃ xs, _ = some xs ∧ EndOk _ _ _ _
     obtain rfl := Option.some.inj h
     exact ⟨_, rfl, z0d (y := (I64 x7)) (Wk.refl _) rfl ⟨rfl, rfl⟩⟩
    ·intro hc8; replace h := z03 hc8 h
     refine z0l ?_
     refine cBx ?_
     refine z0s ?_
     refine sS rfl rfl rfl (z1y (k := s1) (c := 1) rfl rfl rfl (by omega)) ?_
     refine sMx (z00 ?_)
     exact ⟨rfl, (s1 + 1), h, ⟨.nil, (sC rfl (sC rfl (sC rfl (sC rfl (sC rfl z09)))))⟩⟩
  ·intro hc2; replace h := z03 hc2 h
   refine z22 ?_
   refine cBx ?_
   refine z0o ?_
   refine bR ?_
   refine sMx ?_
   refine sS rfl rfl rfl (z17 Try.underlying23 rfl rfl) ?_
   refine sMx ?_
   refine sS rfl rfl rfl (z17 Try.underlying23 rfl rfl) ?_
   refine sS rfl rfl rfl ((z06 rfl rfl rfl rfl).cast (y := (BO ((decide ((((a0).length : Nat) : Int) < (((a1).length : Nat) : Int)))))) rfl rfl) (z00 ?_)
   refine cBx ?_
   refine z05 rfl ?_ ?_
   ·intro hc9; replace h := z02 hc9 h
    refine bR ?_
    refine sAx (z00 ?_)
    refine cBx ?_
    refine z0a ?_
    change ∃ xs, _ = some xs ∧ EndOk _ _ _ _
    obtain rfl := Option.some.inj h
    exact ⟨_, rfl, z0d (y := (I64 ((-1)))) (Wk.refl _) rfl ⟨rfl, rfl⟩⟩
   ·intro hc9; replace h := z03 hc9 h
    refine z0l ?_
    refine cBx ?_
    refine bR ?_
    refine sAx (z00 ?_)
    refine cBx ?_
    refine z0a ?_
    change ∃ xs, _ = some xs ∧ EndOk _ _ _ _
    obtain rfl := Option.some.inj h
    exact ⟨_, rfl, z0d (y := (I64 0)) (Wk.refl _) rfl ⟨rfl, rfl⟩⟩
noncomputable def zu7 (a0 : Int) (a1 : Int) : Option Int :=
 bif (decide (a0 < a1)) then (
  some (-1)
 ) else (
  bif (decide (a0 > a1)) then (
   some 1
  ) else (
   some 0
  )
 )
theorem Z41 (a0 : Int) (a1 : Int) (r : Int) (h : zu7 a0 a1 = some r) : z0g Try.prog 111 [(PV.v (.int .u64 a0)), (PV.v (.int .u64 a1))] (I64 r) := by
 unfold zu7 at h
 refine z0w Try.func111 rfl Try.ntmps111 Try.results111 rfl (z10 ?_)
 change BW _ _ _ ⟨[(0, (PV.v (.int .u64 a0))), (1, (PV.v (.int .u64 a1)))], [], _⟩ _
 refine bR ?_
 refine sAx (z00 ?_)
 refine cBx ?_
 refine z0o ?_
 refine z0x ?_
 refine cBx ?_
 refine bR ?_
 refine sMx ?_
 refine sMx ?_
 refine sS rfl rfl rfl ((z06 rfl rfl rfl rfl).cast (y := (BO ((decide (a0 < a1))))) rfl rfl) ?_
 refine sAx (z00 ?_)
 refine cBx ?_
 refine z05 rfl ?_ ?_
 ·intro hc1; replace h := z02 hc1 h
  refine bR ?_
  refine sAx (z00 ?_)
  refine cBx ?_
  refine z0a ?_
  change ∃ xs, _ = some xs ∧ EndOk _ _ _ _
  obtain rfl := Option.some.inj h
  exact ⟨_, rfl, z0d (y := (I64 ((-1)))) (Wk.refl _) rfl ⟨rfl, rfl⟩⟩
 ·intro hc1; replace h := z03 hc1 h
  refine bR ?_
  refine sMx ?_
  refine sMx ?_
  refine sS rfl rfl rfl ((z06 rfl rfl rfl rfl).cast (y := (BO ((decide (a0 > a1))))) rfl rfl) ?_
  refine sAx (z00 ?_)
  refine cBx ?_
  refine z05 rfl ?_ ?_
  ·intro hc2; replace h := z02 hc2 h
   refine bR ?_
   refine sAx (z00 ?_)
   refine cBx ?_
   refine z0a ?_
   change ∃ xs, _ = some xs ∧ EndOk _ _ _ _
   obtain rfl := Option.some.inj h
   exact ⟨_, rfl, z0d (y := (I64 1)) (Wk.refl _) rfl ⟨rfl, rfl⟩⟩
  ·intro hc2; replace h := z03 hc2 h
   refine z0l ?_
   refine cBx ?_
   refine bR ?_
   refine sAx (z00 ?_)
   refine cBx ?_
   refine z0a ?_
   change ∃ xs, _ = some xs ∧ EndOk _ _ _ _
   obtain rfl := Option.some.inj h
   exact ⟨_, rfl, z0d (y := (I64 0)) (Wk.refl _) rfl ⟨rfl, rfl⟩⟩
noncomputable def zkp (r_q17 : (Str × V) → (Str × V) → Option Int) (r_q00 : (List (Str × V)) → (List (Str × V)) → Option Int) (r_q01 : (List V) → (List V) → Option Int) (r_q12 : V → V → Option Int) (a0 : (Str × V)) (a1 : (Str × V)) : Option Int :=
 Option.bind (zjs a0.1 a1.1) fun x1 =>
 bif (x1 != 0) then (
  some x1
 ) else (
  Option.bind (r_q12 a0.2 a1.2) fun x3 =>
  some x3
 )
theorem zw7 (r_q17 : OF ρ → (Str × V) → (Str × V) → Option Int) (h_r_q17 : ∀ y0 y1, CM (fun G => r_q17 G y0 y1)) (r_q00 : OF ρ → (List (Str × V)) → (List (Str × V)) → Option Int) (h_r_q00 : ∀ y0 y1, CM (fun G => r_q00 G y0 y1)) (r_q01 : OF ρ → (List V) → (List V) → Option Int) (h_r_q01 : ∀ y0 y1, CM (fun G => r_q01 G y0 y1)) (r_q12 : OF ρ → V → V → Option Int) (h_r_q12 : ∀ y0 y1, CM (fun G => r_q12 G y0 y1)) (a0 : (Str × V)) (a1 : (Str × V)) : CM (fun G : OF ρ => zkp (r_q17 G) (r_q00 G) (r_q01 G) (r_q12 G) a0 a1) := by
 simp only [zkp]
 repeat (first | exact z0c | exact h_r_q17 _ _ | exact h_r_q00 _ _ | exact h_r_q01 _ _ | exact h_r_q12 _ _ | refine z14 ?_ ?_ | refine z15 ?_ (fun _ => ?_))
noncomputable def z6a (r_q17 : (Str × V) → (Str × V) → Option Int) (a0 : (List (Str × V))) (a1 : (List (Str × V))) (g1 : Nat → Option Int) (s1 : Nat) : Option Int :=
 bif (decide (((s1 : Nat) : Int) < (((a0).length : Nat) : Int))) then (
  Option.bind ((a0)[s1]?) fun x4 =>
  bif (decide (((s1 : Nat) : Int) ≥ (((a1).length : Nat) : Int))) then (
   some 1
  ) else (
   Option.bind ((a1)[s1]?) fun x6 =>
   Option.bind (r_q17 x4 x6) fun x7 =>
   bif (x7 != 0) then (
    some x7
   ) else (
    g1 (s1 + 1)
   )
  )
 ) else (
  bif (decide ((((a0).length : Nat) : Int) < (((a1).length : Nat) : Int))) then (
   some (-1)
  ) else (
   some 0
  )
 )
theorem zb7 (r_q17 : OF ρ → (Str × V) → (Str × V) → Option Int) (h_r_q17 : ∀ y0 y1, CM (fun G => r_q17 G y0 y1)) (g1 : OF ρ → Nat → Option Int) (h_g1 : ∀ y0, CM (fun G => g1 G y0)) (a0 : (List (Str × V))) (a1 : (List (Str × V))) (s1 : Nat) : CM (fun G : OF ρ => z6a (r_q17 G) a0 a1 (g1 G) s1) := by
 simp only [z6a]
 repeat (first | exact z0c | exact h_r_q17 _ _ | exact h_g1 _ | refine z14 ?_ ?_ | refine z15 ?_ (fun _ => ?_))
noncomputable def zf7 (r_q17 : (Str × V) → (Str × V) → Option Int) (a0 : (List (Str × V))) (a1 : (List (Str × V))) (s1 : Nat) : Option Int :=
 z38 (ι := Nat) (ρ := fun _ => Int) (fun g i => z6a r_q17 a0 a1 (fun s1 => g s1) i) s1
theorem zi3 (r_q17 : (Str × V) → (Str × V) → Option Int) (a0 : (List (Str × V))) (a1 : (List (Str × V))) (s1 : Nat) : zf7 r_q17 a0 a1 s1 = z6a r_q17 a0 a1 (zf7 r_q17 a0 a1) s1 :=
 z1d (ι := Nat) (ρ := fun _ => Int) (Φ := fun g i => z6a r_q17 a0 a1 (fun s1 => g s1) i) (fun i => zb7 (ι := Nat) (ρ := fun _ => Int) (fun _ => r_q17) (fun _ _ => z0c) (fun g => (fun s1 => g s1)) (fun _ => z1c) a0 a1 i) s1
theorem zqf (r_q17 : OF ρ → (Str × V) → (Str × V) → Option Int) (h_r_q17 : ∀ y0 y1, CM (fun G => r_q17 G y0 y1)) (a0 : (List (Str × V))) (a1 : (List (Str × V))) (s1 : Nat) : CM (fun G : OF ρ => zf7 (r_q17 G) a0 a1 s1) :=
 z3o (κ := Nat) (τ := fun _ => Int) (Φ := fun G g i => z6a (r_q17 G) a0 a1 (fun s1 => g s1) i) (fun g i => zb7 r_q17 h_r_q17 (fun _ => (fun s1 => g s1)) (fun _ => z0c) a0 a1 i) (fun G i => zb7 (ι := Nat) (ρ := fun _ => Int) (fun _ => r_q17 G) (fun _ _ => z0c) (fun g => (fun s1 => g s1)) (fun _ => z1c) a0 a1 i) s1
noncomputable def zl7 (r_q17 : (Str × V) → (Str × V) → Option Int) (r_q00 : (List (Str × V)) → (List (Str × V)) → Option Int) (r_q01 : (List V) → (List V) → Option Int) (r_q12 : V → V → Option Int) (a0 : (List (Str × V))) (a1 : (List (Str × V))) : Option Int :=
 zf7 r_q17 a0 a1 0
theorem zwr (r_q17 : OF ρ → (Str × V) → (Str × V) → Option Int) (h_r_q17 : ∀ y0 y1, CM (fun G => r_q17 G y0 y1)) (r_q00 : OF ρ → (List (Str × V)) → (List (Str × V)) → Option Int) (h_r_q00 : ∀ y0 y1, CM (fun G => r_q00 G y0 y1)) (r_q01 : OF ρ → (List V) → (List V) → Option Int) (h_r_q01 : ∀ y0 y1, CM (fun G => r_q01 G y0 y1)) (r_q12 : OF ρ → V → V → Option Int) (h_r_q12 : ∀ y0 y1, CM (fun G => r_q12 G y0 y1)) (a0 : (List (Str × V))) (a1 : (List (Str × V))) : CM (fun G : OF ρ => zl7 (r_q17 G) (r_q00 G) (r_q01 G) (r_q12 G) a0 a1) := by
 simp only [zl7]
 repeat (first | exact z0c | exact h_r_q17 _ _ | exact h_r_q00 _ _ | exact h_r_q01 _ _ | exact h_r_q12 _ _ | apply zqf | refine z14 ?_ ?_ | refine z15 ?_ (fun _ => ?_) | intro _ | assumption)
noncomputable def z69 (r_q12 : V → V → Option Int) (a0 : (List V)) (a1 : (List V)) (g1 : Nat → Option Int) (s1 : Nat) : Option Int :=
 bif (decide (((s1 : Nat) : Int) < (((a0).length : Nat) : Int))) then (
  Option.bind ((a0)[s1]?) fun x4 =>
  bif (decide (((s1 : Nat) : Int) ≥ (((a1).length : Nat) : Int))) then (
   some 1
  ) else (
   Option.bind ((a1)[s1]?) fun x6 =>
   Option.bind (r_q12 x4 x6) fun x7 =>
   bif (x7 != 0) then (
    some x7
   ) else (
    g1 (s1 + 1)
   )
  )
 ) else (
  bif (decide ((((a0).length : Nat) : Int) < (((a1).length : Nat) : Int))) then (
   some (-1)
  ) else (
   some 0
  )
 )
theorem zb6 (r_q12 : OF ρ → V → V → Option Int) (h_r_q12 : ∀ y0 y1, CM (fun G => r_q12 G y0 y1)) (g1 : OF ρ → Nat → Option Int) (h_g1 : ∀ y0, CM (fun G => g1 G y0)) (a0 : (List V)) (a1 : (List V)) (s1 : Nat) : CM (fun G : OF ρ => z69 (r_q12 G) a0 a1 (g1 G) s1) := by
 simp only [z69]
 repeat (first | exact z0c | exact h_r_q12 _ _ | exact h_g1 _ | refine z14 ?_ ?_ | refine z15 ?_ (fun _ => ?_))
noncomputable def zf6 (r_q12 : V → V → Option Int) (a0 : (List V)) (a1 : (List V)) (s1 : Nat) : Option Int :=
 z38 (ι := Nat) (ρ := fun _ => Int) (fun g i => z69 r_q12 a0 a1 (fun s1 => g s1) i) s1
theorem zi2 (r_q12 : V → V → Option Int) (a0 : (List V)) (a1 : (List V)) (s1 : Nat) : zf6 r_q12 a0 a1 s1 = z69 r_q12 a0 a1 (zf6 r_q12 a0 a1) s1 :=
 z1d (ι := Nat) (ρ := fun _ => Int) (Φ := fun g i => z69 r_q12 a0 a1 (fun s1 => g s1) i) (fun i => zb6 (ι := Nat) (ρ := fun _ => Int) (fun _ => r_q12) (fun _ _ => z0c) (fun g => (fun s1 => g s1)) (fun _ => z1c) a0 a1 i) s1
theorem zqe (r_q12 : OF ρ → V → V → Option Int) (h_r_q12 : ∀ y0 y1, CM (fun G => r_q12 G y0 y1)) (a0 : (List V)) (a1 : (List V)) (s1 : Nat) : CM (fun G : OF ρ => zf6 (r_q12 G) a0 a1 s1) :=
 z3o (κ := Nat) (τ := fun _ => Int) (Φ := fun G g i => z69 (r_q12 G) a0 a1 (fun s1 => g s1) i) (fun g i => zb6 r_q12 h_r_q12 (fun _ => (fun s1 => g s1)) (fun _ => z0c) a0 a1 i) (fun G i => zb6 (ι := Nat) (ρ := fun _ => Int) (fun _ => r_q12 G) (fun _ _ => z0c) (fun g => (fun s1 => g s1)) (fun _ => z1c) a0 a1 i) s1
noncomputable def zl6 (r_q17 : (Str × V) → (Str × V) → Option Int) (r_q00 : (List (Str × V)) → (List (Str × V)) → Option Int) (r_q01 : (List V) → (List V) → Option Int) (r_q12 : V → V → Option Int) (a0 : (List V)) (a1 : (List V)) : Option Int :=
 zf6 r_q12 a0 a1 0
theorem zwq (r_q17 : OF ρ → (Str × V) → (Str × V) → Option Int) (h_r_q17 : ∀ y0 y1, CM (fun G => r_q17 G y0 y1)) (r_q00 : OF ρ → (List (Str × V)) → (List (Str × V)) → Option Int) (h_r_q00 : ∀ y0 y1, CM (fun G => r_q00 G y0 y1)) (r_q01 : OF ρ → (List V) → (List V) → Option Int) (h_r_q01 : ∀ y0 y1, CM (fun G => r_q01 G y0 y1)) (r_q12 : OF ρ → V → V → Option Int) (h_r_q12 : ∀ y0 y1, CM (fun G => r_q12 G y0 y1)) (a0 : (List V)) (a1 : (List V)) : CM (fun G : OF ρ => zl6 (r_q17 G) (r_q00 G) (r_q01 G) (r_q12 G) a0 a1) := by
 simp only [zl6]
 repeat (first | exact z0c | exact h_r_q17 _ _ | exact h_r_q00 _ _ | exact h_r_q01 _ _ | exact h_r_q12 _ _ | apply zqe | refine z14 ?_ ?_ | refine z15 ?_ (fun _ => ?_) | intro _ | assumption)
noncomputable def zkt (r_q17 : (Str × V) → (Str × V) → Option Int) (r_q00 : (List (Str × V)) → (List (Str × V)) → Option Int) (r_q01 : (List V) → (List V) → Option Int) (r_q12 : V → V → Option Int) (a0 : V) (a1 : V) : Option Int :=
 Option.bind (zg0 a0) fun x1 =>
 Option.bind (zg0 a1) fun x2 =>
 Option.bind (znt x1 x2) fun x3 =>
 bif (x3 != 0) then (
  some x3
 ) else (
  bif (a0).isBool then (
   Option.bind (zqu ((a0).asBool)) fun x6 =>
   Option.bind ((a1).theBool) fun x7 =>
   Option.bind (zqu x7) fun x8 =>
   Option.bind (znt x6 x8) fun x9 =>
   some x9
  ) else (
   bif (a0).isInt then (
    Option.bind ((a1).theInt) fun x11 =>
    Option.bind (zu5 ((a0).asInt) x11) fun x12 =>
    some x12
   ) else (
    bif (a0).isFloat then (
     Option.bind (znn ((a0).asFloat)) fun x14 =>
     Option.bind ((a1).theFloat) fun x15 =>
     Option.bind (znn x15) fun x16 =>
     Option.bind (zu6 x14 x16) fun x17 =>
     some x17
    ) else (
     bif (a0).isText then (
      Option.bind ((a1).theText) fun x19 =>
      Option.bind (zjs ((a0).asText) x19) fun x20 =>
      some x20
     ) else (
      bif (a0).isBytes then (
       Option.bind ((a1).theBytes) fun x22 =>
       Option.bind (zu8 ((a0).asBytes) x22) fun x23 =>
       some x23
      ) else (
       bif (a0).isRef then (
        Option.bind ((a1).theRef) fun x25 =>
        Option.bind (zu7 ((a0).asRef) x25) fun x26 =>
        some x26
       ) else (
        bif (a0).isList then (
         Option.bind ((a1).theList) fun x28 =>
         Option.bind (r_q01 ((a0).asList) x28) fun x29 =>
         some x29
        ) else (
         bif (a0).isDict then (
          Option.bind ((a1).theDict) fun x31 =>
          Option.bind (r_q00 ((a0).asDict) x31) fun x32 =>
          some x32
         ) else (
          bif (a0).isRec then (
           Option.bind ((a1).theRec) fun x34 =>
           Option.bind ((a0).asRec) fun x35 =>
           Option.bind (x34) fun x36 =>
           Option.bind (zjs x35.cls x36.cls) fun x37 =>
           bif (x37 != 0) then (
            some x37
           ) else (
            Option.bind (znt x35.ver x36.ver) fun x39 =>
            bif (x39 != 0) then (
             some x39
            ) else (
             Option.bind (r_q00 x35.fields x36.fields) fun x41 =>
             some x41
            )
           )
          ) else (
           some 0
          )
         )
        )
       )
      )
     )
    )
   )
  )
 )
theorem zwb (r_q17 : OF ρ → (Str × V) → (Str × V) → Option Int) (h_r_q17 : ∀ y0 y1, CM (fun G => r_q17 G y0 y1)) (r_q00 : OF ρ → (List (Str × V)) → (List (Str × V)) → Option Int) (h_r_q00 : ∀ y0 y1, CM (fun G => r_q00 G y0 y1)) (r_q01 : OF ρ → (List V) → (List V) → Option Int) (h_r_q01 : ∀ y0 y1, CM (fun G => r_q01 G y0 y1)) (r_q12 : OF ρ → V → V → Option Int) (h_r_q12 : ∀ y0 y1, CM (fun G => r_q12 G y0 y1)) (a0 : V) (a1 : V) : CM (fun G : OF ρ => zkt (r_q17 G) (r_q00 G) (r_q01 G) (r_q12 G) a0 a1) := by
 simp only [zkt]
 repeat (first | exact z0c | exact h_r_q17 _ _ | exact h_r_q00 _ _ | exact h_r_q01 _ _ | exact h_r_q12 _ _ | refine z14 ?_ ?_ | refine z15 ?_ (fun _ => ?_))
inductive C_q17 where
 | k_q17 (a0 : (Str × V)) (a1 : (Str × V))
 | k_q00 (a0 : (List (Str × V))) (a1 : (List (Str × V)))
 | k_q01 (a0 : (List V)) (a1 : (List V))
 | k_q12 (a0 : V) (a1 : V)
def C_q17.R : C_q17 → Type
 | .k_q17 _ _ => Int
 | .k_q00 _ _ => Int
 | .k_q01 _ _ => Int
 | .k_q12 _ _ => Int
noncomputable def C_q17.F (g : ∀ i : C_q17, Option i.R) : ∀ i : C_q17, Option i.R
 | .k_q17 a0 a1 => zkp (fun a0 a1 => g (.k_q17 a0 a1)) (fun a0 a1 => g (.k_q00 a0 a1)) (fun a0 a1 => g (.k_q01 a0 a1)) (fun a0 a1 => g (.k_q12 a0 a1)) a0 a1
 | .k_q00 a0 a1 => zl7 (fun a0 a1 => g (.k_q17 a0 a1)) (fun a0 a1 => g (.k_q00 a0 a1)) (fun a0 a1 => g (.k_q01 a0 a1)) (fun a0 a1 => g (.k_q12 a0 a1)) a0 a1
 | .k_q01 a0 a1 => zl6 (fun a0 a1 => g (.k_q17 a0 a1)) (fun a0 a1 => g (.k_q00 a0 a1)) (fun a0 a1 => g (.k_q01 a0 a1)) (fun a0 a1 => g (.k_q12 a0 a1)) a0 a1
 | .k_q12 a0 a1 => zkt (fun a0 a1 => g (.k_q17 a0 a1)) (fun a0 a1 => g (.k_q00 a0 a1)) (fun a0 a1 => g (.k_q01 a0 a1)) (fun a0 a1 => g (.k_q12 a0 a1)) a0 a1
noncomputable def zjp (a0 : (Str × V)) (a1 : (Str × V)) : Option Int := z38 C_q17.F (.k_q17 a0 a1)
noncomputable def zo0 (a0 : (List (Str × V))) (a1 : (List (Str × V))) : Option Int := z38 C_q17.F (.k_q00 a0 a1)
noncomputable def znz (a0 : (List V)) (a1 : (List V)) : Option Int := z38 C_q17.F (.k_q01 a0 a1)
noncomputable def z9p (a0 : V) (a1 : V) : Option Int := z38 C_q17.F (.k_q12 a0 a1)
abbrev gg7 := fun (g : ∀ i : C_q17, Option i.R) a0 a1 => g (.k_q17 a0 a1)
theorem hh7 (a0 : _) (a1 : _) : CM (ρ := C_q17.R) (fun g => g (C_q17.k_q17 a0 a1)) := z1c
abbrev gg8 := fun (g : ∀ i : C_q17, Option i.R) a0 a1 => g (.k_q00 a0 a1)
theorem hh8 (a0 : _) (a1 : _) : CM (ρ := C_q17.R) (fun g => g (C_q17.k_q00 a0 a1)) := z1c
abbrev gg9 := fun (g : ∀ i : C_q17, Option i.R) a0 a1 => g (.k_q01 a0 a1)
theorem hh9 (a0 : _) (a1 : _) : CM (ρ := C_q17.R) (fun g => g (C_q17.k_q01 a0 a1)) := z1c
abbrev Z39 := fun (g : ∀ i : C_q17, Option i.R) a0 a1 => g (.k_q12 a0 a1)
theorem Z38 (a0 : _) (a1 : _) : CM (ρ := C_q17.R) (fun g => g (C_q17.k_q12 a0 a1)) := z1c
theorem C_q17.cm (i : C_q17) : CM (fun g : (∀ i : C_q17, Option i.R) => C_q17.F g i) := by
 cases i with
 | k_q17 a0 a1 => exact zw7 gg7 hh7 gg8 hh8 gg9 hh9 Z39 Z38 a0 a1
 | k_q00 a0 a1 => exact zwr gg7 hh7 gg8 hh8 gg9 hh9 Z39 Z38 a0 a1
 | k_q01 a0 a1 => exact zwq gg7 hh7 gg8 hh8 gg9 hh9 Z39 Z38 a0 a1
 | k_q12 a0 a1 => exact zwb gg7 hh7 gg8 hh8 gg9 hh9 Z39 Z38 a0 a1
theorem Z5f (a0 : (Str × V)) (a1 : (Str × V)) : zjp a0 a1 = zkp zjp zo0 znz z9p a0 a1 := z1d C_q17.cm (.k_q17 a0 a1)
theorem Z5w (a0 : (List (Str × V))) (a1 : (List (Str × V))) : zo0 a0 a1 = zl7 zjp zo0 znz z9p a0 a1 := z1d C_q17.cm (.k_q00 a0 a1)
theorem Z5v (a0 : (List V)) (a1 : (List V)) : znz a0 a1 = zl6 zjp zo0 znz z9p a0 a1 := z1d C_q17.cm (.k_q01 a0 a1)
theorem Z5i (a0 : V) (a1 : V) : z9p a0 a1 = zkt zjp zo0 znz z9p a0 a1 := z1d C_q17.cm (.k_q12 a0 a1)
def C_q17.Q : ∀ i : C_q17, i.R → Prop
 | .k_q17 a0 a1 => fun (r : Int) => z0g Try.prog 114 [(z1h a0), (z1h a1)] (I64 r)
 | .k_q00 a0 a1 => fun (r : Int) => z0g Try.prog 113 [(PV.sl none 43 2 (List.map z1h a0)), (PV.sl none 43 2 (List.map z1h a1)), (PV.fn (.func 114) [] [])] (I64 r)
 | .k_q01 a0 a1 => fun (r : Int) => z0g Try.prog 112 [(PV.sl none 20 1 (List.map ofV a0)), (PV.sl none 20 1 (List.map ofV a1)), (PV.fn (.func 88) [] [])] (I64 r)
 | .k_q12 a0 a1 => fun (r : Int) => z0g Try.prog 88 [(ofV a0), (ofV a1)] (I64 r)
theorem zfs (r_q17 : (Str × V) → (Str × V) → Option Int) (c_q17 : ∀ (a0 : (Str × V)) (a1 : (Str × V)) r, r_q17 a0 a1 = some r → z0g Try.prog 114 [(z1h a0), (z1h a1)] (I64 r)) (r_q00 : (List (Str × V)) → (List (Str × V)) → Option Int) (c_q00 : ∀ (a0 : (List (Str × V))) (a1 : (List (Str × V))) r, r_q00 a0 a1 = some r → z0g Try.prog 113 [(PV.sl none 43 2 (List.map z1h a0)), (PV.sl none 43 2 (List.map z1h a1)), (PV.fn (.func 114) [] [])] (I64 r)) (r_q01 : (List V) → (List V) → Option Int) (c_q01 : ∀ (a0 : (List V)) (a1 : (List V)) r, r_q01 a0 a1 = some r → z0g Try.prog 112 [(PV.sl none 20 1 (List.map ofV a0)), (PV.sl none 20 1 (List.map ofV a1)), (PV.fn (.func 88) [] [])] (I64 r)) (r_q12 : V → V → Option Int) (c_q12 : ∀ (a0 : V) (a1 : V) r, r_q12 a0 a1 = some r → z0g Try.prog 88 [(ofV a0), (ofV a1)] (I64 r)) (a0 : (Str × V)) (a1 : (Str × V)) (r : Int) (h : zkp r_q17 r_q00 r_q01 r_q12 a0 a1 = some r) : z0g Try.prog 114 [(z1h a0), (z1h a1)] (I64 r) := by
 unfold zkp at h
 refine z0w Try.func114 rfl Try.ntmps114 Try.results114 rfl (z10 ?_)
 change BW _ _ _ ⟨[(0, (z1h a0)), (1, (z1h a1))], [], _⟩ _
 refine bR ?_
 refine sS rfl rfl rfl (z1x rfl rfl rfl) ?_
 refine sS rfl rfl rfl (z1x rfl rfl rfl) ?_
 refine sAx (z00 ?_)
 refine cBx ?_
 refine z0o ?_
 refine bR ?_
 refine sS rfl rfl rfl (z0e z6x (i := 0) rfl rfl rfl) ?_
 refine sS rfl rfl rfl ((z0n Try.underlying9 rfl rfl rfl rfl rfl)) ?_
 refine sS rfl rfl rfl (z0e z6x (i := 0) rfl rfl rfl) ?_
 refine sS rfl rfl rfl ((z0n Try.underlying9 rfl rfl rfl rfl rfl)) ?_
 obtain ⟨x1, hx1, h⟩ := obind h
 refine sS rfl rfl rfl (z0b rfl zso rfl (.cons (Wk.refl _) (.cons (Wk.refl _) .nil)) ⟨rfl, ⟨rfl, trivial⟩⟩ (zyg a0.1 a1.1 x1 hx1) rfl) ?_
 refine sAx (z00 ?_)
 refine cBx ?_
 refine bR ?_
 refine sMx ?_
 refine sS rfl rfl rfl ((z06 rfl rfl rfl rfl).cast (y := (BO ((x1 != 0)))) rfl rfl) (z00 ?_)
 refine cBx ?_
 refine z05 rfl ?_ ?_
 ·intro hc2; replace h := z02 hc2 h
  refine bR ?_
  refine sMx ?_
  refine sAx (z00 ?_)
  refine cBx ?_
  refine z0a ?_
  change ∃ xs, _ = some xs ∧ EndOk _ _ _ _
  obtain rfl := Option.some.inj h
  exact ⟨_, rfl, z0d (y := (I64 x1)) (Wk.refl _) rfl ⟨rfl, rfl⟩⟩
 ·intro hc2; replace h := z03 hc2 h
  refine z0l ?_
  refine cBx ?_
  refine bR ?_
  refine sS rfl rfl rfl (z0e z6x (i := 1) rfl rfl rfl) ?_
  refine sS rfl rfl rfl ((z0n Try.underlying20 rfl rfl rfl rfl rfl)) ?_
  refine sS rfl rfl rfl (z0e z6x (i := 1) rfl rfl rfl) ?_
  refine sS rfl rfl rfl ((z0n Try.underlying20 rfl rfl rfl rfl rfl)) ?_
  obtain ⟨x3, hx3, h⟩ := obind h
  refine sS rfl rfl rfl (z0b rfl zze rfl (.cons (Wk.refl _) (.cons (Wk.refl _) .nil)) ⟨(ids_V a0.2), ⟨(ids_V a1.2), trivial⟩⟩ (c_q12 a0.2 a1.2 x3 hx3) rfl) ?_
  refine sAx (z00 ?_)
  refine cBx ?_
  refine z0a ?_
  change ∃ xs, _ = some xs ∧ EndOk _ _ _ _
  obtain rfl := Option.some.inj h
  exact ⟨_, rfl, z0d (y := (I64 x3)) (Wk.refl _) rfl ⟨rfl, rfl⟩⟩
theorem z2c (r_q17 : (Str × V) → (Str × V) → Option Int) (c_q17 : ∀ (a0 : (Str × V)) (a1 : (Str × V)) r, r_q17 a0 a1 = some r → z0g Try.prog 114 [(z1h a0), (z1h a1)] (I64 r)) (r_q00 : (List (Str × V)) → (List (Str × V)) → Option Int) (c_q00 : ∀ (a0 : (List (Str × V))) (a1 : (List (Str × V))) r, r_q00 a0 a1 = some r → z0g Try.prog 113 [(PV.sl none 43 2 (List.map z1h a0)), (PV.sl none 43 2 (List.map z1h a1)), (PV.fn (.func 114) [] [])] (I64 r)) (r_q01 : (List V) → (List V) → Option Int) (c_q01 : ∀ (a0 : (List V)) (a1 : (List V)) r, r_q01 a0 a1 = some r → z0g Try.prog 112 [(PV.sl none 20 1 (List.map ofV a0)), (PV.sl none 20 1 (List.map ofV a1)), (PV.fn (.func 88) [] [])] (I64 r)) (r_q12 : V → V → Option Int) (c_q12 : ∀ (a0 : V) (a1 : V) r, r_q12 a0 a1 = some r → z0g Try.prog 88 [(ofV a0), (ofV a1)] (I64 r)) (a0 : (List (Str × V))) (a1 : (List (Str × V))) (r : Int) (h : zl7 r_q17 r_q00 r_q01 r_q12 a0 a1 = some r) : z0g Try.prog 113 [(PV.sl none 43 2 (List.map z1h a0)), (PV.sl none 43 2 (List.map z1h a1)), (PV.fn (.func 114) [] [])] (I64 r) := by
 unfold zl7 at h
 refine z0w Try.func113 rfl Try.ntmps113 Try.results113 rfl (z10 ?_)
 change BW _ _ _ ⟨[(0, (PV.sl none 43 2 (List.map z1h a0))), (1, (PV.sl none 43 2 (List.map z1h a1))), (2, (PV.fn (.func 114) [] []))], [], _⟩ _
 refine bR ?_
 refine sAx (z00 ?_)
 refine cBx ?_
 refine z0o ?_
 refine bR ?_
 refine sMx ?_
 refine sS rfl rfl rfl (z17 Try.underlying45 rfl rfl) ?_
 refine sMx (z00 ?_)
 refine cBx ?_
 refine z0x ?_
 refine cBx ?_
 unfold zf7 at h
 refine z26 (σ := Nat) (fun i => [(0, (PV.sl none 43 2 (List.map z1h a0))), (1, (PV.sl none 43 2 (List.map z1h a1))), (2, (PV.fn (.func 114) [] [])), (11, (PV.sl none 43 2 (List.map z1h a0))), (12, (I64 ((((a0).length : Nat) : Int)))), (13, (I64 (((i : Nat) : Int))))]) (fun i => []) 0 h ?_ ?_ ?_
 ·intro i; exact ⟨lbE rfl, ⟨(z01 (z0q z1z _)), ⟨(z01 (z0q z1z _)), ⟨(z01 rfl), ⟨(z01 (z0q z1z _)), ⟨(z01 rfl), ⟨(z01 rfl), trivial⟩⟩⟩⟩⟩⟩, trivial⟩
 ·exact ⟨.nil, (sC rfl (sC rfl (sC rfl (sC rfl (sC rfl (sC rfl z09))))))⟩
 ·rintro g1_f s1 h; replace h : z6a r_q17 a0 a1 (fun y0 => g1_f y0) s1 = some r := h; unfold z6a at h
  change BW _ _ _ ⟨[(0, (PV.sl none 43 2 (List.map z1h a0))), (1, (PV.sl none 43 2 (List.map z1h a1))), (2, (PV.fn (.func 114) [] [])), (11, (PV.sl none 43 2 (List.map z1h a0))), (12, (I64 ((((a0).length : Nat) : Int)))), (13, (I64 (((s1 : Nat) : Int))))], [], _⟩ _
  refine bR ?_
  refine sS rfl rfl rfl ((z06 rfl rfl rfl rfl).cast (y := (BO ((decide (((s1 : Nat) : Int) < (((a0).length : Nat) : Int)))))) rfl rfl) (z00 ?_)
  refine cBx ?_
  refine z0o ?_
  refine z2z (t := 11) rfl fun hb3 => ?_
  try rw [List.length_map] at hb3
  refine z05 rfl ?_ ?_
  ·intro hc2; replace h := z02 hc2 h
   have hc2_ := of_decide_eq_true hc2
   refine z0l ?_
   refine cBx ?_
   refine z0o ?_
   refine z0x ?_
   refine cBx ?_
   refine bR ?_
   refine sMx ?_
   obtain ⟨x4, hx4, h⟩ := obind h
   refine sS rfl rfl rfl (z1i (i := s1) Try.underlying45 z2d rfl rfl rfl hx4 rfl) ?_
   refine sS rfl rfl rfl (z1s z2d Try.underlying43 rfl rfl rfl rfl rfl) ?_
   refine sS rfl rfl rfl ((z1j z2d rfl).cast (H'' := [.box 43 [(z0f []), (ofV V.nil)]]) rfl (by simp only [mk_nil]; rfl)) ?_
   refine sAx ?_
   refine z11 rfl rfl (z0v z2d rfl rfl rfl rfl rfl rfl (lbE rfl) (by show List.all [(z0f x4.1), (ofV x4.2)] z96 = true; simp only [List.all_cons, List.all_nil, zg4, z7d, Bool.and_true, Bool.true_and]; try rfl)) ?_
   refine z00 ?_
   refine cBx ?_
   refine z0o ?_
   refine bR ?_
   refine sMx ?_
   refine sMx ?_
   refine sS rfl rfl rfl (z17 Try.underlying45 rfl rfl) ?_
   refine sS rfl rfl rfl ((z06 rfl rfl rfl rfl).cast (y := (BO ((decide (((s1 : Nat) : Int) ≥ (((a1).length : Nat) : Int)))))) rfl rfl) (z00 ?_)
   refine cBx ?_
   refine z05 rfl ?_ ?_
   ·intro hc5; replace h := z02 hc5 h
    refine bR ?_
    refine sAx (z00 ?_)
    refine cBx ?_
    refine z0a ?_
    change ∃ xs, _ = some xs ∧ EndOk _ _ _ _
    obtain rfl := Option.some.inj h
    exact ⟨_, rfl, z0d (y := (I64 1)) (Wk.refl _) rfl ⟨rfl, rfl⟩⟩
   ·intro hc5; replace h := z03 hc5 h
    refine z0l ?_
    refine cBx ?_
    refine bR ?_
    refine sMx ?_
    refine sMx ?_
    obtain ⟨x6, hx6, h⟩ := obind h
    refine sS rfl rfl rfl (z1i (i := s1) Try.underlying45 z2d rfl rfl rfl hx6 rfl) ?_
    refine sS rfl rfl rfl (z1s z2d Try.underlying43 rfl rfl rfl rfl rfl) ?_
    refine sS rfl rfl rfl ((z1j z2d rfl).cast (H'' := [.box 43 [(z0f x4.1), (ofV x4.2)], .box 43 [(z0f []), (ofV V.nil)]]) rfl (by simp only [mk_nil]; rfl)) ?_
    refine z11 rfl rfl (z0v z2d rfl rfl rfl rfl rfl rfl (lbE rfl) (by show List.all [(z0f x6.1), (ofV x6.2)] z96 = true; simp only [List.all_cons, List.all_nil, zg4, z7d, Bool.and_true, Bool.true_and]; try rfl)) ?_
    refine z00 ?_
    refine cBx ?_
    refine bR ?_
    refine sMx ?_
    refine sS rfl rfl rfl ((z12 z2d Try.underlying43 rfl rfl rfl rfl rfl rfl)) ?_
    refine sS rfl rfl rfl ((z12 z2d Try.underlying43 rfl rfl rfl rfl rfl rfl)) ?_
    obtain ⟨x7, hx7, h⟩ := obind h
    refine sS rfl rfl rfl (z8b rfl rfl Z2h rfl (.cons (Wk.refl _) (.cons (Wk.refl _) .nil)) ⟨(z1z x4), ⟨(z1z x6), trivial⟩⟩ (c_q17 x4 x6 x7 hx7) rfl) ?_
    refine sAx (z00 ?_)
    refine cBx ?_
    refine bR ?_
    refine sMx ?_
    refine sS rfl rfl rfl ((z06 rfl rfl rfl rfl).cast (y := (BO ((x7 != 0)))) rfl rfl) (z00 ?_)
    refine cBx ?_
    refine z05 rfl ?_ ?_
    ·intro hc8; replace h := z02 hc8 h
     refine bR ?_
     refine sMx ?_
     refine sAx (z00 ?_)
     refine cBx ?_
     refine z0a ?_
     change ∃ xs, _ = some xs ∧ EndOk _ _ _ _
     obtain rfl := Option.some.inj h
     exact ⟨_, rfl, z0d (y := (I64 x7)) (Wk.refl _) rfl ⟨rfl, rfl⟩⟩
    ·intro hc8; replace h := z03 hc8 h
     refine z0l ?_
     refine cBx ?_
     refine z0s ?_
     refine sS rfl rfl rfl (z1y (k := s1) (c := 1) rfl rfl rfl (by omega)) ?_
     refine sMx (z00 ?_)
     exact ⟨rfl, (s1 + 1), h, ⟨.nil, (sC rfl (sC rfl (sC rfl (sC rfl (sC rfl (sC rfl z09))))))⟩⟩
  ·intro hc2; replace h := z03 hc2 h
   refine z22 ?_
   refine cBx ?_
   refine z0o ?_
   refine bR ?_
   refine sMx ?_
   refine sS rfl rfl rfl (z17 Try.underlying45 rfl rfl) ?_
   refine sMx ?_
   refine sS rfl rfl rfl (z17 Try.underlying45 rfl rfl) ?_
   refine sS rfl rfl rfl ((z06 rfl rfl rfl rfl).cast (y := (BO ((decide ((((a0).length : Nat) : Int) < (((a1).length : Nat) : Int)))))) rfl rfl) (z00 ?_)
   refine cBx ?_
   refine z05 rfl ?_ ?_
   ·intro hc9; replace h := z02 hc9 h
    refine bR ?_
    refine sAx (z00 ?_)
    refine cBx ?_
    refine z0a ?_
    change ∃ xs, _ = some xs ∧ EndOk _ _ _ _
    obtain rfl := Option.some.inj h
    exact ⟨_, rfl, z0d (y := (I64 ((-1)))) (Wk.refl _) rfl ⟨rfl, rfl⟩⟩
   ·intro hc9; replace h := z03 hc9 h
    refine z0l ?_
    refine cBx ?_
    refine bR ?_
    refine sAx (z00 ?_)
    refine cBx ?_
    refine z0a ?_
    change ∃ xs, _ = some xs ∧ EndOk _ _ _ _
    obtain rfl := Option.some.inj h
    exact ⟨_, rfl, z0d (y := (I64 0)) (Wk.refl _) rfl ⟨rfl, rfl⟩⟩
theorem z2k (r_q17 : (Str × V) → (Str × V) → Option Int) (c_q17 : ∀ (a0 : (Str × V)) (a1 : (Str × V)) r, r_q17 a0 a1 = some r → z0g Try.prog 114 [(z1h a0), (z1h a1)] (I64 r)) (r_q00 : (List (Str × V)) → (List (Str × V)) → Option Int) (c_q00 : ∀ (a0 : (List (Str × V))) (a1 : (List (Str × V))) r, r_q00 a0 a1 = some r → z0g Try.prog 113 [(PV.sl none 43 2 (List.map z1h a0)), (PV.sl none 43 2 (List.map z1h a1)), (PV.fn (.func 114) [] [])] (I64 r)) (r_q01 : (List V) → (List V) → Option Int) (c_q01 : ∀ (a0 : (List V)) (a1 : (List V)) r, r_q01 a0 a1 = some r → z0g Try.prog 112 [(PV.sl none 20 1 (List.map ofV a0)), (PV.sl none 20 1 (List.map ofV a1)), (PV.fn (.func 88) [] [])] (I64 r)) (r_q12 : V → V → Option Int) (c_q12 : ∀ (a0 : V) (a1 : V) r, r_q12 a0 a1 = some r → z0g Try.prog 88 [(ofV a0), (ofV a1)] (I64 r)) (a0 : (List V)) (a1 : (List V)) (r : Int) (h : zl6 r_q17 r_q00 r_q01 r_q12 a0 a1 = some r) : z0g Try.prog 112 [(PV.sl none 20 1 (List.map ofV a0)), (PV.sl none 20 1 (List.map ofV a1)), (PV.fn (.func 88) [] [])] (I64 r) := by
 unfold zl6 at h
 refine z0w Try.func112 rfl Try.ntmps112 Try.results112 rfl (z10 ?_)
 change BW _ _ _ ⟨[(0, (PV.sl none 20 1 (List.map ofV a0))), (1, (PV.sl none 20 1 (List.map ofV a1))), (2, (PV.fn (.func 88) [] []))], [], _⟩ _
 refine bR ?_
 refine sAx (z00 ?_)
 refine cBx ?_
 refine z0o ?_
 refine bR ?_
 refine sMx ?_
 refine sS rfl rfl rfl (z17 Try.underlying37 rfl rfl) ?_
 refine sMx (z00 ?_)
 refine cBx ?_
 refine z0x ?_
 refine cBx ?_
 unfold zf6 at h
 refine z26 (σ := Nat) (fun i => [(0, (PV.sl none 20 1 (List.map ofV a0))), (1, (PV.sl none 20 1 (List.map ofV a1))), (2, (PV.fn (.func 88) [] [])), (11, (PV.sl none 20 1 (List.map ofV a0))), (12, (I64 ((((a0).length : Nat) : Int)))), (13, (I64 (((i : Nat) : Int))))]) (fun i => []) 0 h ?_ ?_ ?_
 ·intro i; exact ⟨lbE rfl, ⟨(z01 (z0q ids_V _)), ⟨(z01 (z0q ids_V _)), ⟨(z01 rfl), ⟨(z01 (z0q ids_V _)), ⟨(z01 rfl), ⟨(z01 rfl), trivial⟩⟩⟩⟩⟩⟩, trivial⟩
 ·exact ⟨.nil, (sC rfl (sC rfl (sC rfl (sC rfl (sC rfl (sC rfl z09))))))⟩
 ·rintro g1_f s1 h; replace h : z69 r_q12 a0 a1 (fun y0 => g1_f y0) s1 = some r := h; unfold z69 at h
  change BW _ _ _ ⟨[(0, (PV.sl none 20 1 (List.map ofV a0))), (1, (PV.sl none 20 1 (List.map ofV a1))), (2, (PV.fn (.func 88) [] [])), (11, (PV.sl none 20 1 (List.map ofV a0))), (12, (I64 ((((a0).length : Nat) : Int)))), (13, (I64 (((s1 : Nat) : Int))))], [], _⟩ _
  refine bR ?_
  refine sS rfl rfl rfl ((z06 rfl rfl rfl rfl).cast (y := (BO ((decide (((s1 : Nat) : Int) < (((a0).length : Nat) : Int)))))) rfl rfl) (z00 ?_)
  refine cBx ?_
  refine z0o ?_
  refine z2z (t := 11) rfl fun hb3 => ?_
  try rw [List.length_map] at hb3
  refine z05 rfl ?_ ?_
  ·intro hc2; replace h := z02 hc2 h
   have hc2_ := of_decide_eq_true hc2
   refine z0l ?_
   refine cBx ?_
   refine z0o ?_
   refine z0x ?_
   refine cBx ?_
   refine bR ?_
   refine sMx ?_
   obtain ⟨x4, hx4, h⟩ := obind h
   refine sS rfl rfl rfl (z1i (i := s1) Try.underlying37 z6r rfl rfl rfl hx4 rfl) ?_
   refine sS rfl rfl rfl (z13 (y := (ofV x4)) Try.underlying20 rfl rfl rfl (by rw [z30]; rfl)) ?_
   refine sAx ?_
   refine sAx (z00 ?_)
   refine cBx ?_
   refine z0o ?_
   refine bR ?_
   refine sMx ?_
   refine sMx ?_
   refine sS rfl rfl rfl (z17 Try.underlying37 rfl rfl) ?_
   refine sS rfl rfl rfl ((z06 rfl rfl rfl rfl).cast (y := (BO ((decide (((s1 : Nat) : Int) ≥ (((a1).length : Nat) : Int)))))) rfl rfl) (z00 ?_)
   refine cBx ?_
   refine z05 rfl ?_ ?_
   ·intro hc5; replace h := z02 hc5 h
    refine bR ?_
    refine sAx (z00 ?_)
    refine cBx ?_
    refine z0a ?_
    change ∃ xs, _ = some xs ∧ EndOk _ _ _ _
    obtain rfl := Option.some.inj h
    exact ⟨_, rfl, z0d (y := (I64 1)) (Wk.refl _) rfl ⟨rfl, rfl⟩⟩
   ·intro hc5; replace h := z03 hc5 h
    refine z0l ?_
    refine cBx ?_
    refine bR ?_
    refine sMx ?_
    refine sMx ?_
    obtain ⟨x6, hx6, h⟩ := obind h
    refine sS rfl rfl rfl (z1i (i := s1) Try.underlying37 z6r rfl rfl rfl hx6 rfl) ?_
    refine sS rfl rfl rfl (z13 (y := (ofV x6)) Try.underlying20 rfl rfl rfl (by rw [z30]; rfl)) ?_
    refine sAx (z00 ?_)
    refine cBx ?_
    refine bR ?_
    refine sMx ?_
    refine sMx ?_
    refine sMx ?_
    obtain ⟨x7, hx7, h⟩ := obind h
    refine sS rfl rfl rfl (z8b rfl rfl zze rfl (.cons (Wk.refl _) (.cons (Wk.refl _) .nil)) ⟨(ids_V x4), ⟨(ids_V x6), trivial⟩⟩ (c_q12 x4 x6 x7 hx7) rfl) ?_
    refine sAx (z00 ?_)
    refine cBx ?_
    refine bR ?_
    refine sMx ?_
    refine sS rfl rfl rfl ((z06 rfl rfl rfl rfl).cast (y := (BO ((x7 != 0)))) rfl rfl) (z00 ?_)
    refine cBx ?_
    refine z05 rfl ?_ ?_
    ·intro hc8; replace h := z02 hc8 h
     refine bR ?_
     refine sMx ?_
     refine sAx (z00 ?_)
     refine cBx ?_
     refine z0a ?_
     change ∃ xs, _ = some xs ∧ EndOk _ _ _ _
     obtain rfl := Option.some.inj h
     exact ⟨_, rfl, z0d (y := (I64 x7)) (Wk.refl _) rfl ⟨rfl, rfl⟩⟩
    ·intro hc8; replace h := z03 hc8 h
     refine z0l ?_
     refine cBx ?_
     refine z0s ?_
     refine sS rfl rfl rfl (z1y (k := s1) (c := 1) rfl rfl rfl (by omega)) ?_
     refine sMx (z00 ?_)
     exact ⟨rfl, (s1 + 1), h, ⟨.nil, (sC rfl (sC rfl (sC rfl (sC rfl (sC rfl (sC rfl z09))))))⟩⟩
  ·intro hc2; replace h := z03 hc2 h
   refine z22 ?_
   refine cBx ?_
   refine z0o ?_
   refine bR ?_
   refine sMx ?_
   refine sS rfl rfl rfl (z17 Try.underlying37 rfl rfl) ?_
   refine sMx ?_
   refine sS rfl rfl rfl (z17 Try.underlying37 rfl rfl) ?_
   refine sS rfl rfl rfl ((z06 rfl rfl rfl rfl).cast (y := (BO ((decide ((((a0).length : Nat) : Int) < (((a1).length : Nat) : Int)))))) rfl rfl) (z00 ?_)
   refine cBx ?_
   refine z05 rfl ?_ ?_
   ·intro hc9; replace h := z02 hc9 h
    refine bR ?_
    refine sAx (z00 ?_)
    refine cBx ?_
    refine z0a ?_
    change ∃ xs, _ = some xs ∧ EndOk _ _ _ _
    obtain rfl := Option.some.inj h
    exact ⟨_, rfl, z0d (y := (I64 ((-1)))) (Wk.refl _) rfl ⟨rfl, rfl⟩⟩
   ·intro hc9; replace h := z03 hc9 h
    refine z0l ?_
    refine cBx ?_
    refine bR ?_
    refine sAx (z00 ?_)
    refine cBx ?_
    refine z0a ?_
    change ∃ xs, _ = some xs ∧ EndOk _ _ _ _
    obtain rfl := Option.some.inj h
    exact ⟨_, rfl, z0d (y := (I64 0)) (Wk.refl _) rfl ⟨rfl, rfl⟩⟩
theorem zfq (r_q17 : (Str × V) → (Str × V) → Option Int) (c_q17 : ∀ (a0 : (Str × V)) (a1 : (Str × V)) r, r_q17 a0 a1 = some r → z0g Try.prog 114 [(z1h a0), (z1h a1)] (I64 r)) (r_q00 : (List (Str × V)) → (List (Str × V)) → Option Int) (c_q00 : ∀ (a0 : (List (Str × V))) (a1 : (List (Str × V))) r, r_q00 a0 a1 = some r → z0g Try.prog 113 [(PV.sl none 43 2 (List.map z1h a0)), (PV.sl none 43 2 (List.map z1h a1)), (PV.fn (.func 114) [] [])] (I64 r)) (r_q01 : (List V) → (List V) → Option Int) (c_q01 : ∀ (a0 : (List V)) (a1 : (List V)) r, r_q01 a0 a1 = some r → z0g Try.prog 112 [(PV.sl none 20 1 (List.map ofV a0)), (PV.sl none 20 1 (List.map ofV a1)), (PV.fn (.func 88) [] [])] (I64 r)) (r_q12 : V → V → Option Int) (c_q12 : ∀ (a0 : V) (a1 : V) r, r_q12 a0 a1 = some r → z0g Try.prog 88 [(ofV a0), (ofV a1)] (I64 r)) (a0 : V) (a1 : V) (r : Int) (h : zkt r_q17 r_q00 r_q01 r_q12 a0 a1 = some r) : z0g Try.prog 88 [(ofV a0), (ofV a1)] (I64 r) := by
 unfold zkt at h
 refine z0w Try.func88 rfl Try.ntmps88 Try.results88 rfl (z10 ?_)
 change BW _ _ _ ⟨[(0, (ofV a0)), (1, (ofV a1))], [], _⟩ _
 refine bR ?_
 refine sAx (z00 ?_)
 refine cBx ?_
 refine z0o ?_
 refine bR ?_
 refine sMx ?_
 obtain ⟨x1, hx1, h⟩ := obind h
 refine sS rfl rfl rfl (z0b rfl zod rfl (.cons (Wk.refl _) .nil) ⟨(ids_V a0), trivial⟩ (zn3 a0 x1 hx1) rfl) ?_
 refine sMx ?_
 obtain ⟨x2, hx2, h⟩ := obind h
 refine sS rfl rfl rfl (z0b rfl zod rfl (.cons (Wk.refl _) .nil) ⟨(ids_V a1), trivial⟩ (zn3 a1 x2 hx2) rfl) ?_
 obtain ⟨x3, hx3, h⟩ := obind h
 refine sS rfl rfl rfl (z0b rfl zsp rfl (.cons (Wk.refl _) (.cons (Wk.refl _) .nil)) ⟨rfl, ⟨rfl, trivial⟩⟩ (zyf x1 x2 x3 hx3) rfl) ?_
 refine sAx (z00 ?_)
 refine cBx ?_
 refine bR ?_
 refine sMx ?_
 refine sS rfl rfl rfl ((z06 rfl rfl rfl rfl).cast (y := (BO ((x3 != 0)))) rfl rfl) (z00 ?_)
 refine cBx ?_
 refine z05 rfl ?_ ?_
 ·intro hc4; replace h := z02 hc4 h
  refine bR ?_
  refine sMx ?_
  refine sAx (z00 ?_)
  refine cBx ?_
  refine z0a ?_
  change ∃ xs, _ = some xs ∧ EndOk _ _ _ _
  obtain rfl := Option.some.inj h
  exact ⟨_, rfl, z0d (y := (I64 x3)) (Wk.refl _) rfl ⟨rfl, rfl⟩⟩
 ·intro hc4; replace h := z03 hc4 h
  refine z0l ?_
  refine cBx ?_
  refine z0o ?_
  refine bR ?_
  refine sMx (z00 ?_)
  refine cBx ?_
  refine z0x ?_
  refine cBx ?_
  refine bR ?_
  refine sS rfl rfl rfl (zb9 rfl rfl) ?_
  refine sS rfl rfl rfl (z0j rfl rfl rfl) ?_
  refine sS rfl rfl rfl (z0j rfl rfl rfl) (z00 ?_)
  refine cBx ?_
  refine z05 rfl ?_ ?_
  ·intro hc5; replace h := z02 hc5 h
   refine bR ?_
   refine sAx (z00 ?_)
   refine cBx ?_
   refine z0o (z2e 4 [] [] mo (by kernel_rfl) ?_)
   refine z0y rfl rfl rfl rfl (fun H hp => z0k rfl rfl) ?_
   obtain ⟨x6, hx6, h⟩ := obind h
   refine z0y rfl rfl rfl rfl (fun H hp => z0b rfl zy0 rfl (.cons (Wk.refl _) .nil) ⟨rfl, trivial⟩ (Z0k ((a0).asBool) x6 hx6) rfl) ?_
   refine z0y rfl rfl rfl rfl (fun H hp => z0k rfl rfl) ?_
   obtain ⟨x7, hx7, h⟩ := obind h
   refine z0y rfl rfl rfl rfl (fun H hp => zo5 rfl rfl hx7) ?_
   refine z2b ?_
   change AO _ _ _ _ _
   obtain ⟨x8, hx8, h⟩ := obind h
   refine sS rfl rfl rfl (z0b rfl zy0 rfl (.cons (Wk.refl _) .nil) ⟨rfl, trivial⟩ (Z0k x7 x8 hx8) rfl) ?_
   obtain ⟨x9, hx9, h⟩ := obind h
   refine sS rfl rfl rfl (z0b rfl zsp rfl (.cons (Wk.refl _) (.cons (Wk.refl _) .nil)) ⟨rfl, ⟨rfl, trivial⟩⟩ (zyf x6 x8 x9 hx9) rfl) ?_
   refine sAx (z00 ?_)
   refine cBx ?_
   refine z0a ?_
   change ∃ xs, _ = some xs ∧ EndOk _ _ _ _
   obtain rfl := Option.some.inj h
   exact ⟨_, rfl, z0d (y := (I64 x9)) (Wk.refl _) rfl ⟨rfl, rfl⟩⟩
  ·intro hc5; replace h := z03 hc5 h
   refine bR ?_
   refine sS rfl rfl rfl (zdk rfl rfl) ?_
   refine sS rfl rfl rfl (z0j rfl rfl rfl) ?_
   refine sS rfl rfl rfl (z0j rfl rfl rfl) (z00 ?_)
   refine cBx ?_
   refine z05 rfl ?_ ?_
   ·intro hc10; replace h := z02 hc10 h
    refine bR ?_
    refine sAx (z00 ?_)
    refine cBx ?_
    refine bR ?_
    refine sMx ?_
    refine sMx ?_
    obtain ⟨x11, hx11, h⟩ := obind h
    refine sS rfl rfl rfl (zrd rfl rfl hx11) ?_
    obtain ⟨x12, hx12, h⟩ := obind h
    refine sS rfl rfl rfl (z0b rfl Z2m rfl (.cons (Wk.refl _) (.cons (Wk.refl _) .nil)) ⟨rfl, ⟨rfl, trivial⟩⟩ (Z3w ((a0).asInt) x11 x12 hx12) rfl) ?_
    refine sAx (z00 ?_)
    refine cBx ?_
    refine z0a ?_
    change ∃ xs, _ = some xs ∧ EndOk _ _ _ _
    obtain rfl := Option.some.inj h
    exact ⟨_, rfl, z0d (y := (I64 x12)) (Wk.refl _) rfl ⟨rfl, rfl⟩⟩
   ·intro hc10; replace h := z03 hc10 h
    refine bR ?_
    refine sS rfl rfl rfl (z8u rfl rfl) ?_
    refine sS rfl rfl rfl (z0j rfl rfl rfl) ?_
    refine sS rfl rfl rfl (z0j rfl rfl rfl) (z00 ?_)
    refine cBx ?_
    refine z05 rfl ?_ ?_
    ·intro hc13; replace h := z02 hc13 h
     refine bR ?_
     refine sAx (z00 ?_)
     refine cBx ?_
     refine z0o (z2e 4 [] [] mo (by kernel_rfl) ?_)
     refine z0y rfl rfl rfl rfl (fun H hp => z0k rfl rfl) ?_
     obtain ⟨x14, hx14, h⟩ := obind h
     refine z0y rfl rfl rfl rfl (fun H hp => z0b rfl zxz rfl (.cons (Wk.refl _) .nil) ⟨rfl, trivial⟩ (Z0i ((a0).asFloat) x14 hx14) rfl) ?_
     refine z0y rfl rfl rfl rfl (fun H hp => z0k rfl rfl) ?_
     obtain ⟨x15, hx15, h⟩ := obind h
     refine z0y rfl rfl rfl rfl (fun H hp => zjt rfl rfl hx15) ?_
     refine z2b ?_
     change AO _ _ _ _ _
     obtain ⟨x16, hx16, h⟩ := obind h
     refine sS rfl rfl rfl (z0b rfl zxz rfl (.cons (Wk.refl _) .nil) ⟨rfl, trivial⟩ (Z0i x15 x16 hx16) rfl) ?_
     obtain ⟨x17, hx17, h⟩ := obind h
     refine sS rfl rfl rfl (z0b rfl Z2l rfl (.cons (Wk.refl _) (.cons (Wk.refl _) .nil)) ⟨rfl, ⟨rfl, trivial⟩⟩ (Z3z x14 x16 x17 hx17) rfl) ?_
     refine sAx (z00 ?_)
     refine cBx ?_
     refine z0a ?_
     change ∃ xs, _ = some xs ∧ EndOk _ _ _ _
     obtain rfl := Option.some.inj h
     exact ⟨_, rfl, z0d (y := (I64 x17)) (Wk.refl _) rfl ⟨rfl, rfl⟩⟩
    ·intro hc13; replace h := z03 hc13 h
     refine bR ?_
     refine sS rfl rfl rfl (z8a rfl rfl) ?_
     refine sS rfl rfl rfl (z0j rfl rfl rfl) ?_
     refine sS rfl rfl rfl (z0j rfl rfl rfl) (z00 ?_)
     refine cBx ?_
     refine z05 rfl ?_ ?_
     ·intro hc18; replace h := z02 hc18 h
      refine bR ?_
      refine sAx (z00 ?_)
      refine cBx ?_
      refine bR ?_
      refine sMx ?_
      refine sMx ?_
      obtain ⟨x19, hx19, h⟩ := obind h
      refine sS rfl rfl rfl (zo2 rfl rfl hx19) ?_
      obtain ⟨x20, hx20, h⟩ := obind h
      refine sS rfl rfl rfl (z0b rfl zso rfl (.cons (Wk.refl _) (.cons (Wk.refl _) .nil)) ⟨rfl, ⟨rfl, trivial⟩⟩ (zyg ((a0).asText) x19 x20 hx20) rfl) ?_
      refine sAx (z00 ?_)
      refine cBx ?_
      refine z0a ?_
      change ∃ xs, _ = some xs ∧ EndOk _ _ _ _
      obtain rfl := Option.some.inj h
      exact ⟨_, rfl, z0d (y := (I64 x20)) (Wk.refl _) rfl ⟨rfl, rfl⟩⟩
     ·intro hc18; replace h := z03 hc18 h
      refine bR ?_
      refine sS rfl rfl rfl (z7a rfl rfl) ?_
      refine sS rfl rfl rfl (z0j rfl rfl rfl) ?_
      refine sS rfl rfl rfl (z0j rfl rfl rfl) (z00 ?_)
      refine cBx ?_
      refine z05 rfl ?_ ?_
      ·intro hc21; replace h := z02 hc21 h
       refine bR ?_
       refine sAx (z00 ?_)
       refine cBx ?_
       refine bR ?_
       refine sMx ?_
       refine sMx ?_
       obtain ⟨x22, hx22, h⟩ := obind h
       refine sS rfl rfl rfl (zju rfl rfl hx22) ?_
       obtain ⟨x23, hx23, h⟩ := obind h
       refine sS rfl rfl rfl (z0b rfl Z2k rfl (.cons (Wk.refl _) (.cons (Wk.refl _) .nil)) ⟨(z0q (fun _ => rfl) ((a0).asBytes)), ⟨(z0q (fun _ => rfl) x22), trivial⟩⟩ (Z43 ((a0).asBytes) x22 x23 hx23) rfl) ?_
       refine sAx (z00 ?_)
       refine cBx ?_
       refine z0a ?_
       change ∃ xs, _ = some xs ∧ EndOk _ _ _ _
       obtain rfl := Option.some.inj h
       exact ⟨_, rfl, z0d (y := (I64 x23)) (Wk.refl _) rfl ⟨rfl, rfl⟩⟩
      ·intro hc21; replace h := z03 hc21 h
       refine bR ?_
       refine sS rfl rfl rfl (zdj rfl rfl) ?_
       refine sS rfl rfl rfl (z0j rfl rfl rfl) ?_
       refine sS rfl rfl rfl (z0j rfl rfl rfl) (z00 ?_)
       refine cBx ?_
       refine z05 rfl ?_ ?_
       ·intro hc24; replace h := z02 hc24 h
        refine bR ?_
        refine sAx (z00 ?_)
        refine cBx ?_
        refine bR ?_
        refine sMx ?_
        refine sMx ?_
        obtain ⟨x25, hx25, h⟩ := obind h
        refine sS rfl rfl rfl (zrb rfl rfl hx25) ?_
        obtain ⟨x26, hx26, h⟩ := obind h
        refine sS rfl rfl rfl (z0b rfl Z2j rfl (.cons (Wk.refl _) (.cons (Wk.refl _) .nil)) ⟨rfl, ⟨rfl, trivial⟩⟩ (Z41 ((a0).asRef) x25 x26 hx26) rfl) ?_
        refine sAx (z00 ?_)
        refine cBx ?_
        refine z0a ?_
        change ∃ xs, _ = some xs ∧ EndOk _ _ _ _
        obtain rfl := Option.some.inj h
        exact ⟨_, rfl, z0d (y := (I64 x26)) (Wk.refl _) rfl ⟨rfl, rfl⟩⟩
       ·intro hc24; replace h := z03 hc24 h
        refine bR ?_
        refine sS rfl rfl rfl (z4f rfl rfl) ?_
        refine sS rfl rfl rfl (z0j rfl rfl rfl) ?_
        refine sS rfl rfl rfl (z0j rfl rfl rfl) (z00 ?_)
        refine cBx ?_
        refine z05 rfl ?_ ?_
        ·intro hc27; replace h := z02 hc27 h
         refine bR ?_
         refine sAx (z00 ?_)
         refine cBx ?_
         refine bR ?_
         refine sMx ?_
         refine sMx ?_
         obtain ⟨x28, hx28, h⟩ := obind h
         refine sS rfl rfl rfl (zo3 rfl rfl hx28) ?_
         obtain ⟨x29, hx29, h⟩ := obind h
         refine sS rfl rfl rfl (z0b rfl Z2i rfl (.cons (Wk.refl _) (.cons (Wk.refl _) (.cons (Wk.refl _) .nil))) ⟨(z0q ids_V ((a0).asList)), ⟨(z0q ids_V x28), ⟨rfl, trivial⟩⟩⟩ (c_q01 ((a0).asList) x28 x29 hx29) rfl) ?_
         refine sAx (z00 ?_)
         refine cBx ?_
         refine z0a ?_
         change ∃ xs, _ = some xs ∧ EndOk _ _ _ _
         obtain rfl := Option.some.inj h
         exact ⟨_, rfl, z0d (y := (I64 x29)) (Wk.refl _) rfl ⟨rfl, rfl⟩⟩
        ·intro hc27; replace h := z03 hc27 h
         refine bR ?_
         refine sS rfl rfl rfl (z4g rfl rfl) ?_
         refine sS rfl rfl rfl (z0j rfl rfl rfl) ?_
         refine sS rfl rfl rfl (z0j rfl rfl rfl) (z00 ?_)
         refine cBx ?_
         refine z05 rfl ?_ ?_
         ·intro hc30; replace h := z02 hc30 h
          refine bR ?_
          refine sAx (z00 ?_)
          refine cBx ?_
          refine bR ?_
          refine sMx ?_
          refine sMx ?_
          obtain ⟨x31, hx31, h⟩ := obind h
          refine sS rfl rfl rfl (zo4 rfl rfl hx31) ?_
          obtain ⟨x32, hx32, h⟩ := obind h
          refine sS rfl rfl rfl (z0b rfl zxy rfl (.cons (Wk.refl _) (.cons (Wk.refl _) (.cons (Wk.refl _) .nil))) ⟨(z0q z1z ((a0).asDict)), ⟨(z0q z1z x31), ⟨rfl, trivial⟩⟩⟩ (c_q00 ((a0).asDict) x31 x32 hx32) rfl) ?_
          refine sAx (z00 ?_)
          refine cBx ?_
          refine z0a ?_
          change ∃ xs, _ = some xs ∧ EndOk _ _ _ _
          obtain rfl := Option.some.inj h
          exact ⟨_, rfl, z0d (y := (I64 x32)) (Wk.refl _) rfl ⟨rfl, rfl⟩⟩
         ·intro hc30; replace h := z03 hc30 h
          refine bR ?_
          refine sS rfl rfl rfl (z55 rfl rfl) ?_
          refine sS rfl rfl rfl (z0j rfl rfl rfl) ?_
          refine sS rfl rfl rfl (z0j rfl rfl rfl) (z00 ?_)
          refine cBx ?_
          refine z05 rfl ?_ ?_
          ·intro hc33; replace h := z02 hc33 h
           refine bR ?_
           refine sAx (z00 ?_)
           refine cBx ?_
           refine bR ?_
           refine sMx ?_
           obtain ⟨x34, hx34, h⟩ := obind h
           refine sS rfl rfl rfl (zrc rfl rfl hx34) ?_
           refine sAx (z00 ?_)
           refine cBx ?_
           refine z0o ?_
           refine z0o (z2e 8 [] [] mo (by kernel_rfl) ?_)
           refine z0y rfl rfl rfl rfl (fun H hp => z0k rfl rfl) ?_
           obtain ⟨x35, hx35, h⟩ := obind h
           refine z0y rfl rfl rfl rfl (fun H hp => z39 rfl rfl hx35) ?_
           refine z0y rfl rfl rfl rfl (fun H hp => z1a z6w (i := 0) rfl rfl rfl) ?_
           refine z0y rfl rfl rfl rfl (fun H hp => z13 (y := (z0f x35.cls)) Try.underlying9 rfl rfl rfl rfl) ?_
           refine z0y rfl rfl rfl rfl (fun H hp => z0k rfl rfl) ?_
           obtain ⟨x36, hx36, h⟩ := obind h
           refine z0y rfl rfl rfl rfl (fun H hp => z39 rfl rfl hx36) ?_
           refine z0y rfl rfl rfl rfl (fun H hp => z1a z6w (i := 0) rfl rfl rfl) ?_
           refine z0y rfl rfl rfl rfl (fun H hp => z13 (y := (z0f x36.cls)) Try.underlying9 rfl rfl rfl rfl) ?_
           refine z2b ?_
           change AO _ _ _ _ _
           obtain ⟨x37, hx37, h⟩ := obind h
           refine sS rfl rfl rfl (z0b rfl zso rfl (.cons (Wk.refl _) (.cons (Wk.refl _) .nil)) ⟨rfl, ⟨rfl, trivial⟩⟩ (zyg x35.cls x36.cls x37 hx37) rfl) ?_
           refine sAx (z00 ?_)
           refine cBx ?_
           refine bR ?_
           refine sMx ?_
           refine sS rfl rfl rfl ((z06 rfl rfl rfl rfl).cast (y := (BO ((x37 != 0)))) rfl rfl) (z00 ?_)
           refine cBx ?_
           refine z05 rfl ?_ ?_
           ·intro hc38; replace h := z02 hc38 h
            refine bR ?_
            refine sMx ?_
            refine sAx (z00 ?_)
            refine cBx ?_
            refine z0a ?_
            change ∃ xs, _ = some xs ∧ EndOk _ _ _ _
            obtain rfl := Option.some.inj h
            exact ⟨_, rfl, z0d (y := (I64 x37)) (Wk.refl _) rfl ⟨rfl, rfl⟩⟩
           ·intro hc38; replace h := z03 hc38 h
            refine z0l ?_
            refine cBx ?_
            refine z0o ?_
            refine z0o (z2e 8 [] [] mo (by kernel_rfl) ?_)
            refine z0y rfl rfl rfl rfl (fun H hp => z0k rfl rfl) ?_
            refine z0y rfl rfl rfl rfl (fun H hp => z39 rfl rfl hx35) ?_
            refine z0y rfl rfl rfl rfl (fun H hp => z1a z6w (i := 1) rfl rfl rfl) ?_
            refine z0y rfl rfl rfl rfl (fun H hp => z13 (y := (I64 x35.ver)) Try.underlying3 rfl rfl rfl rfl) ?_
            refine z0y rfl rfl rfl rfl (fun H hp => z0k rfl rfl) ?_
            refine z0y rfl rfl rfl rfl (fun H hp => z39 rfl rfl hx36) ?_
            refine z0y rfl rfl rfl rfl (fun H hp => z1a z6w (i := 1) rfl rfl rfl) ?_
            refine z0y rfl rfl rfl rfl (fun H hp => z13 (y := (I64 x36.ver)) Try.underlying3 rfl rfl rfl rfl) ?_
            refine z2b ?_
            change AO _ _ _ _ _
            obtain ⟨x39, hx39, h⟩ := obind h
            refine sS rfl rfl rfl (z0b rfl zsp rfl (.cons (Wk.refl _) (.cons (Wk.refl _) .nil)) ⟨rfl, ⟨rfl, trivial⟩⟩ (zyf x35.ver x36.ver x39 hx39) rfl) ?_
            refine sAx (z00 ?_)
            refine cBx ?_
            refine bR ?_
            refine sMx ?_
            refine sS rfl rfl rfl ((z06 rfl rfl rfl rfl).cast (y := (BO ((x39 != 0)))) rfl rfl) (z00 ?_)
            refine cBx ?_
            refine z05 rfl ?_ ?_
            ·intro hc40; replace h := z02 hc40 h
             refine bR ?_
             refine sMx ?_
             refine sAx (z00 ?_)
             refine cBx ?_
             refine z0a ?_
             change ∃ xs, _ = some xs ∧ EndOk _ _ _ _
             obtain rfl := Option.some.inj h
             exact ⟨_, rfl, z0d (y := (I64 x39)) (Wk.refl _) rfl ⟨rfl, rfl⟩⟩
            ·intro hc40; replace h := z03 hc40 h
             refine z0l ?_
             refine cBx ?_
             refine z0o (z2e 8 [] [] mo (by kernel_rfl) ?_)
             refine z0y rfl rfl rfl rfl (fun H hp => z0k rfl rfl) ?_
             refine z0y rfl rfl rfl rfl (fun H hp => z39 rfl rfl hx35) ?_
             refine z0y rfl rfl rfl rfl (fun H hp => z1a z6w (i := 2) rfl rfl rfl) ?_
             refine z0y rfl rfl rfl rfl (fun H hp => z13 (y := (PV.sl none 43 2 (List.map z1h x35.fields))) Try.underlying45 rfl rfl rfl rfl) ?_
             refine z0y rfl rfl rfl rfl (fun H hp => z0k rfl rfl) ?_
             refine z0y rfl rfl rfl rfl (fun H hp => z39 rfl rfl hx36) ?_
             refine z0y rfl rfl rfl rfl (fun H hp => z1a z6w (i := 2) rfl rfl rfl) ?_
             refine z0y rfl rfl rfl rfl (fun H hp => z13 (y := (PV.sl none 43 2 (List.map z1h x36.fields))) Try.underlying45 rfl rfl rfl rfl) ?_
             refine z2b ?_
             change AO _ _ _ _ _
             obtain ⟨x41, hx41, h⟩ := obind h
             refine sS rfl rfl rfl (z0b rfl zxy rfl (.cons (Wk.refl _) (.cons (Wk.refl _) (.cons (Wk.refl _) .nil))) ⟨(z0q z1z x35.fields), ⟨(z0q z1z x36.fields), ⟨rfl, trivial⟩⟩⟩ (c_q00 x35.fields x36.fields x41 hx41) rfl) ?_
             refine sAx (z00 ?_)
             refine cBx ?_
             refine z0a ?_
             change ∃ xs, _ = some xs ∧ EndOk _ _ _ _
             obtain rfl := Option.some.inj h
             exact ⟨_, rfl, z0d (y := (I64 x41)) (Wk.refl _) rfl ⟨rfl, rfl⟩⟩
          ·intro hc33; replace h := z03 hc33 h
           refine z0l ?_
           refine cBx ?_
           refine bR ?_
           refine sAx (z00 ?_)
           refine cBx ?_
           refine z0a ?_
           change ∃ xs, _ = some xs ∧ EndOk _ _ _ _
           obtain rfl := Option.some.inj h
           exact ⟨_, rfl, z0d (y := (I64 0)) (Wk.refl _) rfl ⟨rfl, rfl⟩⟩
theorem C_q17.sound : ∀ (i : C_q17) (r : i.R), z38 C_q17.F i = some r → C_q17.Q i r := by
 refine z4a (Φ := C_q17.F) (Q := C_q17.Q) ?_
 intro g hg i r h
 cases i with
 | k_q17 a0 a1 => exact zfs (fun a0 a1 => g (.k_q17 a0 a1)) (fun a0 a1 r hr => hg (.k_q17 a0 a1) r hr) (fun a0 a1 => g (.k_q00 a0 a1)) (fun a0 a1 r hr => hg (.k_q00 a0 a1) r hr) (fun a0 a1 => g (.k_q01 a0 a1)) (fun a0 a1 r hr => hg (.k_q01 a0 a1) r hr) (fun a0 a1 => g (.k_q12 a0 a1)) (fun a0 a1 r hr => hg (.k_q12 a0 a1) r hr) a0 a1 r h
 | k_q00 a0 a1 => exact z2c (fun a0 a1 => g (.k_q17 a0 a1)) (fun a0 a1 r hr => hg (.k_q17 a0 a1) r hr) (fun a0 a1 => g (.k_q00 a0 a1)) (fun a0 a1 r hr => hg (.k_q00 a0 a1) r hr) (fun a0 a1 => g (.k_q01 a0 a1)) (fun a0 a1 r hr => hg (.k_q01 a0 a1) r hr) (fun a0 a1 => g (.k_q12 a0 a1)) (fun a0 a1 r hr => hg (.k_q12 a0 a1) r hr) a0 a1 r h
 | k_q01 a0 a1 => exact z2k (fun a0 a1 => g (.k_q17 a0 a1)) (fun a0 a1 r hr => hg (.k_q17 a0 a1) r hr) (fun a0 a1 => g (.k_q00 a0 a1)) (fun a0 a1 r hr => hg (.k_q00 a0 a1) r hr) (fun a0 a1 => g (.k_q01 a0 a1)) (fun a0 a1 r hr => hg (.k_q01 a0 a1) r hr) (fun a0 a1 => g (.k_q12 a0 a1)) (fun a0 a1 r hr => hg (.k_q12 a0 a1) r hr) a0 a1 r h
 | k_q12 a0 a1 => exact zfq (fun a0 a1 => g (.k_q17 a0 a1)) (fun a0 a1 r hr => hg (.k_q17 a0 a1) r hr) (fun a0 a1 => g (.k_q00 a0 a1)) (fun a0 a1 r hr => hg (.k_q00 a0 a1) r hr) (fun a0 a1 => g (.k_q01 a0 a1)) (fun a0 a1 r hr => hg (.k_q01 a0 a1) r hr) (fun a0 a1 => g (.k_q12 a0 a1)) (fun a0 a1 r hr => hg (.k_q12 a0 a1) r hr) a0 a1 r h
theorem Z3r (a0 : V) (a1 : V) (r : Int) (h : z9p a0 a1 = some r) : z0g Try.prog 88 [(ofV a0), (ofV a1)] (I64 r) := C_q17.sound (.k_q12 a0 a1) r h
end Go.Proofs.Ytiapdjdhaclmnaa
