/- Aw: more operations: parts of arrays. -/
import Derived.Test.YtiapdjdhaclmnaaAwT
namespace Go.Proofs.Ytiapdjdhaclmnaa.Aw
open Go
set_option linter.unusedVariables false
set_option linter.unusedSimpArgs false
variable {P : Program} {H : List AEnt} {env : List (Nat × PV)} {n : Nat} {o : Oper}
theorem zjw {x y : Operand} {t e : TypeId} {len sz by_ i j off : Nat} {z : Value} {k : IntKind} (ht : P.underlying t = some (.array len e)) (hi : Inf P e z sz by_) (ho : o.op = .indexAddr t x y)
    (hx : ev env x = some (.rf j off)) (hy : ev env y = some (.v (.int k (i : Nat)))) (hl : Nat.blt i len = true) : Op1 P o env H n (.rf j (off + i * sz)) H :=
  z1q fun F g a w hr => by
    obtain ⟨b, hu, hR⟩ := vr_rf.1 (hr.opd hx)
    have hlt : i < len := Nat.le_of_ble_eq_true hl
    have hlt' : (i : Int) < (len : Int) := by omega
    exact ⟨_, vr_rf.2 ⟨b, rfl, hR⟩, by simp [execOp, ho, hu, hr.const hy, Instr.indexAt, asIntOf, z2i ht, hlt, hlt', Instr.sureAddr, hi.run_size, z4w]⟩
section
variable {K : AExit → ASt → Prop} {ops : Array Oper} {rest : List Oper}
theorem sS {x : PV} {H' : List AEnt} {d : Nat} (hg : o.guard = none) (hd : o.dst = some d) (hn : Nat.blt d n = true) (h1 : Op1 P o env H n x H') (h : AO P ops rest ⟨(d, x) :: env, H', n⟩ K) : AO P ops (o :: rest) ⟨env, H, n⟩ K := zl8 hg hd hn h1 h
theorem sA {y : Operand} {x : PV} {d : Nat} (hg : o.guard = none) (hd : o.dst = some d) (hn : Nat.blt d n = true) (ho : o.op = .assign y) (hy : ev env y = some x) (h : AO P ops rest ⟨(d, x) :: env, H, n⟩ K) : AO P ops (o :: rest) ⟨env, H, n⟩ K := zl8 hg hd hn (z4h ho hy) h
theorem sM {y : Operand} {x : PV} {d : Nat} (hg : o.guard = none) (hd : o.dst = some d) (hn : Nat.blt d n = true) (ho : o.op = .move y) (hy : ev env y = some x) (h : AO P ops rest ⟨(d, x) :: env, H, n⟩ K) : AO P ops (o :: rest) ⟨env, H, n⟩ K := zl8 hg hd hn (z0k ho hy) h
end
theorem sC {e e' : List (Nat × PV)} {k : Nat} {x : PV} (h : get e k = some x) (hs : Sub e' e) : Sub ((k, x) :: e') e := zcr h (fun _ _ h => h) hs
theorem bR {H0 : List AEnt} {s : ASt} {K : AExit → ASt → Prop} {id : Nat} {l : List Oper} {y : Code} (h : AO P l.toArray l s (Z68 P H0 y K)) : BW P H0 (.seq (.region id l.toArray false) y) s K := z0o (z0s h)
abbrev I64 (x : Int) : PV := .v (.int .i64 x)
abbrev BO (b : Bool) : PV := .v (.bool b)
end Go.Proofs.Ytiapdjdhaclmnaa.Aw
