/- Aw: more operations: parts of arrays. -/
import Derived.Test.YthfdpaboekoncaaAwT
namespace Go.Proofs.Ythfdpaboekoncaa.Aw
open Go
set_option linter.unusedVariables false
set_option linter.unusedSimpArgs false
variable {P : Program} {H : List AEnt} {env : List (Nat × PV)} {n : Nat} {o : Oper}
theorem op1_iaR {x y : Operand} {t e : TypeId} {len sz by_ i j off : Nat} {z : Value} {k : IntKind} (ht : P.underlying t = some (.array len e)) (hi : Inf P e z sz by_) (ho : o.op = .indexAddr t x y)
    (hx : ev env x = some (.rf j off)) (hy : ev env y = some (.v (.int k (i : Nat)))) (hl : Nat.blt i len = true) : Op1 P o env H n (.rf j (off + i * sz)) H :=
  op1_same fun F g a w hr => by
    obtain ⟨b, hu, hR⟩ := vr_rf.1 (hr.opd hx)
    have hlt : i < len := Nat.le_of_ble_eq_true hl
    have hlt' : (i : Int) < (len : Int) := by omega
    exact ⟨_, vr_rf.2 ⟨b, rfl, hR⟩, by simp [execOp, ho, hu, hr.const hy, Instr.indexAt, asIntOf, run_und ht, hlt, hlt', Instr.sureAddr, hi.run_size, addr_add]⟩
theorem op1_iaP {x y : Operand} {t e : TypeId} {len sz by_ i off : Nat} {z : Value} {k : IntKind} {q : PV} (ht : P.underlying t = some (.array len e)) (hi : Inf P e z sz by_) (ho : o.op = .indexAddr t x y)
    (hx : ev env x = some (.pt e q off)) (hy : ev env y = some (.v (.int k (i : Nat)))) (hl : Nat.blt i len = true) : Op1 P o env H n (.pt e q (off + i * sz)) H :=
  op1_same fun F g a w hr => by
    obtain ⟨b, o0, hu, hq⟩ := vr_pt.1 (hr.opd hx)
    have hlt : i < len := Nat.le_of_ble_eq_true hl
    have hlt' : (i : Int) < (len : Int) := by omega
    exact ⟨_, vr_pt.2 ⟨b, o0, ⟨by rw [← Nat.add_assoc], hu.2⟩, hq⟩, by simp [execOp, ho, hu.1, hr.const hy, Instr.indexAt, asIntOf, run_und ht, hlt, hlt', Instr.sureAddr, hi.run_size, addr_add]⟩
section
variable {K : AExit → ASt → Prop} {ops : Array Oper} {rest : List Oper}
theorem sS {x : PV} {H' : List AEnt} {d : Nat} (hg : o.guard = none) (hd : o.dst = some d) (hn : Nat.blt d n = true) (h1 : Op1 P o env H n x H') (h : AO P ops rest ⟨(d, x) :: env, H', n⟩ K) : AO P ops (o :: rest) ⟨env, H, n⟩ K := ao_step hg hd hn h1 h
theorem sA {y : Operand} {x : PV} {d : Nat} (hg : o.guard = none) (hd : o.dst = some d) (hn : Nat.blt d n = true) (ho : o.op = .assign y) (hy : ev env y = some x) (h : AO P ops rest ⟨(d, x) :: env, H, n⟩ K) : AO P ops (o :: rest) ⟨env, H, n⟩ K := ao_step hg hd hn (op1_assign ho hy) h
theorem sM {y : Operand} {x : PV} {d : Nat} (hg : o.guard = none) (hd : o.dst = some d) (hn : Nat.blt d n = true) (ho : o.op = .move y) (hy : ev env y = some x) (h : AO P ops rest ⟨(d, x) :: env, H, n⟩ K) : AO P ops (o :: rest) ⟨env, H, n⟩ K := ao_step hg hd hn (op1_move ho hy) h
end
theorem sC {e e' : List (Nat × PV)} {k : Nat} {x : PV} (h : get e k = some x) (hs : Sub e' e) : Sub ((k, x) :: e') e := sub_consW h (fun _ _ h => h) hs
theorem bR {H0 : List AEnt} {s : ASt} {K : AExit → ASt → Prop} {id : Nat} {l : List Oper} {y : Code} (h : AO P l.toArray l s (seqB P H0 y K)) : BW P H0 (.seq (.region id l.toArray false) y) s K := bw_seq (bw_region h)
abbrev I64 (x : Int) : PV := .v (.int .i64 x)
abbrev BO (b : Bool) : PV := .v (.bool b)
end Go.Proofs.Ythfdpaboekoncaa.Aw
