/- Aw: more operations: parts of arrays. -/
import Derived.Test.YtkmhecgagibgjaaAwT
namespace Go.Proofs.Ytkmhecgagibgjaa.Aw
open Go
set_option linter.unusedVariables false
set_option linter.unusedSimpArgs false
variable {P : Program} {H : List AEnt} {env : List (Nat × PV)} {n : Nat} {o : Oper}
section
variable {K : AExit → ASt → Prop} {ops : Array Oper} {rest : List Oper}
theorem sS {x : PV} {H' : List AEnt} {d : Nat} (hg : o.guard = none) (hd : o.dst = some d) (hn : Nat.blt d n = true) (h1 : Op1 P o env H n x H') (h : AO P ops rest ⟨(d, x) :: env, H', n⟩ K) : AO P ops (o :: rest) ⟨env, H, n⟩ K := ao_step hg hd hn h1 h
theorem sA {y : Operand} {x : PV} {d : Nat} (hg : o.guard = none) (hd : o.dst = some d) (hn : Nat.blt d n = true) (ho : o.op = .assign y) (hy : ev env y = some x) (h : AO P ops rest ⟨(d, x) :: env, H, n⟩ K) : AO P ops (o :: rest) ⟨env, H, n⟩ K := ao_step hg hd hn (op1_assign ho hy) h
theorem sM {y : Operand} {x : PV} {d : Nat} (hg : o.guard = none) (hd : o.dst = some d) (hn : Nat.blt d n = true) (ho : o.op = .move y) (hy : ev env y = some x) (h : AO P ops rest ⟨(d, x) :: env, H, n⟩ K) : AO P ops (o :: rest) ⟨env, H, n⟩ K := ao_step hg hd hn (op1_move ho hy) h
end
theorem sC {e e' : List (Nat × PV)} {k : Nat} {x : PV} (h : get e k = some x) (hs : Sub e' e) : Sub ((k, x) :: e') e := sub_consW h (fun _ _ h => h) hs
theorem bR {H0 : List AEnt} {s : ASt} {K : AExit → ASt → Prop} {id : Nat} {l : List Oper} {y : Code} (h : AO P l.toArray l s (seqB P H0 y K)) : BW P H0 (.seq (.region id l.toArray false) y) s K := bw_seq (bw_region h)
abbrev I64 (x : Int) : PV := .v (.int .i64 x)
abbrev BO (b : Bool) : PV := .v (.bool b)
end Go.Proofs.Ytkmhecgagibgjaa.Aw
