/- Aw: a region in any order, in which several variables are made without an order between them; what else writes stands in one chain behind them. -/
import Derived.Test.YtkmhecgagibgjaaAwF
namespace Go.Proofs.Ytkmhecgagibgjaa.Aw
open Go
set_option linter.unusedVariables false
set_option linter.unusedSimpArgs false
variable {P : Program} {F : Fr} {H H' : List AEnt} {g g' : List (Option Nat)} {w w' : World}
def FillOp (P : Program) (HF : List AEnt) (o : Oper) (i : Nat) : Prop := o.guard = none ∧ ∃ (t : TypeId) (z : Value) (k b : Nat), Inf P t z k b ∧ o.op = .alloc t ∧ HF[i]? = some (.box t (z.cells.toList.map .v))
section
variable {ops : Array Oper} {fs : Nat → Option Nat} {ls I : List Nat} {H0 HF : List AEnt} {n k : Nat} {K : AExit → ASt → Prop} {o : Oper} {r : List Oper} {env : List (Nat × PV)}
end
theorem bw_place {H0 : List AEnt} {c : Code} {env : List (Nat × PV)} {H : List AEnt} {n : Nat} {K : AExit → ASt → Prop} (e : Nat) (h : BW P H0 c ⟨env, H ++ [.arr e 0], n⟩ K) : BW P H0 c ⟨env, H, n⟩ K := by
  intro F g a w g0 w0 hl hr hx
  have hn : ∀ b, (none : Option Nat) = some b → b = w.heap.size := fun b hb => by cases hb
  have hrel := rel_snoc (w' := w) hr.rel (.arr e 0) none hn (Nat.le_refl _) (fun _ _ => rfl) (.inl ⟨rfl, trivial⟩)
  have hle := le_snoc (w' := w) hr.rel (.arr e 0) none hn (Nat.le_refl _) (fun _ _ => rfl)
  exact h F _ a w g0 w0 hl ⟨hrel, fun k y hy => let ⟨u, a1, a2⟩ := hr.env k y hy; ⟨u, a1, a2.mono hle⟩, hr.size, hr.defers⟩ (hx.trans (ext_snoc hr.rel (.arr e 0) none hn (Nat.le_refl _) (fun _ _ => rfl) rfl rfl rfl))
end Go.Proofs.Ytkmhecgagibgjaa.Aw
