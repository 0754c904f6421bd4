/- Aw: rows clipped, records let go between two operations, rows to be written that are nil so far; a region in which a variable is made without an order to its writers. -/
import Derived.Test.YthidgpcbnieleaaGreatDoorAwE
import Derived.Test.YthidgpcbnieleaaGreatDoorD0
import Derived.Test.YthidgpcbnieleaaGreatDoorC0
import Derived.Test.YthidgpcbnieleaaGreatDoorC0
import Derived.Laws.StructEq
namespace Go.Proofs.YthidgpcbnieleaaGreatDoor.Aw
open Go
set_option linter.unusedVariables false
set_option linter.unusedSimpArgs false
variable {P : Program} {F : Fr} {H H' : List AEnt} {g g' : List (Option Nat)} {w w' : World} {env : List (Nat × PV)} {n : Nat} {o : Oper}
theorem zuy {t e : TypeId} {x hi mx : Operand} {tk : Option Nat} {z : Value} {sz b_ : Nat} {xs : List PV} (ht : P.underlying t = some (.slice e)) (hi' : Inf P e z sz b_)
 (ho : o.op = .slice t x none (some hi) (some mx)) (hx : ev env x = some (.sl tk e sz xs)) (hh : ev env hi = some (.v (.int .i64 ((xs.length : Nat) : Int)))) (hm : ev env mx = some (.v (.int .i64 ((xs.length : Nat) : Int)))) :
 Op1 P o env H n (.sl (some H.length) e sz xs) (H ++ [.arr e xs.length]) := by
 intro F g a w hr Kn Q hK
 have hcz : P.cellsOf e = sz := hi'.cells
 obtain ⟨A, c, hu, ⟨hc, hB⟩, _, hxs⟩ := vr_sl.1 (hr.opd hx)
 have eh : a.eval hi = .int .i64 ((xs.length : Nat) : Int) := vr_v.1 (hr.opd hh)
 have em : a.eval mx = .int .i64 ((xs.length : Nat) : Int) := vr_v.1 (hr.opd hm)
 have hrun : (execOp a.eval o).run P w = .ok (.value (.slice (if xs.length = 0 then A else A.map (·.add (0 * sz))) xs.length xs.length)) w := by
  simp only [execOp, ho, hu, Option.map_some, Option.map_none, eh, em]
  simp [Instr.sliceAt, Instr.slice, Sem.run_bind, z1d ht, Instr.sliceBounds, Instr.sliceBound, asIntOf, hc.1, hi'.run_size]
 have hA : (if xs.length = 0 then A else A.map (·.add (0 * sz))) = A := by
  split
  ·rfl
  ·cases A with
   | none => rfl
   | some p => simp [Addr.add]
 rw [hA] at hrun
 unfold Oper.wp
 rw [hrun]
 have hn : ∀ b, (none : Option Nat) = some b → b = w.heap.size := fun b hb => by cases hb
 have hle := z5z (w' := w) hr.rel (.arr e xs.length) none hn (Nat.le_refl _) (fun _ _ => rfl)
 refine hK _ _ _ ?_ (z3l (w' := w) hr.rel (.arr e xs.length) none hn (Nat.le_refl _) (fun _ _ => rfl) (.inl ⟨rfl, trivial⟩)) (z3m hr.rel (.arr e xs.length) none hn (Nat.le_refl _) (fun _ _ => rfl) rfl rfl rfl)
 refine vr_sl.2 ⟨A, xs.length, rfl, ⟨⟨Nat.le_refl _, hc.2⟩, fun hf => ?_⟩, fun j hj => ?_, fun i x hx => ?_⟩
 ·rcases hB hf with ⟨h1, h2⟩ | ⟨b, o, cs, zz, q, h1, h2, h3, h4, h5, h6⟩
  ·refine .inl ⟨h1, ?_⟩
   have : xs.length * sz ≤ c * sz := Nat.mul_le_mul_right _ hc.1
   omega
  ·have : xs.length * sz ≤ c * sz := Nat.mul_le_mul_right _ hc.1
   exact .inr ⟨b, o, cs, zz, q, h1, h2, h3, by omega, h5, h6⟩
 ·injection hj with hj; subst hj
  refine ⟨by simp, fun e' k he => ?_⟩
  simp at he
  obtain ⟨rfl, rfl⟩ := he
  exact ⟨Nat.le_refl _, fun _ => ⟨hcz.symm, .inl ⟨by rw [← hr.rel.len]; exact z2v, trivial, rfl⟩⟩⟩
 ·obtain ⟨h1, b, off, h2, h3⟩ := hxs i x hx
  exact ⟨h1, b, off, h2, fun j y hy => let ⟨u', h4, h5⟩ := h3 j y hy; ⟨u', hle.M _ _ _ h4, h5.mono hle⟩⟩
theorem zrg {α : Type} {f : α → PV} {t e : TypeId} {x hi mx : Operand} {tk : Option Nat} {z : Value} {sz b_ : Nat} {l : List α} (ht : P.underlying t = some (.slice e)) (hi' : Inf P e z sz b_)
 (ho : o.op = .slice t x none (some hi) (some mx)) (hx : ev env x = some (.sl tk e sz (l.map f))) (hh : ev env hi = some (.v (.int .i64 ((l.length : Nat) : Int)))) (hm : ev env mx = some (.v (.int .i64 ((l.length : Nat) : Int)))) :
 Op1 P o env H n (.sl (some H.length) e sz (l.map f)) (H ++ [.arr e l.length]) :=
 (zuy ht hi' ho hx (by rw [List.length_map]; exact hh) (by rw [List.length_map]; exact hm)).cast rfl (by rw [List.length_map])
theorem z13 {e : TypeId} {x : PV} {off : Nat} (h : x.ids = []) : (PV.pt e x off).ids = [] := h
theorem z89 {e sz : Nat} {x : Operand} (ho : o.op = .assign x ∨ o.op = .move x) (hx : ev env x = some (.v (.slice none 0 0))) : Op1 P o env H n (.rs H.length 0 0 e sz) (H ++ [.dead]) := by
 intro F g a w hr Kn Q hK
 have eh : a.eval x = .slice none 0 0 := vr_v.1 (hr.opd hx)
 have hrun : (execOp a.eval o).run P w = .ok (.value (.slice none 0 0)) w := by
  rcases ho with ho | ho <;> simp [execOp, ho, eh]
 unfold Oper.wp
 rw [hrun]
 have hn : ∀ b, (none : Option Nat) = some b → b = w.heap.size := fun b hb => by cases hb
 refine hK _ _ _ (vr_rs.2 ⟨none, 0, rfl, ⟨Nat.le_refl _, by simp⟩, fun _ => ⟨rfl, by exact Ctx.b0 _ _ _⟩, fun h => absurd rfl h⟩) (z3l (w' := w) hr.rel .dead none hn (Nat.le_refl _) (fun _ _ => rfl) trivial) (z3m hr.rel .dead none hn (Nat.le_refl _) (fun _ _ => rfl) rfl rfl rfl)
structure Step3 (P : Program) (t : TypeId) : Prop where
 ht : P.underlying t = some (.struct (P.fieldsOf t))
 hp : P.stoodInHeld t = false
 hg : P.eqGuardType P.depth t = false
 fs : ∃ f0 f1 f2 : Field, (P.fieldsOf t).toList = [f0, f1, f2] ∧ (f0.name ≠ "_" ∧ f1.name ≠ "_" ∧ f2.name ≠ "_") ∧ (f0.offset = 0 ∧ f1.offset = 1 ∧ f2.offset = 2) ∧ P.underlying f0.type = some .string ∧ P.underlying f1.type = some .bool ∧ P.underlying f2.type = some (.int .i64)
end Go.Proofs.YthidgpcbnieleaaGreatDoor.Aw
