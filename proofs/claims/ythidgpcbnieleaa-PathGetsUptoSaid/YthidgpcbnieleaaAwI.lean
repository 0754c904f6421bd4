/- Aw: rows clipped, records let go between two operations, rows to be written that are nil so far; a region in which a variable is made without an order to its writers. -/
import Derived.Test.YthidgpcbnieleaaAwE
import Derived.Test.YthidgpcbnieleaaAwQ
import Derived.Test.YthidgpcbnieleaaB0
import Derived.Test.YthidgpcbnieleaaB0
import Derived.Laws.StructEq
namespace Go.Proofs.Ythidgpcbnieleaa.Aw
open Go
set_option linter.unusedVariables false
set_option linter.unusedSimpArgs false
variable {P : Program} {F : Fr} {H H' : List AEnt} {g g' : List (Option Nat)} {w w' : World} {env : List (Nat × PV)} {n : Nat} {o : Oper}
theorem zy2 {e : TypeId} {x : PV} {off : Nat} (h : x.ids = []) : (PV.pt e x off).ids = [] := h
theorem z7q {e sz : Nat} {x : Operand} (ho : o.op = .assign x ∨ o.op = .move x) (hx : ev env x = some (.v (.slice none 0 0))) : Op1 P o env H n (.rs H.length 0 0 e sz) (H ++ [.dead]) := by
 intro F g a w hr Kn Q hK
 have eh : a.eval x = .slice none 0 0 := vr_v.1 (hr.opd hx)
 have hrun : (execOp a.eval o).run P w = .ok (.value (.slice none 0 0)) w := by
  rcases ho with ho | ho <;> simp [execOp, ho, eh]
 unfold Oper.wp
 rw [hrun]
 have hn : ∀ b, (none : Option Nat) = some b → b = w.heap.size := fun b hb => by cases hb
 refine hK _ _ _ (vr_rs.2 ⟨none, 0, rfl, ⟨Nat.le_refl _, by simp⟩, fun _ => ⟨rfl, by exact Ctx.b0 _ _ _⟩, fun h => absurd rfl h⟩) (z40 (w' := w) hr.rel .dead none hn (Nat.le_refl _) (fun _ _ => rfl) trivial) (z43 hr.rel .dead none hn (Nat.le_refl _) (fun _ _ => rfl) rfl rfl rfl)
structure Step3 (P : Program) (t : TypeId) : Prop where
 ht : P.underlying t = some (.struct (P.fieldsOf t))
 hp : P.stoodInHeld t = false
 hg : P.eqGuardType P.depth t = false
 fs : ∃ f0 f1 f2 : Field, (P.fieldsOf t).toList = [f0, f1, f2] ∧ (f0.name ≠ "_" ∧ f1.name ≠ "_" ∧ f2.name ≠ "_") ∧ (f0.offset = 0 ∧ f1.offset = 1 ∧ f2.offset = 2) ∧ P.underlying f0.type = some .string ∧ P.underlying f1.type = some .bool ∧ P.underlying f2.type = some (.int .i64)
theorem zwv {P : Program} {t : TypeId} {f0 f1 f2 : Field} (h : P.underlying t = some (.struct #[f0, f1, f2])) (hp : P.stoodInHeld t = false) (hg : P.eqGuardType P.depth t = false) (hn : f0.name ≠ "_" ∧ f1.name ≠ "_" ∧ f2.name ≠ "_") (ho : f0.offset = 0 ∧ f1.offset = 1 ∧ f2.offset = 2)
 (u0 : P.underlying f0.type = some .string) (u1 : P.underlying f1.type = some .bool) (u2 : P.underlying f2.type = some (.int .i64)) : Step3 P t := by
 have e : P.fieldsOf t = #[f0, f1, f2] := by unfold Program.fieldsOf; rw [h]
 exact ⟨by rw [e]; exact h, hp, hg, f0, f1, f2, by rw [e], hn, ho, u0, u1, u2⟩
theorem zfo {P : Program} {t : TypeId} {d : TypeDesc} (hd : P.underlying t = some d) (hs : zgm d = false) {cs : Array Value} {off : Nat} {v : Value} (hv : cs[off]? = some v) (w : World) : (part t cs off).run P w = .ok v w := by
 have ha : (isAgg t).run P w = .ok false w := by
  cases d <;> simp [isAgg, z13 hd, zgm] at hs ⊢
 simp only [part, Sem.run_bind, ha, Result.andThen_ok, Bool.false_eq_true, if_false, hv, Sem.run_pure]
theorem zov {t : TypeId} (h : Step3 P t) (a b : Str) (p q : Bool) (i j : Int) (w : World) : (Op.equalIn 10000 t (.agg #[.string ⟨a.toArray⟩, .bool p, .int .i64 i]) (.agg #[.string ⟨b.toArray⟩, .bool q, .int .i64 j])).run P w = .ok (a == b && (p == q && i == j)) w := by
 obtain ⟨f0, f1, f2, hf, ⟨n0, n1, n2⟩, ⟨o0, o1, o2⟩, u0, u1, u2⟩ := h.fs
 rw [show (10000 : Nat) = 9999 + 1 from rfl, run_equalIn_struct w 9999 t _ _ h.ht h.hp, hf]
 have p0 : ∀ (x y z : Value) w, (part f0.type #[x, y, z] f0.offset).run P w = .ok x w := fun x y z w => zfo u0 rfl (by rw [o0]; rfl) w
 have p1 : ∀ (x y z : Value) w, (part f1.type #[x, y, z] f1.offset).run P w = .ok y w := fun x y z w => zfo u1 rfl (by rw [o1]; rfl) w
 have p2 : ∀ (x y z : Value) w, (part f2.type #[x, y, z] f2.offset).run P w = .ok z w := fun x y z w => zfo u2 rfl (by rw [o2]; rfl) w
 have e0 : ∀ w, (Op.equalIn 9999 f0.type (.string ⟨a.toArray⟩) (.string ⟨b.toArray⟩)).run P w = .ok (a == b) w := fun w => by
  rw [show (9999 : Nat) = 9998 + 1 from rfl, run_equalIn_string w 9998 _ _ _ u0, z71, z71]
 have e1 : ∀ w, (Op.equalIn 9999 f1.type (.bool p) (.bool q)).run P w = .ok (p == q) w := fun w => by
  rw [show (9999 : Nat) = 9998 + 1 from rfl]; exact run_equalIn_bool' w 9998 _ _ _ u1
 have e2 : ∀ w, (Op.equalIn 9999 f2.type (.int .i64 i) (.int .i64 j)).run P w = .ok (i == j) w := fun w => by
  rw [show (9999 : Nat) = 9998 + 1 from rfl]; exact run_equalIn_int w 9998 _ _ _ _ _ u2
 simp only [Op.eqFields, n0, n1, n2, ne_eq, not_false_eq_true, if_true, Sem.run_bind, p0, e0, Result.andThen_ok]
 cases h1 : a == b <;> cases h2 : p == q <;> cases h3 : i == j <;> simp [p1, p2, e1, e2, h2, h3]
theorem zij {t t2 : TypeId} {x y : Operand} {a b : Str} {p q : Bool} {i j : Int} {op : BinOp} (h : Step3 P t) (ho : o.op = .binOp op t x y t2) (hx : ev env x = some (.agg [z0k a, .v (.bool p), .v (.int .i64 i)])) (hy : ev env y = some (.agg [z0k b, .v (.bool q), .v (.int .i64 j)]))
 (neg : Bool) (hop : op = bif neg then .neq else .eql) : Op1 P o env H n (.v (.bool (bif neg then !(a == b && (p == q && i == j)) else (a == b && (p == q && i == j))))) H := by
 have val : ∀ {F : Fr} {g : List (Option Nat)} {w : World} {s : Str} {b : Bool} {k : Int} {u : Value}, VR (ctx P F.fr H g w) (.agg [z0k s, .v (.bool b), .v (.int .i64 k)]) u → u = .agg #[.string ⟨s.toArray⟩, .bool b, .int .i64 k] := by
  intro F g w s b k u hu
  obtain ⟨us, h1, h2, h3⟩ := vr_agg.1 hu
  obtain ⟨u0, a0, b0⟩ := h3 0 _ rfl
  obtain ⟨u1, a1, b1⟩ := h3 1 _ rfl
  obtain ⟨u2, a2, b2⟩ := h3 2 _ rfl
  rw [vr_v.1 b0] at a0; rw [vr_v.1 b1] at a1; rw [vr_v.1 b2] at a2
  match us, h2, a0, a1, a2 with
  | [x, y, z], _, a0, a1, a2 =>
   simp at a0 a1 a2; subst a0; subst a1; subst a2; rw [h1]
 refine z17 fun F g a' w hr => ⟨_, vr_v.2 rfl, ?_⟩
 have ex := val (hr.opd hx)
 have ey := val (hr.opd hy)
 simp only [execOp, ho, ex, ey, Sem.run_bind, run_eqGuard_agg w op t x y _ _ h.hg, Result.andThen_ok]
 cases neg with
 | true =>
  simp only [cond_true] at hop ⊢
  subst hop
  simp only [run_neq_struct, zov h, Result.andThen_ok, Sem.run_pure]
 | false =>
  simp only [cond_false] at hop ⊢
  subst hop
  simp only [run_eql_struct, zov h, Result.andThen_ok, Sem.run_pure]
end Go.Proofs.Ythidgpcbnieleaa.Aw
