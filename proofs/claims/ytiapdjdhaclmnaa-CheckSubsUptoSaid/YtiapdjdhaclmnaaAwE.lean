/- Aw: empty rows without room, and rows that are clipped: what is appended to them makes a new row. -/
import Derived.Test.YtiapdjdhaclmnaaAwS
import Derived.Test.YtiapdjdhaclmnaaAwH
namespace Go.Proofs.Ytiapdjdhaclmnaa.Aw
open Go
set_option linter.unusedVariables false
set_option linter.unusedSimpArgs false
variable {P : Program} {F : Lo} {H H' : List AEnt} {g g' : List (Option Nat)} {w w' : World} {env : List (Nat × PV)} {n : Nat} {o : Oper}
theorem zpr {t e : TypeId} {z : Value} {sz b : Nat} (j : Nat) (ht : P.underlying t = some (.slice e)) (hi : Inf P e z sz b) (ho : o.op = .buildSlice t 0 #[]) : Op1 P o env H n (.rs j 0 0 e sz) H := by
 refine zpp (e := e) (fun F g a w hr => ?_)
 refine ⟨#[], w, .slice (some ⟨w.heap.size, 0, none⟩) 0 0, rfl, rfl, rfl, rfl, ?_, ?_⟩
 ·simp only [execOp, ho, Instr.buildSlice, Sem.run_bind, z1u ht, Result.andThen_ok, hi.run_size]
  have he : (Array.range 0) = #[] := rfl
  simp [newRow, Instr.fill, he]
 ·intro C hle hM hB
  exact vr_rs.2 ⟨_, 0, rfl, ⟨Nat.le_refl _, Nat.zero_le _⟩, fun _ => ⟨rfl, hB _ _ (Nat.le_refl _)⟩, fun h => absurd rfl h⟩
variable {α : Type} {f : α → PV}
theorem zlz {t tx e e' : TypeId} {x y : Operand} {j : Nat} {sz b_ : Nat} {z : Value} {m r : List α} {tk : Option Nat} (ht : P.underlying t = some (.slice e)) (hi : Inf P e z sz b_) (hz : z.cells.size = sz) (htx : P.underlying tx = some (.slice e'))
 (ho : o.op = .call { callee := .builtin .append, args := #[x, y], argTypes := #[t, tx] }) (hx : ev env x = some (.rs j 0 0 e sz)) (hy : ev env y = some (.sl tk e sz (m.map f)))
 (hsz : ∀ a, (f a).cells.length = sz) (h1 : ∀ a, (f a).cells.all z9g = true) (hr : z9f b_ [] m = some r) (hb1 : Nat.ble 1 b_ = true) : Op1 P o env H n (.sl (some H.length) e sz (r.map f)) (H ++ [.arr e r.length]) := by
 obtain ⟨hb, hrm⟩ := zga hr
 rw [List.nil_append] at hrm
 subst hrm
 have hb1' := Nat.le_of_ble_eq_true hb1
 simp only [List.length_nil, Nat.zero_add] at hb
 refine (zzp (ys := r.map f) ht hi hz ho hx (fun F g a w hr => Z2n hr hy htx (List.all_eq_true.2 fun p hp => by obtain ⟨a, _, rfl⟩ := List.mem_map.1 hp; exact h1 a))
  (List.all_eq_true.2 fun p hp => by obtain ⟨a, _, rfl⟩ := List.mem_map.1 hp; rw [hsz]; exact Nat.beq_refl _) (by simpa only [List.length_map] using hb) ?_).cast (by simp) (by simp)
 simp only [List.length_map]
 have : r.length ≤ r.length * b_ := Nat.le_mul_of_pos_right _ hb1'
 omega
theorem zid {ops : Array Oper} {rest : List Oper} {K : AExit → ASt → Prop} {t t2 e : TypeId} {x : Operand} {tk : Option Nat} {sz d : Nat} {xs : List PV} (hg : o.guard = none) (hd : o.dst = some d) (hn : Nat.blt d n = true)
 (ht : P.underlying t = some (.slice e)) (ho : o.op = .binOp .eql t x (.const (.slice none 0 0)) t2) (hx : ev env x = some (.old (.sl tk e sz xs)))
 (h : ∀ b : Bool, (b = true → xs = []) → AO P ops rest ⟨(d, .v (.bool b)) :: env, H, n⟩ K) : AO P ops (o :: rest) ⟨env, H, n⟩ K := by
 intro F g a w hr
 obtain ⟨A, c, hu, hc, _, hxs⟩ := vr_sl.1 (vr_old.1 (hr.opd hx))
 have hb : A.isNone = true → xs = [] := fun hA => by
  cases xs with
  | nil => rfl
  | cons y r =>
   obtain ⟨_, b, off, h1, _⟩ := hxs 0 y rfl
   rw [h1] at hA; cases hA
 refine wpList_plain hg (fun K' hK' => ?_)
 unfold Oper.wp
 have hrun : (execOp a.eval o).run P w = .ok (.value (.bool A.isNone)) w := by
  have h2 := Z4m ht A xs.length c w
  simp [execOp, ho, hu, z9e, eqGuard, binOp, h2]
 rw [hrun]
 refine hK' _ _ ?_
 rw [hd]
 exact h A.isNone hb F g _ w (hr.put (d := some d) (x := .v (.bool A.isNone)) hn (vr_v.2 rfl) hr.rel .refl)
inductive WkLO : List PV → List PV → Prop
 | nil : WkLO [] []
 | cons {x y : PV} {xs ys : List PV} : WkL x.cells (y.cells.map .old) → WkLO xs ys → WkLO (x :: xs) (y :: ys)
theorem WkLO.len : ∀ {xs ys : List PV}, WkLO xs ys → xs.length = ys.length
 | _, _, .nil => rfl
 | _, _, .cons _ h => by simp [h.len]
theorem WkLO.get : ∀ {xs ys : List PV}, WkLO xs ys → ∀ (i : Nat) (y : PV), ys[i]? = some y → ∃ x, xs[i]? = some x ∧ WkL x.cells (y.cells.map .old)
 | _, _, .nil, i, y, h => by simp at h
 | _, _, .cons (x := x) hw h, 0, y, hy => by simp at hy; subst hy; exact ⟨x, by simp, hw⟩
 | _, _, .cons hw h, i + 1, y, hy => by simpa using h.get i y (by simpa using hy)
end Go.Proofs.Ytiapdjdhaclmnaa.Aw
