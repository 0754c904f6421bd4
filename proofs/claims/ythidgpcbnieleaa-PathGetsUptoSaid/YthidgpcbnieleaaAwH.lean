/- Rows nobody writes again, made at any time; a row against nil. -/
import Derived.Test.YthidgpcbnieleaaA0
namespace Go.Proofs.Ythidgpcbnieleaa
namespace Aw
open Go
set_option linter.unusedVariables false
set_option linter.unusedSimpArgs false
set_option maxRecDepth 4000
section Grow
variable {P : Program} {F : Lo} {H H' : List AEnt} {g g' : List (Option Nat)} {w w' : World}
theorem zrk (h : RelH P F H g w) (hs : w.heap.size ≤ w'.heap.size) (ho : ∀ k, k < w.heap.size → w'.heap[k]? = w.heap[k]?) : (ctx P F H g w).Le (ctx P F H g w') := by
 have hG := zxy (P := P) (F := F) (F' := F) (H := H) (H' := H) (g := g) (g' := g) (w := w) (w' := w') (fun k hk => hk) (fun k _ h1 => ⟨h1, rfl⟩) (fun k b _ hl => ho b (h.fr k b hl).2)
 refine zbl rfl ?_ ?_ ?_ hG ((Keeps.of ho).B rfl) (Keeps.of ho).K
 ·rintro b off u ⟨h1, h2⟩
  have hb := zau h2
  exact ⟨h1, by rw [z3q (ho b hb)]; exact h2⟩
 ·exact fun i b h => h
 ·rintro j m A c sz ⟨h1, h2⟩
  refine ⟨h1, fun e' k he => ?_⟩
  obtain ⟨h3, h4⟩ := h2 e' k he
  refine ⟨h3, fun hm => ?_⟩
  obtain ⟨h5, h6⟩ := h4 hm
  refine ⟨h5, ?_⟩
  rcases h6 with h6 | ⟨b, cells, h6, h7, h8, h9⟩
  ·exact .inl h6
  ·exact .inr ⟨b, cells, h6, h7, by rw [ho b (z1e h8)]; exact h8, h9⟩
theorem z7n (h : RelH P F H g w) (hs : w.heap.size ≤ w'.heap.size) (ho : ∀ k, k < w.heap.size → w'.heap[k]? = w.heap[k]?) : RelH P F H g w' := by
 have hle := zrk h hs ho
 refine z2s h.len h.inj (fun i b hi => ⟨(h.fr i b hi).1, Nat.lt_of_lt_of_le (h.fr i b hi).2 hs⟩) (fun b k hb => Nat.lt_of_lt_of_le (h.fb b k hb) hs) ⟨Nat.le_trans h.bs.1 hs, h.bs.2⟩ ?_
 intro i e' hi
 obtain ⟨n', h1, h2⟩ := z4t h hi
 refine ⟨n', h1, ?_⟩
 cases e' with
 | dead => trivial
 | reg => trivial
 | _ => exact h2.mono hle (fun b hb => ho b (z29 h2 (by simp) hb))
theorem z7x (h : RelH P F H g w) (hs : w.heap.size ≤ w'.heap.size) (ho : ∀ k, k < w.heap.size → w'.heap[k]? = w.heap[k]?)
 (h1 : w'.os = w.os) (h2 : w'.tape = w.tape) (h3 : w'.output = w.output) : Ext P F H g w H g w' :=
 ⟨h1, h2, h3, hs, fun b hb hl => ⟨ho b hb, hl⟩, zrk h hs ho, Nat.le_refl _⟩
end Grow
variable {P : Program} {F : Fr} {H H' : List AEnt} {env : List (Nat × PV)} {n : Nat} {o : Oper}
theorem zx8 {t e : TypeId} (ht : P.underlying t = some (.slice e)) (A : Option Addr) (l c : Nat) (w : World) : (Op.equal t (.slice A l c) (.slice none 0 0)).run P w = .ok A.isNone w := by
 obtain ⟨d, hd⟩ := zlz t (.slice A l c) (.slice none 0 0)
 rw [hd]; cases A <;> simp [Op.equalIn, z13 ht]
theorem zjf {ops : Array Oper} {rest : List Oper} {K : AExit → ASt → Prop} {t t2 e : TypeId} {x : Operand} {tk : Option Nat} {sz d : Nat} {xs : List PV} (hg : o.guard = none) (hd : o.dst = some d) (hn : Nat.blt d n = true)
 (ht : P.underlying t = some (.slice e)) (ho : o.op = .binOp .eql t x (.const (.slice none 0 0)) t2) (hx : ev env x = some (.sl tk e sz xs))
 (h : ∀ b : Bool, (b = true → xs = []) → AO P ops rest ⟨(d, .v (.bool b)) :: env, H, n⟩ K) : AO P ops (o :: rest) ⟨env, H, n⟩ K := by
 intro F g a w hr
 obtain ⟨A, c, hu, hc, _, hxs⟩ := vr_sl.1 (hr.opd hx)
 have hb : A.isNone = true → xs = [] := fun hA => by
  cases xs with
  | nil => rfl
  | cons y r =>
   obtain ⟨_, b, off, h1, _⟩ := hxs 0 y rfl
   rw [h1] at hA; cases hA
 refine wpList_plain hg (fun K' hK' => ?_)
 unfold Oper.wp
 have hrun : (execOp a.eval o).run P w = .ok (.value (.bool A.isNone)) w := by
  have h2 := zx8 ht A xs.length c w
  simp [execOp, ho, hu, z5x, eqGuard, binOp, h2]
 rw [hrun]
 refine hK' _ _ ?_
 rw [hd]
 exact h A.isNone hb F g _ w (hr.put (d := some d) (x := .v (.bool A.isNone)) hn (vr_v.2 rfl) hr.rel .refl)
end Aw
end Go.Proofs.Ythidgpcbnieleaa
