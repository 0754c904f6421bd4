/- Aw: code run on values as they are; writes into memory that was told (for functions that spoil). -/
import Derived.Test.YtiapdjdhaclmnaaAwS
namespace Go.Proofs.Ytiapdjdhaclmnaa
namespace Aw
open Go
set_option linter.unusedVariables false
set_option linter.unusedSimpArgs false
set_option maxRecDepth 4000
variable {P : Program} {N : Nat} {ds : List Deferred}
abbrev VE := List (Nat × Value)
def zyb : VE → Nat → Option Value
  | [], _ => none
  | (k, x) :: r, t => bif Nat.beq k t then some x else zyb r t
structure AR (N : Nat) (ds : List Deferred) (env : VE) (a : Act) : Prop where
  env : ∀ (t : Nat) (v : Value), zyb env t = some v → a.tmps[t]? = some v
  size : a.tmps.size = N
  ds : a.defers = ds
def vev (env : VE) : Operand → Option Value
  | .tmp t => zyb env t
  | .const v => some v
  | _ => none
theorem AR.ev {env : VE} {a : Act} (h : AR N ds env a) {o : Operand} {v : Value} (ho : vev env o = some v) : a.eval o = v := by
  cases o with
  | tmp t => simp [Act.eval, h.env t v ho]
  | const x => simp only [vev] at ho; injection ho
  | func f => cases ho
  | global g => cases ho
def Z3d (d : Option Tmp) (v : Value) (env : VE) : VE :=
  match d with
  | some d => (d, v) :: env
  | none => env
theorem AR.put {env : VE} {a : Act} (h : AR N ds env a) {d : Option Tmp} (hd : z92 d N = true) {v : Value} : AR N ds (Z3d d v env) (a.put d v) := by
  cases d with
  | none => exact h
  | some d =>
    have hlt : d < a.tmps.size := by rw [h.size]; simpa [z92, Nat.blt_eq] using hd
    refine ⟨fun t x hx => ?_, by simp [Act.put, h.size], h.ds⟩
    simp only [Z3d, zyb] at hx
    cases hb : Nat.beq d t with
    | true =>
      rw [hb] at hx; simp at hx; subst hx
      have := beq_iff'.1 hb; subst this
      simp [Act.put, hlt]
    | false =>
      rw [hb] at hx
      have hne : d ≠ t := fun e => by subst e; simp at hb
      simpa [Act.put, Array.getElem?_setIfInBounds_ne hne] using h.env t x hx
def XP (N : Nat) (ds : List Deferred) (K : Exit → VE → World → Prop) : Exit → Act → World → Prop := fun e a w => ∃ env, AR N ds env a ∧ K e env w
def XW (P : Program) (N : Nat) (ds : List Deferred) (c : Code) (env : VE) (w : World) (K : Exit → VE → World → Prop) : Prop := ∀ a, AR N ds env a → c.wp P (XP N ds K) a w
def XL (P : Program) (N : Nat) (ds : List Deferred) (ops : Array Oper) (l : List Oper) (env : VE) (w : World) (K : Exit → VE → World → Prop) : Prop := ∀ a, AR N ds env a → wpList P ops (XP N ds K) l a w
section
variable {env : VE} {w w' : World} {K : Exit → VE → World → Prop}
def Z73 (P : Program) (N : Nat) (ds : List Deferred) (y : Code) (K : Exit → VE → World → Prop) : Exit → VE → World → Prop
  | .normal, env, w => XW P N ds y env w K
  | e, env, w => K e env w
theorem zcj {x y : Code} (h : XW P N ds x env w (Z73 P N ds y K)) : XW P N ds (.seq x y) env w K := fun a ha => by
  refine wp_seq (wp_mono (h a ha) ?_)
  rintro e a' w' ⟨env', h1, h2⟩
  cases e <;> first
    | exact h2 a' h1
    | exact ⟨env', h1, h2⟩
theorem zom {c : Operand} {x y : Code} {b : Bool} (hc : vev env c = some (.bool b)) (ht : b = true → XW P N ds x env w K) (hf : b = false → XW P N ds y env w K) : XW P N ds (.cond c x y) env w K := fun a ha =>
  wp_cond_split (ha.ev hc) (fun hb => ht hb a ha) (fun hb => hf hb a ha)
theorem zy8 (h : K .normal env w) : XW P N ds .skip env w K := fun a ha => wp_skip ⟨env, ha, h⟩
theorem Z04 (h : K .ret env w) : XW P N ds .ret env w K := fun a ha => wp_ret ⟨env, ha, h⟩
theorem z6c {id : Nat} {l : List Oper} (h : XL P N ds l.toArray l env w K) : XW P N ds (.region id l.toArray false) env w K := fun a ha => wp_region_lit (h a ha)
variable {ops : Array Oper} {o : Oper} {rest : List Oper}
theorem zeb (h : K .normal env w) : XL P N ds ops [] env w K := fun a ha => wpList_nil ⟨env, ha, h⟩
theorem z3g {v : Value} (hg : o.guard = none) (hd : z92 o.dst N = true) (hrun : ∀ a, AR N ds env a → (execOp a.eval o).run P w = .ok (.value v) w') (h : XL P N ds ops rest (Z3d o.dst v env) w' K) : XL P N ds ops (o :: rest) env w K := fun a ha => by
  refine wpList_plain hg (fun K' hK' => ?_)
  unfold Oper.wp
  rw [hrun a ha]
  exact hK' _ _ (h _ (ha.put hd))
theorem z5n {x : Operand} {v : Value} (ho : o.op = .move x) (hx : vev env x = some v) (a : Act) (ha : AR N ds env a) : (execOp a.eval o).run P w = .ok (.value v) w := by simp [execOp, ho, ha.ev hx]
theorem z97 {x : Operand} {v : Value} (ho : o.op = .assign x) (hx : vev env x = some v) (a : Act) (ha : AR N ds env a) : (execOp a.eval o).run P w = .ok (.value v) w := by simp [execOp, ho, ha.ev hx]
theorem zwy {x : Operand} {t e : TypeId} {A : Option Addr} {l c : Nat} (ht : P.underlying t = some (.slice e)) (ho : o.op = .call { callee := .builtin .len, args := #[x], argTypes := #[t] }) (hx : vev env x = some (.slice A l c)) (a : Act) (ha : AR N ds env a) :
    (execOp a.eval o).run P w = .ok (.value (.int .i64 l)) w := by simp [execOp, ho, resolve, invoke, builtin, ha.ev hx, Builtin.len_, z2i ht, goInt]
theorem Z05 {t t2 : TypeId} {x y : Operand} {i j : Int} (ho : o.op = .binOp .lss t x y t2) (hx : vev env x = some (.int .i64 i)) (hy : vev env y = some (.int .i64 j)) (a : Act) (ha : AR N ds env a) :
    (execOp a.eval o).run P w = .ok (.value (.bool (decide (i < j)))) w := by simp [execOp, ho, ha.ev hx, ha.ev hy, eqGuard, binOp, Op.intCmp]
end
structure Wrs (S : Nat → Prop) (w0 w : World) : Prop where
  os : w.os = w0.os
  tape : w.tape = w0.tape
  output : w.output = w0.output
  size : w0.heap.size ≤ w.heap.size
  keep : ∀ b, b < w0.heap.size → ¬ S b → w.heap[b]? = w0.heap[b]?
  kp : Keeps w0 w
theorem Keeps.trans {w w' w'' : World} (h : Keeps w w') (k : Keeps w' w'') : Keeps w w'' := fun b c t z hb => by
  obtain ⟨c1, h1, h2⟩ := h b c t z hb
  obtain ⟨c2, h3, h4⟩ := k b c1 t z h1
  exact ⟨c2, h3, h4.trans h2⟩
section
variable {S : Nat → Prop} {w0 w w' : World}
theorem Wrs.refl : Wrs S w w := ⟨rfl, rfl, rfl, Nat.le_refl _, fun _ _ _ => rfl, Keeps.refl w⟩
theorem Wrs.grow (h : Wrs S w0 w) (h1 : w'.os = w.os) (h2 : w'.tape = w.tape) (h3 : w'.output = w.output) (hs : w.heap.size ≤ w'.heap.size) (ho : ∀ k, k < w.heap.size → w'.heap[k]? = w.heap[k]?) : Wrs S w0 w' :=
  ⟨h1.trans h.os, h2.trans h.tape, h3.trans h.output, Nat.le_trans h.size hs, fun b hb hn => (ho b (Nat.lt_of_lt_of_le hb h.size)).trans (h.keep b hb hn), h.kp.trans (Keeps.of ho)⟩
theorem Wrs.write (h : Wrs S w0 w) {b : Nat} (hb : S b ∨ w0.heap.size ≤ b) (h1 : w'.os = w.os) (h2 : w'.tape = w.tape) (h3 : w'.output = w.output) (hs : w'.heap.size = w.heap.size) (ho : ∀ k, k ≠ b → w'.heap[k]? = w.heap[k]?) (hk : Keeps w w') : Wrs S w0 w' :=
  ⟨h1.trans h.os, h2.trans h.tape, h3.trans h.output, by rw [hs]; exact h.size, fun k hk hn => (ho k (by rintro rfl; rcases hb with hb | hb; exact hn hb; omega)).trans (h.keep k hk hn), h.kp.trans hk⟩
def Room (S : Nat → Prop) (n0 : Nat) (w : World) (A : Option Addr) (e s n : Nat) : Prop :=
  (A = none ∧ n = 0) ∨ ∃ (b o : Nat) (c : Array Value) (z : Nat × Nat) (q : Nat), A = some ⟨b, o, none⟩ ∧ (S b ∨ n0 ≤ b) ∧ w.heap[b]? = some (.cells c e z) ∧ o + n ≤ c.size ∧ (z.2 ≤ z.1 ∨ c.size ≤ z.1) ∧ o = q * s
theorem Room.keeps {n0 : Nat} {A : Option Addr} {e s n : Nat} (h : Room S n0 w A e s n) (hk : Keeps w w') : Room S n0 w' A e s n := by
  rcases h with h | ⟨b, o, c, z, q, h1, h2, h3, h4, h5, h8⟩
  · exact .inl h
  · obtain ⟨c', h6, h7⟩ := hk b c e z h3
    exact .inr ⟨b, o, c', z, q, h1, h2, h6, by rw [h7]; exact h4, by rw [h7]; exact h5, h8⟩
theorem Room.of {A : Option Addr} {e s n : Nat} (h : (Z74 S w).B A e s n) (n0 : Nat) : Room S n0 w A e s n := by
  rcases h with h | ⟨b, o, c, z, q, h1, h2, h3, h4⟩
  · exact .inl h
  · exact .inr ⟨b, o, c, z, q, h1, .inl h2, h3, h4⟩
theorem zv7 {b o : Nat} {c : Array Value} {t : TypeId} {z : Nat × Nat} {v : Value} (hb : w.heap[b]? = some (.cells c t z)) : (w.setCell ⟨b, o, none⟩ v).heap[b]? = some (.cells (c.setIfInBounds o v) t z) := by
  simp only [World.setCell, Array.getElem?_modify, if_true, hb, Option.map_some]; simp
theorem zs3 {b o : Nat} {v : Value} : Keeps w (w.setCell ⟨b, o, none⟩ v) := by
  intro k c t z hk
  by_cases hb : k = b
  · subst hb; exact ⟨_, zv7 hk, by simp⟩
  · exact ⟨c, by rw [Go.RowKit.Below.heap_setCell w ⟨b, o, none⟩ v k hb]; exact hk, rfl⟩
theorem Wrs.set (h : Wrs S w0 w) {b o : Nat} {v : Value} (hb : S b ∨ w0.heap.size ≤ b) : Wrs S w0 (w.setCell ⟨b, o, none⟩ v) :=
  h.write hb rfl rfl rfl (by simp [World.setCell]) (fun k hk => Go.RowKit.Below.heap_setCell w ⟨b, o, none⟩ v k hk) zs3
end
section
variable {env : VE} {w w' : World} {o : Oper}
end
end Aw
end Go.Proofs.Ytiapdjdhaclmnaa
