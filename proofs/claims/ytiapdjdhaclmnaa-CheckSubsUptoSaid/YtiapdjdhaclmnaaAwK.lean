/- Aw: code run on values as they are; writes into memory that was told (for functions that spoil). -/
import Derived.Test.YtiapdjdhaclmnaaAwS
namespace Go.Proofs.Ytiapdjdhaclmnaa
namespace Aw
open Go
set_option linter.unusedVariables false
set_option linter.unusedSimpArgs false
set_option maxRecDepth 4000
variable {P : Program} {N : Nat} {ds : List Deferred}
abbrev VE := List (Nat × Value)
def zgc : VE → Nat → Option Value
 | [], _ => none
 | (k, x) :: r, t => bif Nat.beq k t then some x else zgc r t
structure AR (N : Nat) (ds : List Deferred) (env : VE) (a : Act) : Prop where
 env : ∀ (t : Nat) (v : Value), zgc env t = some v → a.tmps[t]? = some v
 size : a.tmps.size = N
 ds : a.defers = ds
def vev (env : VE) : Operand → Option Value
 | .tmp t => zgc env t
 | .const v => some v
 | _ => none
theorem AR.ev {env : VE} {a : Act} (h : AR N ds env a) {o : Operand} {v : Value} (ho : vev env o = some v) : a.eval o = v := by
 cases o with
 | tmp t => simp [Act.eval, h.env t v ho]
 | const x => simp only [vev] at ho; injection ho
 | func f => cases ho
 | global g => cases ho
def Z2g (d : Option Tmp) (v : Value) (env : VE) : VE :=
 match d with
 | some d => (d, v) :: env
 | none => env
theorem AR.put {env : VE} {a : Act} (h : AR N ds env a) {d : Option Tmp} (hd : z5a d N = true) {v : Value} : AR N ds (Z2g d v env) (a.put d v) := by
 cases d with
 | none => exact h
 | some d =>
  have hlt : d < a.tmps.size := by rw [h.size]; simpa [z5a, Nat.blt_eq] using hd
  refine ⟨fun t x hx => ?_, by simp [Act.put, h.size], h.ds⟩
  simp only [Z2g, zgc] at hx
  cases hb : Nat.beq d t with
  | true =>
   rw [hb] at hx; simp at hx; subst hx
   have := beq_iff'.1 hb; subst this
   simp [Act.put, hlt]
  | false =>
   rw [hb] at hx
   have hne : d ≠ t := fun e => by subst e; simp at hb
   simpa [Act.put, Array.getElem?_setIfInBounds_ne hne] using h.env t x hx
def XP (N : Nat) (ds : List Deferred) (K : Exit → VE → World → Prop) : Exit → Act → World → Prop := fun e a w => ∃ env, AR N ds env a ∧ K e env w
def XW (P : Program) (N : Nat) (ds : List Deferred) (c : Code) (env : VE) (w : World) (K : Exit → VE → World → Prop) : Prop := ∀ a, AR N ds env a → c.wp P (XP N ds K) a w
def XL (P : Program) (N : Nat) (ds : List Deferred) (ops : Array Oper) (l : List Oper) (env : VE) (w : World) (K : Exit → VE → World → Prop) : Prop := ∀ a, AR N ds env a → wpList P ops (XP N ds K) l a w
section
variable {env : VE} {w w' : World} {K : Exit → VE → World → Prop}
def Zff (P : Program) (N : Nat) (ds : List Deferred) (y : Code) (K : Exit → VE → World → Prop) : Exit → VE → World → Prop
 | .normal, env, w => XW P N ds y env w K
 | e, env, w => K e env w
theorem z2x {x y : Code} (h : XW P N ds x env w (Zff P N ds y K)) : XW P N ds (.seq x y) env w K := fun a ha => by
 refine wp_seq (wp_mono (h a ha) ?_)
 rintro e a' w' ⟨env', h1, h2⟩
 cases e <;> first
  | exact h2 a' h1
  | exact ⟨env', h1, h2⟩
def Z2f (id : Nat) (K : Exit → VE → World → Prop) : Exit → VE → World → Prop
 | .exit i, env, w => if i = id then K .normal env w else K (.exit i) env w
 | e, env, w => K e env w
theorem z5h {id : Nat} {c : Code} (h : XW P N ds c env w (Z2f id K)) : XW P N ds (.block id c) env w K := fun a ha => by
 refine wp_block (wp_mono (h a ha) ?_)
 rintro e a' w' ⟨env', h1, h2⟩
 cases e <;> first
  | exact ⟨env', h1, h2⟩
  | skip
 rename_i i
 simp only [Z2f] at h2
 simp only [Exit.inBlock]
 split
 ·rename_i hi; rw [if_pos hi] at h2; exact ⟨env', h1, h2⟩
 ·rename_i hi; rw [if_neg hi] at h2; exact ⟨env', h1, h2⟩
theorem zih {c : Code} (I : Nat → VE → World → Prop) {n : Nat} (h0 : I n env w)
 (round : ∀ n env w, I n env w → XW P N ds c env w (fun e env' w' => match e with | .normal => ∃ m, m < n ∧ I m env' w' | e => K e env' w')) : XW P N ds (.loop c) env w K := fun a ha => by
 refine zec (fun n a w => ∃ env, AR N ds env a ∧ I n env w) (n := n) ⟨env, ha, h0⟩ ?_
 rintro n a w ⟨env, ha, hI⟩
 refine wp_mono (round n env w hI a ha) ?_
 rintro e a' w' ⟨env', h1, h2⟩
 cases e <;> first
  | (obtain ⟨m, hm, hI'⟩ := h2; exact ⟨m, hm, env', h1, hI'⟩)
  | exact ⟨env', h1, h2⟩
theorem zbo {c : Operand} {x y : Code} {b : Bool} (hc : vev env c = some (.bool b)) (ht : b = true → XW P N ds x env w K) (hf : b = false → XW P N ds y env w K) : XW P N ds (.cond c x y) env w K := fun a ha =>
 wp_cond_split (ha.ev hc) (fun hb => ht hb a ha) (fun hb => hf hb a ha)
theorem zea (h : K .normal env w) : XW P N ds .skip env w K := fun a ha => wp_skip ⟨env, ha, h⟩
theorem zii {i : Nat} (h : K (.exit i) env w) : XW P N ds (.exit i) env w K := fun a ha => wp_exit ⟨env, ha, h⟩
theorem Z6m (h : K .ret env w) : XW P N ds .ret env w K := fun a ha => wp_ret ⟨env, ha, h⟩
theorem z1t {id : Nat} {l : List Oper} (h : XL P N ds l.toArray l env w K) : XW P N ds (.region id l.toArray false) env w K := fun a ha => wp_region_lit (h a ha)
variable {ops : Array Oper} {o : Oper} {rest : List Oper}
theorem z3d (h : K .normal env w) : XL P N ds ops [] env w K := fun a ha => wpList_nil ⟨env, ha, h⟩
theorem z12 {v : Value} (hg : o.guard = none) (hd : z5a o.dst N = true) (hrun : ∀ a, AR N ds env a → (execOp a.eval o).run P w = .ok (.value v) w') (h : XL P N ds ops rest (Z2g o.dst v env) w' K) : XL P N ds ops (o :: rest) env w K := fun a ha => by
 refine wpList_plain hg (fun K' hK' => ?_)
 unfold Oper.wp
 rw [hrun a ha]
 exact hK' _ _ (h _ (ha.put hd))
theorem Z49 (hg : o.guard = none) (hd : z5a o.dst N = true) (hrun : ∀ a, AR N ds env a → (execOp a.eval o).run P w = .ok .skip w') (h : XL P N ds ops rest (Z2g o.dst undef env) w' K) : XL P N ds ops (o :: rest) env w K := fun a ha => by
 refine wpList_plain hg (fun K' hK' => ?_)
 unfold Oper.wp
 rw [hrun a ha]
 exact hK' _ _ (h _ (ha.put hd))
theorem z2m {x : Operand} {v : Value} (ho : o.op = .move x) (hx : vev env x = some v) (a : Act) (ha : AR N ds env a) : (execOp a.eval o).run P w = .ok (.value v) w := by simp [execOp, ho, ha.ev hx]
theorem z38 {x : Operand} {v : Value} (ho : o.op = .assign x) (hx : vev env x = some v) (a : Act) (ha : AR N ds env a) : (execOp a.eval o).run P w = .ok (.value v) w := by simp [execOp, ho, ha.ev hx]
theorem zgo {x : Operand} {t e : TypeId} {A : Option Addr} {l c : Nat} (ht : P.underlying t = some (.slice e)) (ho : o.op = .call { callee := .builtin .len, args := #[x], argTypes := #[t] }) (hx : vev env x = some (.slice A l c)) (a : Act) (ha : AR N ds env a) :
 (execOp a.eval o).run P w = .ok (.value (.int .i64 l)) w := by simp [execOp, ho, resolve, invoke, builtin, ha.ev hx, Builtin.len_, z1u ht, goInt]
theorem zjs {t t2 : TypeId} {x y : Operand} {i j : Int} (ho : o.op = .binOp .lss t x y t2) (hx : vev env x = some (.int .i64 i)) (hy : vev env y = some (.int .i64 j)) (a : Act) (ha : AR N ds env a) :
 (execOp a.eval o).run P w = .ok (.value (.bool (decide (i < j)))) w := by simp [execOp, ho, ha.ev hx, ha.ev hy, eqGuard, binOp, Op.intCmp]
theorem zp8 {t t2 : TypeId} {x y : Operand} {i j : Int} (ho : o.op = .binOp .add t x y t2) (hx : vev env x = some (.int .i64 i)) (hy : vev env y = some (.int .i64 j)) (h1 : -9223372036854775808 ≤ i + j ∧ i + j ≤ 9223372036854775807) (a : Act) (ha : AR N ds env a) :
 (execOp a.eval o).run P w = .ok (.value (.int .i64 (i + j))) w := by simp [execOp, ho, ha.ev hx, ha.ev hy, eqGuard, binOp, Op.intArith, z9t h1.1 h1.2]
theorem zgp {x y : Operand} {t e : TypeId} {sz by_ b off l c i : Nat} {z : Value} (ht : P.underlying t = some (.slice e)) (hi : Inf P e z sz by_) (ho : o.op = .indexAddr t x y)
 (hx : vev env x = some (.slice (some ⟨b, off, none⟩) l c)) (hy : vev env y = some (.int .i64 (i : Nat))) (h : i < l) (a : Act) (ha : AR N ds env a) :
 (execOp a.eval o).run P w = .ok (.value (.pointer (some ⟨b, off + i * sz, none⟩))) w := by
 have h' : (i : Int) < l := by omega
 simp [execOp, ho, ha.ev hx, ha.ev hy, Instr.indexAt, asIntOf, z1u ht, h', h, hi.run_size, z3u]
end
structure Wrs (S : Nat → Prop) (w0 w : World) : Prop where
 os : w.os = w0.os
 tape : w.tape = w0.tape
 output : w.output = w0.output
 size : w0.heap.size ≤ w.heap.size
 keep : ∀ b, b < w0.heap.size → ¬ S b → w.heap[b]? = w0.heap[b]?
 kp : Keeps w0 w
theorem Keeps.trans {w w' w'' : World} (h : Keeps w w') (k : Keeps w' w'') : Keeps w w'' := fun b c t z hb => by
 obtain ⟨c1, h1, h2⟩ := h b c t z hb
 obtain ⟨c2, h3, h4⟩ := k b c1 t z h1
 exact ⟨c2, h3, h4.trans h2⟩
section
variable {S : Nat → Prop} {w0 w w' : World}
theorem Wrs.refl : Wrs S w w := ⟨rfl, rfl, rfl, Nat.le_refl _, fun _ _ _ => rfl, Keeps.refl w⟩
theorem Wrs.grow (h : Wrs S w0 w) (h1 : w'.os = w.os) (h2 : w'.tape = w.tape) (h3 : w'.output = w.output) (hs : w.heap.size ≤ w'.heap.size) (ho : ∀ k, k < w.heap.size → w'.heap[k]? = w.heap[k]?) : Wrs S w0 w' :=
 ⟨h1.trans h.os, h2.trans h.tape, h3.trans h.output, Nat.le_trans h.size hs, fun b hb hn => (ho b (Nat.lt_of_lt_of_le hb h.size)).trans (h.keep b hb hn), h.kp.trans (Keeps.of ho)⟩
theorem Wrs.write (h : Wrs S w0 w) {b : Nat} (hb : S b ∨ w0.heap.size ≤ b) (h1 : w'.os = w.os) (h2 : w'.tape = w.tape) (h3 : w'.output = w.output) (hs : w'.heap.size = w.heap.size) (ho : ∀ k, k ≠ b → w'.heap[k]? = w.heap[k]?) (hk : Keeps w w') : Wrs S w0 w' :=
 ⟨h1.trans h.os, h2.trans h.tape, h3.trans h.output, by rw [hs]; exact h.size, fun k hk hn => (ho k (by rintro rfl; rcases hb with hb | hb; exact hn hb; omega)).trans (h.keep k hk hn), h.kp.trans hk⟩
def Room (S : Nat → Prop) (n0 : Nat) (w : World) (A : Option Addr) (e s n : Nat) : Prop :=
 (A = none ∧ n = 0) ∨ ∃ (b o : Nat) (c : Array Value) (z : Nat × Nat) (q : Nat), A = some ⟨b, o, none⟩ ∧ (S b ∨ n0 ≤ b) ∧ w.heap[b]? = some (.cells c e z) ∧ o + n ≤ c.size ∧ (z.2 ≤ z.1 ∨ c.size ≤ z.1) ∧ o = q * s
theorem Room.keeps {n0 : Nat} {A : Option Addr} {e s n : Nat} (h : Room S n0 w A e s n) (hk : Keeps w w') : Room S n0 w' A e s n := by
 rcases h with h | ⟨b, o, c, z, q, h1, h2, h3, h4, h5, h8⟩
 ·exact .inl h
 ·obtain ⟨c', h6, h7⟩ := hk b c e z h3
  exact .inr ⟨b, o, c', z, q, h1, h2, h6, by rw [h7]; exact h4, by rw [h7]; exact h5, h8⟩
theorem Room.of {A : Option Addr} {e s n : Nat} (h : (Z37 S w).B A e s n) (n0 : Nat) : Room S n0 w A e s n := by
 rcases h with h | ⟨b, o, c, z, q, h1, h2, h3, h4⟩
 ·exact .inl h
 ·exact .inr ⟨b, o, c, z, q, h1, .inl h2, h3, h4⟩
theorem zjk {b o : Nat} {c : Array Value} {t : TypeId} {z : Nat × Nat} {v : Value} (hb : w.heap[b]? = some (.cells c t z)) : (w.setCell ⟨b, o, none⟩ v).heap[b]? = some (.cells (c.setIfInBounds o v) t z) := by
 simp only [World.setCell, Array.getElem?_modify, if_true, hb, Option.map_some]; simp
theorem zxa {b o : Nat} {v : Value} : Keeps w (w.setCell ⟨b, o, none⟩ v) := by
 intro k c t z hk
 by_cases hb : k = b
 ·subst hb; exact ⟨_, zjk hk, by simp⟩
 ·exact ⟨c, by rw [Go.RowKit.Below.heap_setCell w ⟨b, o, none⟩ v k hb]; exact hk, rfl⟩
theorem Wrs.set (h : Wrs S w0 w) {b o : Nat} {v : Value} (hb : S b ∨ w0.heap.size ≤ b) : Wrs S w0 (w.setCell ⟨b, o, none⟩ v) :=
 h.write hb rfl rfl rfl (by simp [World.setCell]) (fun k hk => Go.RowKit.Below.heap_setCell w ⟨b, o, none⟩ v k hk) zxa
theorem Z4k {b o : Nat} {c : Array Value} {t : TypeId} {z : Nat × Nat} {v : Value} (hb : w.heap[b]? = some (.cells c t z)) (ho : o < c.size) (hz : z.2 ≤ z.1 ∨ c.size ≤ z.1) (h1 : v.oneCell' = true) :
 (store ⟨b, o, none⟩ v).run P w = .ok () (w.setCell ⟨b, o, none⟩ v) := by
 rw [run_store P w _ v .plain h1]
 have hc : w.cell? ⟨b, o, none⟩ = some c[o] := by simp [World.cell?, hb, ho]
 have hf : w.frozen? ⟨b, o, none⟩ = false := by
  simp only [World.frozen?, hb]
  cases hd : (decide (z.1 ≤ o) && decide (o < z.2)) with
  | false => rfl
  | true => simp at hd; omega
 rw [hc, hf]; rfl
end
section
variable {env : VE} {w w' : World} {o : Oper}
theorem znw {f : FuncId} {fn : Func} {c : Code} {args : List Value} {w : World} {R : Ending → World → Prop} {M : Nat} (hf : P.funcs[f]? = some fn) (hb : fn.body = some c) (hN : fn.ntmps = M) (hres : fn.results = #[]) (hlen : Nat.ble args.length M = true)
 (h : XW P M [] c (args.zipIdx.map fun p => (p.2, p.1)) w (fun e env w' => match e with | .normal => R (.returned (.tuple #[])) w' | .ret => R (.returned (.tuple #[])) w' | _ => False)) : Calls P f args.toArray w R := by
 refine calls_of_wp hf hb ?_
 have hlen' := Nat.le_of_ble_eq_true hlen
 have hget : ∀ (l : List Value) (k t : Nat) (v : Value), zgc ((l.zipIdx k).map fun p => (p.2, p.1)) t = some v → k ≤ t ∧ l[t - k]? = some v := by
  intro l
  induction l with
  | nil => intro k t v hv; cases hv
  | cons x r ih =>
   intro k t v hv
   simp only [List.zipIdx_cons, List.map_cons, zgc] at hv
   cases hb : Nat.beq k t with
   | true =>
    rw [hb] at hv; simp at hv; subst hv
    have := beq_iff'.1 hb; subst this
    exact ⟨Nat.le_refl _, by simp⟩
   | false =>
    rw [hb] at hv
    obtain ⟨h1, h2⟩ := ih (k + 1) t v hv
    refine ⟨by omega, ?_⟩
    rw [show t - k = (t - (k + 1)) + 1 by omega]; simpa using h2
 have ha : AR M [] (args.zipIdx.map fun p => (p.2, p.1)) { tmps := args.toArray ++ Array.replicate (fn.ntmps - args.toArray.size) undef, defers := [] } := by
  refine ⟨fun t v hv => ?_, ?_, rfl⟩
  ·obtain ⟨_, h1⟩ := hget args 0 t v hv
   rw [Nat.sub_zero] at h1
   have hlt := z0p h1
   show (args.toArray ++ _)[t]? = some v
   rw [Array.getElem?_append_left (by simpa using hlt)]; simpa using h1
  ·show (args.toArray ++ _).size = M
   simp [hN]; omega
 refine wp_mono (h _ ha) ?_
 have hr : ∀ (tmps : Array Value) (w' : World), (results fn tmps).run P w' = .ok (.tuple #[]) w' := by
  intro tmps w'
  rw [zbv (rs := []) hres]; rfl
 rintro e a' w' ⟨env', h1, h2⟩
 cases e <;> first
  | exact h2.elim
  | exact ⟨h1.ds, _, hr _ _, h2⟩
end
end Aw
end Go.Proofs.Ytiapdjdhaclmnaa
