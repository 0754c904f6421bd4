/- Plain laws, one behind the other. -/
import Derived.Test.YthidgpcbnieleaaAwS
namespace Go.Proofs.Ythidgpcbnieleaa
namespace Aw
open Go
set_option linter.unusedVariables false
set_option linter.unusedSimpArgs false
set_option maxRecDepth 4000
variable {P : Program} {N : Nat} {ds : List Deferred}
abbrev VE := List (Nat × Value)
def z80 : VE → Nat → Option Value
 | [], _ => none
 | (k, x) :: r, t => bif Nat.beq k t then some x else z80 r t
structure AR (N : Nat) (ds : List Deferred) (env : VE) (a : Act) : Prop where
 env : ∀ (t : Nat) (v : Value), z80 env t = some v → a.tmps[t]? = some v
 size : a.tmps.size = N
 ds : a.defers = ds
def vev (env : VE) : Operand → Option Value
 | .tmp t => z80 env t
 | .const v => some v
 | _ => none
theorem AR.ev {env : VE} {a : Act} (h : AR N ds env a) {o : Operand} {v : Value} (ho : vev env o = some v) : a.eval o = v := by
 cases o with
 | tmp t => simp [Act.eval, h.env t v ho]
 | const x => simp only [vev] at ho; injection ho
 | func f => cases ho
 | global g => cases ho
def zvj (d : Option Tmp) (v : Value) (env : VE) : VE :=
 match d with
 | some d => (d, v) :: env
 | none => env
theorem AR.put {env : VE} {a : Act} (h : AR N ds env a) {d : Option Tmp} (hd : z6q d N = true) {v : Value} : AR N ds (zvj d v env) (a.put d v) := by
 cases d with
 | none => exact h
 | some d =>
  have hlt : d < a.tmps.size := by rw [h.size]; simpa [z6q, Nat.blt_eq] using hd
  refine ⟨fun t x hx => ?_, by simp [Act.put, h.size], h.ds⟩
  simp only [zvj, z80] at hx
  cases hb : Nat.beq d t with
  | true =>
   rw [hb] at hx; simp at hx; subst hx
   have := beq_iff'.1 hb; subst this
   simp [Act.put, hlt]
  | false =>
   rw [hb] at hx
   have hne : d ≠ t := fun e => by subst e; simp at hb
   simpa [Act.put, Array.getElem?_setIfInBounds_ne hne] using h.env t x hx
def XP (N : Nat) (ds : List Deferred) (K : Exit → VE → World → Prop) : Exit → Act → World → Prop := fun e a w => ∃ env, AR N ds env a ∧ K e env w
def XW (P : Program) (N : Nat) (ds : List Deferred) (c : Code) (env : VE) (w : World) (K : Exit → VE → World → Prop) : Prop := ∀ a, AR N ds env a → c.wp P (XP N ds K) a w
def XL (P : Program) (N : Nat) (ds : List Deferred) (ops : Array Oper) (l : List Oper) (env : VE) (w : World) (K : Exit → VE → World → Prop) : Prop := ∀ a, AR N ds env a → wpList P ops (XP N ds K) l a w
section
variable {env : VE} {w w' : World} {K : Exit → VE → World → Prop}
def Z6g (P : Program) (N : Nat) (ds : List Deferred) (y : Code) (K : Exit → VE → World → Prop) : Exit → VE → World → Prop
 | .normal, env, w => XW P N ds y env w K
 | e, env, w => K e env w
theorem z0y {x y : Code} (h : XW P N ds x env w (Z6g P N ds y K)) : XW P N ds (.seq x y) env w K := fun a ha => by
 refine wp_seq (wp_mono (h a ha) ?_)
 rintro e a' w' ⟨env', h1, h2⟩
 cases e <;> first
  | exact h2 a' h1
  | exact ⟨env', h1, h2⟩
def zvi (id : Nat) (K : Exit → VE → World → Prop) : Exit → VE → World → Prop
 | .exit i, env, w => if i = id then K .normal env w else K (.exit i) env w
 | e, env, w => K e env w
theorem z37 {id : Nat} {c : Code} (h : XW P N ds c env w (zvi id K)) : XW P N ds (.block id c) env w K := fun a ha => by
 refine wp_block (wp_mono (h a ha) ?_)
 rintro e a' w' ⟨env', h1, h2⟩
 cases e <;> first
  | exact ⟨env', h1, h2⟩
  | skip
 rename_i i
 simp only [zvi] at h2
 simp only [Exit.inBlock]
 split
 ·rename_i hi; rw [if_pos hi] at h2; exact ⟨env', h1, h2⟩
 ·rename_i hi; rw [if_neg hi] at h2; exact ⟨env', h1, h2⟩
theorem za0 {c : Code} (I : Nat → VE → World → Prop) {n : Nat} (h0 : I n env w)
 (round : ∀ n env w, I n env w → XW P N ds c env w (fun e env' w' => match e with | .normal => ∃ m, m < n ∧ I m env' w' | e => K e env' w')) : XW P N ds (.loop c) env w K := fun a ha => by
 refine zbz (fun n a w => ∃ env, AR N ds env a ∧ I n env w) (n := n) ⟨env, ha, h0⟩ ?_
 rintro n a w ⟨env, ha, hI⟩
 refine wp_mono (round n env w hI a ha) ?_
 rintro e a' w' ⟨env', h1, h2⟩
 cases e <;> first
  | (obtain ⟨m, hm, hI'⟩ := h2; exact ⟨m, hm, env', h1, hI'⟩)
  | exact ⟨env', h1, h2⟩
theorem z2u {c : Operand} {x y : Code} {b : Bool} (hc : vev env c = some (.bool b)) (ht : b = true → XW P N ds x env w K) (hf : b = false → XW P N ds y env w K) : XW P N ds (.cond c x y) env w K := fun a ha =>
 wp_cond_split (ha.ev hc) (fun hb => ht hb a ha) (fun hb => hf hb a ha)
theorem z3w (h : K .normal env w) : XW P N ds .skip env w K := fun a ha => wp_skip ⟨env, ha, h⟩
theorem za1 {i : Nat} (h : K (.exit i) env w) : XW P N ds (.exit i) env w K := fun a ha => wp_exit ⟨env, ha, h⟩
theorem ze2 (h : K .ret env w) : XW P N ds .ret env w K := fun a ha => wp_ret ⟨env, ha, h⟩
theorem z0m {id : Nat} {l : List Oper} (h : XL P N ds l.toArray l env w K) : XW P N ds (.region id l.toArray false) env w K := fun a ha => wp_region_lit (h a ha)
variable {ops : Array Oper} {o : Oper} {rest : List Oper}
theorem z14 (h : K .normal env w) : XL P N ds ops [] env w K := fun a ha => wpList_nil ⟨env, ha, h⟩
theorem z09 {v : Value} (hg : o.guard = none) (hd : z6q o.dst N = true) (hrun : ∀ a, AR N ds env a → (execOp a.eval o).run P w = .ok (.value v) w') (h : XL P N ds ops rest (zvj o.dst v env) w' K) : XL P N ds ops (o :: rest) env w K := fun a ha => by
 refine wpList_plain hg (fun K' hK' => ?_)
 unfold Oper.wp
 rw [hrun a ha]
 exact hK' _ _ (h _ (ha.put hd))
theorem zwr (hg : o.guard = none) (hd : z6q o.dst N = true) (hrun : ∀ a, AR N ds env a → (execOp a.eval o).run P w = .ok .skip w') (h : XL P N ds ops rest (zvj o.dst undef env) w' K) : XL P N ds ops (o :: rest) env w K := fun a ha => by
 refine wpList_plain hg (fun K' hK' => ?_)
 unfold Oper.wp
 rw [hrun a ha]
 exact hK' _ _ (h _ (ha.put hd))
theorem z0i {x : Operand} {v : Value} (ho : o.op = .move x) (hx : vev env x = some v) (a : Act) (ha : AR N ds env a) : (execOp a.eval o).run P w = .ok (.value v) w := by simp [execOp, ho, ha.ev hx]
theorem z12 {x : Operand} {v : Value} (ho : o.op = .assign x) (hx : vev env x = some v) (a : Act) (ha : AR N ds env a) : (execOp a.eval o).run P w = .ok (.value v) w := by simp [execOp, ho, ha.ev hx]
theorem z6z {x : Operand} {t e : TypeId} {A : Option Addr} {l c : Nat} (ht : P.underlying t = some (.slice e)) (ho : o.op = .call { callee := .builtin .len, args := #[x], argTypes := #[t] }) (hx : vev env x = some (.slice A l c)) (a : Act) (ha : AR N ds env a) :
 (execOp a.eval o).run P w = .ok (.value (.int .i64 l)) w := by simp [execOp, ho, resolve, invoke, builtin, ha.ev hx, Builtin.len_, z13 ht, goInt]
theorem ze3 {t t2 : TypeId} {x y : Operand} {i j : Int} (ho : o.op = .binOp .lss t x y t2) (hx : vev env x = some (.int .i64 i)) (hy : vev env y = some (.int .i64 j)) (a : Act) (ha : AR N ds env a) :
 (execOp a.eval o).run P w = .ok (.value (.bool (decide (i < j)))) w := by simp [execOp, ho, ha.ev hx, ha.ev hy, eqGuard, binOp, Op.intCmp]
theorem zby {t t2 : TypeId} {x y : Operand} {i j : Int} (ho : o.op = .binOp .add t x y t2) (hx : vev env x = some (.int .i64 i)) (hy : vev env y = some (.int .i64 j)) (h1 : -9223372036854775808 ≤ i + j ∧ i + j ≤ 9223372036854775807) (a : Act) (ha : AR N ds env a) :
 (execOp a.eval o).run P w = .ok (.value (.int .i64 (i + j))) w := by simp [execOp, ho, ha.ev hx, ha.ev hy, eqGuard, binOp, Op.intArith, za3 h1.1 h1.2]
theorem ze4 {x y : Operand} {t e : TypeId} {sz by_ b off l c i : Nat} {z : Value} (ht : P.underlying t = some (.slice e)) (hi : Inf P e z sz by_) (ho : o.op = .indexAddr t x y)
 (hx : vev env x = some (.slice (some ⟨b, off, none⟩) l c)) (hy : vev env y = some (.int .i64 (i : Nat))) (h : i < l) (a : Act) (ha : AR N ds env a) :
 (execOp a.eval o).run P w = .ok (.value (.pointer (some ⟨b, off + i * sz, none⟩))) w := by
 have h' : (i : Int) < l := by omega
 simp [execOp, ho, ha.ev hx, ha.ev hy, Instr.indexAt, asIntOf, z13 ht, h', h, hi.run_size, z1m]
end
structure Wrs (S : Nat → Prop) (w0 w : World) : Prop where
 os : w.os = w0.os
 tape : w.tape = w0.tape
 output : w.output = w0.output
 size : w0.heap.size ≤ w.heap.size
 keep : ∀ b, b < w0.heap.size → ¬ S b → w.heap[b]? = w0.heap[b]?
 kp : Keeps w0 w
theorem Keeps.trans {w w' w'' : World} (h : Keeps w w') (k : Keeps w' w'') : Keeps w w'' := fun b c t z hb => by
 obtain ⟨c1, h1, h2⟩ := h b c t z hb
 obtain ⟨c2, h3, h4⟩ := k b c1 t z h1
 exact ⟨c2, h3, h4.trans h2⟩
section
variable {S : Nat → Prop} {w0 w w' : World}
theorem Wrs.refl : Wrs S w w := ⟨rfl, rfl, rfl, Nat.le_refl _, fun _ _ _ => rfl, Keeps.refl w⟩
theorem Wrs.grow (h : Wrs S w0 w) (h1 : w'.os = w.os) (h2 : w'.tape = w.tape) (h3 : w'.output = w.output) (hs : w.heap.size ≤ w'.heap.size) (ho : ∀ k, k < w.heap.size → w'.heap[k]? = w.heap[k]?) : Wrs S w0 w' :=
 ⟨h1.trans h.os, h2.trans h.tape, h3.trans h.output, Nat.le_trans h.size hs, fun b hb hn => (ho b (Nat.lt_of_lt_of_le hb h.size)).trans (h.keep b hb hn), h.kp.trans (Keeps.of ho)⟩
theorem Wrs.write (h : Wrs S w0 w) {b : Nat} (hb : S b ∨ w0.heap.size ≤ b) (h1 : w'.os = w.os) (h2 : w'.tape = w.tape) (h3 : w'.output = w.output) (hs : w'.heap.size = w.heap.size) (ho : ∀ k, k ≠ b → w'.heap[k]? = w.heap[k]?) (hk : Keeps w w') : Wrs S w0 w' :=
 ⟨h1.trans h.os, h2.trans h.tape, h3.trans h.output, by rw [hs]; exact h.size, fun k hk hn => (ho k (by rintro rfl; rcases hb with hb | hb; exact hn hb; omega)).trans (h.keep k hk hn), h.kp.trans hk⟩
def Room (S : Nat → Prop) (n0 : Nat) (w : World) (A : Option Addr) (e s n : Nat) : Prop :=
 (A = none ∧ n = 0) ∨ ∃ (b o : Nat) (c : Array Value) (z : Nat × Nat) (q : Nat), A = some ⟨b, o, none⟩ ∧ (S b ∨ n0 ≤ b) ∧ w.heap[b]? = some (.cells c e z) ∧ o + n ≤ c.size ∧ (z.2 ≤ z.1 ∨ c.size ≤ z.1) ∧ o = q * s
theorem Room.keeps {n0 : Nat} {A : Option Addr} {e s n : Nat} (h : Room S n0 w A e s n) (hk : Keeps w w') : Room S n0 w' A e s n := by
 rcases h with h | ⟨b, o, c, z, q, h1, h2, h3, h4, h5, h8⟩
 ·exact .inl h
 ·obtain ⟨c', h6, h7⟩ := hk b c e z h3
  exact .inr ⟨b, o, c', z, q, h1, h2, h6, by rw [h7]; exact h4, by rw [h7]; exact h5, h8⟩
theorem Room.of {A : Option Addr} {e s n : Nat} (h : (zxv S w).B A e s n) (n0 : Nat) : Room S n0 w A e s n := by
 rcases h with h | ⟨b, o, c, z, q, h1, h2, h3, h4⟩
 ·exact .inl h
 ·exact .inr ⟨b, o, c, z, q, h1, .inl h2, h3, h4⟩
theorem zbs {b o : Nat} {c : Array Value} {t : TypeId} {z : Nat × Nat} {v : Value} (hb : w.heap[b]? = some (.cells c t z)) : (w.setCell ⟨b, o, none⟩ v).heap[b]? = some (.cells (c.setIfInBounds o v) t z) := by
 simp only [World.setCell, Array.getElem?_modify, if_true, hb, Option.map_some]; simp
theorem keeps_set {b o : Nat} {v : Value} : Keeps w (w.setCell ⟨b, o, none⟩ v) := by
 intro k c t z hk
 by_cases hb : k = b
 ·subst hb; exact ⟨_, zbs hk, by simp⟩
 ·exact ⟨c, by rw [Go.RowKit.Below.heap_setCell w ⟨b, o, none⟩ v k hb]; exact hk, rfl⟩
theorem Wrs.set (h : Wrs S w0 w) {b o : Nat} {v : Value} (hb : S b ∨ w0.heap.size ≤ b) : Wrs S w0 (w.setCell ⟨b, o, none⟩ v) :=
 h.write hb rfl rfl rfl (by simp [World.setCell]) (fun k hk => Go.RowKit.Below.heap_setCell w ⟨b, o, none⟩ v k hk) keeps_set
theorem zot {b o : Nat} {c : Array Value} {t : TypeId} {z : Nat × Nat} {v : Value} (hb : w.heap[b]? = some (.cells c t z)) (ho : o < c.size) (hz : z.2 ≤ z.1 ∨ c.size ≤ z.1) (h1 : v.oneCell' = true) :
 (store ⟨b, o, none⟩ v).run P w = .ok () (w.setCell ⟨b, o, none⟩ v) := by
 rw [run_store P w _ v .plain h1]
 have hc : w.cell? ⟨b, o, none⟩ = some c[o] := by simp [World.cell?, hb, ho]
 have hf : w.frozen? ⟨b, o, none⟩ = false := by
  simp only [World.frozen?, hb]
  cases hd : (decide (z.1 ≤ o) && decide (o < z.2)) with
  | false => rfl
  | true => simp at hd; omega
 rw [hc, hf]; rfl
end
section
variable {env : VE} {w w' : World} {o : Oper}
theorem ze5 {t e : TypeId} {x : Operand} {z v : Value} {b : Nat} (ht : P.underlying t = some (.slice e)) (hi : Inf P e z 1 b) (hz : z.cells.size = 1) (ho : o.op = .buildSlice t 1 #[(0, x)]) (hx : vev env x = some v) (h1 : v.oneCell' = true) (a : Act) (ha : AR N ds env a) :
 (execOp a.eval o).run P w = .ok (.value (.slice (some ⟨w.heap.size, 0, none⟩) 1 1)) (w.alloc (.cells #[v] e)) := by
 have hc : v.cells = #[v] := by cases v <;> first | rfl | cases h1
 simp only [execOp, ho, Instr.buildSlice, Sem.run_bind, z13 ht, Result.andThen_ok, hi.run_size]
 simp [hi.run_zero, ha.ev hx, hc, newRow, Instr.fill]
 congr 2
 refine Array.ext (by simp) fun i h2 h3 => ?_
 have h4 : i = 0 := by simpa using h3
 subst h4
 simp
theorem zdr {f : FuncId} {fn : Func} {c : Code} {args : List Value} {w : World} {R : Ending → World → Prop} {M : Nat} (hf : P.funcs[f]? = some fn) (hb : fn.body = some c) (hN : fn.ntmps = M) (hres : fn.results = #[]) (hlen : Nat.ble args.length M = true)
 (h : XW P M [] c (args.zipIdx.map fun p => (p.2, p.1)) w (fun e env w' => match e with | .normal => R (.returned (.tuple #[])) w' | .ret => R (.returned (.tuple #[])) w' | _ => False)) : Calls P f args.toArray w R := by
 refine calls_of_wp hf hb ?_
 have hlen' := Nat.le_of_ble_eq_true hlen
 have hget : ∀ (l : List Value) (k t : Nat) (v : Value), z80 ((l.zipIdx k).map fun p => (p.2, p.1)) t = some v → k ≤ t ∧ l[t - k]? = some v := by
  intro l
  induction l with
  | nil => intro k t v hv; cases hv
  | cons x r ih =>
   intro k t v hv
   simp only [List.zipIdx_cons, List.map_cons, z80] at hv
   cases hb : Nat.beq k t with
   | true =>
    rw [hb] at hv; simp at hv; subst hv
    have := beq_iff'.1 hb; subst this
    exact ⟨Nat.le_refl _, by simp⟩
   | false =>
    rw [hb] at hv
    obtain ⟨h1, h2⟩ := ih (k + 1) t v hv
    refine ⟨by omega, ?_⟩
    rw [show t - k = (t - (k + 1)) + 1 by omega]; simpa using h2
 have ha : AR M [] (args.zipIdx.map fun p => (p.2, p.1)) { tmps := args.toArray ++ Array.replicate (fn.ntmps - args.toArray.size) undef, defers := [] } := by
  refine ⟨fun t v hv => ?_, ?_, rfl⟩
  ·obtain ⟨_, h1⟩ := hget args 0 t v hv
   rw [Nat.sub_zero] at h1
   have hlt := z0a h1
   show (args.toArray ++ _)[t]? = some v
   rw [Array.getElem?_append_left (by simpa using hlt)]; simpa using h1
  ·show (args.toArray ++ _).size = M
   simp [hN]; omega
 refine wp_mono (h _ ha) ?_
 have hr : ∀ (tmps : Array Value) (w' : World), (results fn tmps).run P w' = .ok (.tuple #[]) w' := by
  intro tmps w'
  rw [za9 (rs := []) hres]; rfl
 rintro e a' w' ⟨env', h1, h2⟩
 cases e <;> first
  | exact h2.elim
  | exact ⟨h1.ds, _, hr _ _, h2⟩
end
end Aw
end Go.Proofs.Ythidgpcbnieleaa

namespace Go.Proofs.Ythidgpcbnieleaa
namespace Aw
open Go
set_option linter.unusedVariables false
set_option linter.unusedSimpArgs false
variable {P : Program} {H0 : List AEnt}
end Aw
end Go.Proofs.Ythidgpcbnieleaa

namespace Go.Proofs.Ythidgpcbnieleaa
namespace Aw
open Go
set_option linter.unusedVariables false
set_option linter.unusedSimpArgs false
set_option maxRecDepth 4000
variable {P : Program} {N : Nat} {ds : List Deferred} {Fl : TypeId → Nat → Value → Prop} {S : Nat → Prop} {w0 w w' w'' : World}
def RR (Fl : TypeId → Nat → Value → Prop) (w w' : World) : Prop := ∀ (b : Nat) (c : Array Value) (e : TypeId) (z : Nat × Nat), w.heap[b]? = some (.cells c e z) →
 ∃ c', w'.heap[b]? = some (.cells c' e z) ∧ c'.size = c.size ∧ ∀ (i : Nat) (v : Value), c[i]? = some v → ∃ v', c'[i]? = some v' ∧ (v' = v ∨ Fl e i v')
theorem RR.refl : RR Fl w w := fun b c e z h => ⟨c, h, rfl, fun i v hv => ⟨v, hv, .inl rfl⟩⟩
theorem RR.trans (h : RR Fl w w') (k : RR Fl w' w'') : RR Fl w w'' := fun b c e z hb => by
 obtain ⟨c1, h1, h2, h3⟩ := h b c e z hb
 obtain ⟨c2, h4, h5, h6⟩ := k b c1 e z h1
 refine ⟨c2, h4, h5.trans h2, fun i v hv => ?_⟩
 obtain ⟨v1, h7, h8⟩ := h3 i v hv
 obtain ⟨v2, h9, h10⟩ := h6 i v1 h7
 refine ⟨v2, h9, ?_⟩
 rcases h10 with rfl | h10
 ·exact h8
 ·exact .inr h10
theorem RR.keeps (h : RR Fl w w') : Keeps w w' := fun b c t z hb => let ⟨c', h1, h2, _⟩ := h b c t z hb; ⟨c', h1, h2⟩
theorem RR.of (h : ∀ k, k < w.heap.size → w'.heap[k]? = w.heap[k]?) : RR Fl w w' := fun b c e z hb => ⟨c, by rw [h b (z1e hb)]; exact hb, rfl, fun i v hv => ⟨v, hv, .inl rfl⟩⟩
theorem RR.set {b o : Nat} {c : Array Value} {e : TypeId} {z : Nat × Nat} {v : Value} (hb : w.heap[b]? = some (.cells c e z)) (hf : Fl e o v) : RR Fl w (w.setCell ⟨b, o, none⟩ v) := by
 intro k c' e' z' hk
 by_cases hkb : k = b
 ·subst hkb
  rw [hb] at hk; injection hk with hk; injection hk with h1 h2 h3
  subst h1; subst h2; subst h3
  refine ⟨_, zbs hb, by simp, fun i u hu => ?_⟩
  by_cases hi : o = i
  ·subst hi
   exact ⟨v, by simp [z1e hu], .inr hf⟩
  ·exact ⟨u, by rw [Array.getElem?_setIfInBounds_ne hi]; exact hu, .inl rfl⟩
 ·exact ⟨c', by rw [Go.RowKit.Below.heap_setCell w ⟨b, o, none⟩ v k hkb]; exact hk, rfl, fun i u hu => ⟨u, hu, .inl rfl⟩⟩
structure Goes (S : Nat → Prop) (w0 : World) (Fl : TypeId → Nat → Value → Prop) (w w' : World) : Prop where
 wr : Wrs S w0 w → Wrs S w0 w'
 rr : RR Fl w w'
theorem Goes.refl : Goes S w0 Fl w w := ⟨fun h => h, .refl⟩
theorem Goes.trans (h : Goes S w0 Fl w w') (k : Goes S w0 Fl w' w'') : Goes S w0 Fl w w'' := ⟨fun x => k.wr (h.wr x), h.rr.trans k.rr⟩
theorem Goes.set {b o : Nat} {c : Array Value} {e : TypeId} {z : Nat × Nat} {v : Value} (hb : w.heap[b]? = some (.cells c e z)) (hS : S b ∨ w0.heap.size ≤ b) (hf : Fl e o v) : Goes S w0 Fl w (w.setCell ⟨b, o, none⟩ v) := ⟨fun h => h.set hS, .set hb hf⟩
theorem Goes.grow (h1 : w'.os = w.os) (h2 : w'.tape = w.tape) (h3 : w'.output = w.output) (hs : w.heap.size ≤ w'.heap.size) (ho : ∀ k, k < w.heap.size → w'.heap[k]? = w.heap[k]?) : Goes S w0 Fl w w' := ⟨fun h => h.grow h1 h2 h3 hs ho, .of ho⟩
theorem Goes.alloc {ob : Obj} : Goes S w0 Fl w (w.alloc ob) := .grow rfl rfl rfl (by simp) (fun k hk => z2k hk)
theorem zc7 {b o : Nat} {e : TypeId} {z : Nat × Nat} : ∀ (vs : List Value) (i : Nat) (c : Array Value) (w : World), w.heap[b]? = some (.cells c e z) → o + i + vs.length ≤ c.size → (z.2 ≤ z.1 ∨ c.size ≤ z.1) → (∀ v, v ∈ vs → v.oneCell' = true) →
 (∀ j v, vs[j]? = some v → Fl e (o + i + j) v) → ∃ w', (storeCells ⟨b, o, none⟩ vs i).run P w = .ok () w' ∧ ∀ {S : Nat → Prop} {w0 : World}, (S b ∨ w0.heap.size ≤ b) → Goes S w0 Fl w w'
 | [], i, c, w, _, _, _, _, _ => ⟨w, rfl, fun _ => .refl⟩
 | v :: r, i, c, w, hb, hl, hz, h1, hf => by
  simp only [List.length_cons] at hl
  have hs := zot (P := P) (w := w) (o := o + i) hb (by omega) hz (h1 v (by simp))
  obtain ⟨w', h2, h3⟩ := zc7 (o := o) r (i + 1) (c.setIfInBounds (o + i) v) (w.setCell ⟨b, o + i, none⟩ v) (zbs hb) (by simp; omega) (by simpa using hz) (fun x hx => h1 x (by simp [hx])) (fun j x hx => by
   have := hf (j + 1) x (by simpa using hx)
   rwa [show o + i + (j + 1) = o + (i + 1) + j by omega] at this)
  refine ⟨w', ?_, fun hS => ?_⟩
  ·simp only [storeCells, Sem.run_bind, z1m, hs, Result.andThen_ok, h2]
  ·exact (Goes.set hb hS (by simpa using hf 0 v rfl)).trans (h3 hS)
theorem zfp {t tx e ty : TypeId} {sz b_ l c n : Nat} {zv : Value} {A : Option Addr} {x : Value} {news : List Value} (hn0 : w0.heap.size ≤ w.heap.size) (ht : P.underlying t = some (.slice e)) (hi : Inf P e zv sz b_) (hz : zv.cells.size = sz)
 (hl : l ≤ c) (hr : Room S w0.heap.size w A e sz (c * sz)) (hs : Src P sz tx x n news w) (hb : (l + n) * b_ ≤ 140737488355328) (hl2 : l + n ≤ 9223372036854775807) (hf : ∀ q j v, news[j]? = some v → Fl e (q * sz + j) v) :
 ∃ A' c' w', (Builtin.append_ #[t, tx] ty #[.slice A l c, x]).run P w = .ok (.slice A' (l + n) c') w' ∧ l + n ≤ c' ∧ Goes S w0 Fl w w' ∧ Room S w0.heap.size w' A' e sz (c' * sz) := by
 obtain ⟨inf, hinf, hzz, hss, hbb⟩ := hi.spec
 subst hss
 by_cases hroom : l + n ≤ c
 ·have hln : l * inf.size + news.length ≤ c * inf.size := by rw [hs.newsLen, ← Nat.add_mul]; exact Nat.mul_le_mul_right _ hroom
  rcases hr with ⟨rfl, h0⟩ | ⟨b, off, cells, z, q, rfl, hS, hblk, hsz, hfz, hal⟩
  ·refine ⟨none, c, w, ?_, hroom, .refl, .inl ⟨rfl, h0⟩⟩
   rcases hs.kind with ⟨e', hk⟩ | hk <;> simp [Builtin.append_, z13 ht, z13 hk, Go.sizeOf, typeInfo, hinf, hs.len, hroom, hs.cells]
  ·obtain ⟨w', h1, h2⟩ := zc7 (P := P) (Fl := Fl) (o := off + l * inf.size) news 0 cells w hblk (by omega) hfz hs.one (fun j v hj => by
    have := hf (q + l) j v hj
    rwa [show off + l * inf.size + 0 + j = (q + l) * inf.size + j by rw [hal, Nat.add_mul]; omega])
   have h3 := h2 hS
   refine ⟨some ⟨b, off, none⟩, c, w', ?_, hroom, h3, Room.keeps (.inr ⟨b, off, cells, z, q, rfl, hS, hblk, hsz, hfz, hal⟩) h3.rr.keeps⟩
   rcases hs.kind with ⟨e', hk⟩ | hk <;> simp [Builtin.append_, z13 ht, z13 hk, Go.sizeOf, typeInfo, hinf, hs.len, hroom, hs.cells, z1m, h1]
 ·have hold : ∃ olds : List Value, olds.length = l * inf.size ∧ (Builtin.firstCells inf.size l (.slice A l c)).run P w.drew = .ok olds.toArray w.drew := by
   rcases hr with ⟨rfl, h0⟩ | ⟨b, off, cells, z, q, rfl, hS, hblk, hsz, hfz, hal⟩
   ·refine ⟨[], ?_, by simp [Builtin.firstCells]⟩
    have : l * inf.size ≤ c * inf.size := Nat.mul_le_mul_right _ hl
    simp only [List.length_nil]; omega
   ·have hle : l * inf.size ≤ c * inf.size := Nat.mul_le_mul_right _ hl
    refine ⟨(cells.toList.drop off).take (l * inf.size), by simp; omega, run_firstCells_some w.drew inf.size l ⟨b, off, none⟩ l c _ (by simp; omega) (fun j v hj => ?_)⟩
    rw [z1m, World.cell?_drew, z1p hblk]
    rw [List.getElem?_take] at hj
    split at hj
    ·simpa [List.getElem?_drop] using hj
    ·cases hj
  obtain ⟨olds, ho1, ho2⟩ := hold
  have hrun := run_append_grow_src (P := P) w t tx ty e inf zv ht hinf hzz A l c olds ho2 x n news hs (by omega) (by omega) (growslice_fits (by omega) (by rw [hbb]; exact hb))
  have hge := grownCap_ge w (l + n) c e
  have hzc : (Builtin.zeroCells zv.cells (grownCap w (l + n) c e - (l + n))).size = (grownCap w (l + n) c e - (l + n)) * inf.size := by rw [size_zeroCells, hz]
  have ho : ∀ ob k, k < w.heap.size → (w.drew.alloc ob).heap[k]? = w.heap[k]? := fun ob k hk => by rw [z2k (by exact hk)]; rfl
  refine ⟨_, _, _, hrun, hge, .grow rfl rfl rfl (by simp) (ho _), .inr ⟨w.heap.size, 0, _, (0, 0), 0, rfl, .inr hn0, z2o (w := w.drew), ?_, .inl (Nat.le_refl _), by simp⟩⟩
  simp only [Array.size_append, List.size_toArray, List.length_append, hs.newsLen, ho1, hzc, ← Nat.add_mul]
  rw [Nat.zero_add]; exact Nat.mul_le_mul_right _ (by omega)
section
variable {env : VE} {o : Oper} {ops : Array Oper} {rest : List Oper} {K : Exit → VE → World → Prop}
theorem zfh {f : FuncId} {args : List Operand} {types : Array TypeId} {vs : Array Value} {R : Value → World → Prop} (hg : o.guard = none) (hd : z6q o.dst N = true) (ho : o.op = .call { callee := .value (.func f), args := args.toArray, argTypes := types }) (hen : z0x P f)
 (hargs : ∀ a, AR N ds env a → args.toArray.map a.eval = vs) (hc : Calls P f vs w fun e w' => ∃ v, e = .returned v ∧ R v w') (h : ∀ v w', R v w' → XL P N ds ops rest (zvj o.dst v env) w' K) : XL P N ds ops (o :: rest) env w K := fun a ha => by
 refine wpList_plain hg (fun K' hK' => ?_)
 unfold Oper.wp
 have hrun : (execOp a.eval o).run P w = .ok (.enter f (args.toArray.map a.eval)) w := by
  simp only [execOp, ho]
  simp [resolve, Deferred.ofValue, invoke, Act.eval, z2j hen]
 rw [hrun, hargs a ha]
 simp only [Oper.upon_enter]
 refine Calls.mono hc ?_
 rintro e w' ⟨v, rfl, hR⟩
 exact hK' _ _ (h v w' hR _ (ha.put hd))
theorem zsv {x : Operand} {xt t : TypeId} {d : TypeDesc} {z v r : Value} {k b : Nat} (hd : P.underlying t = some d) (hn : z6m d = true) (hi : Inf P t z k b) (ho : o.op = .typeAssert x xt t true) (hx : vev env x = some v)
 (hr : (v = .nilIface ∧ r = .tuple #[z, .bool false]) ∨ (∃ u y, v = .iface u y ∧ ((u = t ∧ r = .tuple #[y, .bool true]) ∨ (u ≠ t ∧ r = .tuple #[z, .bool false])))) (a : Act) (ha : AR N ds env a) : (execOp a.eval o).run P w = .ok (.value r) w := by
 rcases hr with ⟨rfl, rfl⟩ | ⟨u, y, rfl, ⟨rfl, rfl⟩ | ⟨hne, rfl⟩⟩ <;> simp_all [execOp, ha.ev hx, zl2 hd hn hi]
theorem zay {x : Operand} {i : Nat} {us : Array Value} {v : Value} (ho : o.op = .extract x i) (hx : vev env x = some (.tuple us)) (hv : us[i]? = some v) (a : Act) (ha : AR N ds env a) : (execOp a.eval o).run P w = .ok (.value v) w := by
 simp [execOp, ho, ha.ev hx, Instr.extract, hv]
theorem zvh {x : Operand} {t : TypeId} {d : TypeDesc} {v : Value} (hd : P.underlying t = some d) (hi : (match d with | .interface _ => true | _ => false) = false) (ho : o.op = .makeInterface t x) (hx : vev env x = some v) (a : Act) (ha : AR N ds env a) : (execOp a.eval o).run P w = .ok (.value (.iface t v)) w := by
 simp only [execOp, ho, Instr.makeInterface, ha.ev hx]
 simp only [Sem.run_bind, z13 hd, Result.andThen_ok]
 cases d <;> first | rfl | cases hi
theorem zsw {x : Operand} {t : TypeId} {d : TypeDesc} {b off : Nat} {v : Value} (hd : P.underlying t = some d) (hs : zgm d = false) (ho : o.op = .load t x) (hx : vev env x = some (.pointer (some ⟨b, off, none⟩))) (hc : w.cell? ⟨b, off, none⟩ = some v) (a : Act) (ha : AR N ds env a) :
 (execOp a.eval o).run P w = .ok (.value v) w := by simp [execOp, ho, ha.ev hx, zc8 hd hs hc]
theorem zwq {t t2 : TypeId} {x y : Operand} {k : IntKind} {i j : Int} (ho : o.op = .binOp .add t x y t2) (hx : vev env x = some (.int k i)) (hy : vev env y = some (.int k j)) (a : Act) (ha : AR N ds env a) :
 (execOp a.eval o).run P w = .ok (.value (.int k (k.wrap (i + j)))) w := by simp [execOp, ho, ha.ev hx, ha.ev hy, eqGuard, binOp, Op.intArith]
theorem zkr {t t2 e : TypeId} {x : Operand} {p : Option Addr} (ht : P.underlying t = some (.pointer e)) (ho : o.op = .binOp .neq t x (.const (.pointer none)) t2) (hx : vev env x = some (.pointer p)) (a : Act) (ha : AR N ds env a) :
 (execOp a.eval o).run P w = .ok (.value (.bool (!p.isNone))) w := by
 have h2 := zou ht p w
 simp [execOp, ho, ha.ev hx, z5x, eqGuard, binOp, h2]
theorem zff {x : Operand} {b off : Nat} (ho : o.op = .nilCheck x) (hx : vev env x = some (.pointer (some ⟨b, off, none⟩))) (a : Act) (ha : AR N ds env a) : (execOp a.eval o).run P w = .ok (.value (.pointer (some ⟨b, off, none⟩))) w := by simp [execOp, ho, ha.ev hx]
theorem zsx {x : Operand} {t : TypeId} {fs : Array Field} {pl : List (Nat × Nat)} {i k s b off : Nat} (h : IsStruct P t fs pl) (hk : pl[i]? = some (k, s)) (ho : o.op = .fieldAddr t x i) (hx : vev env x = some (.pointer (some ⟨b, off, none⟩))) (a : Act) (ha : AR N ds env a) :
 (execOp a.eval o).run P w = .ok (.value (.pointer (some ⟨b, off + k, none⟩))) w := by simp [execOp, ho, ha.ev hx, z8f h hk]
theorem zkt {t : TypeId} {parts : List (Nat × Operand)} {fs : Array Field} {pl : List (Nat × Nat)} {z : Value} {k b : Nat} {c : Array Value} {vs : List (Nat × Value)} (hs : IsStruct P t fs pl) (hi : Inf P t z k b) (ho : o.op = .build t parts.toArray)
 (hv : ∀ a, AR N ds env a → parts.map (fun x => (x.1, a.eval x.2)) = vs) (hf : Instr.fill (fun i => pl[i]?) z.cells vs = some c) (a : Act) (ha : AR N ds env a) : (execOp a.eval o).run P w = .ok (.value (.agg c)) w := by
 have hpl := ze9 hs.ok w
 rw [hs.pl] at hpl
 have hplf : (fun i : Nat => pl.toArray[i]?) = (fun i : Nat => pl[i]?) := by funext i; simp
 have hv' := hv a ha
 simp only [execOp, ho, Instr.build, Sem.run_bind, hi.run_zero, Result.andThen_ok, z13 hs.und, hpl, List.map_toArray]
 rw [hplf, hv', hf]
 rfl
theorem z8z {t : TypeId} {x y : Operand} {z : Value} {k b_ b off : Nat} {v : Value} {c : Array Value} {e : TypeId} {zz : Nat × Nat} (hg : o.guard = none) (hd : z6q o.dst N = true) (hinf : Inf P t z k b_) (ho : o.op = .store t x y)
 (hx : vev env x = some (.pointer (some ⟨b, off, none⟩))) (hy : vev env y = some v) (h1 : ∀ u, u ∈ v.cells.toList → u.oneCell' = true) (hk : v.cells.size = k) (hb : w.heap[b]? = some (.cells c e zz)) (hl : off + k ≤ c.size) (hz : zz.2 ≤ zz.1 ∨ c.size ≤ zz.1)
 (hf : ∀ j u, v.cells.toList[j]? = some u → Fl e (off + j) u) (hS : S b ∨ w0.heap.size ≤ b) (h : ∀ w', Goes S w0 Fl w w' → XL P N ds ops rest (zvj o.dst undef env) w' K) : XL P N ds ops (o :: rest) env w K := by
 obtain ⟨w', h2, h3⟩ := zc7 (P := P) (Fl := Fl) (o := off) v.cells.toList 0 c w hb (by simp [hk]; omega) hz h1 (by simpa using hf)
 refine zwr hg hd (fun a ha => ?_) (h w' (h3 hS))
 simp only [execOp, ho, ha.ev hx, ha.ev hy, Instr.storeAt, Instr.sureAddr, storeVar, Sem.run_bind, Sem.run_pure, Result.andThen_ok, hinf.run_size]
 rw [if_neg (by simp [hk])]
 simp [h2]
theorem zmo {t e : TypeId} {x : Operand} {z u0 u1 : Value} {b : Nat} (ht : P.underlying t = some (.slice e)) (hi : Inf P e z 2 b) (hz : z.cells.size = 2) (ho : o.op = .buildSlice t 1 #[(0, x)]) (hx : vev env x = some (.agg #[u0, u1])) (a : Act) (ha : AR N ds env a) :
 (execOp a.eval o).run P w = .ok (.value (.slice (some ⟨w.heap.size, 0, none⟩) 1 1)) (w.alloc (.cells #[u0, u1] e)) := by
 have hc : (Value.agg #[u0, u1]).cells = #[u0, u1] := rfl
 have hf : Instr.fill (fun i => some (i * 2, 2)) ((Array.range 2).map fun i => z.cells[i % z.cells.size]!) [(0, .agg #[u0, u1])] = some #[u0, u1] := by
  have h0 : ((Array.range 2).map fun i => z.cells[i % z.cells.size]!) = #[z.cells[0 % z.cells.size]!, z.cells[1 % z.cells.size]!] := by
   refine Array.ext (by simp) fun i h2 h3 => ?_
   have h4 : i < 2 := by simpa using h3
   match i, h4 with
   | 0, _ => simp
   | 1, _ => simp
  rw [h0]
  simp [Instr.fill, hc, Array.zipIdx]
 simp only [execOp, ho, Instr.buildSlice, Sem.run_bind, z13 ht, Result.andThen_ok, hi.run_size]
 simp [hi.run_zero, ha.ev hx, newRow, hf]
end
end Aw
end Go.Proofs.Ythidgpcbnieleaa

