/- Aw: a call whose answer is an empty row with room of its own (slices.Grow of nothing). -/
import Derived.Test.YtiapdjdhaclmnaaAwK
namespace Go.Proofs.Ytiapdjdhaclmnaa
namespace Aw
open Go
set_option linter.unusedVariables false
set_option linter.unusedSimpArgs false
set_option maxRecDepth 4000
variable {P : Program} {H : List AEnt} {env : List (Nat × PV)} {n : Nat} {o : Oper}
def Zaf (P : Program) (f : FuncId) (e sz k : Nat) : Prop := ∀ w : World, Calls P f #[.slice none 0 0, .int .i64 (k : Nat)] w fun en w' => ∃ (c : Array Value) (w1 : World) (cap : Nat),
 en = .returned (.slice (some ⟨w.heap.size, 0, none⟩) 0 cap) ∧ w1.heap = w.heap ∧ w1.os = w.os ∧ w1.tape = w.tape ∧ w1.output = w.output ∧ c.size = cap * sz ∧ w' = w1.alloc (.cells c e)
theorem zzi {f : FuncId} {y : Operand} {types : Array TypeId} {e sz k : Nat} (hs : sz = P.cellsOf e) (ho : o.op = .call { callee := .value (.func f), args := #[.const (.slice none 0 0), y], argTypes := types }) (hen : z0y P f)
 (hy : ev env y = some (.v (.int .i64 (k : Nat)))) (hc : Zaf P f e sz k) : Op1 P o env H n (.sl (some H.length) e sz []) (H ++ [.arr e 0]) := by
 intro F g a w hr Kn Q hK
 unfold Oper.wp
 rw [ze8 (F := F) (g := g) (args := [.const (.slice none 0 0), y]) ho hen]
 simp only [Oper.upon_enter]
 have hargs : (List.toArray [Operand.const (.slice none 0 0), y]).map a.eval = #[.slice none 0 0, .int .i64 (k : Nat)] := by
  simp [hr.const hy, z9e]
 rw [hargs]
 refine Calls.mono (hc w) ?_
 rintro en w' ⟨c, w1, cap, rfl, e1, e2, e3, e4, h1, rfl⟩
 have hsz : w1.heap.size = w.heap.size := by rw [e1]
 have hsg : w.heap.size ≤ (w1.alloc (.cells c e)).heap.size := by simp [hsz]
 have ho : ∀ k, k < w.heap.size → (w1.alloc (.cells c e)).heap[k]? = w.heap[k]? := fun k hk => by rw [z32 (by rw [hsz]; exact hk), e1]
 have hnew : (w1.alloc (.cells c e)).heap[w.heap.size]? = some (.cells c e (0, 0)) := by rw [← hsz]; exact z4n
 have hn : ∀ b, some w.heap.size = some b → b = w.heap.size := fun b hb => by injection hb with hb; exact hb.symm
 have hle := z8t hr.rel (.arr e 0) (some w.heap.size) hn hsg ho
 have hrel := z5j hr.rel (.arr e 0) (some w.heap.size) hn hsg ho (.inr ⟨_, c, rfl, hnew, by omega⟩)
 have hgl := hr.rel.len
 refine hK _ _ (g ++ [some w.heap.size]) ?_ hrel (z5p hr.rel (.arr e 0) (some w.heap.size) hn hsg ho e2 e3 e4)
 refine vr_sl.2 ⟨_, cap, rfl, ⟨⟨Nat.zero_le _, Nat.zero_le _⟩, fun _ => .inr ⟨_, 0, c, _, 0, rfl, hr.rel.bs.1, hnew, by omega, .inl (Nat.le_refl _), by simp⟩⟩, fun j hj => ?_, fun i x hx => by simp at hx⟩
 injection hj with hj; subst hj
 refine ⟨by simp, fun e' k' he => ?_⟩
 simp at he
 obtain ⟨rfl, rfl⟩ := he
 refine ⟨Nat.le_refl _, fun _ => ⟨hs, .inr ⟨w.heap.size, c, by rw [← hgl]; simp, rfl, hnew, by rw [h1, hs]⟩⟩⟩
section
variable {N : Nat} {ds : List Deferred} {env : VE} {w w' : World}
theorem zeo {t ti e ty : TypeId} {i : TypeInfo} {z : Value} {ik : IntKind} (ht : P.underlying t = some (.slice e)) (hti : P.underlying ti = some (.int ik)) (hi : P.info? e = some i) (hz : i.zero = some z) (hs : 1 ≤ i.size) (n : Nat) (h1 : 1 ≤ n)
 (hb : n * i.bytes ≤ 281474976710656) (hn : n ≤ 9223372036854775807) (hfit : Builtin.nextslicecap n 0 * i.bytes ≤ 281474976710656) :
 (Builtin.append_ #[t, ti] ty #[.slice none 0 0, .int .i64 (n : Nat)]).run P w = .ok (.slice (some ⟨w.heap.size, 0, none⟩) n (grownCap w n 0 e)) (w.drew.alloc (.cells (Builtin.zeroCells z.cells n ++ Builtin.zeroCells z.cells (grownCap w n 0 e - n)) e)) := by
 have hw : IntKind.i64.wrap (n : Int) = n := z9t (by omega) (by omega)
 have h0 : ¬ ((n : Int) < 0) := by omega
 have h48 : ¬ (281474976710656 < (n : Int) * (i.bytes : Int)) := by
  have : ((n : Int) * (i.bytes : Int)) = ((n * i.bytes : Nat) : Int) := by rw [Int.natCast_mul]
  rw [this]; omega
 have h48' : ¬ (281474976710656 < Builtin.nextslicecap n 0 * i.bytes) := by omega
 have h63 : ¬ (9223372036854775807 < (n : Int)) := by omega
 have hne : ¬ (n = 0) := by omega
 have hse : ¬ (i.size = 0) := by omega
 have hnm : ¬ (n * i.size = 0) := fun hm => by rcases Nat.mul_eq_zero.1 hm with hm | hm <;> omega
 simp [Builtin.append_, z1u ht, z1u hti, Go.sizeOf, typeInfo, zeroValue, hi, hz, asInt, asIntOf, hw, h0, h48, h48', h63, hne, hse, Question.forced, Builtin.firstCells, newRow, grownCap]
 intro hm
 exact absurd hm hnm
theorem Z2e {x : Operand} {t e : TypeId} {A : Option Addr} {l c : Nat} (ht : P.underlying t = some (.slice e)) (ho : o.op = .call { callee := .builtin .cap, args := #[x], argTypes := #[t] }) (hx : vev env x = some (.slice A l c)) (a : Act) (ha : AR N ds env a) :
 (execOp a.eval o).run P w = .ok (.value (.int .i64 c)) w := by simp [execOp, ho, resolve, invoke, builtin, ha.ev hx, Builtin.cap_, z1u ht, goInt]
theorem Z2d {t t2 : TypeId} {x y : Operand} {i j : Int} (ho : o.op = .binOp .sub t x y t2) (hx : vev env x = some (.int .i64 i)) (hy : vev env y = some (.int .i64 j)) (h1 : -9223372036854775808 ≤ i - j ∧ i - j ≤ 9223372036854775807) (a : Act) (ha : AR N ds env a) :
 (execOp a.eval o).run P w = .ok (.value (.int .i64 (i - j))) w := by simp [execOp, ho, ha.ev hx, ha.ev hy, eqGuard, binOp, Op.intArith, z9t h1.1 h1.2]
theorem Z6o {t t2 : TypeId} {x y : Operand} {i j : Int} (ho : o.op = .binOp .gtr t x y t2) (hx : vev env x = some (.int .i64 i)) (hy : vev env y = some (.int .i64 j)) (a : Act) (ha : AR N ds env a) :
 (execOp a.eval o).run P w = .ok (.value (.bool (decide (j < i)))) w := by simp [execOp, ho, ha.ev hx, ha.ev hy, eqGuard, binOp, Op.intCmp]
theorem zsp {t e : TypeId} {x y : Operand} {z : Value} {sz b_ : Nat} {A : Option Addr} {l c : Nat} (ht : P.underlying t = some (.slice e)) (hi : Inf P e z sz b_) (hA : A.map (·.add (0 * sz)) = A) (ho : o.op = .slice t x none (some y) none) (hx : vev env x = some (.slice A l c)) (hy : vev env y = some (.int .i64 ((0 : Nat) : Int))) (a : Act) (ha : AR N ds env a) :
 (execOp a.eval o).run P w = .ok (.value (.slice A 0 c)) w := by
 have h := Z4q (P := P) (A := A) (len := l) (c := c) (lo := none) (hi := some (.i64, ((0 : Nat) : Int))) (l := 0) (h := 0) ht hi rfl rfl (by intro k i h; cases h) (by intro k i h; injection h with h; injection h with _ h; omega) (Nat.le_refl _) (Nat.zero_le _) w
 have h2 : (if c = 0 then A else A.map (·.add (0 * sz))) = A := by
  split
  ·rfl
  ·exact hA
 rw [h2] at h
 have h3 : (Instr.sliceAt t (.slice A l c) none (some (.int .i64 ((0 : Nat) : Int))) none).run P w = .ok (.slice A 0 c) w := h
 simp only [execOp, ho, ha.ev hx, Option.map_none, Option.map_some, ha.ev hy, Sem.run_bind, h3, Result.andThen_ok, Sem.run_pure]
theorem Z48 {t ti ty : TypeId} {x y : Operand} {v : Value} {A : Option Addr} {l c : Nat} (ho : o.op = .call { callee := .builtin .append, args := #[x, y], argTypes := #[t, ti] }) (ht : o.type = ty) (hx : vev env x = some (.slice A l c)) {j : Int} (hy : vev env y = some (.int .i64 j))
 (hrun : (Builtin.append_ #[t, ti] ty #[.slice A l c, .int .i64 j]).run P w = .ok v w') (a : Act) (ha : AR N ds env a) : (execOp a.eval o).run P w = .ok (.value v) w' := by
 subst ht
 simp [execOp, ho, resolve, invoke, builtin, ha.ev hx, ha.ev hy, hrun]
theorem zmp {f : FuncId} {fn : Func} {c : Code} {args : List Value} {w : World} {R : Ending → World → Prop} {M r : Nat} (hf : P.funcs[f]? = some fn) (hb : fn.body = some c) (hN : fn.ntmps = M) (hres : fn.results = #[.tmp r]) (hlen : Nat.ble args.length M = true)
 (h : XW P M [] c (args.zipIdx.map fun p => (p.2, p.1)) w (fun e env w' => match e with | .ret => ∃ v, zgc env r = some v ∧ R (.returned v) w' | _ => False)) : Calls P f args.toArray w R := by
 refine calls_of_wp hf hb ?_
 have hlen' := Nat.le_of_ble_eq_true hlen
 have hget : ∀ (l : List Value) (k t : Nat) (v : Value), zgc ((l.zipIdx k).map fun p => (p.2, p.1)) t = some v → k ≤ t ∧ l[t - k]? = some v := by
  intro l
  induction l with
  | nil => intro k t v hv; cases hv
  | cons x r ih =>
   intro k t v hv
   simp only [List.zipIdx_cons, List.map_cons, zgc] at hv
   cases hb : Nat.beq k t with
   | true =>
    rw [hb] at hv; simp at hv; subst hv
    have := beq_iff'.1 hb; subst this
    exact ⟨Nat.le_refl _, by simp⟩
   | false =>
    rw [hb] at hv
    obtain ⟨h1, h2⟩ := ih (k + 1) t v hv
    refine ⟨by omega, ?_⟩
    rw [show t - k = (t - (k + 1)) + 1 by omega]; simpa using h2
 have ha : AR M [] (args.zipIdx.map fun p => (p.2, p.1)) { tmps := args.toArray ++ Array.replicate (fn.ntmps - args.toArray.size) undef, defers := [] } := by
  refine ⟨fun t v hv => ?_, ?_, rfl⟩
  ·obtain ⟨_, h1⟩ := hget args 0 t v hv
   rw [Nat.sub_zero] at h1
   have hlt := z0p h1
   show (args.toArray ++ _)[t]? = some v
   rw [Array.getElem?_append_left (by simpa using hlt)]; simpa using h1
  ·show (args.toArray ++ _).size = M
   simp [hN]; omega
 refine wp_mono (h _ ha) ?_
 rintro e a' w' ⟨env', h1, h2⟩
 cases e <;> first
  | exact h2.elim
  | skip
 obtain ⟨v, h3, h4⟩ := h2
 have hr : (results fn a'.tmps).run P w' = .ok v w' := by
  rw [zbv (rs := [.tmp r]) hres]
  have h5 := h1.env r v h3
  simp [zgv, Array.getD_eq_getD_getElem?, h5]
 exact ⟨h1.ds, v, hr, h4⟩
end
end Aw
end Go.Proofs.Ytiapdjdhaclmnaa
