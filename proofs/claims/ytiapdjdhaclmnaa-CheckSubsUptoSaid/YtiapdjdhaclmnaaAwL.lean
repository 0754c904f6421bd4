/- Aw: writes that put into each cell what is of its kind. -/
import Derived.Test.YtiapdjdhaclmnaaAwK
namespace Go.Proofs.Ytiapdjdhaclmnaa
namespace Aw
open Go
set_option linter.unusedVariables false
set_option linter.unusedSimpArgs false
set_option maxRecDepth 4000
variable {P : Program} {N : Nat} {ds : List Deferred} {Fl : TypeId → Nat → Value → Prop} {S : Nat → Prop} {w0 w w' w'' : World}
def RR (Fl : TypeId → Nat → Value → Prop) (w w' : World) : Prop := ∀ (b : Nat) (c : Array Value) (e : TypeId) (z : Nat × Nat), w.heap[b]? = some (.cells c e z) →
 ∃ c', w'.heap[b]? = some (.cells c' e z) ∧ c'.size = c.size ∧ ∀ (i : Nat) (v : Value), c[i]? = some v → ∃ v', c'[i]? = some v' ∧ (v' = v ∨ Fl e i v')
theorem RR.refl : RR Fl w w := fun b c e z h => ⟨c, h, rfl, fun i v hv => ⟨v, hv, .inl rfl⟩⟩
theorem RR.trans (h : RR Fl w w') (k : RR Fl w' w'') : RR Fl w w'' := fun b c e z hb => by
 obtain ⟨c1, h1, h2, h3⟩ := h b c e z hb
 obtain ⟨c2, h4, h5, h6⟩ := k b c1 e z h1
 refine ⟨c2, h4, h5.trans h2, fun i v hv => ?_⟩
 obtain ⟨v1, h7, h8⟩ := h3 i v hv
 obtain ⟨v2, h9, h10⟩ := h6 i v1 h7
 refine ⟨v2, h9, ?_⟩
 rcases h10 with rfl | h10
 ·exact h8
 ·exact .inr h10
theorem RR.keeps (h : RR Fl w w') : Keeps w w' := fun b c t z hb => let ⟨c', h1, h2, _⟩ := h b c t z hb; ⟨c', h1, h2⟩
theorem RR.of (h : ∀ k, k < w.heap.size → w'.heap[k]? = w.heap[k]?) : RR Fl w w' := fun b c e z hb => ⟨c, by rw [h b (z1d hb)]; exact hb, rfl, fun i v hv => ⟨v, hv, .inl rfl⟩⟩
theorem RR.set {b o : Nat} {c : Array Value} {e : TypeId} {z : Nat × Nat} {v : Value} (hb : w.heap[b]? = some (.cells c e z)) (hf : Fl e o v) : RR Fl w (w.setCell ⟨b, o, none⟩ v) := by
 intro k c' e' z' hk
 by_cases hkb : k = b
 ·subst hkb
  rw [hb] at hk; injection hk with hk; injection hk with h1 h2 h3
  subst h1; subst h2; subst h3
  refine ⟨_, zjk hb, by simp, fun i u hu => ?_⟩
  by_cases hi : o = i
  ·subst hi
   exact ⟨v, by simp [z1d hu], .inr hf⟩
  ·exact ⟨u, by rw [Array.getElem?_setIfInBounds_ne hi]; exact hu, .inl rfl⟩
 ·exact ⟨c', by rw [Go.RowKit.Below.heap_setCell w ⟨b, o, none⟩ v k hkb]; exact hk, rfl, fun i u hu => ⟨u, hu, .inl rfl⟩⟩
structure Goes (S : Nat → Prop) (w0 : World) (Fl : TypeId → Nat → Value → Prop) (w w' : World) : Prop where
 wr : Wrs S w0 w → Wrs S w0 w'
 rr : RR Fl w w'
theorem Goes.refl : Goes S w0 Fl w w := ⟨fun h => h, .refl⟩
theorem Goes.trans (h : Goes S w0 Fl w w') (k : Goes S w0 Fl w' w'') : Goes S w0 Fl w w'' := ⟨fun x => k.wr (h.wr x), h.rr.trans k.rr⟩
theorem Goes.set {b o : Nat} {c : Array Value} {e : TypeId} {z : Nat × Nat} {v : Value} (hb : w.heap[b]? = some (.cells c e z)) (hS : S b ∨ w0.heap.size ≤ b) (hf : Fl e o v) : Goes S w0 Fl w (w.setCell ⟨b, o, none⟩ v) := ⟨fun h => h.set hS, .set hb hf⟩
theorem Goes.grow (h1 : w'.os = w.os) (h2 : w'.tape = w.tape) (h3 : w'.output = w.output) (hs : w.heap.size ≤ w'.heap.size) (ho : ∀ k, k < w.heap.size → w'.heap[k]? = w.heap[k]?) : Goes S w0 Fl w w' := ⟨fun h => h.grow h1 h2 h3 hs ho, .of ho⟩
theorem Goes.alloc {ob : Obj} : Goes S w0 Fl w (w.alloc ob) := .grow rfl rfl rfl (by simp) (fun k hk => z32 hk)
theorem zk3 {b o : Nat} {e : TypeId} {z : Nat × Nat} : ∀ (vs : List Value) (i : Nat) (c : Array Value) (w : World), w.heap[b]? = some (.cells c e z) → o + i + vs.length ≤ c.size → (z.2 ≤ z.1 ∨ c.size ≤ z.1) → (∀ v, v ∈ vs → v.oneCell' = true) →
 (∀ j v, vs[j]? = some v → Fl e (o + i + j) v) → ∃ w', (storeCells ⟨b, o, none⟩ vs i).run P w = .ok () w' ∧ ∀ {S : Nat → Prop} {w0 : World}, (S b ∨ w0.heap.size ≤ b) → Goes S w0 Fl w w'
 | [], i, c, w, _, _, _, _, _ => ⟨w, rfl, fun _ => .refl⟩
 | v :: r, i, c, w, hb, hl, hz, h1, hf => by
  simp only [List.length_cons] at hl
  have hs := Z4k (P := P) (w := w) (o := o + i) hb (by omega) hz (h1 v (by simp))
  obtain ⟨w', h2, h3⟩ := zk3 (o := o) r (i + 1) (c.setIfInBounds (o + i) v) (w.setCell ⟨b, o + i, none⟩ v) (zjk hb) (by simp; omega) (by simpa using hz) (fun x hx => h1 x (by simp [hx])) (fun j x hx => by
   have := hf (j + 1) x (by simpa using hx)
   rwa [show o + i + (j + 1) = o + (i + 1) + j by omega] at this)
  refine ⟨w', ?_, fun hS => ?_⟩
  ·simp only [storeCells, Sem.run_bind, z3u, hs, Result.andThen_ok, h2]
  ·exact (Goes.set hb hS (by simpa using hf 0 v rfl)).trans (h3 hS)
section
variable {env : VE} {o : Oper} {ops : Array Oper} {rest : List Oper} {K : Exit → VE → World → Prop}
theorem Z4a {f : FuncId} {args : List Operand} {types : Array TypeId} {vs : Array Value} {R : Value → World → Prop} (hg : o.guard = none) (hd : z5a o.dst N = true) (ho : o.op = .call { callee := .value (.func f), args := args.toArray, argTypes := types }) (hen : z0y P f)
 (hargs : ∀ a, AR N ds env a → args.toArray.map a.eval = vs) (hc : Calls P f vs w fun e w' => ∃ v, e = .returned v ∧ R v w') (h : ∀ v w', R v w' → XL P N ds ops rest (Z2g o.dst v env) w' K) : XL P N ds ops (o :: rest) env w K := fun a ha => by
 refine wpList_plain hg (fun K' hK' => ?_)
 unfold Oper.wp
 have hrun : (execOp a.eval o).run P w = .ok (.enter f (args.toArray.map a.eval)) w := by
  simp only [execOp, ho]
  simp [resolve, Deferred.ofValue, invoke, Act.eval, z4l hen]
 rw [hrun, hargs a ha]
 simp only [Oper.upon_enter]
 refine Calls.mono hc ?_
 rintro e w' ⟨v, rfl, hR⟩
 exact hK' _ _ (h v w' hR _ (ha.put hd))
theorem zeb {x : Operand} {t : TypeId} {d : TypeDesc} {b off : Nat} {v : Value} (hd : P.underlying t = some d) (hs : zmu d = false) (ho : o.op = .load t x) (hx : vev env x = some (.pointer (some ⟨b, off, none⟩))) (hc : w.cell? ⟨b, off, none⟩ = some v) (a : Act) (ha : AR N ds env a) :
 (execOp a.eval o).run P w = .ok (.value v) w := by simp [execOp, ho, ha.ev hx, zen hd hs hc]
theorem zdo {x : Operand} {t : TypeId} {fs : Array Field} {pl : List (Nat × Nat)} {i k s b off : Nat} (h : IsStruct P t fs pl) (hk : pl[i]? = some (k, s)) (ho : o.op = .fieldAddr t x i) (hx : vev env x = some (.pointer (some ⟨b, off, none⟩))) (a : Act) (ha : AR N ds env a) :
 (execOp a.eval o).run P w = .ok (.value (.pointer (some ⟨b, off + k, none⟩))) w := by simp [execOp, ho, ha.ev hx, z9u h hk]
theorem zp7 {t : TypeId} {parts : List (Nat × Operand)} {fs : Array Field} {pl : List (Nat × Nat)} {z : Value} {k b : Nat} {c : Array Value} {vs : List (Nat × Value)} (hs : IsStruct P t fs pl) (hi : Inf P t z k b) (ho : o.op = .build t parts.toArray)
 (hv : ∀ a, AR N ds env a → parts.map (fun x => (x.1, a.eval x.2)) = vs) (hf : Instr.fill (fun i => pl[i]?) z.cells vs = some c) (a : Act) (ha : AR N ds env a) : (execOp a.eval o).run P w = .ok (.value (.agg c)) w := by
 have hpl := zgt hs.ok w
 rw [hs.pl] at hpl
 have hplf : (fun i : Nat => pl.toArray[i]?) = (fun i : Nat => pl[i]?) := by funext i; simp
 have hv' := hv a ha
 simp only [execOp, ho, Instr.build, Sem.run_bind, hi.run_zero, Result.andThen_ok, z1u hs.und, hpl, List.map_toArray]
 rw [hplf, hv', hf]
 rfl
theorem zdu {t : TypeId} {x y : Operand} {z : Value} {k b_ b off : Nat} {v : Value} {c : Array Value} {e : TypeId} {zz : Nat × Nat} (hg : o.guard = none) (hd : z5a o.dst N = true) (hinf : Inf P t z k b_) (ho : o.op = .store t x y)
 (hx : vev env x = some (.pointer (some ⟨b, off, none⟩))) (hy : vev env y = some v) (h1 : ∀ u, u ∈ v.cells.toList → u.oneCell' = true) (hk : v.cells.size = k) (hb : w.heap[b]? = some (.cells c e zz)) (hl : off + k ≤ c.size) (hz : zz.2 ≤ zz.1 ∨ c.size ≤ zz.1)
 (hf : ∀ j u, v.cells.toList[j]? = some u → Fl e (off + j) u) (hS : S b ∨ w0.heap.size ≤ b) (h : ∀ w', Goes S w0 Fl w w' → XL P N ds ops rest (Z2g o.dst undef env) w' K) : XL P N ds ops (o :: rest) env w K := by
 obtain ⟨w', h2, h3⟩ := zk3 (P := P) (Fl := Fl) (o := off) v.cells.toList 0 c w hb (by simp [hk]; omega) hz h1 (by simpa using hf)
 refine Z49 hg hd (fun a ha => ?_) (h w' (h3 hS))
 simp only [execOp, ho, ha.ev hx, ha.ev hy, Instr.storeAt, Instr.sureAddr, storeVar, Sem.run_bind, Sem.run_pure, Result.andThen_ok, hinf.run_size]
 rw [if_neg (by simp [hk])]
 simp [h2]
end
end Aw
end Go.Proofs.Ytiapdjdhaclmnaa
