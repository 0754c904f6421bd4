/- Aw: writes that put into each cell what is of its kind. -/
import Derived.Test.YthfdpaboekoncaaAwK
namespace Go.Proofs.Ythfdpaboekoncaa
namespace Aw
open Go
set_option linter.unusedVariables false
set_option linter.unusedSimpArgs false
set_option maxRecDepth 4000
variable {P : Program} {N : Nat} {ds : List Deferred} {Fl : TypeId → Nat → Value → Prop} {S : Nat → Prop} {w0 w w' w'' : World}
def RR (Fl : TypeId → Nat → Value → Prop) (w w' : World) : Prop := ∀ (b : Nat) (c : Array Value) (e : TypeId) (z : Nat × Nat), w.heap[b]? = some (.cells c e z) →
  ∃ c', w'.heap[b]? = some (.cells c' e z) ∧ c'.size = c.size ∧ ∀ (i : Nat) (v : Value), c[i]? = some v → ∃ v', c'[i]? = some v' ∧ (v' = v ∨ Fl e i v')
theorem RR.refl : RR Fl w w := fun b c e z h => ⟨c, h, rfl, fun i v hv => ⟨v, hv, .inl rfl⟩⟩
theorem RR.trans (h : RR Fl w w') (k : RR Fl w' w'') : RR Fl w w'' := fun b c e z hb => by
  obtain ⟨c1, h1, h2, h3⟩ := h b c e z hb
  obtain ⟨c2, h4, h5, h6⟩ := k b c1 e z h1
  refine ⟨c2, h4, h5.trans h2, fun i v hv => ?_⟩
  obtain ⟨v1, h7, h8⟩ := h3 i v hv
  obtain ⟨v2, h9, h10⟩ := h6 i v1 h7
  refine ⟨v2, h9, ?_⟩
  rcases h10 with rfl | h10
  · exact h8
  · exact .inr h10
theorem RR.keeps (h : RR Fl w w') : Keeps w w' := fun b c t z hb => let ⟨c', h1, h2, _⟩ := h b c t z hb; ⟨c', h1, h2⟩
theorem RR.of (h : ∀ k, k < w.heap.size → w'.heap[k]? = w.heap[k]?) : RR Fl w w' := fun b c e z hb => ⟨c, by rw [h b (lt_of_get hb)]; exact hb, rfl, fun i v hv => ⟨v, hv, .inl rfl⟩⟩
theorem RR.set {b o : Nat} {c : Array Value} {e : TypeId} {z : Nat × Nat} {v : Value} (hb : w.heap[b]? = some (.cells c e z)) (hf : Fl e o v) : RR Fl w (w.setCell ⟨b, o, none⟩ v) := by
  intro k c' e' z' hk
  by_cases hkb : k = b
  · subst hkb
    rw [hb] at hk; injection hk with hk; injection hk with h1 h2 h3
    subst h1; subst h2; subst h3
    refine ⟨_, heap_set hb, by simp, fun i u hu => ?_⟩
    by_cases hi : o = i
    · subst hi
      exact ⟨v, by simp [lt_of_get hu], .inr hf⟩
    · exact ⟨u, by rw [Array.getElem?_setIfInBounds_ne hi]; exact hu, .inl rfl⟩
  · exact ⟨c', by rw [Go.RowKit.Below.heap_setCell w ⟨b, o, none⟩ v k hkb]; exact hk, rfl, fun i u hu => ⟨u, hu, .inl rfl⟩⟩
structure Goes (S : Nat → Prop) (w0 : World) (Fl : TypeId → Nat → Value → Prop) (w w' : World) : Prop where
  wr : Wrs S w0 w → Wrs S w0 w'
  rr : RR Fl w w'
theorem Goes.refl : Goes S w0 Fl w w := ⟨fun h => h, .refl⟩
theorem Goes.trans (h : Goes S w0 Fl w w') (k : Goes S w0 Fl w' w'') : Goes S w0 Fl w w'' := ⟨fun x => k.wr (h.wr x), h.rr.trans k.rr⟩
theorem Goes.set {b o : Nat} {c : Array Value} {e : TypeId} {z : Nat × Nat} {v : Value} (hb : w.heap[b]? = some (.cells c e z)) (hS : S b ∨ w0.heap.size ≤ b) (hf : Fl e o v) : Goes S w0 Fl w (w.setCell ⟨b, o, none⟩ v) := ⟨fun h => h.set hS, .set hb hf⟩
theorem Goes.grow (h1 : w'.os = w.os) (h2 : w'.tape = w.tape) (h3 : w'.output = w.output) (hs : w.heap.size ≤ w'.heap.size) (ho : ∀ k, k < w.heap.size → w'.heap[k]? = w.heap[k]?) : Goes S w0 Fl w w' := ⟨fun h => h.grow h1 h2 h3 hs ho, .of ho⟩
theorem Goes.alloc {ob : Obj} : Goes S w0 Fl w (w.alloc ob) := .grow rfl rfl rfl (by simp) (fun k hk => alloc_old hk)
theorem run_setsR {b o : Nat} {e : TypeId} {z : Nat × Nat} : ∀ (vs : List Value) (i : Nat) (c : Array Value) (w : World), w.heap[b]? = some (.cells c e z) → o + i + vs.length ≤ c.size → (z.2 ≤ z.1 ∨ c.size ≤ z.1) → (∀ v, v ∈ vs → v.oneCell' = true) →
    (∀ j v, vs[j]? = some v → Fl e (o + i + j) v) → ∃ w', (storeCells ⟨b, o, none⟩ vs i).run P w = .ok () w' ∧ ∀ {S : Nat → Prop} {w0 : World}, (S b ∨ w0.heap.size ≤ b) → Goes S w0 Fl w w'
  | [], i, c, w, _, _, _, _, _ => ⟨w, rfl, fun _ => .refl⟩
  | v :: r, i, c, w, hb, hl, hz, h1, hf => by
    simp only [List.length_cons] at hl
    have hs := run_set (P := P) (w := w) (o := o + i) hb (by omega) hz (h1 v (by simp))
    obtain ⟨w', h2, h3⟩ := run_setsR (o := o) r (i + 1) (c.setIfInBounds (o + i) v) (w.setCell ⟨b, o + i, none⟩ v) (heap_set hb) (by simp; omega) (by simpa using hz) (fun x hx => h1 x (by simp [hx])) (fun j x hx => by
      have := hf (j + 1) x (by simpa using hx)
      rwa [show o + i + (j + 1) = o + (i + 1) + j by omega] at this)
    refine ⟨w', ?_, fun hS => ?_⟩
    · simp only [storeCells, Sem.run_bind, addr_add, hs, Result.andThen_ok, h2]
    · exact (Goes.set hb hS (by simpa using hf 0 v rfl)).trans (h3 hS)
theorem run_appR {t tx e ty : TypeId} {sz b_ l c n : Nat} {zv : Value} {A : Option Addr} {x : Value} {news : List Value} (hn0 : w0.heap.size ≤ w.heap.size) (ht : P.underlying t = some (.slice e)) (hi : Inf P e zv sz b_) (hz : zv.cells.size = sz)
    (hl : l ≤ c) (hr : Room S w0.heap.size w A e sz (c * sz)) (hs : Src P sz tx x n news w) (hb : (l + n) * b_ ≤ 140737488355328) (hl2 : l + n ≤ 9223372036854775807) (hf : ∀ q j v, news[j]? = some v → Fl e (q * sz + j) v) :
    ∃ A' c' w', (Builtin.append_ #[t, tx] ty #[.slice A l c, x]).run P w = .ok (.slice A' (l + n) c') w' ∧ l + n ≤ c' ∧ Goes S w0 Fl w w' ∧ Room S w0.heap.size w' A' e sz (c' * sz) := by
  obtain ⟨inf, hinf, hzz, hss, hbb⟩ := hi.spec
  subst hss
  by_cases hroom : l + n ≤ c
  · have hln : l * inf.size + news.length ≤ c * inf.size := by rw [hs.newsLen, ← Nat.add_mul]; exact Nat.mul_le_mul_right _ hroom
    rcases hr with ⟨rfl, h0⟩ | ⟨b, off, cells, z, q, rfl, hS, hblk, hsz, hfz, hal⟩
    · refine ⟨none, c, w, ?_, hroom, .refl, .inl ⟨rfl, h0⟩⟩
      rcases hs.kind with ⟨e', hk⟩ | hk <;> simp [Builtin.append_, run_und ht, run_und hk, Go.sizeOf, typeInfo, hinf, hs.len, hroom, hs.cells]
    · obtain ⟨w', h1, h2⟩ := run_setsR (P := P) (Fl := Fl) (o := off + l * inf.size) news 0 cells w hblk (by omega) hfz hs.one (fun j v hj => by
        have := hf (q + l) j v hj
        rwa [show off + l * inf.size + 0 + j = (q + l) * inf.size + j by rw [hal, Nat.add_mul]; omega])
      have h3 := h2 hS
      refine ⟨some ⟨b, off, none⟩, c, w', ?_, hroom, h3, Room.keeps (.inr ⟨b, off, cells, z, q, rfl, hS, hblk, hsz, hfz, hal⟩) h3.rr.keeps⟩
      rcases hs.kind with ⟨e', hk⟩ | hk <;> simp [Builtin.append_, run_und ht, run_und hk, Go.sizeOf, typeInfo, hinf, hs.len, hroom, hs.cells, addr_add, h1]
  · have hold : ∃ olds : List Value, olds.length = l * inf.size ∧ (Builtin.firstCells inf.size l (.slice A l c)).run P w.drew = .ok olds.toArray w.drew := by
      rcases hr with ⟨rfl, h0⟩ | ⟨b, off, cells, z, q, rfl, hS, hblk, hsz, hfz, hal⟩
      · refine ⟨[], ?_, by simp [Builtin.firstCells]⟩
        have : l * inf.size ≤ c * inf.size := Nat.mul_le_mul_right _ hl
        simp only [List.length_nil]; omega
      · have hle : l * inf.size ≤ c * inf.size := Nat.mul_le_mul_right _ hl
        refine ⟨(cells.toList.drop off).take (l * inf.size), by simp; omega, run_firstCells_some w.drew inf.size l ⟨b, off, none⟩ l c _ (by simp; omega) (fun j v hj => ?_)⟩
        rw [addr_add, World.cell?_drew, cell_row hblk]
        rw [List.getElem?_take] at hj
        split at hj
        · simpa [List.getElem?_drop] using hj
        · cases hj
    obtain ⟨olds, ho1, ho2⟩ := hold
    have hrun := run_append_grow_src (P := P) w t tx ty e inf zv ht hinf hzz A l c olds ho2 x n news hs (by omega) (by omega) (growslice_fits (by omega) (by rw [hbb]; exact hb))
    have hge := grownCap_ge w (l + n) c e
    have hzc : (Builtin.zeroCells zv.cells (grownCap w (l + n) c e - (l + n))).size = (grownCap w (l + n) c e - (l + n)) * inf.size := by rw [size_zeroCells, hz]
    have ho : ∀ ob k, k < w.heap.size → (w.drew.alloc ob).heap[k]? = w.heap[k]? := fun ob k hk => by rw [alloc_old (by exact hk)]; rfl
    refine ⟨_, _, _, hrun, hge, .grow rfl rfl rfl (by simp) (ho _), .inr ⟨w.heap.size, 0, _, (0, 0), 0, rfl, .inr hn0, alloc_new (w := w.drew), ?_, .inl (Nat.le_refl _), by simp⟩⟩
    simp only [Array.size_append, List.size_toArray, List.length_append, hs.newsLen, ho1, hzc, ← Nat.add_mul]
    rw [Nat.zero_add]; exact Nat.mul_le_mul_right _ (by omega)
section
variable {env : VE} {o : Oper} {ops : Array Oper} {rest : List Oper} {K : Exit → VE → World → Prop}
theorem xl_call {f : FuncId} {args : List Operand} {types : Array TypeId} {vs : Array Value} {R : Value → World → Prop} (hg : o.guard = none) (hd : dstOk o.dst N = true) (ho : o.op = .call { callee := .value (.func f), args := args.toArray, argTypes := types }) (hen : Enters P f)
    (hargs : ∀ a, AR N ds env a → args.toArray.map a.eval = vs) (hc : Calls P f vs w fun e w' => ∃ v, e = .returned v ∧ R v w') (h : ∀ v w', R v w' → XL P N ds ops rest (vput o.dst v env) w' K) : XL P N ds ops (o :: rest) env w K := fun a ha => by
  refine wpList_plain hg (fun K' hK' => ?_)
  unfold Oper.wp
  have hrun : (execOp a.eval o).run P w = .ok (.enter f (args.toArray.map a.eval)) w := by
    simp only [execOp, ho]
    simp [resolve, Deferred.ofValue, invoke, Act.eval, run_callFunc hen]
  rw [hrun, hargs a ha]
  simp only [Oper.upon_enter]
  refine Calls.mono hc ?_
  rintro e w' ⟨v, rfl, hR⟩
  exact hK' _ _ (h v w' hR _ (ha.put hd))
theorem xr_ta {x : Operand} {xt t : TypeId} {d : TypeDesc} {z v r : Value} {k b : Nat} (hd : P.underlying t = some d) (hn : notIface d = true) (hi : Inf P t z k b) (ho : o.op = .typeAssert x xt t true) (hx : vev env x = some v)
    (hr : (v = .nilIface ∧ r = .tuple #[z, .bool false]) ∨ (∃ u y, v = .iface u y ∧ ((u = t ∧ r = .tuple #[y, .bool true]) ∨ (u ≠ t ∧ r = .tuple #[z, .bool false])))) (a : Act) (ha : AR N ds env a) : (execOp a.eval o).run P w = .ok (.value r) w := by
  rcases hr with ⟨rfl, rfl⟩ | ⟨u, y, rfl, ⟨rfl, rfl⟩ | ⟨hne, rfl⟩⟩ <;> simp_all [execOp, ha.ev hx, run_ta hd hn hi]
theorem xr_ext {x : Operand} {i : Nat} {us : Array Value} {v : Value} (ho : o.op = .extract x i) (hx : vev env x = some (.tuple us)) (hv : us[i]? = some v) (a : Act) (ha : AR N ds env a) : (execOp a.eval o).run P w = .ok (.value v) w := by
  simp [execOp, ho, ha.ev hx, Instr.extract, hv]
theorem xr_mkI {x : Operand} {t : TypeId} {d : TypeDesc} {v : Value} (hd : P.underlying t = some d) (hi : (match d with | .interface _ => true | _ => false) = false) (ho : o.op = .makeInterface t x) (hx : vev env x = some v) (a : Act) (ha : AR N ds env a) : (execOp a.eval o).run P w = .ok (.value (.iface t v)) w := by
  simp only [execOp, ho, Instr.makeInterface, ha.ev hx]
  simp only [Sem.run_bind, run_und hd, Result.andThen_ok]
  cases d <;> first | rfl | cases hi
theorem xr_ld {x : Operand} {t : TypeId} {d : TypeDesc} {b off : Nat} {v : Value} (hd : P.underlying t = some d) (hs : aggD d = false) (ho : o.op = .load t x) (hx : vev env x = some (.pointer (some ⟨b, off, none⟩))) (hc : w.cell? ⟨b, off, none⟩ = some v) (a : Act) (ha : AR N ds env a) :
    (execOp a.eval o).run P w = .ok (.value v) w := by simp [execOp, ho, ha.ev hx, run_load1 hd hs hc]
theorem xr_addW {t t2 : TypeId} {x y : Operand} {k : IntKind} {i j : Int} (ho : o.op = .binOp .add t x y t2) (hx : vev env x = some (.int k i)) (hy : vev env y = some (.int k j)) (a : Act) (ha : AR N ds env a) :
    (execOp a.eval o).run P w = .ok (.value (.int k (k.wrap (i + j)))) w := by simp [execOp, ho, ha.ev hx, ha.ev hy, eqGuard, binOp, Op.intArith]
theorem xr_neNil {t t2 e : TypeId} {x : Operand} {p : Option Addr} (ht : P.underlying t = some (.pointer e)) (ho : o.op = .binOp .neq t x (.const (.pointer none)) t2) (hx : vev env x = some (.pointer p)) (a : Act) (ha : AR N ds env a) :
    (execOp a.eval o).run P w = .ok (.value (.bool (!p.isNone))) w := by
  have h2 := run_eqP ht p w
  simp [execOp, ho, ha.ev hx, eval_const, eqGuard, binOp, h2]
theorem xr_nilck {x : Operand} {b off : Nat} (ho : o.op = .nilCheck x) (hx : vev env x = some (.pointer (some ⟨b, off, none⟩))) (a : Act) (ha : AR N ds env a) : (execOp a.eval o).run P w = .ok (.value (.pointer (some ⟨b, off, none⟩))) w := by simp [execOp, ho, ha.ev hx]
theorem xr_fa {x : Operand} {t : TypeId} {fs : Array Field} {pl : List (Nat × Nat)} {i k s b off : Nat} (h : IsStruct P t fs pl) (hk : pl[i]? = some (k, s)) (ho : o.op = .fieldAddr t x i) (hx : vev env x = some (.pointer (some ⟨b, off, none⟩))) (a : Act) (ha : AR N ds env a) :
    (execOp a.eval o).run P w = .ok (.value (.pointer (some ⟨b, off + k, none⟩))) w := by simp [execOp, ho, ha.ev hx, run_fieldAt h hk]
theorem xr_build {t : TypeId} {parts : List (Nat × Operand)} {fs : Array Field} {pl : List (Nat × Nat)} {z : Value} {k b : Nat} {c : Array Value} {vs : List (Nat × Value)} (hs : IsStruct P t fs pl) (hi : Inf P t z k b) (ho : o.op = .build t parts.toArray)
    (hv : ∀ a, AR N ds env a → parts.map (fun x => (x.1, a.eval x.2)) = vs) (hf : Instr.fill (fun i => pl[i]?) z.cells vs = some c) (a : Act) (ha : AR N ds env a) : (execOp a.eval o).run P w = .ok (.value (.agg c)) w := by
  have hpl := run_places hs.ok w
  rw [hs.pl] at hpl
  have hplf : (fun i : Nat => pl.toArray[i]?) = (fun i : Nat => pl[i]?) := by funext i; simp
  have hv' := hv a ha
  simp only [execOp, ho, Instr.build, Sem.run_bind, hi.run_zero, Result.andThen_ok, run_und hs.und, hpl, List.map_toArray]
  rw [hplf, hv', hf]
  rfl
theorem xl_store {t : TypeId} {x y : Operand} {z : Value} {k b_ b off : Nat} {v : Value} {c : Array Value} {e : TypeId} {zz : Nat × Nat} (hg : o.guard = none) (hd : dstOk o.dst N = true) (hinf : Inf P t z k b_) (ho : o.op = .store t x y)
    (hx : vev env x = some (.pointer (some ⟨b, off, none⟩))) (hy : vev env y = some v) (h1 : ∀ u, u ∈ v.cells.toList → u.oneCell' = true) (hk : v.cells.size = k) (hb : w.heap[b]? = some (.cells c e zz)) (hl : off + k ≤ c.size) (hz : zz.2 ≤ zz.1 ∨ c.size ≤ zz.1)
    (hf : ∀ j u, v.cells.toList[j]? = some u → Fl e (off + j) u) (hS : S b ∨ w0.heap.size ≤ b) (h : ∀ w', Goes S w0 Fl w w' → XL P N ds ops rest (vput o.dst undef env) w' K) : XL P N ds ops (o :: rest) env w K := by
  obtain ⟨w', h2, h3⟩ := run_setsR (P := P) (Fl := Fl) (o := off) v.cells.toList 0 c w hb (by simp [hk]; omega) hz h1 (by simpa using hf)
  refine xl_skip hg hd (fun a ha => ?_) (h w' (h3 hS))
  simp only [execOp, ho, ha.ev hx, ha.ev hy, Instr.storeAt, Instr.sureAddr, storeVar, Sem.run_bind, Sem.run_pure, Result.andThen_ok, hinf.run_size]
  rw [if_neg (by simp [hk])]
  simp [h2]
theorem xr_bslice2 {t e : TypeId} {x : Operand} {z u0 u1 : Value} {b : Nat} (ht : P.underlying t = some (.slice e)) (hi : Inf P e z 2 b) (hz : z.cells.size = 2) (ho : o.op = .buildSlice t 1 #[(0, x)]) (hx : vev env x = some (.agg #[u0, u1])) (a : Act) (ha : AR N ds env a) :
    (execOp a.eval o).run P w = .ok (.value (.slice (some ⟨w.heap.size, 0, none⟩) 1 1)) (w.alloc (.cells #[u0, u1] e)) := by
  have hc : (Value.agg #[u0, u1]).cells = #[u0, u1] := rfl
  have hf : Instr.fill (fun i => some (i * 2, 2)) ((Array.range 2).map fun i => z.cells[i % z.cells.size]!) [(0, .agg #[u0, u1])] = some #[u0, u1] := by
    have h0 : ((Array.range 2).map fun i => z.cells[i % z.cells.size]!) = #[z.cells[0 % z.cells.size]!, z.cells[1 % z.cells.size]!] := by
      refine Array.ext (by simp) fun i h2 h3 => ?_
      have h4 : i < 2 := by simpa using h3
      match i, h4 with
      | 0, _ => simp
      | 1, _ => simp
    rw [h0]
    simp [Instr.fill, hc, Array.zipIdx]
  simp only [execOp, ho, Instr.buildSlice, Sem.run_bind, run_und ht, Result.andThen_ok, hi.run_size]
  simp [hi.run_zero, ha.ev hx, newRow, hf]
end
end Aw
end Go.Proofs.Ythfdpaboekoncaa
