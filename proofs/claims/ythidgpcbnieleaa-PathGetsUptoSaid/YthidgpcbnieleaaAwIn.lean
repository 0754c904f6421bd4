/- Aw: raw operations on a row's block: parts, append and clear in place. -/
import Derived.Test.YthidgpcbnieleaaAwJ
import Derived.Test.YthidgpcbnieleaaAwB
namespace Go.Proofs.Ythidgpcbnieleaa.Aw
open Go
set_option linter.unusedVariables false
set_option linter.unusedSimpArgs false
set_option maxRecDepth 4000
variable {P : Program} {N : Nat} {ds : List Deferred}
section
variable {env : VE} {w w' : World} {o : Oper}
theorem zbx {op : BinOp} {t t2 : TypeId} {x y : Operand} {i j : Int} {r : Bool} (ho : o.op = .binOp op t x y t2) (hx : vev env x = some (.int .i64 i)) (hy : vev env y = some (.int .i64 j)) (hop : Z2r op i j = some r) (a : Act) (ha : AR N ds env a) :
 (execOp a.eval o).run P w = .ok (.value (.bool r)) w := by
 cases op <;> simp only [Z2r] at hop <;> cases hop <;> simp [execOp, ho, ha.ev hx, ha.ev hy, eqGuard, binOp, Op.intCmp]
variable {t e : TypeId} {x y z : Operand} {A : Option Addr} {len cap l h sz by_ : Nat} {zv : Value}
def z9g (A : Option Addr) (l cap sz : Nat) : Option Addr := if cap = l then A else A.map (·.add (l * sz))
theorem z84 (ht : P.underlying t = some (.slice e)) (hi : Inf P e zv sz by_) (ho : o.op = .slice t x (some y) none none) (hx : vev env x = some (.slice A len cap)) (hy : vev env y = some (.int .i64 (l : Nat))) (h1 : l ≤ len) (a : Act) (ha : AR N ds env a) :
 (execOp a.eval o).run P w = .ok (.value (.slice (z9g A l cap sz) (len - l) (cap - l))) w := by
 have h1' : (l : Int) ≤ len := by omega
 simp only [execOp, ho, ha.ev hx, Option.map_some, Option.map_none, ha.ev hy]
 simp [Instr.sliceAt, Instr.slice, Sem.run_bind, z13 ht, Instr.sliceBounds, Instr.sliceBound, asIntOf, h1', h1, hi.run_size, z9g]
theorem zkq (ht : P.underlying t = some (.slice e)) (hi : Inf P e zv sz by_) (ho : o.op = .slice t x none (some z) none) (hx : vev env x = some (.slice A len cap)) (hz : vev env z = some (.int .i64 (h : Nat))) (h1 : h ≤ cap) (a : Act) (ha : AR N ds env a) :
 (execOp a.eval o).run P w = .ok (.value (.slice A h cap)) w := by
 have h1' : (h : Int) ≤ cap := by omega
 have e : (if cap = 0 then A else A.map (·.add (0 * sz))) = A := by
  split
  ·rfl
  ·cases A <;> simp [Addr.add]
 simp only [execOp, ho, ha.ev hx, Option.map_some, Option.map_none, ha.ev hz]
 simp [Instr.sliceAt, Instr.slice, Sem.run_bind, z13 ht, Instr.sliceBounds, Instr.sliceBound, asIntOf, h1', h1, hi.run_size]
 intro _; cases A <;> simp [Addr.add]
theorem zvf (ht : P.underlying t = some (.slice e)) (hi : Inf P e zv sz by_) (ho : o.op = .slice t x (some y) (some z) none) (hx : vev env x = some (.slice A len cap)) (hy : vev env y = some (.int .i64 (l : Nat))) (hz : vev env z = some (.int .i64 (h : Nat))) (h1 : l ≤ h) (h2 : h ≤ cap) (a : Act) (ha : AR N ds env a) :
 (execOp a.eval o).run P w = .ok (.value (.slice (z9g A l cap sz) (h - l) (cap - l))) w := by
 have h1' : (l : Int) ≤ h := by omega
 have h2' : (h : Int) ≤ cap := by omega
 simp only [execOp, ho, ha.ev hx, Option.map_some, Option.map_none, ha.ev hy, ha.ev hz]
 simp [Instr.sliceAt, Instr.slice, Sem.run_bind, z13 ht, Instr.sliceBounds, Instr.sliceBound, asIntOf, h1', h1, h2', h2, hi.run_size, z9g]
theorem zvg {m : Nat} {zm : Operand} (ht : P.underlying t = some (.slice e)) (hi : Inf P e zv sz by_) (ho : o.op = .slice t x (some y) (some z) (some zm)) (hx : vev env x = some (.slice A len cap)) (hy : vev env y = some (.int .i64 (l : Nat))) (hz : vev env z = some (.int .i64 (h : Nat))) (hm : vev env zm = some (.int .i64 (m : Nat))) (h1 : l ≤ h) (h2 : h ≤ m) (h3 : m ≤ cap) (a : Act) (ha : AR N ds env a) :
 (execOp a.eval o).run P w = .ok (.value (.slice (z9g A l m sz) (h - l) (m - l))) w := by
 have h1' : (l : Int) ≤ h := by omega
 have h2' : (h : Int) ≤ m := by omega
 have h3' : (m : Int) ≤ cap := by omega
 simp only [execOp, ho, ha.ev hx, Option.map_some, Option.map_none, ha.ev hy, ha.ev hz, ha.ev hm]
 simp [Instr.sliceAt, Instr.slice, Sem.run_bind, z13 ht, Instr.sliceBounds, Instr.sliceBound, asIntOf, h1', h1, h2', h2, h3', h3, hi.run_size, z9g]
end
theorem z34 {b l cap sz : Nat} (h : cap ≠ l) : z9g (some ⟨b, 0, none⟩) l cap sz = some ⟨b, l * sz, none⟩ := by rw [z9g, if_neg h]; simp only [Option.map_some, z1m, Nat.zero_add]
theorem z94 {b o : Nat} {t : TypeId} {z : Nat × Nat} : ∀ (vs : List Value) (i : Nat) (c : Array Value) (w : World), w.heap[b]? = some (.cells c t z) → o + i + vs.length ≤ c.size → (z.2 ≤ z.1 ∨ c.size ≤ z.1) → (∀ v, v ∈ vs → v.oneCell' = true) →
 ∃ w' c', (storeCells ⟨b, o, none⟩ vs i).run P w = .ok () w' ∧ w'.heap[b]? = some (.cells c' t z) ∧ c'.size = c.size ∧ (∀ k, c'[k]? = if o + i ≤ k ∧ k < o + i + vs.length then vs[k - (o + i)]? else c[k]?) ∧ Wrs (fun k => k = b) w w'
 | [], i, c, w, hb, _, _, _ => ⟨w, c, rfl, hb, rfl, fun k => by rw [if_neg (by simp only [List.length_nil]; omega)], .refl⟩
 | v :: r, i, c, w, hb, hl, hz, h1 => by
  simp only [List.length_cons] at hl
  have hs := zot (P := P) (w := w) (o := o + i) hb (by omega) hz (h1 v (by simp))
  obtain ⟨w', c', h2, h3, h4, h5, h6⟩ := z94 (o := o) r (i + 1) (c.setIfInBounds (o + i) v) (w.setCell ⟨b, o + i, none⟩ v) (zbs hb) (by simp; omega) (by simpa using hz) (fun x hx => h1 x (by simp [hx]))
  refine ⟨w', c', ?_, h3, by rw [h4]; simp, fun k => ?_, ?_⟩
  ·simp only [storeCells, Sem.run_bind, z1m, hs, Result.andThen_ok, h2]
  ·rw [h5 k]
   by_cases hk : o + (i + 1) ≤ k ∧ k < o + (i + 1) + r.length
   ·rw [if_pos hk, if_pos (by simp only [List.length_cons]; omega), show k - (o + i) = (k - (o + (i + 1))) + 1 from by omega, List.getElem?_cons_succ]
   ·rw [if_neg hk]
    by_cases hk2 : k = o + i
    ·subst hk2
     rw [if_pos (by simp only [List.length_cons]; omega), Nat.sub_self, List.getElem?_cons_zero, Array.getElem?_setIfInBounds_self_of_lt (by omega)]
    ·rw [if_neg (by simp only [List.length_cons]; omega), Array.getElem?_setIfInBounds_ne (by omega)]
  ·exact ⟨h6.os, h6.tape, h6.output, by have := h6.size; simpa [World.setCell] using this, fun k hk hn => (h6.keep k (by simpa [World.setCell] using hk) hn).trans (Go.RowKit.Below.heap_setCell w ⟨b, o + i, none⟩ v k hn), keeps_set.trans h6.kp⟩
theorem zc9 {w : World} {t tx e ty : TypeId} {sz b_ l c n b : Nat} {zv : Value} {C : Array Value} {x : Value} {news : List Value} (ht : P.underlying t = some (.slice e)) (hi : Inf P e zv sz b_) (hb : w.heap[b]? = some (.cells C e (0, 0))) (hC : c * sz ≤ C.size) (hs : Src P sz tx x n news w) (hc : l + n ≤ c) :
 ∃ w' C', (Builtin.append_ #[t, tx] ty #[.slice (some ⟨b, 0, none⟩) l c, x]).run P w = .ok (.slice (some ⟨b, 0, none⟩) (l + n) c) w' ∧ w'.heap[b]? = some (.cells C' e (0, 0)) ∧ C'.size = C.size ∧ (∀ k, C'[k]? = if l * sz ≤ k ∧ k < l * sz + n * sz then news[k - l * sz]? else C[k]?) ∧ Wrs (fun k => k = b) w w' := by
 obtain ⟨inf, hinf, hzz, hss, hbb⟩ := hi.spec
 subst hss
 have hle : (l + n) * inf.size ≤ c * inf.size := Nat.mul_le_mul_right _ hc
 rw [Nat.add_mul] at hle
 obtain ⟨w', C', h1, h2, h3, h4, h5⟩ := z94 (P := P) (o := l * inf.size) news 0 C w hb (by rw [hs.newsLen]; omega) (.inl (Nat.le_refl _)) hs.one
 refine ⟨w', C', ?_, h2, h3, fun k => by rw [h4 k, hs.newsLen]; simp only [Nat.add_zero], h5⟩
 rcases hs.kind with ⟨e', hk⟩ | hk <;> simp [Builtin.append_, z13 ht, z13 hk, Go.sizeOf, typeInfo, hinf, hs.len, hc, hs.cells, z1m, h1]
theorem zh2 {w : World} {t e ty : TypeId} {sz b_ n c b off : Nat} {zv : Value} {C : Array Value} (ht : P.underlying t = some (.slice e)) (hi : Inf P e zv sz b_) (hz : zv.cells.size = sz) (h1 : ∀ v, v ∈ zv.cells.toList → v.oneCell' = true) (hb : w.heap[b]? = some (.cells C e (0, 0))) (hC : off + n * sz ≤ C.size) (hn : 0 < n) :
 ∃ w' C', (Builtin.clear_ #[t] ty #[.slice (some ⟨b, off, none⟩) n c]).run P w = .ok (.tuple #[]) w' ∧ w'.heap[b]? = some (.cells C' e (0, 0)) ∧ C'.size = C.size ∧ (∀ k, k < off → C'[k]? = C[k]?) ∧ Wrs (fun k => k = b) w w' := by
 have hzs : (Builtin.zeroCells zv.cells n).size = n * sz := by rw [size_zeroCells, hz]
 obtain ⟨w', C', h2, h3, h4, h5, h6⟩ := z94 (P := P) (o := off) (Builtin.zeroCells zv.cells n).toList 0 C w hb (by simp [hzs]; omega) (.inl (Nat.le_refl _)) (fun v hv => by
  simp only [Builtin.zeroCells, Array.toList_map, List.mem_map] at hv
  obtain ⟨i, hi', rfl⟩ := hv
  simp only [Array.toList_range, List.mem_range] at hi'
  have hpos : 0 < zv.cells.size := by
   rcases Nat.eq_zero_or_pos zv.cells.size with h0 | h0
   ·rw [h0] at hi'; omega
   ·exact h0
  have hlt := Nat.mod_lt i hpos
  rw [getElem!_pos zv.cells _ hlt]
  exact h1 _ (Array.getElem_mem_toList hlt))
 refine ⟨w', C', ?_, h3, h4, fun k hk => by rw [h5 k, if_neg (by omega)], h6⟩
 obtain ⟨m, rfl⟩ : ∃ m, n = m + 1 := ⟨n - 1, by omega⟩
 simp [Builtin.clear_, z13 ht, hi.run_zero, h2]
theorem z95 {w : World} {dT sT e ty : TypeId} {sz b_ b o dl dc sl sc n : Nat} {zv : Value} {C : Array Value} {a : Addr} {news : List Value} (ht : P.underlying dT = some (.slice e)) (hi : Inf P e zv sz b_) (hb : w.heap[b]? = some (.cells C e (0, 0))) (hn : Nat.min sl dl = n)
 (hnl : news.length = n * sz) (hsrc : ∀ j v, news[j]? = some v → w.cell? (a.add j) = some v) (hfit : o + n * sz ≤ C.size) (h1 : ∀ v, v ∈ news → v.oneCell' = true) :
 ∃ w' C', (Builtin.copy_ #[dT, sT] ty #[.slice (some ⟨b, o, none⟩) dl dc, .slice (some a) sl sc]).run P w = .ok (.int .i64 (n : Nat)) w' ∧ w'.heap[b]? = some (.cells C' e (0, 0)) ∧ C'.size = C.size ∧ (∀ k, C'[k]? = if o ≤ k ∧ k < o + news.length then news[k - o]? else C[k]?) ∧ Wrs (fun k => k = b) w w' := by
 obtain ⟨inf, hinf, hzz, hss, hbb⟩ := hi.spec
 subst hss
 obtain ⟨w', C', h2, h3, h4, h5, h6⟩ := z94 (P := P) (o := o) news 0 C w hb (by rw [hnl]; omega) (.inl (Nat.le_refl _)) h1
 have hl := run_firstCells_some (P := P) w inf.size n a sl sc news hnl hsrc
 refine ⟨w', C', ?_, h3, h4, fun k => by rw [h5 k]; simp only [Nat.add_zero], h6⟩
 simp [Builtin.copy_, z13 ht, Builtin.lenOf, Go.sizeOf, typeInfo, hinf, hn, hl, h2, goInt]
section
variable {x y : Operand} {t t2 : TypeId} {v u r : Value} {w w' : World} {env : VE} {o : Oper}
theorem zgn (ho : o.op = .call { callee := .builtin .append, args := #[x, y], argTypes := #[t, t2] }) (hx : vev env x = some v) (hy : vev env y = some u) (hr : (Builtin.append_ #[t, t2] o.type #[v, u]).run P w = .ok r w') (a : Act) (ha : AR N ds env a) : (execOp a.eval o).run P w = .ok (.value r) w' := by
 simp [execOp, ho, resolve, invoke, builtin, ha.ev hx, ha.ev hy, hr]
theorem zfg (ho : o.op = .call { callee := .builtin .copy, args := #[x, y], argTypes := #[t, t2] }) (hx : vev env x = some v) (hy : vev env y = some u) (hr : (Builtin.copy_ #[t, t2] o.type #[v, u]).run P w = .ok r w') (a : Act) (ha : AR N ds env a) : (execOp a.eval o).run P w = .ok (.value r) w' := by
 simp [execOp, ho, resolve, invoke, builtin, ha.ev hx, ha.ev hy, hr]
theorem zks (ho : o.op = .call { callee := .builtin .clear, args := #[x], argTypes := #[t] }) (hx : vev env x = some v) (hr : (Builtin.clear_ #[t] o.type #[v]).run P w = .ok r w') (a : Act) (ha : AR N ds env a) : (execOp a.eval o).run P w = .ok (.value r) w' := by
 simp [execOp, ho, resolve, invoke, builtin, ha.ev hx, hr]
theorem zzl {b : Bool} (ho : o.op = .unOp .not t x) (hx : vev env x = some (.bool b)) (a : Act) (ha : AR N ds env a) : (execOp a.eval o).run P w = .ok (.value (.bool !b)) w := by
 simp [execOp, ho, ha.ev hx, Op.unary]
end
section
variable {x y : Operand} {t t2 : TypeId} {w : World} {env : VE} {o : Oper} {i j : Nat}
theorem za2 (ho : o.op = .binOp .add t x y t2) (hx : vev env x = some (.int .i64 (i : Nat))) (hy : vev env y = some (.int .i64 (j : Nat))) (h : i + j ≤ 9223372036854775807) (a : Act) (ha : AR N ds env a) : (execOp a.eval o).run P w = .ok (.value (.int .i64 ((i + j : Nat) : Int))) w :=
 zby ho hx hy (by omega) a ha
theorem zwo (ho : o.op = .binOp .sub t x y t2) (hx : vev env x = some (.int .i64 (i : Nat))) (hy : vev env y = some (.int .i64 (j : Nat))) (h : j ≤ i) (h2 : i ≤ 9223372036854775807) (a : Act) (ha : AR N ds env a) : (execOp a.eval o).run P w = .ok (.value (.int .i64 ((i - j : Nat) : Int))) w := by
 rw [show ((i - j : Nat) : Int) = (i : Int) - (j : Int) by omega]
 exact zzk ho hx hy (by omega) a ha
theorem zwp {f : FuncId} {types : Array TypeId} {v u r : Value} {w' : World} (ho : o.op = .call { callee := .value (.func f), args := #[x, y], argTypes := types }) (hx : vev env x = some v) (hy : vev env y = some u) (h : (callFunc f #[v, u]).run P w = .ok (.value r) w') (a : Act) (ha : AR N ds env a) : (execOp a.eval o).run P w = .ok (.value r) w' := by
 have e1 := ha.ev hx; have e2 := ha.ev hy
 simp only [execOp, ho]
 simp [resolve, Deferred.ofValue, invoke, Act.eval] at e1 e2 ⊢
 simp [e1, e2, h]
end
theorem Wrs.also {S T : Nat → Prop} {w0 w w' : World} (h : Wrs S w0 w) (k : Wrs T w w') (hT : ∀ b, T b → S b ∨ w0.heap.size ≤ b) : Wrs S w0 w' :=
 ⟨k.os.trans h.os, k.tape.trans h.tape, k.output.trans h.output, Nat.le_trans h.size k.size, fun b hb hn => (k.keep b (Nat.lt_of_lt_of_le hb h.size) (fun ht => by rcases hT b ht with h1 | h1; exact hn h1; omega)).trans (h.keep b hb hn), h.kp.trans k.kp⟩
theorem zg7 {p s m k : Nat} {cells vs : List Value} {u : Value} (hp : p ≤ cells.length) (hs : vs.length = s) (h : (cells.take p ++ vs ++ (cells.take m).drop p)[k]? = some u) :
 (k < p ∧ cells[k]? = some u) ∨ (p ≤ k ∧ k < p + s ∧ vs[k - p]? = some u) ∨ (p + s ≤ k ∧ ((cells.take m).drop p)[k - (p + s)]? = some u) := by
 have hl : (cells.take p).length = p := by rw [List.length_take]; omega
 have hl2 : (cells.take p ++ vs).length = p + s := by rw [List.length_append, hl, hs]
 by_cases h1 : k < p
 ·rw [List.getElem?_append_left (by omega), List.getElem?_append_left (by omega), List.getElem?_take, if_pos h1] at h
  exact .inl ⟨h1, h⟩
 ·by_cases h2 : k < p + s
  ·rw [List.getElem?_append_left (by omega), List.getElem?_append_right (by omega), hl] at h
   exact .inr (.inl ⟨by omega, h2, h⟩)
  ·rw [List.getElem?_append_right (by omega), hl2] at h
   exact .inr (.inr ⟨by omega, h⟩)
theorem zl0 {env : VE} : ∀ (t : Nat) (v : Value), z80 [] t = some v → z80 env t = some v := fun _ _ h => (nomatch h)
theorem z3a {env env' : VE} {k : Nat} {x : Value} (h : z80 env k = some x) (hs : ∀ (t : Nat) (v : Value), z80 env' t = some v → z80 env t = some v) : ∀ (t : Nat) (v : Value), z80 ((k, x) :: env') t = some v → z80 env t = some v := fun t v hv => by
 simp only [z80] at hv
 cases hb : Nat.beq k t with
 | true => rw [hb] at hv; simp only [cond_true] at hv; rw [← beq_iff'.1 hb, ← hv]; exact h
 | false => rw [hb] at hv; exact hs t v hv
end Go.Proofs.Ythidgpcbnieleaa.Aw
