/- Aw: calls by pure contracts; cuts of slices; bytes and texts; rows that begin as nil; function values. -/
import Derived.Test.YtiapdjdhaclmnaaAw6
namespace Go.Proofs.Ytiapdjdhaclmnaa.Aw
open Go
set_option linter.unusedVariables false
set_option linter.unusedSimpArgs false
variable {P : Program} {F : Fr} {H H' : List AEnt} {g g' : List (Option Nat)} {w w' : World} {env : List (Nat × PV)} {n : Nat} {o : Oper}

def IdsNil : List PV → Prop
  | [] => True
  | x :: r => x.ids = [] ∧ IdsNil r
theorem IdsNil.mem : ∀ {xs : List PV}, IdsNil xs → ∀ p, p ∈ xs → p.ids = []
  | [], _, p, hp => by cases hp
  | x :: r, h, p, hp => by
    rcases List.mem_cons.1 hp with rfl | hp
    · exact h.1
    · exact IdsNil.mem h.2 p hp
theorem zuw {xs : List PV} (h : ∀ x, x ∈ xs → x.ids = []) : PV.ids.idsL xs = [] := by
  induction xs with
  | nil => rfl
  | cons x r ih => simp only [PV.ids.idsL]; rw [h x (by simp), ih (fun y hy => h y (by simp [hy]))]; rfl
def z0g (P : Program) (f : FuncId) (args : List PV) (X : PV) : Prop := ACalls P f args [] (fun r H' => r = .ret X ∧ H' = [])
section
variable {s : ASt} {K : AExit → ASt → Prop} {ops : Array Oper} {rest : List Oper}
theorem z0b {f : FuncId} {args : List Operand} {types : Array TypeId} {xs fargs : List PV} {X : PV}
    (ho : o.op = .call { callee := .value (.func f), args := args.toArray, argTypes := types }) (hen : z1e P f)
    (hx : evs env args = some xs) (hw : WkL xs fargs) (hai : IdsNil fargs) (hc : z0g P f fargs X) (hX : X.ids = []) : Op1 P o env H n X H := by
  intro F g a w hr Kn Q hK
  have hv := hr.vrs hx
  have hv' : VRs (ctx P F H g w) fargs (args.toArray.map a.eval) := by
    refine ⟨by rw [← hw.len]; exact hv.1, fun i y hy => ?_⟩
    obtain ⟨x, h1, h2⟩ := hw.get i y hy
    obtain ⟨u, h3, h4⟩ := hv.2 i x h1
    exact ⟨u, h3, h2 _ _ h4⟩
  have hf := z6s hr.rel []
  have hrel := zc6 hr.rel (σ := []) (by simp) hf (by simp) (by simp)
  have hargs : VRs (ctx P (z4e P F H g []) (z4q H []) (z77 g []) w) fargs (args.toArray.map a.eval) := by
    refine ⟨hv'.1, fun i x hx => ?_⟩
    obtain ⟨u, h1, h2⟩ := hv'.2 i x hx
    have hid := hai.mem x (List.mem_of_getElem? hx)
    have := zd9 hr.rel (σ := []) (by simp) hf (fun k hk => by rw [hid] at hk; cases hk) h2
    rw [z27 x (fun i hi => by rw [hid] at hi; cases hi)] at this
    exact ⟨u, h1, this⟩
  unfold Oper.wp
  have hrun : (execOp a.eval o).run P w = .ok (.enter f (args.toArray.map a.eval)) w := by
    simp only [execOp, ho]
    simp [resolve, Deferred.ofValue, invoke, Act.eval, z5e hen]
  rw [hrun]
  simp only [Oper.upon_enter]
  refine Calls.mono (hc _ _ _ _ hrel hargs) ?_
  rintro e w' ⟨r, H', g', h1, h2, h3, rfl, rfl⟩
  have hm := zdo hr.rel (σ := []) (by simp) (by simp) h2 h3
  have hx' := zdp hr.rel (σ := []) (by simp) (by simp) h2 h3
  rw [z8e] at hm hx'
  cases e with
  | returned v =>
    have hvv := zca hr.rel (σ := []) (by simp) (by simp) h2 h3 h1
    rw [z8e, z27 X (fun i hi => by rw [hX] at hi; cases hi)] at hvv
    exact hK v w' _ hvv hm hx'
  | panicked c => exact h1.elim
  | outgrown => exact h1.elim
end

theorem Rel.ghost {s : ASt} {a : Act} (hr : Rel P F s a w g) {t : Nat} {e sz : Nat} (hx : get s.env t = some (.v (.slice none 0 0))) (hsz : P.cellsOf e = sz) :
    Rel P F ⟨(t, .sl (some s.H.length) e sz []) :: s.env, s.H ++ [.arr e 0], s.n⟩ a w (g ++ [none]) ∧ Ext P F s.H g w (s.H ++ [.arr e 0]) (g ++ [none]) w := by
  have hn : ∀ b, (none : Option Nat) = some b → b = w.heap.size := fun b hb => by cases hb
  have hle := z7y (w' := w) hr.rel (.arr e 0) none hn (Nat.le_refl _) (fun _ _ => rfl)
  have hrel := z5f (w' := w) hr.rel (.arr e 0) none hn (Nat.le_refl _) (fun _ _ => rfl) (.inl ⟨rfl, rfl⟩)
  refine ⟨⟨hrel, fun k y hy => ?_, hr.size, hr.defers⟩, z5l hr.rel (.arr e 0) none hn (Nat.le_refl _) (fun _ _ => rfl) rfl rfl rfl⟩
  simp only [get] at hy
  cases hb : Nat.beq t k with
  | true =>
    rw [hb] at hy; simp at hy; subst hy
    have := beq_iff'.1 hb; subst this
    obtain ⟨u, h1, h2⟩ := hr.env t _ hx
    rw [vr_v.1 h2] at h1
    refine ⟨_, h1, vr_sl.2 ⟨none, 0, rfl, ⟨⟨Nat.le_refl _, by simp⟩, by rw [Nat.zero_mul]; exact Ctx.b0 _ _ _⟩, fun j hj => ?_, by simp⟩⟩
    injection hj with hj; subst hj
    refine ⟨by simp, fun e' k he => ?_⟩
    simp at he
    obtain ⟨rfl, rfl⟩ := he
    exact ⟨Nat.le_refl _, fun _ => ⟨hsz.symm, .inl ⟨by rw [← hr.rel.len]; simp, rfl, rfl⟩⟩⟩
  | false =>
    rw [hb] at hy
    obtain ⟨u, h1, h2⟩ := hr.env k y hy
    exact ⟨u, h1, h2.mono hle⟩
def Z6s : Option (IntKind × Int) → Nat → Nat
  | none, d => d
  | some x, _ => x.2.toNat
theorem zyl {t e : TypeId} {z : Value} {sz b_ : Nat} {A : Option Addr} {len c : Nat} {lo hi : Option (IntKind × Int)} {l h : Nat} (ht : P.underlying t = some (.slice e)) (hi' : Inf P e z sz b_)
    (hl : l = Z6s lo 0) (hh : h = Z6s hi len) (hl0 : ∀ k i, lo = some (k, i) → 0 ≤ i) (hh0 : ∀ k i, hi = some (k, i) → 0 ≤ i) (h1 : l ≤ h) (h2 : h ≤ c) (w : World) :
    (Instr.sliceAt t (.slice A len c) (lo.map fun x => .int x.1 x.2) (hi.map fun x => .int x.1 x.2) none).run P w = .ok (.slice (if c = l then A else A.map (·.add (l * sz))) (h - l) (c - l)) w := by
  have hat : Instr.sliceAt t (.slice A len c) (lo.map fun x => .int x.1 x.2) (hi.map fun x => .int x.1 x.2) none = Instr.sliceAt t (.slice A len c) (lo.map fun x => .int x.1 x.2) (hi.map fun x => .int x.1 x.2) none := rfl
  have hb : ∀ w, (Instr.sliceBounds true len c (lo.map fun x => .int x.1 x.2) (hi.map fun x => .int x.1 x.2) none).run P w = .ok (l, h, c) w := by
    intro w
    cases hi with
    | none =>
      have hh' : h = len := hh
      cases lo with
      | none =>
        have hl' : l = 0 := hl
        subst hl'; simp [Instr.sliceBounds, hh']
      | some x =>
        have := hl0 _ _ rfl
        have hl' : l = x.2.toNat := hl
        have hle : x.2 ≤ (len : Int) := by omega
        simp [Instr.sliceBounds, Instr.sliceBound, asIntOf, this, hle, hl', hh']
    | some y =>
      have hy := hh0 _ _ rfl
      have hh' : h = y.2.toNat := hh
      have hyc : y.2 ≤ (c : Int) := by omega
      have eh : (y.2.toNat : Int) = y.2 := Int.toNat_of_nonneg hy
      cases lo with
      | none =>
        have hl' : l = 0 := hl
        subst hl'; simp [Instr.sliceBounds, Instr.sliceBound, asIntOf, hy, hyc, hh']
      | some x =>
        have := hl0 _ _ rfl
        have hl' : l = x.2.toNat := hl
        have hle : x.2 ≤ y.2 := by omega
        simp [Instr.sliceBounds, Instr.sliceBound, asIntOf, hy, hyc, this, hle, eh, hl', hh']
  simp only [Instr.sliceAt, Instr.slice, Sem.run_bind, z2i ht, Result.andThen_ok, hb, hi'.run_size, Sem.run_pure]
theorem zlo {f : Fn} {first cap : List Operand} {xs ys : List PV} (ho : o.op = .makeFunc f first.toArray cap.toArray) (hx : evs env first = some xs) (hy : evs env cap = some ys) : Op1 P o env H n (.fn f xs ys) H :=
  z1q fun F g a w hr => by
    have h1 := hr.vrs hx
    have h2 := hr.vrs hy
    refine ⟨.func f (first.toArray.map a.eval) (cap.toArray.map a.eval), vr_fn.2 ⟨(first.toArray.map a.eval).toList, (cap.toArray.map a.eval).toList, by simp, by simpa using h1.1, by simpa using h2.1, fun i y hy => by simpa using h1.2 i y hy, fun i y hy => by simpa using h2.2 i y hy⟩, ?_⟩
    simp [execOp, ho, Instr.makeFunc]

theorem zjv {t e : TypeId} {x y : Operand} {z : Value} {sz b_ : Nat} {k1 k2 : IntKind} {l c : Nat} (ht : P.underlying t = some (.slice e)) (hi : Inf P e z sz b_) (hz : z.cells.size = sz) (ho : o.op = .makeSlice t x y)
    (hx : ev env x = some (.v (.int k1 l))) (hy : ev env y = some (.v (.int k2 c))) (hlc : l ≤ c) (hb : c * b_ ≤ 140737488355328) (hc : c ≤ 9223372036854775807) {p : PV} (hp : p.cells = z.cells.toList.map .v) :
    Op1 P o env H n (.sl (some H.length) e sz (List.replicate l p)) (H ++ [.arr e l]) := by
  refine zre (fun F g a w hr => ?_)
  have hcells := hi.cells
  obtain ⟨inf, hinf, hzz, hss, hbb⟩ := hi.spec
  have hpl : p.cells.length = sz := by rw [hp]; simpa using hz
  have hwl : IntKind.i64.wrap (l : Int) = l := zae (by omega) (by omega)
  have hwc : IntKind.i64.wrap (c : Int) = c := zae (by omega) (by omega)
  refine ⟨(Array.range (c * sz)).map (fun i => z.cells[i % sz]!), w, .slice (some ⟨w.heap.size, 0, none⟩) l c, rfl, rfl, rfl, rfl, ?_, ?_, ?_⟩
  · rw [hcells]; simp; exact Nat.mul_le_mul_right _ hlc
  · have hty : (typeInfo e).run P w = .ok inf w := by simp [typeInfo, hinf]
    have hbig : ¬ (281474976710656 < (inf.bytes : Int) * (c : Int)) := by
      rw [hbb]
      have h1 : ((b_ : Int) * (c : Int)) = ((c * b_ : Nat) : Int) := by rw [Int.natCast_mul, Int.mul_comm]
      rw [h1]; omega
    have hrun : (Instr.makeSlice t (.int k1 l) (.int k2 c)).run P w = .ok (.slice (some ⟨w.heap.size, 0, none⟩) l c) (w.alloc (.cells ((Array.range (c * sz)).map (fun i => z.cells[i % sz]!)) e)) := by
      simp only [Instr.makeSlice, Sem.run_bind, z2i ht, Result.andThen_ok, asInt, asIntOf, Sem.run_pure, hty, hwl, hwc]
      have c1 : (decide ((c : Int) < 0) || decide ((inf.bytes : Int) * (c : Int) > 2 ^ 48) || decide ((l : Int) < 0) || decide ((l : Int) > (c : Int))) = false := by
        simp only [Bool.or_eq_false_iff, decide_eq_false_iff_not]
        refine ⟨⟨⟨by omega, by simpa using hbig⟩, by omega⟩, by omega⟩
      simp only [c1, Bool.false_eq_true, if_false]
      by_cases h0 : c * sz = 0
      · have hr0 : Array.range (c * sz) = #[] := by rw [h0]; rfl
        simp only [hi.run_size, h0, if_true, Sem.run_bind, Sem.run_pure, Result.andThen_ok, run_askRoom]
        have he : Array.range 0 = #[] := rfl
        simp [newRow, he]
        rw [if_pos h0, hr0]
        simp
      · have hzs : z.cells.size = sz := hz
        simp [hi.run_size, h0, hi.run_zero, hzs, newRow]
    simp only [execOp, ho, hr.const hx, hr.const hy, Sem.run_bind, hrun, Result.andThen_ok, Sem.run_pure]
  · intro C hle hM hT hB
    have hall : ∀ q, q ∈ List.replicate l p → q.cells.length = sz := fun q hq => by rw [(List.mem_replicate.1 hq).2]; exact hpl
    have hl2 : (List.replicate l p).length = l := by simp
    have hval : Value.slice (some ⟨w.heap.size, 0, none⟩) l c = Value.slice (some ⟨w.heap.size, 0, none⟩) (List.replicate l p).length c := by rw [hl2]
    rw [hval]
    refine zc2 hall (by rw [hl2]; exact ⟨hlc, by omega⟩) (hB _ _ (by simp)) (fun j hj => ?_) (fun k q hq => ?_)
    · injection hj with hj; subst hj
      exact hT _ _ _ _ (by rw [hl2]; exact Nat.le_refl _) (fun _ => ⟨hcells.symm, rfl, by simp [hcells]⟩)
    · rw [Nat.zero_add]
      have hk := z0z hq
      rw [z4k hall, hl2] at hk
      have hsz0 : 0 < sz := by
        rcases Nat.eq_zero_or_pos sz with h | h
        · rw [h] at hk; simp at hk
        · exact h
      have hm : k % sz < sz := Nat.mod_lt _ hsz0
      have hi2 : k / sz < (List.replicate l p).length := by rw [hl2]; exact Nat.div_lt_of_lt_mul (by rw [Nat.mul_comm]; exact hk)
      have hyj : p.cells[k % sz]? = some (.v (z.cells[k % sz]'(by rw [hz]; exact hm))) := by
        rw [hp, List.getElem?_map, List.getElem?_eq_getElem (by simpa [hz] using hm)]; simp
      have hfl := za2 hall (k / sz) (k % sz) p _ (by rw [List.getElem?_replicate, if_pos (by simpa using hi2)]) hyj
      have hdm : k / sz * sz + k % sz = k := by rw [Nat.mul_comm]; exact Nat.div_add_mod k sz
      rw [hdm, hq] at hfl
      injection hfl with hfl
      subst hfl
      refine ⟨_, ?_, vr_v.2 rfl⟩
      refine hM k _ (by rw [hcells]; exact hk) ?_
      have hkc : k < c * sz := Nat.lt_of_lt_of_le hk (Nat.mul_le_mul_right _ hlc)
      rw [Array.getElem?_map, Array.getElem?_range, if_pos hkc]
      simp [getElem!_pos, hz, hm]

end Go.Proofs.Ytiapdjdhaclmnaa.Aw
