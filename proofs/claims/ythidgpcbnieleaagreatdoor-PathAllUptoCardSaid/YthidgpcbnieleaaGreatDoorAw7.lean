/- Aw: calls by pure contracts; cuts of slices; bytes and texts; rows that begin as nil; function values. -/
import Derived.Test.YthidgpcbnieleaaGreatDoorAw6
namespace Go.Proofs.YthidgpcbnieleaaGreatDoor.Aw
open Go
set_option linter.unusedVariables false
set_option linter.unusedSimpArgs false
variable {P : Program} {F : Fr} {H H' : List AEnt} {g g' : List (Option Nat)} {w w' : World} {env : List (Nat × PV)} {n : Nat} {o : Oper}

def IdsNil : List PV → Prop
 | [] => True
 | x :: r => x.ids = [] ∧ IdsNil r
theorem IdsNil.mem : ∀ {xs : List PV}, IdsNil xs → ∀ p, p ∈ xs → p.ids = []
 | [], _, p, hp => by cases hp
 | x :: r, h, p, hp => by
  rcases List.mem_cons.1 hp with rfl | hp
  ·exact h.1
  ·exact IdsNil.mem h.2 p hp
theorem zvb {xs : List PV} (h : ∀ x, x ∈ xs → x.ids = []) : PV.ids.idsL xs = [] := by
 induction xs with
 | nil => rfl
 | cons x r ih => simp only [PV.ids.idsL]; rw [h x (by simp), ih (fun y hy => h y (by simp [hy]))]; rfl
def z0m (P : Program) (f : FuncId) (args : List PV) (X : PV) : Prop := ACalls P f args [] (fun r H' => r = .ret X ∧ H' = [])
section
variable {s : ASt} {K : AExit → ASt → Prop} {ops : Array Oper} {rest : List Oper}
theorem z06 {f : FuncId} {args : List Operand} {types : Array TypeId} {xs fargs : List PV} {X : PV}
 (ho : o.op = .call { callee := .value (.func f), args := args.toArray, argTypes := types }) (hen : z0v P f)
 (hx : evs env args = some xs) (hw : WkL xs fargs) (hai : IdsNil fargs) (hc : z0m P f fargs X) (hX : X.ids = []) : Op1 P o env H n X H := by
 intro F g a w hr Kn Q hK
 have hv := hr.vrs hx
 have hv' : VRs (ctx P F H g w) fargs (args.toArray.map a.eval) := by
  refine ⟨by rw [← hw.len]; exact hv.1, fun i y hy => ?_⟩
  obtain ⟨x, h1, h2⟩ := hw.get i y hy
  obtain ⟨u, h3, h4⟩ := hv.2 i x h1
  exact ⟨u, h3, h2 _ _ h4⟩
 have hf := z3s hr.rel []
 have hrel := z4k hr.rel (σ := []) (by simp) hf (by simp) (by simp)
 have hargs : VRs (ctx P (z3c P F H g []) (z32 H []) (z4l g []) w) fargs (args.toArray.map a.eval) := by
  refine ⟨hv'.1, fun i x hx => ?_⟩
  obtain ⟨u, h1, h2⟩ := hv'.2 i x hx
  have hid := hai.mem x (List.mem_of_getElem? hx)
  have := z5y hr.rel (σ := []) (by simp) hf (fun k hk => by rw [hid] at hk; cases hk) h2
  rw [z1f x (fun i hi => by rw [hid] at hi; cases hi)] at this
  exact ⟨u, h1, this⟩
 unfold Oper.wp
 have hrun : (execOp a.eval o).run P w = .ok (.enter f (args.toArray.map a.eval)) w := by
  simp only [execOp, ho]
  simp [resolve, Deferred.ofValue, invoke, Act.eval, z2k hen]
 rw [hrun]
 simp only [Oper.upon_enter]
 refine Calls.mono (hc _ _ _ _ hrel hargs) ?_
 rintro e w' ⟨r, H', g', h1, h2, h3, rfl, rfl⟩
 have hm := z6d hr.rel (σ := []) (by simp) (by simp) h2 h3
 have hx' := z6f hr.rel (σ := []) (by simp) (by simp) h2 h3
 rw [z8b] at hm hx'
 cases e with
 | returned v =>
  have hvv := z8a hr.rel (σ := []) (by simp) (by simp) h2 h3 h1
  rw [z8b, z1f X (fun i hi => by rw [hX] at hi; cases hi)] at hvv
  exact hK v w' _ hvv hm hx'
 | panicked c => exact h1.elim
 | outgrown => exact h1.elim
end

theorem Rel.ghost {s : ASt} {a : Act} (hr : Rel P F s a w g) {t : Nat} {e sz : Nat} (hx : get s.env t = some (.v (.slice none 0 0))) (hsz : P.cellsOf e = sz) :
 Rel P F ⟨(t, .sl (some s.H.length) e sz []) :: s.env, s.H ++ [.arr e 0], s.n⟩ a w (g ++ [none]) ∧ Ext P F s.H g w (s.H ++ [.arr e 0]) (g ++ [none]) w := by
 have hn : ∀ b, (none : Option Nat) = some b → b = w.heap.size := fun b hb => by cases hb
 have hle := z5z (w' := w) hr.rel (.arr e 0) none hn (Nat.le_refl _) (fun _ _ => rfl)
 have hrel := z3l (w' := w) hr.rel (.arr e 0) none hn (Nat.le_refl _) (fun _ _ => rfl) (.inl ⟨rfl, trivial⟩)
 refine ⟨⟨hrel, fun k y hy => ?_, hr.size, hr.defers⟩, z3m hr.rel (.arr e 0) none hn (Nat.le_refl _) (fun _ _ => rfl) rfl rfl rfl⟩
 simp only [get] at hy
 cases hb : Nat.beq t k with
 | true =>
  rw [hb] at hy; simp at hy; subst hy
  have := beq_iff'.1 hb; subst this
  obtain ⟨u, h1, h2⟩ := hr.env t _ hx
  rw [vr_v.1 h2] at h1
  refine ⟨_, h1, vr_sl.2 ⟨none, 0, rfl, ⟨⟨Nat.le_refl _, by simp⟩, by rw [Nat.zero_mul]; exact Ctx.b0 _ _ _⟩, fun j hj => ?_, by simp⟩⟩
  injection hj with hj; subst hj
  refine ⟨by simp, fun e' k he => ?_⟩
  simp at he
  obtain ⟨rfl, rfl⟩ := he
  exact ⟨Nat.le_refl _, fun _ => ⟨hsz.symm, .inl ⟨by rw [← hr.rel.len]; simp, trivial, rfl⟩⟩⟩
 | false =>
  rw [hb] at hy
  obtain ⟨u, h1, h2⟩ := hr.env k y hy
  exact ⟨u, h1, h2.mono hle⟩
theorem Z8e {F : Lo} {A : Option Addr} {e c l sz : Nat} (h : (ctx P F H g w).B A e sz (c * sz)) (hl : l ≤ c) : (ctx P F H g w).B (if c = l then A else A.map (·.add (l * sz))) e sz ((c - l) * sz) := by
 intro hf
 rcases h hf with ⟨rfl, h0⟩ | ⟨b, o, cs, z, q, rfl, h1, h2, h3, h5, h6⟩
 ·refine .inl ⟨by split <;> rfl, ?_⟩
  rcases Nat.mul_eq_zero.1 h0 with h0 | h0
  ·simp [h0]
  ·simp [h0]
 ·right
  have h4 : l * sz ≤ c * sz := Nat.mul_le_mul_right _ hl
  split
  ·exact ⟨b, o, cs, z, q, rfl, h1, h2, by rw [Nat.sub_mul]; omega, h5, h6⟩
  ·exact ⟨b, o + l * sz, cs, z, q + l, by simp [z23], h1, h2, by rw [Nat.sub_mul]; omega, h5, by rw [h6, Nat.add_mul]⟩
theorem Z1d {C : Ctx} {tk : Option Nat} {e : TypeId} {sz : Nat} {xs : List PV} {A : Option Addr} {c l h : Nat} (hv : VR C (.sl tk e sz xs) (.slice A xs.length c)) (h1 : l ≤ h) (h2 : h ≤ xs.length) (hB : C.B A e sz (c * sz) → l ≤ c → C.B (if c = l then A else A.map (·.add (l * sz))) e sz ((c - l) * sz)) :
 VR C (.sl none e sz ((xs.take h).drop l)) (.slice (if c = l then A else A.map (·.add (l * sz))) (h - l) (c - l)) := by
 obtain ⟨A', c', he, ⟨hc, hcB⟩, _, hxs⟩ := vr_sl.1 hv
 injection he with e1 e2 e3
 subst e1; subst e3
 have hlen : ((xs.take h).drop l).length = h - l := by simp; omega
 refine vr_sl.2 ⟨_, c - l, by rw [hlen], ⟨by rw [hlen]; omega, hB hcB (by omega)⟩, by simp, fun i x hx => ?_⟩
 have hil := z0b hx
 have hx' : xs[l + i]? = some x := by
  rw [List.getElem?_drop, List.getElem?_take] at hx
  split at hx
  ·exact hx
  ·cases hx
 obtain ⟨h3, b, off, rfl, h4⟩ := hxs _ x hx'
 refine ⟨h3, b, off + l * sz, ?_, fun j y hy => ?_⟩
 ·rw [if_neg (by omega)]; simp [z23]
 ·obtain ⟨u, h5, h6⟩ := h4 j y hy
  exact ⟨u, by rw [show off + l * sz + (i * sz + j) = off + ((l + i) * sz + j) by rw [Nat.add_mul]; omega]; exact h5, h6⟩
def zxu : Option (IntKind × Int) → Nat → Nat
 | none, d => d
 | some x, _ => x.2.toNat
theorem zyp {t e : TypeId} {z : Value} {sz b_ : Nat} {A : Option Addr} {len c : Nat} {lo hi : Option (IntKind × Int)} {l h : Nat} (ht : P.underlying t = some (.slice e)) (hi' : Inf P e z sz b_)
 (hl : l = zxu lo 0) (hh : h = zxu hi len) (hl0 : ∀ k i, lo = some (k, i) → 0 ≤ i) (hh0 : ∀ k i, hi = some (k, i) → 0 ≤ i) (h1 : l ≤ h) (h2 : h ≤ c) (w : World) :
 (Instr.sliceAt t (.slice A len c) (lo.map fun x => .int x.1 x.2) (hi.map fun x => .int x.1 x.2) none).run P w = .ok (.slice (if c = l then A else A.map (·.add (l * sz))) (h - l) (c - l)) w := by
 have hat : Instr.sliceAt t (.slice A len c) (lo.map fun x => .int x.1 x.2) (hi.map fun x => .int x.1 x.2) none = Instr.sliceAt t (.slice A len c) (lo.map fun x => .int x.1 x.2) (hi.map fun x => .int x.1 x.2) none := rfl
 have hb : ∀ w, (Instr.sliceBounds true len c (lo.map fun x => .int x.1 x.2) (hi.map fun x => .int x.1 x.2) none).run P w = .ok (l, h, c) w := by
  intro w
  cases hi with
  | none =>
   have hh' : h = len := hh
   cases lo with
   | none =>
    have hl' : l = 0 := hl
    subst hl'; simp [Instr.sliceBounds, hh']
   | some x =>
    have := hl0 _ _ rfl
    have hl' : l = x.2.toNat := hl
    have hle : x.2 ≤ (len : Int) := by omega
    simp [Instr.sliceBounds, Instr.sliceBound, asIntOf, this, hle, hl', hh']
  | some y =>
   have hy := hh0 _ _ rfl
   have hh' : h = y.2.toNat := hh
   have hyc : y.2 ≤ (c : Int) := by omega
   have eh : (y.2.toNat : Int) = y.2 := Int.toNat_of_nonneg hy
   cases lo with
   | none =>
    have hl' : l = 0 := hl
    subst hl'; simp [Instr.sliceBounds, Instr.sliceBound, asIntOf, hy, hyc, hh']
   | some x =>
    have := hl0 _ _ rfl
    have hl' : l = x.2.toNat := hl
    have hle : x.2 ≤ y.2 := by omega
    simp [Instr.sliceBounds, Instr.sliceBound, asIntOf, hy, hyc, this, hle, eh, hl', hh']
 simp only [Instr.sliceAt, Instr.slice, Sem.run_bind, z1d ht, Result.andThen_ok, hb, hi'.run_size, Sem.run_pure]
def zsn (env : List (Nat × PV)) : Option Operand → Option (Option (IntKind × Int))
 | none => some none
 | some x => match ev env x with
  | some (.v (.int k i)) => some (some (k, i))
  | _ => none
theorem za8 {s : ASt} {a : Act} (hr : Rel P F s a w g) {x : Option Operand} {r : Option (IntKind × Int)} (h : zsn s.env x = some r) : x.map a.eval = r.map fun x => .int x.1 x.2 := by
 cases x with
 | none => simp only [zsn] at h; injection h with h; subst h; rfl
 | some x =>
  simp only [zsn] at h
  split at h
  ·rename_i k i he
   injection h with h; subst h
   simp [hr.const he]
  ·cases h
theorem zz8 {t e : TypeId} {x : Operand} {lo hi : Option Operand} {tk : Option Nat} {z : Value} {sz b_ : Nat} {xs : List PV} {lv hv : Option (IntKind × Int)} (l h : Nat) (ht : P.underlying t = some (.slice e)) (hi' : Inf P e z sz b_)
 (ho : o.op = .slice t x lo hi none) (hx : ev env x = some (.sl tk e sz xs)) (hlo : zsn env lo = some lv) (hhi : zsn env hi = some hv)
 (hl : l = zxu lv 0) (hh : h = zxu hv xs.length) (hl0 : ∀ k i, lv = some (k, i) → 0 ≤ i) (hh0 : ∀ k i, hv = some (k, i) → 0 ≤ i) (h1 : l ≤ h) (h2 : h ≤ xs.length) :
 Op1 P o env H n (.sl none e sz ((xs.take h).drop l)) H :=
 z1a fun F g a w hr => by
  have hvx := hr.opd hx
  obtain ⟨A, c, hu, ⟨hc, _⟩, _⟩ := vr_sl.1 hvx
  rw [hu] at hvx
  refine ⟨_, Z1d hvx h1 h2 Z8e, ?_⟩
  simp only [execOp, ho, hu, za8 hr hlo, za8 hr hhi, Option.map_none]
  simp only [Sem.run_bind]
  rw [zyp ht hi' hl hh hl0 hh0 h1 (by omega)]
  rfl
theorem zuw {t : TypeId} {x : Operand} {lo hi : Option Operand} {s : ByteArray} {lv hv : Option (IntKind × Int)} (l h : Nat) (ht : P.underlying t = some .string)
 (ho : o.op = .slice t x lo hi none) (hx : ev env x = some (.v (.string s))) (hlo : zsn env lo = some lv) (hhi : zsn env hi = some hv)
 (hl : l = zxu lv 0) (hh : h = zxu hv s.size) (hl0 : ∀ k i, lv = some (k, i) → 0 ≤ i) (hh0 : ∀ k i, hv = some (k, i) → 0 ≤ i) (h1 : l ≤ h) (h2 : h ≤ s.size) :
 Op1 P o env H n (.v (.string (s.extract l h))) H :=
 z1a fun F g a w hr => by
  refine ⟨_, vr_v.2 rfl, ?_⟩
  have hb : ∀ w, (Instr.sliceBounds false s.size s.size (lv.map fun x => .int x.1 x.2) (hv.map fun x => .int x.1 x.2) none).run P w = .ok (l, h, s.size) w := by
   intro w
   cases hv with
   | none =>
    have hh' : h = s.size := hh
    cases lv with
    | none =>
     have hl' : l = 0 := hl
     subst hl'; simp [Instr.sliceBounds, hh']
    | some x =>
     have := hl0 _ _ rfl
     have hl' : l = x.2.toNat := hl
     have hle : x.2 ≤ (s.size : Int) := by omega
     simp [Instr.sliceBounds, Instr.sliceBound, asIntOf, this, hle, hl', hh']
   | some y =>
    have hy := hh0 _ _ rfl
    have hh' : h = y.2.toNat := hh
    have hyc : y.2 ≤ (s.size : Int) := by omega
    have eh : (y.2.toNat : Int) = y.2 := Int.toNat_of_nonneg hy
    cases lv with
    | none =>
     have hl' : l = 0 := hl
     subst hl'; simp [Instr.sliceBounds, Instr.sliceBound, asIntOf, hy, hyc, hh']
    | some x =>
     have := hl0 _ _ rfl
     have hl' : l = x.2.toNat := hl
     have hle : x.2 ≤ y.2 := by omega
     simp [Instr.sliceBounds, Instr.sliceBound, asIntOf, hy, hyc, this, hle, eh, hl', hh']
  simp only [execOp, ho, hr.const hx, za8 hr hlo, za8 hr hhi, Option.map_none]
  have hrun : (Instr.sliceAt t (.string s) (lv.map fun x => .int x.1 x.2) (hv.map fun x => .int x.1 x.2) none).run P w = .ok (.string (s.extract l h)) w := by
   simp only [Instr.sliceAt, Instr.slice, Sem.run_bind, z1d ht, Result.andThen_ok]
   simp only [Option.isSome_none, Bool.false_eq_true, if_false, Sem.run_bind, Sem.run_pure, Result.andThen_ok, hb]
  simp only [Sem.run_bind]
  rw [hrun]
  rfl

theorem z69 {f : Fn} {first cap : List Operand} {xs ys : List PV} (ho : o.op = .makeFunc f first.toArray cap.toArray) (hx : evs env first = some xs) (hy : evs env cap = some ys) : Op1 P o env H n (.fn f xs ys) H :=
 z1a fun F g a w hr => by
  have h1 := hr.vrs hx
  have h2 := hr.vrs hy
  refine ⟨.func f (first.toArray.map a.eval) (cap.toArray.map a.eval), vr_fn.2 ⟨(first.toArray.map a.eval).toList, (cap.toArray.map a.eval).toList, by simp, by simpa using h1.1, by simpa using h2.1, fun i y hy => by simpa using h1.2 i y hy, fun i y hy => by simpa using h2.2 i y hy⟩, ?_⟩
  simp [execOp, ho, Instr.makeFunc]

theorem zk7 {t e : TypeId} {x y : Operand} {z : Value} {sz b_ : Nat} {k1 k2 : IntKind} {l c : Nat} (ht : P.underlying t = some (.slice e)) (hi : Inf P e z sz b_) (hz : z.cells.size = sz) (ho : o.op = .makeSlice t x y)
 (hx : ev env x = some (.v (.int k1 l))) (hy : ev env y = some (.v (.int k2 c))) (hlc : l ≤ c) (hb : c * b_ ≤ 140737488355328) (hc : c ≤ 9223372036854775807) {p : PV} (hp : p.cells = z.cells.toList.map .v) :
 Op1 P o env H n (.sl (some H.length) e sz (List.replicate l p)) (H ++ [.arr e l]) := by
 refine zr7 (fun F g a w hr => ?_)
 have hcells := hi.cells
 obtain ⟨inf, hinf, hzz, hss, hbb⟩ := hi.spec
 have hpl : p.cells.length = sz := by rw [hp]; simpa using hz
 have hwl : IntKind.i64.wrap (l : Int) = l := zae (by omega) (by omega)
 have hwc : IntKind.i64.wrap (c : Int) = c := zae (by omega) (by omega)
 refine ⟨(Array.range (c * sz)).map (fun i => z.cells[i % sz]!), w, .slice (some ⟨w.heap.size, 0, none⟩) l c, rfl, rfl, rfl, rfl, ?_, ?_, ?_⟩
 ·rw [hcells]; simp; exact Nat.mul_le_mul_right _ hlc
 ·have hty : (typeInfo e).run P w = .ok inf w := by simp [typeInfo, hinf]
  have hbig : ¬ (281474976710656 < (inf.bytes : Int) * (c : Int)) := by
   rw [hbb]
   have h1 : ((b_ : Int) * (c : Int)) = ((c * b_ : Nat) : Int) := by rw [Int.natCast_mul, Int.mul_comm]
   rw [h1]; omega
  have hrun : (Instr.makeSlice t (.int k1 l) (.int k2 c)).run P w = .ok (.slice (some ⟨w.heap.size, 0, none⟩) l c) (w.alloc (.cells ((Array.range (c * sz)).map (fun i => z.cells[i % sz]!)) e)) := by
   simp only [Instr.makeSlice, Sem.run_bind, z1d ht, Result.andThen_ok, asInt, asIntOf, Sem.run_pure, hty, hwl, hwc]
   have c1 : (decide ((c : Int) < 0) || decide ((inf.bytes : Int) * (c : Int) > 2 ^ 48) || decide ((l : Int) < 0) || decide ((l : Int) > (c : Int))) = false := by
    simp only [Bool.or_eq_false_iff, decide_eq_false_iff_not]
    refine ⟨⟨⟨by omega, by simpa using hbig⟩, by omega⟩, by omega⟩
   simp only [c1, Bool.false_eq_true, if_false]
   by_cases h0 : c * sz = 0
   ·have hr0 : Array.range (c * sz) = #[] := by rw [h0]; rfl
    simp only [hi.run_size, h0, if_true, Sem.run_bind, Sem.run_pure, Result.andThen_ok, run_askRoom]
    have he : Array.range 0 = #[] := rfl
    simp [newRow, he]
    rw [if_pos h0, hr0]
    simp
   ·have hzs : z.cells.size = sz := hz
    simp [hi.run_size, h0, hi.run_zero, hzs, newRow]
  simp only [execOp, ho, hr.const hx, hr.const hy, Sem.run_bind, hrun, Result.andThen_ok, Sem.run_pure]
 ·intro C hle hM hT hB
  have hall : ∀ q, q ∈ List.replicate l p → q.cells.length = sz := fun q hq => by rw [(List.mem_replicate.1 hq).2]; exact hpl
  have hl2 : (List.replicate l p).length = l := by simp
  have hval : Value.slice (some ⟨w.heap.size, 0, none⟩) l c = Value.slice (some ⟨w.heap.size, 0, none⟩) (List.replicate l p).length c := by rw [hl2]
  rw [hval]
  refine z93 hall (by rw [hl2]; exact ⟨hlc, by omega⟩) (hB _ _ (by simp)) (fun j hj => ?_) (fun k q hq => ?_)
  ·injection hj with hj; subst hj
   exact hT _ _ _ _ (by rw [hl2]; exact Nat.le_refl _) (fun _ => ⟨hcells.symm, rfl, by simp [hcells]⟩)
  ·rw [Nat.zero_add]
   have hk := z0b hq
   rw [z2q hall, hl2] at hk
   have hsz0 : 0 < sz := by
    rcases Nat.eq_zero_or_pos sz with h | h
    ·rw [h] at hk; simp at hk
    ·exact h
   have hm : k % sz < sz := Nat.mod_lt _ hsz0
   have hi2 : k / sz < (List.replicate l p).length := by rw [hl2]; exact Nat.div_lt_of_lt_mul (by rw [Nat.mul_comm]; exact hk)
   have hyj : p.cells[k % sz]? = some (.v (z.cells[k % sz]'(by rw [hz]; exact hm))) := by
    rw [hp, List.getElem?_map, List.getElem?_eq_getElem (by simpa [hz] using hm)]; simp
   have hfl := z8d hall (k / sz) (k % sz) p _ (by rw [List.getElem?_replicate, if_pos (by simpa using hi2)]) hyj
   have hdm : k / sz * sz + k % sz = k := by rw [Nat.mul_comm]; exact Nat.div_add_mod k sz
   rw [hdm, hq] at hfl
   injection hfl with hfl
   subst hfl
   refine ⟨_, ?_, vr_v.2 rfl⟩
   refine hM k _ (by rw [hcells]; exact hk) ?_
   have hkc : k < c * sz := Nat.lt_of_lt_of_le hk (Nat.mul_le_mul_right _ hlc)
   rw [Array.getElem?_map, Array.getElem?_range, if_pos hkc]
   simp [getElem!_pos, hz, hm]

end Go.Proofs.YthidgpcbnieleaaGreatDoor.Aw
