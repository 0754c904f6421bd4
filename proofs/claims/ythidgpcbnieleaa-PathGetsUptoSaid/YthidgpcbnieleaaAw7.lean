/- Aw: calls by pure contracts; cuts of slices; bytes and texts; rows that begin as nil; function values. -/
import Derived.Test.YthidgpcbnieleaaAw6
namespace Go.Proofs.Ythidgpcbnieleaa.Aw
open Go
set_option linter.unusedVariables false
set_option linter.unusedSimpArgs false
variable {P : Program} {F : Fr} {H H' : List AEnt} {g g' : List (Option Nat)} {w w' : World} {env : List (Nat × PV)} {n : Nat} {o : Oper}

def IdsNil : List PV → Prop
 | [] => True
 | x :: r => x.ids = [] ∧ IdsNil r
theorem IdsNil.mem : ∀ {xs : List PV}, IdsNil xs → ∀ p, p ∈ xs → p.ids = []
 | [], _, p, hp => by cases hp
 | x :: r, h, p, hp => by
  rcases List.mem_cons.1 hp with rfl | hp
  ·exact h.1
  ·exact IdsNil.mem h.2 p hp
theorem zud {xs : List PV} (h : ∀ x, x ∈ xs → x.ids = []) : PV.ids.idsL xs = [] := by
 induction xs with
 | nil => rfl
 | cons x r ih => simp only [PV.ids.idsL]; rw [h x (by simp), ih (fun y hy => h y (by simp [hy]))]; rfl
def z0o (P : Program) (f : FuncId) (args : List PV) (X : PV) : Prop := ACalls P f args [] (fun r H' => r = .ret X ∧ H' = [])
section
variable {s : ASt} {K : AExit → ASt → Prop} {ops : Array Oper} {rest : List Oper}
theorem z03 {f : FuncId} {args : List Operand} {types : Array TypeId} {xs fargs : List PV} {X : PV}
 (ho : o.op = .call { callee := .value (.func f), args := args.toArray, argTypes := types }) (hen : z0x P f)
 (hx : evs env args = some xs) (hw : WkL xs fargs) (hai : IdsNil fargs) (hc : z0o P f fargs X) (hX : X.ids = []) : Op1 P o env H n X H := by
 intro F g a w hr Kn Q hK
 have hv := hr.vrs hx
 have hv' : VRs (ctx P F H g w) fargs (args.toArray.map a.eval) := by
  refine ⟨by rw [← hw.len]; exact hv.1, fun i y hy => ?_⟩
  obtain ⟨x, h1, h2⟩ := hw.get i y hy
  obtain ⟨u, h3, h4⟩ := hv.2 i x h1
  exact ⟨u, h3, h2 _ _ h4⟩
 have hf := z2i hr.rel []
 have hrel := z4u hr.rel (σ := []) (by simp) hf (by simp) (by simp)
 have hargs : VRs (ctx P (z3i P F H g []) (z3f H []) (z4k g []) w) fargs (args.toArray.map a.eval) := by
  refine ⟨hv'.1, fun i x hx => ?_⟩
  obtain ⟨u, h1, h2⟩ := hv'.2 i x hx
  have hid := hai.mem x (List.mem_of_getElem? hx)
  have := z76 hr.rel (σ := []) (by simp) hf (fun k hk => by rw [hid] at hk; cases hk) h2
  rw [z18 x (fun i hi => by rw [hid] at hi; cases hi)] at this
  exact ⟨u, h1, this⟩
 unfold Oper.wp
 have hrun : (execOp a.eval o).run P w = .ok (.enter f (args.toArray.map a.eval)) w := by
  simp only [execOp, ho]
  simp [resolve, Deferred.ofValue, invoke, Act.eval, z2j hen]
 rw [hrun]
 simp only [Oper.upon_enter]
 refine Calls.mono (hc _ _ _ _ hrel hargs) ?_
 rintro e w' ⟨r, H', g', h1, h2, h3, rfl, rfl⟩
 have hm := z7c hr.rel (σ := []) (by simp) (by simp) h2 h3
 have hx' := z7d hr.rel (σ := []) (by simp) (by simp) h2 h3
 rw [z5t] at hm hx'
 cases e with
 | returned v =>
  have hvv := z6n hr.rel (σ := []) (by simp) (by simp) h2 h3 h1
  rw [z5t, z18 X (fun i hi => by rw [hX] at hi; cases hi)] at hvv
  exact hK v w' _ hvv hm hx'
 | panicked c => exact h1.elim
 | outgrown => exact h1.elim
end

theorem Z5c {F : Lo} {A : Option Addr} {e c l sz : Nat} (h : (ctx P F H g w).B A e sz (c * sz)) (hl : l ≤ c) : (ctx P F H g w).B (if c = l then A else A.map (·.add (l * sz))) e sz ((c - l) * sz) := by
 intro hf
 rcases h hf with ⟨rfl, h0⟩ | ⟨b, o, cs, z, q, rfl, h1, h2, h3, h5, h6⟩
 ·refine .inl ⟨by split <;> rfl, ?_⟩
  rcases Nat.mul_eq_zero.1 h0 with h0 | h0
  ·simp [h0]
  ·simp [h0]
 ·right
  have h4 : l * sz ≤ c * sz := Nat.mul_le_mul_right _ hl
  split
  ·exact ⟨b, o, cs, z, q, rfl, h1, h2, by rw [Nat.sub_mul]; omega, h5, h6⟩
  ·exact ⟨b, o + l * sz, cs, z, q + l, by simp [z1m], h1, h2, by rw [Nat.sub_mul]; omega, h5, by rw [h6, Nat.add_mul]⟩
theorem zzo {C : Ctx} {tk : Option Nat} {e : TypeId} {sz : Nat} {xs : List PV} {A : Option Addr} {c l h : Nat} (hv : VR C (.sl tk e sz xs) (.slice A xs.length c)) (h1 : l ≤ h) (h2 : h ≤ xs.length) (hB : C.B A e sz (c * sz) → l ≤ c → C.B (if c = l then A else A.map (·.add (l * sz))) e sz ((c - l) * sz)) :
 VR C (.sl none e sz ((xs.take h).drop l)) (.slice (if c = l then A else A.map (·.add (l * sz))) (h - l) (c - l)) := by
 obtain ⟨A', c', he, ⟨hc, hcB⟩, _, hxs⟩ := vr_sl.1 hv
 injection he with e1 e2 e3
 subst e1; subst e3
 have hlen : ((xs.take h).drop l).length = h - l := by simp; omega
 refine vr_sl.2 ⟨_, c - l, by rw [hlen], ⟨by rw [hlen]; omega, hB hcB (by omega)⟩, by simp, fun i x hx => ?_⟩
 have hil := z0a hx
 have hx' : xs[l + i]? = some x := by
  rw [List.getElem?_drop, List.getElem?_take] at hx
  split at hx
  ·exact hx
  ·cases hx
 obtain ⟨h3, b, off, rfl, h4⟩ := hxs _ x hx'
 refine ⟨h3, b, off + l * sz, ?_, fun j y hy => ?_⟩
 ·rw [if_neg (by omega)]; simp [z1m]
 ·obtain ⟨u, h5, h6⟩ := h4 j y hy
  exact ⟨u, by rw [show off + l * sz + (i * sz + j) = off + ((l + i) * sz + j) by rw [Nat.add_mul]; omega]; exact h5, h6⟩
def zwh : Option (IntKind × Int) → Nat → Nat
 | none, d => d
 | some x, _ => x.2.toNat
theorem zxb {t e : TypeId} {z : Value} {sz b_ : Nat} {A : Option Addr} {len c : Nat} {lo hi : Option (IntKind × Int)} {l h : Nat} (ht : P.underlying t = some (.slice e)) (hi' : Inf P e z sz b_)
 (hl : l = zwh lo 0) (hh : h = zwh hi len) (hl0 : ∀ k i, lo = some (k, i) → 0 ≤ i) (hh0 : ∀ k i, hi = some (k, i) → 0 ≤ i) (h1 : l ≤ h) (h2 : h ≤ c) (w : World) :
 (Instr.sliceAt t (.slice A len c) (lo.map fun x => .int x.1 x.2) (hi.map fun x => .int x.1 x.2) none).run P w = .ok (.slice (if c = l then A else A.map (·.add (l * sz))) (h - l) (c - l)) w := by
 have hat : Instr.sliceAt t (.slice A len c) (lo.map fun x => .int x.1 x.2) (hi.map fun x => .int x.1 x.2) none = Instr.sliceAt t (.slice A len c) (lo.map fun x => .int x.1 x.2) (hi.map fun x => .int x.1 x.2) none := rfl
 have hb : ∀ w, (Instr.sliceBounds true len c (lo.map fun x => .int x.1 x.2) (hi.map fun x => .int x.1 x.2) none).run P w = .ok (l, h, c) w := by
  intro w
  cases hi with
  | none =>
   have hh' : h = len := hh
   cases lo with
   | none =>
    have hl' : l = 0 := hl
    subst hl'; simp [Instr.sliceBounds, hh']
   | some x =>
    have := hl0 _ _ rfl
    have hl' : l = x.2.toNat := hl
    have hle : x.2 ≤ (len : Int) := by omega
    simp [Instr.sliceBounds, Instr.sliceBound, asIntOf, this, hle, hl', hh']
  | some y =>
   have hy := hh0 _ _ rfl
   have hh' : h = y.2.toNat := hh
   have hyc : y.2 ≤ (c : Int) := by omega
   have eh : (y.2.toNat : Int) = y.2 := Int.toNat_of_nonneg hy
   cases lo with
   | none =>
    have hl' : l = 0 := hl
    subst hl'; simp [Instr.sliceBounds, Instr.sliceBound, asIntOf, hy, hyc, hh']
   | some x =>
    have := hl0 _ _ rfl
    have hl' : l = x.2.toNat := hl
    have hle : x.2 ≤ y.2 := by omega
    simp [Instr.sliceBounds, Instr.sliceBound, asIntOf, hy, hyc, this, hle, eh, hl', hh']
 simp only [Instr.sliceAt, Instr.slice, Sem.run_bind, z13 ht, Result.andThen_ok, hb, hi'.run_size, Sem.run_pure]
def zsc (env : List (Nat × PV)) : Option Operand → Option (Option (IntKind × Int))
 | none => some none
 | some x => match ev env x with
  | some (.v (.int k i)) => some (some (k, i))
  | _ => none
theorem z9u {s : ASt} {a : Act} (hr : Rel P F s a w g) {x : Option Operand} {r : Option (IntKind × Int)} (h : zsc s.env x = some r) : x.map a.eval = r.map fun x => .int x.1 x.2 := by
 cases x with
 | none => simp only [zsc] at h; injection h with h; subst h; rfl
 | some x =>
  simp only [zsc] at h
  split at h
  ·rename_i k i he
   injection h with h; subst h
   simp [hr.const he]
  ·cases h
theorem zxp {t e : TypeId} {x : Operand} {lo hi : Option Operand} {tk : Option Nat} {z : Value} {sz b_ : Nat} {xs : List PV} {lv hv : Option (IntKind × Int)} (l h : Nat) (ht : P.underlying t = some (.slice e)) (hi' : Inf P e z sz b_)
 (ho : o.op = .slice t x lo hi none) (hx : ev env x = some (.sl tk e sz xs)) (hlo : zsc env lo = some lv) (hhi : zsc env hi = some hv)
 (hl : l = zwh lv 0) (hh : h = zwh hv xs.length) (hl0 : ∀ k i, lv = some (k, i) → 0 ≤ i) (hh0 : ∀ k i, hv = some (k, i) → 0 ≤ i) (h1 : l ≤ h) (h2 : h ≤ xs.length) :
 Op1 P o env H n (.sl none e sz ((xs.take h).drop l)) H :=
 z17 fun F g a w hr => by
  have hvx := hr.opd hx
  obtain ⟨A, c, hu, ⟨hc, _⟩, _⟩ := vr_sl.1 hvx
  rw [hu] at hvx
  refine ⟨_, zzo hvx h1 h2 Z5c, ?_⟩
  simp only [execOp, ho, hu, z9u hr hlo, z9u hr hhi, Option.map_none]
  simp only [Sem.run_bind]
  rw [zxb ht hi' hl hh hl0 hh0 h1 (by omega)]
  rfl
theorem zu6 {t : TypeId} {x : Operand} {lo hi : Option Operand} {s : ByteArray} {lv hv : Option (IntKind × Int)} (l h : Nat) (ht : P.underlying t = some .string)
 (ho : o.op = .slice t x lo hi none) (hx : ev env x = some (.v (.string s))) (hlo : zsc env lo = some lv) (hhi : zsc env hi = some hv)
 (hl : l = zwh lv 0) (hh : h = zwh hv s.size) (hl0 : ∀ k i, lv = some (k, i) → 0 ≤ i) (hh0 : ∀ k i, hv = some (k, i) → 0 ≤ i) (h1 : l ≤ h) (h2 : h ≤ s.size) :
 Op1 P o env H n (.v (.string (s.extract l h))) H :=
 z17 fun F g a w hr => by
  refine ⟨_, vr_v.2 rfl, ?_⟩
  have hb : ∀ w, (Instr.sliceBounds false s.size s.size (lv.map fun x => .int x.1 x.2) (hv.map fun x => .int x.1 x.2) none).run P w = .ok (l, h, s.size) w := by
   intro w
   cases hv with
   | none =>
    have hh' : h = s.size := hh
    cases lv with
    | none =>
     have hl' : l = 0 := hl
     subst hl'; simp [Instr.sliceBounds, hh']
    | some x =>
     have := hl0 _ _ rfl
     have hl' : l = x.2.toNat := hl
     have hle : x.2 ≤ (s.size : Int) := by omega
     simp [Instr.sliceBounds, Instr.sliceBound, asIntOf, this, hle, hl', hh']
   | some y =>
    have hy := hh0 _ _ rfl
    have hh' : h = y.2.toNat := hh
    have hyc : y.2 ≤ (s.size : Int) := by omega
    have eh : (y.2.toNat : Int) = y.2 := Int.toNat_of_nonneg hy
    cases lv with
    | none =>
     have hl' : l = 0 := hl
     subst hl'; simp [Instr.sliceBounds, Instr.sliceBound, asIntOf, hy, hyc, hh']
    | some x =>
     have := hl0 _ _ rfl
     have hl' : l = x.2.toNat := hl
     have hle : x.2 ≤ y.2 := by omega
     simp [Instr.sliceBounds, Instr.sliceBound, asIntOf, hy, hyc, this, hle, eh, hl', hh']
  simp only [execOp, ho, hr.const hx, z9u hr hlo, z9u hr hhi, Option.map_none]
  have hrun : (Instr.sliceAt t (.string s) (lv.map fun x => .int x.1 x.2) (hv.map fun x => .int x.1 x.2) none).run P w = .ok (.string (s.extract l h)) w := by
   simp only [Instr.sliceAt, Instr.slice, Sem.run_bind, z13 ht, Result.andThen_ok]
   simp only [Option.isSome_none, Bool.false_eq_true, if_false, Sem.run_bind, Sem.run_pure, Result.andThen_ok, hb]
  simp only [Sem.run_bind]
  rw [hrun]
  rfl

theorem znu {C : Ctx} {tk : Option Nat} {e : TypeId} {bs : List UInt8} {A : Option Addr} {c : Nat} (hM : ∀ b off u, C.M b off u → w.cell? ⟨b, off, none⟩ = some u) (hv : VR C (.sl tk e 1 (z6s bs)) (.slice A bs.length c)) :
 (A = none ∧ bs = []) ∨ (∃ ad, A = some ad ∧ (loadCells ad bs.length).run P w = .ok (bs.map fun b => Value.int .u8 b.toNat).toArray w) := by
 obtain ⟨A', c', he, hc, _, hxs⟩ := vr_sl.1 hv
 injection he with e1 e2 e3
 subst e1
 cases A with
 | none =>
  left
  refine ⟨rfl, ?_⟩
  cases bs with
  | nil => rfl
  | cons b r => obtain ⟨_, b', off, h, _⟩ := hxs 0 (.v (.int .u8 b.toNat)) rfl; cases h
 | some ad =>
  right
  refine ⟨ad, rfl, ?_⟩
  have := run_loadCells_list (P := P) (w := w) ad (bs.map fun b => Value.int .u8 b.toNat) (fun j v hj => ?_)
  ·simpa using this
  ·rw [List.getElem?_map, Option.map_eq_some_iff] at hj
   obtain ⟨b, hb, rfl⟩ := hj
   obtain ⟨_, b', off, h, h2⟩ := hxs j (.v (.int .u8 b.toNat)) (by simp [z6s, hb])
   injection h with h; subst h
   obtain ⟨u, h3, h4⟩ := h2 0 _ rfl
   rw [vr_v.1 h4] at h3
   rw [z1m]
   simpa using hM _ _ _ h3
theorem zi9 : ∀ (bs : List UInt8) (s : ByteArray), ((bs.map fun b => ((b.toNat : Nat) : Int)).foldl (fun r n => r.push (UInt8.ofNat n.toNat)) s) = ⟨s.data ++ bs.toArray⟩
 | [], s => by simp
 | b :: r, s => by
  simp only [List.map_cons, List.foldl_cons]
  rw [zi9 r]
  simp [ByteArray.push]
theorem zxi {s d e : TypeId} {x : Operand} {tk : Option Nat} {bs : List UInt8} (hs : P.underlying s = some (.slice e)) (hd : P.underlying d = some .string) (he : P.underlying e = some (.int .u8)) (ho : o.op = .convert s d x) (hx : ev env x = some (.sl tk e 1 (z6s bs))) :
 Op1 P o env H n (.v (.string ⟨bs.toArray⟩)) H :=
 z17 fun F g a w hr => by
  refine ⟨_, vr_v.2 rfl, ?_⟩
  have hv := hr.opd hx
  obtain ⟨A, c, hu, hc, _⟩ := vr_sl.1 hv
  have hl : (z6s bs).length = bs.length := by simp [z6s]
  rw [hl] at hu
  rw [hu] at hv
  have hconv : (convert s d (.slice A bs.length c)).run P w = (Conv.bytesToString (.slice A bs.length c)).run P w := by
   cases A <;> simp only [convert, Sem.run_bind, z13 hs, z13 hd, z13 he, Result.andThen_ok]
  rcases znu (P := P) (C := ctx P F H g w) (w := w) (fun _ _ _ hm => hm.2) hv with ⟨rfl, rfl⟩ | ⟨ad, rfl, hld⟩
  ·simp only [execOp, ho, hu, Sem.run_bind, hconv]
   rfl
  ·have h2 := run_bytesToString (P := P) w ad bs.length c (bs.map fun b => ((b.toNat : Nat) : Int)) (by rw [hld]; simp)
   simp only [execOp, ho, hu, Sem.run_bind, hconv, h2, Result.andThen_ok, Sem.run_pure]
   rw [zi9]
   have he : (⟨ByteArray.empty.data ++ bs.toArray⟩ : ByteArray) = ⟨bs.toArray⟩ := by
    have : ByteArray.empty.data = #[] := rfl
    rw [this, Array.empty_append]
   rw [he]

theorem zvy {f : Fn} {first cap : List Operand} {xs ys : List PV} (ho : o.op = .makeFunc f first.toArray cap.toArray) (hx : evs env first = some xs) (hy : evs env cap = some ys) : Op1 P o env H n (.fn f xs ys) H :=
 z17 fun F g a w hr => by
  have h1 := hr.vrs hx
  have h2 := hr.vrs hy
  refine ⟨.func f (first.toArray.map a.eval) (cap.toArray.map a.eval), vr_fn.2 ⟨(first.toArray.map a.eval).toList, (cap.toArray.map a.eval).toList, by simp, by simpa using h1.1, by simpa using h2.1, fun i y hy => by simpa using h1.2 i y hy, fun i y hy => by simpa using h2.2 i y hy⟩, ?_⟩
  simp [execOp, ho, Instr.makeFunc]

theorem zk0 {t e : TypeId} {x y : Operand} {z : Value} {sz b_ : Nat} {k1 k2 : IntKind} {l c : Nat} (ht : P.underlying t = some (.slice e)) (hi : Inf P e z sz b_) (hz : z.cells.size = sz) (ho : o.op = .makeSlice t x y)
 (hx : ev env x = some (.v (.int k1 l))) (hy : ev env y = some (.v (.int k2 c))) (hlc : l ≤ c) (hb : c * b_ ≤ 140737488355328) (hc : c ≤ 9223372036854775807) {p : PV} (hp : p.cells = z.cells.toList.map .v) :
 Op1 P o env H n (.sl (some H.length) e sz (List.replicate l p)) (H ++ [.arr e l]) := by
 refine zqu (fun F g a w hr => ?_)
 have hcells := hi.cells
 obtain ⟨inf, hinf, hzz, hss, hbb⟩ := hi.spec
 have hpl : p.cells.length = sz := by rw [hp]; simpa using hz
 have hwl : IntKind.i64.wrap (l : Int) = l := za3 (by omega) (by omega)
 have hwc : IntKind.i64.wrap (c : Int) = c := za3 (by omega) (by omega)
 refine ⟨(Array.range (c * sz)).map (fun i => z.cells[i % sz]!), w, .slice (some ⟨w.heap.size, 0, none⟩) l c, rfl, rfl, rfl, rfl, ?_, ?_, ?_⟩
 ·rw [hcells]; simp; exact Nat.mul_le_mul_right _ hlc
 ·have hty : (typeInfo e).run P w = .ok inf w := by simp [typeInfo, hinf]
  have hbig : ¬ (281474976710656 < (inf.bytes : Int) * (c : Int)) := by
   rw [hbb]
   have h1 : ((b_ : Int) * (c : Int)) = ((c * b_ : Nat) : Int) := by rw [Int.natCast_mul, Int.mul_comm]
   rw [h1]; omega
  have hrun : (Instr.makeSlice t (.int k1 l) (.int k2 c)).run P w = .ok (.slice (some ⟨w.heap.size, 0, none⟩) l c) (w.alloc (.cells ((Array.range (c * sz)).map (fun i => z.cells[i % sz]!)) e)) := by
   simp only [Instr.makeSlice, Sem.run_bind, z13 ht, Result.andThen_ok, asInt, asIntOf, Sem.run_pure, hty, hwl, hwc]
   have c1 : (decide ((c : Int) < 0) || decide ((inf.bytes : Int) * (c : Int) > 2 ^ 48) || decide ((l : Int) < 0) || decide ((l : Int) > (c : Int))) = false := by
    simp only [Bool.or_eq_false_iff, decide_eq_false_iff_not]
    refine ⟨⟨⟨by omega, by simpa using hbig⟩, by omega⟩, by omega⟩
   simp only [c1, Bool.false_eq_true, if_false]
   by_cases h0 : c * sz = 0
   ·have hr0 : Array.range (c * sz) = #[] := by rw [h0]; rfl
    simp only [hi.run_size, h0, if_true, Sem.run_bind, Sem.run_pure, Result.andThen_ok, run_askRoom]
    have he : Array.range 0 = #[] := rfl
    simp [newRow, he]
    rw [if_pos h0, hr0]
    simp
   ·have hzs : z.cells.size = sz := hz
    simp [hi.run_size, h0, hi.run_zero, hzs, newRow]
  simp only [execOp, ho, hr.const hx, hr.const hy, Sem.run_bind, hrun, Result.andThen_ok, Sem.run_pure]
 ·intro C hle hM hT hB
  have hall : ∀ q, q ∈ List.replicate l p → q.cells.length = sz := fun q hq => by rw [(List.mem_replicate.1 hq).2]; exact hpl
  have hl2 : (List.replicate l p).length = l := by simp
  have hval : Value.slice (some ⟨w.heap.size, 0, none⟩) l c = Value.slice (some ⟨w.heap.size, 0, none⟩) (List.replicate l p).length c := by rw [hl2]
  rw [hval]
  refine zbn hall (by rw [hl2]; exact ⟨hlc, by omega⟩) (hB _ _ (by simp)) (fun j hj => ?_) (fun k q hq => ?_)
  ·injection hj with hj; subst hj
   exact hT _ _ _ _ (by rw [hl2]; exact Nat.le_refl _) (fun _ => ⟨hcells.symm, rfl, by simp [hcells]⟩)
  ·rw [Nat.zero_add]
   have hk := z0a hq
   rw [z2r hall, hl2] at hk
   have hsz0 : 0 < sz := by
    rcases Nat.eq_zero_or_pos sz with h | h
    ·rw [h] at hk; simp at hk
    ·exact h
   have hm : k % sz < sz := Nat.mod_lt _ hsz0
   have hi2 : k / sz < (List.replicate l p).length := by rw [hl2]; exact Nat.div_lt_of_lt_mul (by rw [Nat.mul_comm]; exact hk)
   have hyj : p.cells[k % sz]? = some (.v (z.cells[k % sz]'(by rw [hz]; exact hm))) := by
    rw [hp, List.getElem?_map, List.getElem?_eq_getElem (by simpa [hz] using hm)]; simp
   have hfl := z7v hall (k / sz) (k % sz) p _ (by rw [List.getElem?_replicate, if_pos (by simpa using hi2)]) hyj
   have hdm : k / sz * sz + k % sz = k := by rw [Nat.mul_comm]; exact Nat.div_add_mod k sz
   rw [hdm, hq] at hfl
   injection hfl with hfl
   subst hfl
   refine ⟨_, ?_, vr_v.2 rfl⟩
   refine hM k _ (by rw [hcells]; exact hk) ?_
   have hkc : k < c * sz := Nat.lt_of_lt_of_le hk (Nat.mul_le_mul_right _ hlc)
   rw [Array.getElem?_map, Array.getElem?_range, if_pos hkc]
   simp [getElem!_pos, hz, hm]

end Go.Proofs.Ythidgpcbnieleaa.Aw
