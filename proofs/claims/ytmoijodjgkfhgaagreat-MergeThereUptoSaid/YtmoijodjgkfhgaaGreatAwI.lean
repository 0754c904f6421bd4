/- Aw: rows clipped, records let go between two operations, rows to be written that are nil so far; a region in which a variable is made without an order to its writers. -/
import Derived.Test.YtmoijodjgkfhgaaGreatAwE
import Derived.Test.YtmoijodjgkfhgaaGreatAwQ
import Derived.Test.YtmoijodjgkfhgaaGreatB0
import Derived.Test.YtmoijodjgkfhgaaGreatB0
import Derived.Laws.StructEq
namespace Go.Proofs.YtmoijodjgkfhgaaGreat.Aw
open Go
set_option linter.unusedVariables false
set_option linter.unusedSimpArgs false
variable {P : Program} {F : Fr} {H H' : List AEnt} {g g' : List (Option Nat)} {w w' : World} {env : List (Nat × PV)} {n : Nat} {o : Oper}
theorem zx1 {t e : TypeId} {x hi mx : Operand} {tk : Option Nat} {z : Value} {sz b_ : Nat} {xs : List PV} (ht : P.underlying t = some (.slice e)) (hi' : Inf P e z sz b_)
 (ho : o.op = .slice t x none (some hi) (some mx)) (hx : ev env x = some (.sl tk e sz xs)) (hh : ev env hi = some (.v (.int .i64 ((xs.length : Nat) : Int)))) (hm : ev env mx = some (.v (.int .i64 ((xs.length : Nat) : Int)))) :
 Op1 P o env H n (.sl (some H.length) e sz xs) (H ++ [.arr e xs.length]) := by
 intro F g a w hr Kn Q hK
 have hcz : P.cellsOf e = sz := hi'.cells
 obtain ⟨A, c, hu, ⟨hc, hB⟩, _, hxs⟩ := vr_sl.1 (hr.opd hx)
 have eh : a.eval hi = .int .i64 ((xs.length : Nat) : Int) := vr_v.1 (hr.opd hh)
 have em : a.eval mx = .int .i64 ((xs.length : Nat) : Int) := vr_v.1 (hr.opd hm)
 have hrun : (execOp a.eval o).run P w = .ok (.value (.slice (if xs.length = 0 then A else A.map (·.add (0 * sz))) xs.length xs.length)) w := by
  simp only [execOp, ho, hu, Option.map_some, Option.map_none, eh, em]
  simp [Instr.sliceAt, Instr.slice, Sem.run_bind, z1i ht, Instr.sliceBounds, Instr.sliceBound, asIntOf, hc.1, hi'.run_size]
 have hA : (if xs.length = 0 then A else A.map (·.add (0 * sz))) = A := by
  split
  ·rfl
  ·cases A with
   | none => rfl
   | some p => simp [Addr.add]
 rw [hA] at hrun
 unfold Oper.wp
 rw [hrun]
 have hn : ∀ b, (none : Option Nat) = some b → b = w.heap.size := fun b hb => by cases hb
 have hle := z6i (w' := w) hr.rel (.arr e xs.length) none hn (Nat.le_refl _) (fun _ _ => rfl)
 refine hK _ _ _ ?_ (z3s (w' := w) hr.rel (.arr e xs.length) none hn (Nat.le_refl _) (fun _ _ => rfl) (.inl ⟨rfl, trivial⟩)) (z3u hr.rel (.arr e xs.length) none hn (Nat.le_refl _) (fun _ _ => rfl) rfl rfl rfl)
 refine vr_sl.2 ⟨A, xs.length, rfl, ⟨⟨Nat.le_refl _, hc.2⟩, fun hf => ?_⟩, fun j hj => ?_, fun i x hx => ?_⟩
 ·rcases hB hf with ⟨h1, h2⟩ | ⟨b, o, cs, zz, q, h1, h2, h3, h4, h5, h6⟩
  ·refine .inl ⟨h1, ?_⟩
   have : xs.length * sz ≤ c * sz := Nat.mul_le_mul_right _ hc.1
   omega
  ·have : xs.length * sz ≤ c * sz := Nat.mul_le_mul_right _ hc.1
   exact .inr ⟨b, o, cs, zz, q, h1, h2, h3, by omega, h5, h6⟩
 ·injection hj with hj; subst hj
  refine ⟨by simp, fun e' k he => ?_⟩
  simp at he
  obtain ⟨rfl, rfl⟩ := he
  exact ⟨Nat.le_refl _, fun _ => ⟨hcz.symm, .inl ⟨by rw [← hr.rel.len]; exact z35, trivial, rfl⟩⟩⟩
 ·obtain ⟨h1, b, off, h2, h3⟩ := hxs i x hx
  exact ⟨h1, b, off, h2, fun j y hy => let ⟨u', h4, h5⟩ := h3 j y hy; ⟨u', hle.M _ _ _ h4, h5.mono hle⟩⟩
theorem zt8 {α : Type} {f : α → PV} {t e : TypeId} {x hi mx : Operand} {tk : Option Nat} {z : Value} {sz b_ : Nat} {l : List α} (ht : P.underlying t = some (.slice e)) (hi' : Inf P e z sz b_)
 (ho : o.op = .slice t x none (some hi) (some mx)) (hx : ev env x = some (.sl tk e sz (l.map f))) (hh : ev env hi = some (.v (.int .i64 ((l.length : Nat) : Int)))) (hm : ev env mx = some (.v (.int .i64 ((l.length : Nat) : Int)))) :
 Op1 P o env H n (.sl (some H.length) e sz (l.map f)) (H ++ [.arr e l.length]) :=
 (zx1 ht hi' ho hx (by rw [List.length_map]; exact hh) (by rw [List.length_map]; exact hm)).cast rfl (by rw [List.length_map])
theorem z8r {e : TypeId} {x : PV} {off : Nat} (h : x.ids = []) : (PV.pt e x off).ids = [] := h
theorem Z33 {ops : Array Oper} {l : List Oper} {s : ASt} {K : AExit → ASt → Prop} (i t : Nat) {ty : TypeId} {cs : List PV} {x y : PV} (hi : s.H[i]? = some (.box ty cs)) (hx : get s.env t = some x) (hw : Wk (thaw i ty cs x) y)
 (h : AO P ops l ⟨(t, y) :: s.env, s.H.set i .dead, s.n⟩ K) : AO P ops l s K := by
 intro F g a w hr
 have hd := hr.dead i
 obtain ⟨u, h1, h2⟩ := hr.env t x hx
 have hr' : Rel P F ⟨(t, y) :: s.env, s.H.set i .dead, s.n⟩ a w g := by
  refine ⟨hd.rel, fun k z hz => ?_, hr.size, hr.defers⟩
  simp only [get] at hz
  cases hb : Nat.beq t k with
  | true =>
   rw [hb] at hz; simp at hz; subst hz
   have := beq_iff'.1 hb; subst this
   exact ⟨u, h1, hw _ _ (zkh hr.rel hi h2)⟩
  | false => rw [hb] at hz; exact hd.env k z hz
 exact z32 (fun _ _ _ hp => hp.from (zb1 hr.rel i)) l a w (h F g a w hr')
theorem z7p {e sz : Nat} {x : Operand} (ho : o.op = .assign x ∨ o.op = .move x) (hx : ev env x = some (.v (.slice none 0 0))) : Op1 P o env H n (.rs H.length 0 0 e sz) (H ++ [.dead]) := by
 intro F g a w hr Kn Q hK
 have eh : a.eval x = .slice none 0 0 := vr_v.1 (hr.opd hx)
 have hrun : (execOp a.eval o).run P w = .ok (.value (.slice none 0 0)) w := by
  rcases ho with ho | ho <;> simp [execOp, ho, eh]
 unfold Oper.wp
 rw [hrun]
 have hn : ∀ b, (none : Option Nat) = some b → b = w.heap.size := fun b hb => by cases hb
 refine hK _ _ _ (vr_rs.2 ⟨none, 0, rfl, ⟨Nat.le_refl _, by simp⟩, fun _ => ⟨rfl, by exact Ctx.b0 _ _ _⟩, fun h => absurd rfl h⟩) (z3s (w' := w) hr.rel .dead none hn (Nat.le_refl _) (fun _ _ => rfl) trivial) (z3u hr.rel .dead none hn (Nat.le_refl _) (fun _ _ => rfl) rfl rfl rfl)
theorem zll {o2 : Oper} {d2 : Nat} {f : FuncId} {fn : Func} {c : Code} {args : List PV} {Hp : List AEnt} {u : DMode} {Q : List AEnt → Prop} {N d rid : Nat} (hf : P.funcs[f]? = some fn) (hb : fn.body = some (.seq (.region rid #[o, o2] false) c)) (hN : fn.ntmps = N) (hres : fn.results = #[]) (hlen : Nat.ble args.length N = true)
 (ho : o.op = .call { callee := .builtin .recover, args := #[], argTypes := #[] }) (hg : o.guard = none) (hd : o.dst = some d) (hn : Nat.blt d N = true) (ho2 : o2.op = .assign (.tmp d)) (hg2 : o2.guard = none) (hd2 : o2.dst = some d2) (hn2 : Nat.blt d2 N = true)
 (h : AW P c ⟨(d2, u.told) :: (d, u.told) :: z5a 0 args, Hp, N⟩ (Z9u P [] Hp.length (fun r H' => r = .ret (.tup []) ∧ Q H'))) : DCalls P f args Hp u Q := by
 intro F g vargs w u0 hrel hargs hu
 refine callsD_of_wpS hf hb ?_
 intro c0 cs hc0
 have hlen' := Nat.le_of_ble_eq_true hlen
 have hr : Rel P ⟨F, []⟩ ⟨z5a 0 args, Hp, N⟩ { tmps := vargs ++ Array.replicate (fn.ntmps - vargs.size) undef, defers := [] } w g := by
  refine ⟨hrel, fun t x hx => ?_, ?_, rfl⟩
  ·obtain ⟨_, h1⟩ := z7j hx
   obtain ⟨u, h2, h3⟩ := hargs.2 _ _ h1
   refine ⟨u, ?_, h3⟩
   have : t < vargs.size := by simpa using z1b h2
   show (vargs ++ _)[t]? = some u
   rw [Array.getElem?_append_left this]
   simpa using h2
  ·show (vargs ++ _).size = N
   simp [hargs.1, hN]; omega
 generalize ha : ({ tmps := vargs ++ Array.replicate (fn.ntmps - vargs.size) undef, defers := [] } : Act) = a at hr
 refine wpS_seq (wpS_region ?_)
 have hrun : (execOp a.eval o).run P w = .ok .recover w := by
  simp only [execOp, ho]
  simp [resolve, invoke]
  rfl
 have hwant : Region.wanted o (yielded #[o, o2] a.tmps) = true := by simp [Region.wanted, hg]
 have hwant2 : ∀ a' : Act, Region.wanted o2 (yielded #[o, o2] a'.tmps) = true := fun a' => by simp [Region.wanted, hg2]
 -- behind the first operation
 have key : ∀ (v : Value) (u' : FrameMode), VR (ctx P F Hp g w) u.told v → settle u' = .returning → c.wpS P (bodyPostS P fn c0 cs fun e u' w' => ∃ v H' g', e = .returned v ∧ settle u' = .returning ∧ RelH P F H' g' w' ∧ Ext P F Hp g w H' g' w' ∧ Q H') ((a.put (some d) v).put (some d2) v) ({ c0 with mode := u' } :: cs) w := by
  intro v u' hv hset
  have hr0 : Rel P ⟨F, []⟩ ⟨(d, u.told) :: z5a 0 args, Hp, N⟩ (a.put (some d) v) w g := hr.put (d := some d) (by simpa [z5m] using hn) hv hrel .refl
  have hr1 : Rel P ⟨F, []⟩ ⟨(d2, u.told) :: (d, u.told) :: z5a 0 args, Hp, N⟩ ((a.put (some d) v).put (some d2) v) w g := hr0.put (d := some d2) (by simpa [z5m] using hn2) hv hrel .refl
  refine wpS_of_wp (wp_mono (h ⟨F, []⟩ g _ w hr1) ?_)
  rintro e a' w' ⟨x, s', g', h1, h2, h3, h4⟩
  have fin : ∀ xs, z6n P s'.env s'.H [] = some xs → EndOk s'.H Hp.length (tupPV xs) (fun x H' => (ARes.ret x = .ret (.tup []) ∧ Q H')) → bodyPostS P fn c0 cs (fun e u' w' => ∃ v H' g', e = .returned v ∧ settle u' = .returning ∧ RelH P F H' g' w' ∧ Ext P F Hp g w H' g' w' ∧ Q H') .ret a' ({ c0 with mode := u' } :: cs) w' := by
   rintro xs hx ⟨σ, y, e1, e2, e3, e4, e5, e6, e7⟩
   obtain ⟨v', h5, h6⟩ := z77 (fn := fn) (rs := []) (by simpa using hres) h2 hx
   refine ⟨h2.defers, u', rfl, v', h5, v', _, _, rfl, hset, z43 h2.rel e1 (z5n h2.rel σ) e2 e6, zd1 h3 hrel h2.rel rfl e1 e2 e3, e7.2⟩
  cases x <;> cases e <;> first
   | exact h1.elim
   | exact h4.elim
   | (obtain ⟨xs, hx, hend⟩ := h4; exact fin xs hx hend)
   | skip
  obtain ⟨_, _, _, _, _, _, _, _, e7⟩ := (show EndOk s'.H Hp.length _ (fun x H' => (ARes.pan x = .ret (.tup []) ∧ Q H')) from h4)
  cases e7.1
 have two : ∀ (v : Value) (Q' : Exit → Act → List Frame → World → Prop) (cs' : List Frame), Q' .normal ((a.put (some d) v).put (some d2) v) cs' w → wpOpsS P #[o, o2] Q' [1] (a.put o.dst v) cs' w := by
  intro v Q' cs' hq
  have hsz : d < a.tmps.size := by rw [hr.size]; exact Nat.le_of_ble_eq_true hn
  have he : (a.put (some d) v).eval (.tmp d) = v := by simp [Act.eval, Act.put, hsz]
  have hrun2 : (execOp (a.put (some d) v).eval o2).run P w = .ok (.value v) w := by simp only [execOp, ho2, he]; rfl
  rw [hd]
  unfold wpOpsS
  have h1 : (#[o, o2] : Array Oper)[1]? = some o2 := rfl
  simp only [h1, hwant2, if_true, hrun2, Oper.upon_value]
  rw [hd2]
  unfold wpOpsS
  exact hq
 have hrange : List.range (#[o, o2] : Array Oper).size = [0, 1] := rfl
 rw [hrange]
 unfold wpOpsS
 simp only [List.getElem?_toArray, List.getElem?_cons_zero, hwant, if_true, hrun]
 cases u with
 | ret =>
  cases u0 with
  | returning =>
   have : recoverD (c0 :: cs) = none := by simp [recoverD, hc0]
   rw [this]
   simp only []
   refine two _ _ _ ?_
   have hk := key .nilIface .returning (vr_v.2 rfl) rfl
   have e : ({ c0 with mode := FrameMode.returning } : Frame) = c0 := by rw [← hc0]
   rw [e] at hk
   exact hk
  | _ => exact hu.elim
 | pan p =>
  cases u0 with
  | panicking ch =>
   obtain ⟨v, rfl, hv⟩ := hu
   have : recoverD (c0 :: cs) = some (v, { c0 with mode := .panicking [{ v, recovered := true }] } :: cs) := by simp [recoverD, hc0]
   rw [this]
   simp only []
   refine two _ _ _ ?_
   exact key v _ hv rfl
  | _ => exact hu.elim

theorem zmq {H0 : List AEnt} {y : Code} {K : AExit → ASt → Prop} {s : ASt} (h : K .ret s) : Z6u P H0 y K .ret s := h
theorem zg0 {id : Nat} {K : AExit → ASt → Prop} {s : ASt} (h : K .ret s) : zux id K .ret s := h
theorem zjl {I : ASt → Prop} {K : AExit → ASt → Prop} {s : ASt} (h : K .ret s) : zpw I K .ret s := h
def Z6t (P : Program) (fn : Func) (H0 : List AEnt) (R : ARes → List AEnt → Prop) (rs : List ResultVar) (y : Code) : AExit → ASt → Prop
 | .normal, s => DW P fn H0 R y s []
 | .ret, s => ∃ xs, z6n P s.env s.H rs = some xs ∧ EndOk s.H H0.length (tupPV xs) (fun x H' => R (.ret x) H')
 | _, _ => False
theorem Z2i {fn : Func} {H0 : List AEnt} {R : ARes → List AEnt → Prop} {x y : Code} {s : ASt} {rs : List ResultVar} (hres : fn.results = rs.toArray) (h : BW P s.H x s (Z6t P fn H0 R rs y)) : DW P fn H0 R (.seq x y) s [] := by
 intro F g a w g0 w0 h0 hr hx hd
 have hds : F.ds = [] := by
  cases hF : F.ds with
  | nil => rfl
  | cons _ _ => rw [hF] at hd; exact hd.elim
 refine wp_seq (wp_mono (z0n h F g a w hr) ?_)
 rintro e a' w' ⟨x, s', g', h1, h2, h3, h4⟩
 cases x <;> cases e <;> first
  | exact h1.elim
  | exact h4.elim
  | skip
 ·exact h4 F g' a' w' g0 w0 h0 h2 (hx.trans h3) (hd.mono h3.le)
 ·obtain ⟨xs, hxs, hend⟩ := (show ∃ xs, z6n P s'.env s'.H rs = some xs ∧ EndOk s'.H H0.length (tupPV xs) (fun x H' => R (.ret x) H') from h4)
  have hdf : a'.defers = [] := by rw [h2.defers, hds]
  obtain ⟨v', h5, h6⟩ := z77 hres h2 hxs
  obtain ⟨τ, y, e1, e2, e3, e4, e5, e6, e7⟩ := hend
  have hfd := z5n h2.rel τ
  show Leaves P fn a'.tmps _ a'.defers .returning w'
  rw [hdf]
  exact ⟨v', h5, .ret _, _, z4l _ τ, z4s h2.rel e1 hfd e5 (e4 _ _ h6), z43 h2.rel e1 hfd e2 e6, zd1 (hx.trans h3) h0 h2.rel rfl e1 e2 e3, e7⟩
theorem Z96 {fn : Func} {H0 : List AEnt} {R : ARes → List AEnt → Prop} {c : Code} {s : ASt} {fc : FuncId} {cap cap' : List PV} (hw : WkL cap cap') (h : DW P fn H0 R c s [(fc, cap')]) : DW P fn H0 R c s [(fc, cap)] := by
 intro F g a w g0 w0 h0 hr hext hd
 refine h F g a w g0 w0 h0 hr hext ?_
 cases hF : F.ds with
 | nil => rw [hF] at hd; exact hd.elim
 | cons d r =>
  rw [hF] at hd
  cases r with
  | cons _ _ => exact hd.2.elim
  | nil =>
   obtain ⟨⟨us, h1, h2⟩, _⟩ := hd
   refine ⟨⟨us, h1, by rw [← hw.len]; exact h2.1, fun i y hy => ?_⟩, trivial⟩
   obtain ⟨x, h3, h4⟩ := hw.get i y hy
   obtain ⟨u, h5, h6⟩ := h2.2 i x h3
   exact ⟨u, h5, h4 _ _ h6⟩
structure Step3 (P : Program) (t : TypeId) : Prop where
 ht : P.underlying t = some (.struct (P.fieldsOf t))
 hp : P.stoodInHeld t = false
 hg : P.eqGuardType P.depth t = false
 fs : ∃ f0 f1 f2 : Field, (P.fieldsOf t).toList = [f0, f1, f2] ∧ (f0.name ≠ "_" ∧ f1.name ≠ "_" ∧ f2.name ≠ "_") ∧ (f0.offset = 0 ∧ f1.offset = 1 ∧ f2.offset = 2) ∧ P.underlying f0.type = some .string ∧ P.underlying f1.type = some .bool ∧ P.underlying f2.type = some (.int .i64)
end Go.Proofs.YtmoijodjgkfhgaaGreat.Aw
