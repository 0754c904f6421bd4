/- Aw: a call that is handed one variable of the caller's, and changes it. -/
import Derived.Test.YthidgpcbnieleaaAwX
namespace Go.Proofs.Ythidgpcbnieleaa.Aw
open Go
set_option linter.unusedVariables false
set_option linter.unusedSimpArgs false
variable {P : Program} {H : List AEnt} {env : List (Nat × PV)} {n : Nat} {o : Oper}
inductive ArgB (i : Nat) : List PV → List PV → Prop
 | nil : ArgB i [] []
 | box {off : Nat} {xs ys : List PV} : ArgB i xs ys → ArgB i (.rf i off :: xs) (.rf 0 off :: ys)
 | val {p : PV} {xs ys : List PV} : p.ids = [] → ArgB i xs ys → ArgB i (p :: xs) (p :: ys)
theorem ArgB.ids {i : Nat} : ∀ {xs ys : List PV}, ArgB i xs ys → ∀ p, p ∈ xs → ∀ k, k ∈ p.ids → k ∈ [i]
 | _, _, .nil, p, hp, _, _ => by cases hp
 | _, _, .box h, p, hp, k, hk => by
  rcases List.mem_cons.1 hp with rfl | hp
  ·simpa [PV.ids] using hk
  ·exact h.ids p hp k hk
 | _, _, .val h0 h, p, hp, k, hk => by
  rcases List.mem_cons.1 hp with rfl | hp
  ·rw [h0] at hk; cases hk
  ·exact h.ids p hp k hk
theorem ArgB.map {i : Nat} : ∀ {xs ys : List PV}, ArgB i xs ys → xs.map (PV.ren ([i].idxOf ·)) = ys
 | _, _, .nil => rfl
 | _, _, .box h => by rw [List.map_cons, h.map]; simp [PV.ren]
 | _, _, .val h0 h => by rw [List.map_cons, h.map, z18 _ (fun k hk => by rw [h0] at hk; cases hk)]
theorem zs4 {e : AEnt} {f : Nat → Nat} (h : e.ids = []) : e.ren f = e := by
 cases e with
 | box ty cs =>
  simp only [AEnt.ren]
  congr 1
  rw [z25]
  conv => rhs; rw [← List.map_id cs]
  refine List.map_congr_left fun p hp => z18 p (fun k hk => ?_)
  have : k ∈ (AEnt.box ty cs).ids := mem_idsL.2 ⟨p, hp, hk⟩
  rw [h] at this; cases this
 | arr e n => rfl
 | reg => rfl
 | dead => rfl
theorem z9f {i : Nat} {e : AEnt} (h : H[i]? = some e) (he : e.ids = []) : z3f H [i] = [e] := by
 simp only [z3f, List.map_cons, List.map_nil]
 rw [List.getD_eq_getElem?_getD, h, Option.getD_some, zs4 he]
theorem zex {i : Nat} {e e' : AEnt} (h : H[i]? = some e) (he : e'.ids = []) : z2c H [i] [e'] = H.set i e' := by
 have hi := z0a h
 apply List.ext_getElem?
 intro j
 simp only [z2c, List.length_singleton, List.drop_one, List.tail_cons, List.map_nil, List.append_nil, List.getElem?_mapIdx, List.mem_singleton]
 by_cases hj : i = j
 ·subst hj
  rw [h, z1n h]
  simp [zs4 he]
 ·rw [z0z hj]
  cases hq : H[j]? with
  | none => rfl
  | some q => simp [show ¬ j = i from fun h => hj h.symm]
def z8d (P : Program) (f : FuncId) (args : List PV) (e : AEnt) (X : PV) (e' : AEnt) : Prop := ACalls P f args [e] (fun r H' => r = .ret X ∧ H' = [e'])
theorem z7a {f : FuncId} {args : List Operand} {types : Array TypeId} {xs cargs fargs : List PV} {X : PV} {e e' : AEnt} (i : Nat)
 (ho : o.op = .call { callee := .value (.func f), args := args.toArray, argTypes := types }) (hen : z0x P f)
 (hx : evs env args = some xs) (hw : WkL xs cargs) (hb : ArgB i cargs fargs) (hi : H[i]? = some e) (he : e.ids = []) (hc : z8d P f fargs e X e') (hX : X.ids = []) (he' : e'.ids = []) : Op1 P o env H n X (H.set i e') := by
 intro F g a w hr Kn Q hK
 have hil := z0a hi
 have hv := hr.vrs hx
 have hv' : VRs (ctx P F H g w) cargs (args.toArray.map a.eval) := by
  refine ⟨by rw [← hw.len]; exact hv.1, fun j y hy => ?_⟩
  obtain ⟨x, h1, h2⟩ := hw.get j y hy
  obtain ⟨u, h3, h4⟩ := hv.2 j x h1
  exact ⟨u, h3, h2 _ _ h4⟩
 have hf := z2i hr.rel [i]
 have hrel := z4u hr.rel (σ := [i]) (by simp) hf (by simpa using hil) (fun j q hj hq k hk => by
  simp only [List.mem_singleton] at hj; subst hj
  rw [hi] at hq; injection hq with hq; subst hq
  rw [he] at hk; cases hk)
 rw [z9f hi he] at hrel
 have hargs : VRs (ctx P (z3i P F H g [i]) [e] (z4k g [i]) w) fargs (args.toArray.map a.eval) := by
  rw [← hb.map]
  refine ⟨by simpa using hv'.1, fun j x hx => ?_⟩
  rw [List.getElem?_map, Option.map_eq_some_iff] at hx
  obtain ⟨y, hy, rfl⟩ := hx
  obtain ⟨u, h1, h2⟩ := hv'.2 j y hy
  have := z76 hr.rel (σ := [i]) (by simp) hf (hb.ids y (List.mem_of_getElem? hy)) h2
  rw [z9f hi he] at this
  exact ⟨u, h1, this⟩
 unfold Oper.wp
 have hrun : (execOp a.eval o).run P w = .ok (.enter f (args.toArray.map a.eval)) w := by
  simp only [execOp, ho]
  simp [resolve, Deferred.ofValue, invoke, Act.eval, z2j hen]
 rw [hrun]
 simp only [Oper.upon_enter]
 refine Calls.mono (hc _ _ _ _ hrel hargs) ?_
 rintro en w' ⟨r, H', g', h1, h2, h3, rfl, rfl⟩
 rw [← z9f hi he] at h3
 have hm := z7c hr.rel (σ := [i]) (by simp) (by simpa using hil) h2 h3
 have hx' := z7d hr.rel (σ := [i]) (by simp) (by simpa using hil) h2 h3
 rw [zex hi he'] at hm hx'
 cases en with
 | returned v =>
  have hvv := z6n hr.rel (σ := [i]) (by simp) (by simpa using hil) h2 h3 h1
  rw [zex hi he', z18 X (fun k hk => by rw [hX] at hk; cases hk)] at hvv
  exact hK v w' _ hvv hm hx'
 | panicked c => exact h1.elim
 | outgrown => exact h1.elim
theorem zdm {x y : PV} {e : AEnt} {R : PV → List AEnt → Prop} (hw : Wk x y) (hy : y.ids = []) (h0 : H[0]? = some e) (he : e.ids = []) (hR : R y [e]) : EndOk H 1 x R := by
 refine ⟨[0], y, by simp, by simpa using z0a h0, ?_, hw, by simp [hy], ?_, ?_⟩
 ·intro k hk
  have : k = 0 := by omega
  subst this; rfl
 ·intro i q hi hq k hk
  simp only [List.mem_singleton] at hi; subst hi
  rw [h0] at hq; injection hq with hq; subst hq
  rw [he] at hk; cases hk
 ·rw [z9f h0 he, z18 y (fun i hi => by rw [hy] at hi; cases hi)]; exact hR
end Go.Proofs.Ythidgpcbnieleaa.Aw
