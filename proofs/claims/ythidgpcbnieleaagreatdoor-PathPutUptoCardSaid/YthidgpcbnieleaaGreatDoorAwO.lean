/- Aw: calls that answer with rows of their own, which are the caller's from then on. -/
import Derived.Test.YthidgpcbnieleaaGreatDoorB0
namespace Go.Proofs.YthidgpcbnieleaaGreatDoor.Aw
open Go
set_option linter.unusedVariables false
set_option linter.unusedSimpArgs false
variable {P : Program} {H : List AEnt} {env : List (Nat × PV)} {n : Nat} {o : Oper}
theorem zmc {j e sz : Nat} {xs : List PV} (h : PV.ids.idsL xs = []) : ∀ i, i ∈ (PV.sl (some j) e sz xs).ids → i = j := by
 intro i hi
 simpa [PV.ids, h] using hi
theorem zd0 {j k e sz : Nat} {xs : List PV} {f : Nat → Nat} (h : PV.ids.idsL xs = []) (hf : f j = k) : (PV.sl (some j) e sz xs).ren f = .sl (some k) e sz xs := by
 rw [PV.ren, z6m h, Option.map_some, hf]
theorem zdl {Es : List AEnt} : z22 H [] Es = H ++ Es.map (AEnt.ren (backσ H [])) := by
 unfold z22
 congr 1
 apply List.ext_getElem?
 intro i
 rw [List.getElem?_mapIdx]
 cases H[i]? <;> simp
theorem ztc (k : Nat) : backσ H [] k = H.length + k := by simp [backσ]
theorem z6s {f : FuncId} {args : List Operand} {types : Array TypeId} {xs fargs : List PV} {X X' : PV} {Es Es' : List AEnt}
 (ho : o.op = .call { callee := .value (.func f), args := args.toArray, argTypes := types }) (hen : z0t P f)
 (hx : evs env args = some xs) (hw : WkL xs fargs) (hai : IdsNil fargs) (hc : z7a P f fargs [] X Es) (hX : X.ren (fun k => H.length + k) = X') (hE : Es.map (AEnt.ren (fun k => H.length + k)) = Es') : Op1 P o env H n X' (H ++ Es') := by
 have hback : backσ H [] = fun k => H.length + k := funext ztc
 intro F g a w hr Kn Q hK
 have hv := hr.vrs hx
 have hv' : VRs (ctx P F H g w) fargs (args.toArray.map a.eval) := by
  refine ⟨by rw [← hw.len]; exact hv.1, fun i y hy => ?_⟩
  obtain ⟨x, h1, h2⟩ := hw.get i y hy
  obtain ⟨u, h3, h4⟩ := hv.2 i x h1
  exact ⟨u, h3, h2 _ _ h4⟩
 have hf := z3l hr.rel []
 have hrel := z7d hr.rel (σ := []) (by simp) hf (by simp) (by simp)
 have hargs : VRs (ctx P (z3d P F H g []) (z2z H []) (z58 g []) w) fargs (args.toArray.map a.eval) := by
  refine ⟨hv'.1, fun i x hx => ?_⟩
  obtain ⟨u, h1, h2⟩ := hv'.2 i x hx
  have hid := hai.mem x (List.mem_of_getElem? hx)
  have := z7v hr.rel (σ := []) (by simp) hf (fun k hk => by rw [hid] at hk; cases hk) h2
  rw [z12 x (fun i hi => by rw [hid] at hi; cases hi)] at this
  exact ⟨u, h1, this⟩
 unfold Oper.wp
 have hrun : (execOp a.eval o).run P w = .ok (.enter f (args.toArray.map a.eval)) w := by
  simp only [execOp, ho]
  simp [resolve, Deferred.ofValue, invoke, Act.eval, z2i hen]
 rw [hrun]
 simp only [Oper.upon_enter]
 refine Calls.mono (hc _ _ _ _ hrel hargs) ?_
 rintro e w' ⟨r, H', g', h1, h2, h3, rfl, rfl⟩
 have hm := z6v hr.rel (σ := []) (by simp) (by simp) h2 h3
 have hx' := z6w hr.rel (σ := []) (by simp) (by simp) h2 h3
 rw [zdl, hback, hE] at hm hx'
 cases e with
 | returned v =>
  have hvv := z7i hr.rel (σ := []) (by simp) (by simp) h2 h3 h1
  rw [zdl, hback, hE, hX] at hvv
  exact hK v w' _ hvv hm hx'
 | panicked c => exact h1.elim
 | outgrown => exact h1.elim
theorem zzt {x y y' : PV} {e k : Nat} {R : PV → List AEnt → Prop} (j : Nat) (hj : H[j]? = some (.arr e k)) (hw : Wk x y) (hy : ∀ i, i ∈ y.ids → i = j) (hr : y.ren ([j].idxOf ·) = y') (hR : R y' [.arr e k]) : EndOk H 0 x R := by
 refine ⟨[j], y, by simp, fun i hi => ?_, fun k hk => by omega, hw, fun i hi => by simp [hy i hi], fun i e' hi he k' hk' => ?_, ?_⟩
 ·simp at hi; subst hi; exact z07 hj
 ·simp at hi; subst hi
  rw [hj] at he; injection he with he; subst he
  cases hk'
 ·have : z2z H [j] = [.arr e k] := by
   simp only [z2z, List.map_cons, List.map_nil]
   rw [List.getD_eq_getElem?_getD, hj]; rfl
  rw [this, hr]; exact hR
end Go.Proofs.YthidgpcbnieleaaGreatDoor.Aw
