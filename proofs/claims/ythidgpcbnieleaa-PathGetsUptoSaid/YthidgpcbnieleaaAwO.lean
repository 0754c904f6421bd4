/- Aw: calls that answer with rows of their own, which are the caller's from then on. -/
import Derived.Test.YthidgpcbnieleaaB0
namespace Go.Proofs.Ythidgpcbnieleaa.Aw
open Go
set_option linter.unusedVariables false
set_option linter.unusedSimpArgs false
variable {P : Program} {H : List AEnt} {env : List (Nat × PV)} {n : Nat} {o : Oper}
theorem zey {Es : List AEnt} : z2c H [] Es = H ++ Es.map (AEnt.ren (backσ H [])) := by
 unfold z2c
 congr 1
 apply List.ext_getElem?
 intro i
 rw [List.getElem?_mapIdx]
 cases H[i]? <;> simp
theorem zuv (k : Nat) : backσ H [] k = H.length + k := by simp [backσ]
theorem z9h {f : FuncId} {args : List Operand} {types : Array TypeId} {xs fargs : List PV} {X X' : PV} {Es Es' : List AEnt}
 (ho : o.op = .call { callee := .value (.func f), args := args.toArray, argTypes := types }) (hen : z0x P f)
 (hx : evs env args = some xs) (hw : WkL xs fargs) (hai : IdsNil fargs) (hc : zfb P f fargs [] X Es) (hX : X.ren (fun k => H.length + k) = X') (hE : Es.map (AEnt.ren (fun k => H.length + k)) = Es') : Op1 P o env H n X' (H ++ Es') := by
 have hback : backσ H [] = fun k => H.length + k := funext zuv
 intro F g a w hr Kn Q hK
 have hv := hr.vrs hx
 have hv' : VRs (ctx P F H g w) fargs (args.toArray.map a.eval) := by
  refine ⟨by rw [← hw.len]; exact hv.1, fun i y hy => ?_⟩
  obtain ⟨x, h1, h2⟩ := hw.get i y hy
  obtain ⟨u, h3, h4⟩ := hv.2 i x h1
  exact ⟨u, h3, h2 _ _ h4⟩
 have hf := z2i hr.rel []
 have hrel := z4u hr.rel (σ := []) (by simp) hf (by simp) (by simp)
 have hargs : VRs (ctx P (z3i P F H g []) (z3f H []) (z4k g []) w) fargs (args.toArray.map a.eval) := by
  refine ⟨hv'.1, fun i x hx => ?_⟩
  obtain ⟨u, h1, h2⟩ := hv'.2 i x hx
  have hid := hai.mem x (List.mem_of_getElem? hx)
  have := z76 hr.rel (σ := []) (by simp) hf (fun k hk => by rw [hid] at hk; cases hk) h2
  rw [z18 x (fun i hi => by rw [hid] at hi; cases hi)] at this
  exact ⟨u, h1, this⟩
 unfold Oper.wp
 have hrun : (execOp a.eval o).run P w = .ok (.enter f (args.toArray.map a.eval)) w := by
  simp only [execOp, ho]
  simp [resolve, Deferred.ofValue, invoke, Act.eval, z2j hen]
 rw [hrun]
 simp only [Oper.upon_enter]
 refine Calls.mono (hc _ _ _ _ hrel hargs) ?_
 rintro e w' ⟨r, H', g', h1, h2, h3, rfl, rfl⟩
 have hm := z7c hr.rel (σ := []) (by simp) (by simp) h2 h3
 have hx' := z7d hr.rel (σ := []) (by simp) (by simp) h2 h3
 rw [zey, hback, hE] at hm hx'
 cases e with
 | returned v =>
  have hvv := z6n hr.rel (σ := []) (by simp) (by simp) h2 h3 h1
  rw [zey, hback, hE, hX] at hvv
  exact hK v w' _ hvv hm hx'
 | panicked c => exact h1.elim
 | outgrown => exact h1.elim
end Go.Proofs.Ythidgpcbnieleaa.Aw
