/- Plain laws, one behind the other. -/
import Derived.Test.YthidgpcbnieleaaAwT
namespace Go.Proofs.Ythidgpcbnieleaa.Aw
open Go
set_option linter.unusedVariables false
set_option linter.unusedSimpArgs false
variable {P : Program} {H : List AEnt} {env : List (Nat × PV)} {n : Nat} {o : Oper}
section
variable {K : AExit → ASt → Prop} {ops : Array Oper} {rest : List Oper}
theorem sS {x : PV} {H' : List AEnt} {d : Nat} (hg : o.guard = none) (hd : o.dst = some d) (hn : Nat.blt d n = true) (h1 : Op1 P o env H n x H') (h : AO P ops rest ⟨(d, x) :: env, H', n⟩ K) : AO P ops (o :: rest) ⟨env, H, n⟩ K := zz6 hg hd hn h1 h
end
theorem sC {e e' : List (Nat × PV)} {k : Nat} {x : PV} (h : get e k = some x) (hs : Sub e' e) : Sub ((k, x) :: e') e := zc4 h (fun _ _ h => h) hs
theorem bR {H0 : List AEnt} {s : ASt} {K : AExit → ASt → Prop} {id : Nat} {l : List Oper} {y : Code} (h : AO P l.toArray l s (Z5l P H0 y K)) : BW P H0 (.seq (.region id l.toArray false) y) s K := z0d (z0e h)
abbrev I64 (x : Int) : PV := .v (.int .i64 x)
abbrev BO (b : Bool) : PV := .v (.bool b)
end Go.Proofs.Ythidgpcbnieleaa.Aw

namespace Go.Proofs.Ythidgpcbnieleaa.Aw
open Go
set_option linter.unusedVariables false
set_option linter.unusedSimpArgs false
variable {P : Program} {H : List AEnt} {env : List (Nat × PV)} {n : Nat} {o : Oper}
theorem zk4 {e : TypeId} {x : PV} {off : Nat} {r : List PV} (h : x.ids = []) (hr : PV.ids.idsL r = []) : PV.ids.idsL (.pt e x off :: r) = [] := by simp only [PV.ids.idsL, PV.ids]; rw [h, hr]; rfl
theorem zk5 {f : Fn} {cs : List PV} (h : PV.ids.idsL cs = []) : (PV.fn f [] cs).ids = [] := by simp only [PV.ids, PV.ids.idsL]; rw [h]; rfl
theorem zap {f : FuncId} {args : List Operand} {types : Array TypeId} {xs cap fargs : List PV} {X : PV} {t : Tmp}
 (ho : o.op = .call { callee := .value (.tmp t), args := args.toArray, argTypes := types }) (hf : get env t = some (.fn (.func f) [] cap)) (hen : z0x P f)
 (hx : evs env args = some xs) (hw : WkL (xs ++ cap) fargs) (hai : IdsNil fargs) (hc : z0o P f fargs X) (hX : X.ids = []) : Op1 P o env H n X H := by
 intro F g a w hr Kn Q hK
 obtain ⟨us, vs, hu, hl1, hl2, _, hcap⟩ := vr_fn.1 (hr.slot hf)
 have h1 : us = [] := List.eq_nil_of_length_eq_zero hl1
 subst h1
 have hv := hr.vrs hx
 have hv' : VRs (ctx P F H g w) fargs (args.toArray.map a.eval ++ vs.toArray) := by
  refine ⟨by rw [← hw.len]; simp [hv.1, hl2]; have := hv.1; simp at this; omega, fun i y hy => ?_⟩
  obtain ⟨x, h1, h2⟩ := hw.get i y hy
  rcases Nat.lt_or_ge i xs.length with hi | hi
  ·rw [List.getElem?_append_left hi] at h1
   obtain ⟨u, h3, h4⟩ := hv.2 i x h1
   refine ⟨u, ?_, h2 _ _ h4⟩
   rw [Array.getElem?_append_left (z1e h3)]; exact h3
  ·rw [List.getElem?_append_right hi] at h1
   obtain ⟨u, h3, h4⟩ := hcap _ x h1
   refine ⟨u, ?_, h2 _ _ h4⟩
   have hs := hv.1
   rw [Array.getElem?_append_right (by rw [hs]; exact hi), hs]
   simpa using h3
 have hf2 := z2i hr.rel []
 have hrel := z4u hr.rel (σ := []) (by simp) hf2 (by simp) (by simp)
 have hargs : VRs (ctx P (z3i P F H g []) (z3f H []) (z4k g []) w) fargs (args.toArray.map a.eval ++ vs.toArray) := by
  refine ⟨hv'.1, fun i x hx => ?_⟩
  obtain ⟨u, h1, h2⟩ := hv'.2 i x hx
  have hid := hai.mem x (List.mem_of_getElem? hx)
  have := z76 hr.rel (σ := []) (by simp) hf2 (fun k hk => by rw [hid] at hk; cases hk) h2
  rw [z18 x (fun i hi => by rw [hid] at hi; cases hi)] at this
  exact ⟨u, h1, this⟩
 unfold Oper.wp
 have hrun : (execOp a.eval o).run P w = .ok (.enter f (args.toArray.map a.eval ++ vs.toArray)) w := by
  have he : a.eval (.tmp t) = .func (.func f) #[] vs.toArray := hu
  simp only [execOp, ho]
  simp [resolve, Deferred.ofValue, invoke, he, z2j hen]
 rw [hrun]
 simp only [Oper.upon_enter]
 refine Calls.mono (hc _ _ _ _ hrel hargs) ?_
 rintro e w' ⟨r, H', g', h1, h2, h3, rfl, rfl⟩
 have hm := z7c hr.rel (σ := []) (by simp) (by simp) h2 h3
 have hx' := z7d hr.rel (σ := []) (by simp) (by simp) h2 h3
 rw [z5t] at hm hx'
 cases e with
 | returned v =>
  have hvv := z6n hr.rel (σ := []) (by simp) (by simp) h2 h3 h1
  rw [z5t, z18 X (fun i hi => by rw [hX] at hi; cases hi)] at hvv
  exact hK v w' _ hvv hm hx'
 | panicked c => exact h1.elim
 | outgrown => exact h1.elim
end Go.Proofs.Ythidgpcbnieleaa.Aw

namespace Go.Proofs.Ythidgpcbnieleaa.Aw
open Go
set_option linter.unusedVariables false
set_option linter.unusedSimpArgs false
variable {P : Program} {F : Fr} {H H' : List AEnt} {g g' : List (Option Nat)} {w w' : World}
end Go.Proofs.Ythidgpcbnieleaa.Aw

