/- Plain laws, one behind the other. -/
import Derived.Test.YthidgpcbnieleaaGreatDoorAwT
namespace Go.Proofs.YthidgpcbnieleaaGreatDoor.Aw
open Go
set_option linter.unusedVariables false
set_option linter.unusedSimpArgs false
variable {P : Program} {H : List AEnt} {env : List (Nat × PV)} {n : Nat} {o : Oper}
section
variable {K : AExit → ASt → Prop} {ops : Array Oper} {rest : List Oper}
theorem sS {x : PV} {H' : List AEnt} {d : Nat} (hg : o.guard = none) (hd : o.dst = some d) (hn : Nat.blt d n = true) (h1 : Op1 P o env H n x H') (h : AO P ops rest ⟨(d, x) :: env, H', n⟩ K) : AO P ops (o :: rest) ⟨env, H, n⟩ K := Z0s hg hd hn h1 h
end
theorem sC {e e' : List (Nat × PV)} {k : Nat} {x : PV} (h : get e k = some x) (hs : Sub e' e) : Sub ((k, x) :: e') e := zce h (fun _ _ h => h) hs
theorem bR {H0 : List AEnt} {s : ASt} {K : AExit → ASt → Prop} {id : Nat} {l : List Oper} {y : Code} (h : AO P l.toArray l s (Z8q P H0 y K)) : BW P H0 (.seq (.region id l.toArray false) y) s K := z08 (z0f h)
abbrev I64 (x : Int) : PV := .v (.int .i64 x)
abbrev BO (b : Bool) : PV := .v (.bool b)
end Go.Proofs.YthidgpcbnieleaaGreatDoor.Aw

namespace Go.Proofs.YthidgpcbnieleaaGreatDoor.Aw
open Go
set_option linter.unusedVariables false
set_option linter.unusedSimpArgs false
variable {P : Program} {H : List AEnt} {env : List (Nat × PV)} {n : Nat} {o : Oper}
theorem z4g {e : TypeId} {x : PV} {off : Nat} {r : List PV} (h : x.ids = []) (hr : PV.ids.idsL r = []) : PV.ids.idsL (.pt e x off :: r) = [] := by simp only [PV.ids.idsL, PV.ids]; rw [h, hr]; rfl
theorem z4h {f : Fn} {cs : List PV} (h : PV.ids.idsL cs = []) : (PV.fn f [] cs).ids = [] := by simp only [PV.ids, PV.ids.idsL]; rw [h]; rfl
theorem z39 {f : FuncId} {args : List Operand} {types : Array TypeId} {xs cap fargs : List PV} {X : PV} {t : Tmp}
 (ho : o.op = .call { callee := .value (.tmp t), args := args.toArray, argTypes := types }) (hf : get env t = some (.fn (.func f) [] cap)) (hen : z0v P f)
 (hx : evs env args = some xs) (hw : WkL (xs ++ cap) fargs) (hai : IdsNil fargs) (hc : z0m P f fargs X) (hX : X.ids = []) : Op1 P o env H n X H := by
 intro F g a w hr Kn Q hK
 obtain ⟨us, vs, hu, hl1, hl2, _, hcap⟩ := vr_fn.1 (hr.slot hf)
 have h1 : us = [] := List.eq_nil_of_length_eq_zero hl1
 subst h1
 have hv := hr.vrs hx
 have hv' : VRs (ctx P F H g w) fargs (args.toArray.map a.eval ++ vs.toArray) := by
  refine ⟨by rw [← hw.len]; simp [hv.1, hl2]; have := hv.1; simp at this; omega, fun i y hy => ?_⟩
  obtain ⟨x, h1, h2⟩ := hw.get i y hy
  rcases Nat.lt_or_ge i xs.length with hi | hi
  ·rw [List.getElem?_append_left hi] at h1
   obtain ⟨u, h3, h4⟩ := hv.2 i x h1
   refine ⟨u, ?_, h2 _ _ h4⟩
   rw [Array.getElem?_append_left (z1j h3)]; exact h3
  ·rw [List.getElem?_append_right hi] at h1
   obtain ⟨u, h3, h4⟩ := hcap _ x h1
   refine ⟨u, ?_, h2 _ _ h4⟩
   have hs := hv.1
   rw [Array.getElem?_append_right (by rw [hs]; exact hi), hs]
   simpa using h3
 have hf2 := z3s hr.rel []
 have hrel := z4k hr.rel (σ := []) (by simp) hf2 (by simp) (by simp)
 have hargs : VRs (ctx P (z3c P F H g []) (z32 H []) (z4l g []) w) fargs (args.toArray.map a.eval ++ vs.toArray) := by
  refine ⟨hv'.1, fun i x hx => ?_⟩
  obtain ⟨u, h1, h2⟩ := hv'.2 i x hx
  have hid := hai.mem x (List.mem_of_getElem? hx)
  have := z5y hr.rel (σ := []) (by simp) hf2 (fun k hk => by rw [hid] at hk; cases hk) h2
  rw [z1f x (fun i hi => by rw [hid] at hi; cases hi)] at this
  exact ⟨u, h1, this⟩
 unfold Oper.wp
 have hrun : (execOp a.eval o).run P w = .ok (.enter f (args.toArray.map a.eval ++ vs.toArray)) w := by
  have he : a.eval (.tmp t) = .func (.func f) #[] vs.toArray := hu
  simp only [execOp, ho]
  simp [resolve, Deferred.ofValue, invoke, he, z2k hen]
 rw [hrun]
 simp only [Oper.upon_enter]
 refine Calls.mono (hc _ _ _ _ hrel hargs) ?_
 rintro e w' ⟨r, H', g', h1, h2, h3, rfl, rfl⟩
 have hm := z6d hr.rel (σ := []) (by simp) (by simp) h2 h3
 have hx' := z6f hr.rel (σ := []) (by simp) (by simp) h2 h3
 rw [z8b] at hm hx'
 cases e with
 | returned v =>
  have hvv := z8a hr.rel (σ := []) (by simp) (by simp) h2 h3 h1
  rw [z8b, z1f X (fun i hi => by rw [hX] at hi; cases hi)] at hvv
  exact hK v w' _ hvv hm hx'
 | panicked c => exact h1.elim
 | outgrown => exact h1.elim
def zrz : Value → Bool
 | .nilFunc => true
 | _ => false
theorem zyo {t : TypeId} {d : TypeDesc} (ht : P.underlying t = some d) (hd : ∃ ps rs v, d = .func ps rs v) (x : Value) (w : World) (hx : (∃ f a b, x = .func f a b) ∨ x = .nilFunc) : (Op.equal t x .nilFunc).run P w = .ok (zrz x) w := by
 obtain ⟨ps, rs, v, rfl⟩ := hd
 obtain ⟨d, hd⟩ := zmm t x .nilFunc
 rw [hd]; rcases hx with ⟨f, a, b, rfl⟩ | rfl <;> simp [Op.equalIn, z1d ht, zrz]
def Z4e : PV → Option Bool
 | .v .nilFunc => some true
 | .fn _ _ _ => some false
 | _ => none
theorem zfz {op : BinOp} {t t2 : TypeId} {d : TypeDesc} {x : Operand} {p : PV} {b r : Bool} (ht : P.underlying t = some d) (hd : ∃ ps rs v, d = .func ps rs v) (ho : o.op = .binOp op t x (.const .nilFunc) t2) (hx : ev env x = some p)
 (hb : Z4e p = some b) (hp : (op = .eql ∧ r = b) ∨ (op = .neq ∧ r = !b)) : Op1 P o env H n (.v (.bool r)) H :=
 z1a fun F g a w hr => by
  refine ⟨_, vr_v.2 rfl, ?_⟩
  have key : ∀ u, a.eval x = u → ((∃ f a b, u = .func f a b) ∨ u = .nilFunc) → zrz u = b → (execOp a.eval o).run P w = .ok (.value (.bool r)) w := by
   intro u hu hk hn
   have h2 := zyo ht hd u w hk
   rcases hp with ⟨rfl, rfl⟩ | ⟨rfl, rfl⟩ <;> rcases hk with ⟨f, q, s, rfl⟩ | rfl <;> simp [execOp, ho, hu, z6k, eqGuard, binOp, h2, hn]
  cases p with
  | v u =>
   cases u <;> simp only [Z4e] at hb <;> first | (cases hb; done) | skip
   injection hb with hb
   exact key _ (hr.const hx) (.inr rfl) hb
  | fn f q s =>
   simp only [Z4e] at hb
   injection hb with hb
   obtain ⟨us, vs, hu, _⟩ := vr_fn.1 (hr.opd hx)
   exact key _ hu (.inl ⟨_, _, _, rfl⟩) hb
  | _ => simp [Z4e] at hb
end Go.Proofs.YthidgpcbnieleaaGreatDoor.Aw

namespace Go.Proofs.YthidgpcbnieleaaGreatDoor.Aw
open Go
set_option linter.unusedVariables false
set_option linter.unusedSimpArgs false
variable {P : Program} {F : Fr} {H H' : List AEnt} {g g' : List (Option Nat)} {w w' : World}
end Go.Proofs.YthidgpcbnieleaaGreatDoor.Aw

