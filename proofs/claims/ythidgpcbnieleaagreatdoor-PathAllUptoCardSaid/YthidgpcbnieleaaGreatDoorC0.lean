/- Plain laws, one behind the other. -/
import Derived.Test.YthidgpcbnieleaaGreatDoorA0
import Derived.Recover
namespace Go.Proofs.YthidgpcbnieleaaGreatDoor.Aw
open Go
set_option linter.unusedVariables false
set_option linter.unusedSimpArgs false
variable {P : Program} {F : Lo} {H H' : List AEnt} {g g' : List (Option Nat)} {w w' : World} {env : List (Nat × PV)} {n : Nat} {o : Oper}
end Go.Proofs.YthidgpcbnieleaaGreatDoor.Aw

namespace Go.Proofs.YthidgpcbnieleaaGreatDoor.Aw
open Go
set_option linter.unusedVariables false
set_option linter.unusedSimpArgs false
variable {P : Program} {F : Fr} {H H' : List AEnt} {g g' : List (Option Nat)} {w w' : World}
section
variable {ops : Array Oper} {fs : Nat → Option Nat} {ls I : List Nat} {H0 HF : List AEnt} {n k : Nat} {K : AExit → ASt → Prop} {o : Oper} {r : List Oper} {env : List (Nat × PV)}
end
end Go.Proofs.YthidgpcbnieleaaGreatDoor.Aw

namespace Go.Proofs.YthidgpcbnieleaaGreatDoor.Aw
open Go
set_option linter.unusedVariables false
set_option linter.unusedSimpArgs false
variable {P : Program} {H : List AEnt} {env : List (Nat × PV)} {n : Nat} {o : Oper} {σ : List Nat}
mutual
inductive RnS (σ : List Nat) : PV → PV → Prop
 | same {x : PV} : x.ids = [] → RnS σ x x
 | rf {i j off : Nat} : σ[j]? = some i → RnS σ (.rf i off) (.rf j off)
 | rs {i j o k e sz : Nat} : σ[j]? = some i → RnS σ (.rs i o k e sz) (.rs j o k e sz)
 | row {i j e sz : Nat} {xs : List PV} : σ[j]? = some i → PV.ids.idsL xs = [] → RnS σ (.sl (some i) e sz xs) (.sl (some j) e sz xs)
 | iface {t : TypeId} {x y : PV} : RnS σ x y → RnS σ (.iface t x) (.iface t y)
 | agg {xs ys : List PV} : RnSL σ xs ys → RnS σ (.agg xs) (.agg ys)
 | tup {xs ys : List PV} : RnSL σ xs ys → RnS σ (.tup xs) (.tup ys)
 | fn {f : Fn} {xs ys : List PV} : RnSL σ xs ys → RnS σ (.fn f [] xs) (.fn f [] ys)
inductive RnSL (σ : List Nat) : List PV → List PV → Prop
 | nil : RnSL σ [] []
 | cons {x y : PV} {xs ys : List PV} : RnS σ x y → RnSL σ xs ys → RnSL σ (x :: xs) (y :: ys)
end
theorem zb8 {x : PV} {r : List PV} : PV.ids.idsL (x :: r) = x.ids ++ PV.ids.idsL r := by rw [PV.ids.idsL]
theorem z7p {f : Nat → Nat} {xs : List PV} (h : PV.ids.idsL xs = []) : PV.ren.renL f xs = xs := by
 rw [z26]
 conv => rhs; rw [← List.map_id xs]
 refine List.map_congr_left fun p hp => z1f p (fun k hk => ?_)
 have : k ∈ PV.ids.idsL xs := mem_idsL.2 ⟨p, hp, hk⟩
 rw [h] at this; cases this
mutual
theorem RnS.ids : ∀ {x y : PV}, RnS σ x y → ∀ k, k ∈ x.ids → k ∈ σ
 | _, _, .same h, k, hk => by rw [h] at hk; cases hk
 | _, _, .rf h, k, hk => by simp [PV.ids] at hk; subst hk; exact List.mem_of_getElem? h
 | _, _, .rs h, k, hk => by simp [PV.ids] at hk; subst hk; exact List.mem_of_getElem? h
 | _, _, .row h hx, k, hk => by simp [PV.ids, hx] at hk; subst hk; exact List.mem_of_getElem? h
 | _, _, .iface h, k, hk => RnS.ids h k (by simpa only [PV.ids] using hk)
 | _, _, .agg h, k, hk => RnSL.ids h k (by simpa only [PV.ids] using hk)
 | _, _, .tup h, k, hk => RnSL.ids h k (by simpa only [PV.ids] using hk)
 | _, _, .fn h, k, hk => RnSL.ids h k (by simpa only [PV.ids, PV.ids.idsL, List.nil_append] using hk)
theorem RnSL.ids : ∀ {xs ys : List PV}, RnSL σ xs ys → ∀ k, k ∈ PV.ids.idsL xs → k ∈ σ
 | _, _, .nil, k, hk => by cases hk
 | _, _, .cons h hr, k, hk => by
  rw [zb8, List.mem_append] at hk
  rcases hk with hk | hk
  ·exact RnS.ids h k hk
  ·exact RnSL.ids hr k hk
end
mutual
theorem RnS.down (hn : σ.Nodup) : ∀ {x y : PV}, RnS σ x y → x.ren (σ.idxOf ·) = y
 | _, _, .same h => z1f _ (fun k hk => by rw [h] at hk; cases hk)
 | _, _, .rf h => by rw [PV.ren, z8v hn h]
 | _, _, .rs h => by rw [PV.ren, z8v hn h]
 | _, _, .row h hx => by rw [PV.ren, Option.map_some, z8v hn h, z7p hx]
 | _, _, .iface h => by rw [PV.ren, RnS.down hn h]
 | _, _, .agg h => by rw [PV.ren, RnSL.down hn h]
 | _, _, .tup h => by rw [PV.ren, RnSL.down hn h]
 | _, _, .fn h => by rw [PV.ren, RnSL.down hn h]; rfl
theorem RnSL.down (hn : σ.Nodup) : ∀ {xs ys : List PV}, RnSL σ xs ys → PV.ren.renL (σ.idxOf ·) xs = ys
 | _, _, .nil => rfl
 | _, _, .cons h hr => by rw [PV.ren.renL, RnS.down hn h, RnSL.down hn hr]
end
theorem zkm {i j : Nat} (h : σ[j]? = some i) : backσ H σ j = i := by
 unfold backσ
 have hl := z0b h
 rw [dif_pos hl]
 rw [List.getElem?_eq_getElem hl] at h
 injection h
mutual
theorem RnS.up (H : List AEnt) : ∀ {x y : PV}, RnS σ x y → y.ren (backσ H σ) = x
 | _, _, .same h => z1f _ (fun k hk => by rw [h] at hk; cases hk)
 | _, _, .rf h => by rw [PV.ren, zkm h]
 | _, _, .rs h => by rw [PV.ren, zkm h]
 | _, _, .row h hx => by rw [PV.ren, Option.map_some, zkm h, z7p hx]
 | _, _, .iface h => by rw [PV.ren, RnS.up H h]
 | _, _, .agg h => by rw [PV.ren, RnSL.up H h]
 | _, _, .tup h => by rw [PV.ren, RnSL.up H h]
 | _, _, .fn h => by rw [PV.ren, RnSL.up H h]; rfl
theorem RnSL.up (H : List AEnt) : ∀ {xs ys : List PV}, RnSL σ xs ys → PV.ren.renL (backσ H σ) ys = xs
 | _, _, .nil => rfl
 | _, _, .cons h hr => by rw [PV.ren.renL, RnS.up H h, RnSL.up H hr]
end
theorem RnSL.len : ∀ {xs ys : List PV}, RnSL σ xs ys → xs.length = ys.length
 | _, _, .nil => rfl
 | _, _, .cons _ hr => by rw [List.length_cons, List.length_cons, hr.len]
theorem z5d {f : Nat → Nat} {e : AEnt} (h : e.ids = []) : e.ren f = e := by
 cases e with
 | box ty cs => simp only [AEnt.ren]; rw [z7p h]
 | _ => rfl
inductive RnE (σ : List Nat) : AEnt → AEnt → Prop
 | same {e : AEnt} : e.ids = [] → RnE σ e e
 | box {t : TypeId} {xs ys : List PV} : RnSL σ xs ys → RnE σ (.box t xs) (.box t ys)
 | arr {e k : Nat} : RnE σ (.arr e k) (.arr e k)
 | dead : RnE σ .dead .dead
theorem RnE.ids {e e' : AEnt} (h : RnE σ e e') : ∀ k, k ∈ e.ids → k ∈ σ := by
 cases h with
 | same h => intro k hk; rw [h] at hk; cases hk
 | box h => exact fun k hk => h.ids k (by simpa only [AEnt.ids] using hk)
 | arr => intro k hk; cases hk
 | dead => intro k hk; cases hk
theorem RnE.down (hn : σ.Nodup) {e e' : AEnt} (h : RnE σ e e') : e.ren (σ.idxOf ·) = e' := by
 cases h with
 | same h => exact z5d h
 | box h => simp only [AEnt.ren]; rw [h.down hn]
 | arr => rfl
 | dead => rfl
theorem RnE.up (H : List AEnt) {e e' : AEnt} (h : RnE σ e e') : e'.ren (backσ H σ) = e := by
 cases h with
 | same h => exact z5d h
 | box h => simp only [AEnt.ren]; rw [h.up H]
 | arr => rfl
 | dead => rfl
inductive Hand (H : List AEnt) (σ : List Nat) : List Nat → List AEnt → Prop
 | nil : Hand H σ [] []
 | cons {i : Nat} {e e' : AEnt} {τ : List Nat} {Hp : List AEnt} : H[i]? = some e → RnE σ e e' → Hand H σ τ Hp → Hand H σ (i :: τ) (e' :: Hp)
theorem Hand.lt {τ : List Nat} {Hp : List AEnt} : Hand H σ τ Hp → ∀ i, i ∈ τ → i < H.length
 | .nil, i, hi => by cases hi
 | .cons h _ hr, i, hi => by
  rcases List.mem_cons.1 hi with rfl | hi
  ·exact z0b h
  ·exact hr.lt i hi
theorem Hand.ids {τ : List Nat} {Hp : List AEnt} : Hand H σ τ Hp → ∀ i e, i ∈ τ → H[i]? = some e → ∀ k, k ∈ e.ids → k ∈ σ
 | .nil, i, e, hi, _ => by cases hi
 | .cons h he hr, i, e, hi, hH => by
  rcases List.mem_cons.1 hi with rfl | hi
  ·rw [h] at hH; injection hH with hH; subst hH; exact he.ids
  ·exact hr.ids i e hi hH
theorem Hand.pick (hn : σ.Nodup) {τ : List Nat} {Hp : List AEnt} : Hand H σ τ Hp → (τ.map fun i => (H.getD i .dead).ren (σ.idxOf ·)) = Hp
 | .nil => rfl
 | .cons h he hr => by
  rw [List.map_cons, hr.pick hn, List.getD_eq_getElem?_getD, h, Option.getD_some, he.down hn]
def z7i : List AEnt → List Nat → List AEnt → List AEnt
 | H, i :: σ, e :: es => z7i (H.set i e) σ es
 | H, _, _ => H
theorem zgv : ∀ {σ : List Nat} {es H : List AEnt}, (z7i H σ es).length = H.length
 | [], es, H => by cases es <;> rfl
 | i :: σ, [], H => rfl
 | i :: σ, e :: es, H => by rw [z7i, zgv]; simp
theorem zfj : ∀ {σ : List Nat} {es H : List AEnt} {i : Nat}, i ∉ σ → (z7i H σ es)[i]? = H[i]?
 | [], es, H, i, _ => by cases es <;> rfl
 | j :: σ, [], H, i, _ => rfl
 | j :: σ, e :: es, H, i, h => by
  simp only [List.mem_cons, not_or] at h
  rw [z7i, zfj h.2, z16 (fun hq => h.1 hq.symm)]
theorem zlk : ∀ {σ : List Nat} {es H : List AEnt} {k i : Nat} {e : AEnt}, σ.Nodup → i < H.length → σ[k]? = some i → es[k]? = some e → (z7i H σ es)[i]? = some e
 | [], es, H, k, i, e, _, _, h, _ => by simp at h
 | j :: σ, [], H, k, i, e, _, _, _, h => by simp at h
 | j :: σ, e' :: es, H, 0, i, e, hn, hi, h1, h2 => by
  simp at h1 h2; subst h1; subst h2
  rw [z7i, zfj (List.nodup_cons.1 hn).1]
  simp [hi]
 | j :: σ, e' :: es, H, k + 1, i, e, hn, hi, h1, h2 => by
  rw [z7i]
  exact zlk (List.nodup_cons.1 hn).2 (by simpa using hi) (by simpa using h1) (by simpa using h2)
inductive HandB (σ : List Nat) : List AEnt → List AEnt → Prop
 | nil : HandB σ [] []
 | cons {e e' : AEnt} {es Hp : List AEnt} : RnE σ e e' → HandB σ es Hp → HandB σ (e :: es) (e' :: Hp)
theorem HandB.len : ∀ {es Hp : List AEnt}, HandB σ es Hp → es.length = Hp.length
 | _, _, .nil => rfl
 | _, _, .cons _ h => by rw [List.length_cons, List.length_cons, h.len]
theorem HandB.get : ∀ {es Hp : List AEnt}, HandB σ es Hp → ∀ {k : Nat} {e' : AEnt}, Hp[k]? = some e' → ∃ e, es[k]? = some e ∧ RnE σ e e'
 | _, _, .nil, k, e', h => by simp at h
 | _, _, .cons he hr, 0, e', h => by simp at h; subst h; exact ⟨_, by simp, he⟩
 | _, _, .cons he hr, k + 1, e', h => by simpa using hr.get (k := k) (by simpa using h)
theorem zb7 (hn : σ.Nodup) (hl : ∀ i, i ∈ σ → i < H.length) {es Hp' : List AEnt} (hb : HandB σ es Hp') (hlen : Hp'.length = σ.length) : z2e H σ Hp' = z7i H σ es := by
 apply List.ext_getElem?
 intro i
 rcases Nat.lt_or_ge i H.length with hi | hi
 ·by_cases hs : i ∈ σ
  ·rw [zij hi hs]
   have h1 := z56 hs
   have h2 : σ.idxOf i < Hp'.length := by rw [hlen]; exact z0b h1
   obtain ⟨e, h3, h4⟩ := hb.get (List.getElem?_eq_getElem h2)
   rw [zlk hn hi h1 h3, List.getD_eq_getElem?_getD, List.getElem?_eq_getElem h2, Option.getD_some, h4.up H]
  ·rw [z45 hi hs, zfj hs]
 ·rw [List.getElem?_eq_none, List.getElem?_eq_none]
  ·rw [zgv]; exact hi
  ·rw [z6g (by omega)]; omega
def z18 (P : Program) (f : FuncId) (args : List PV) (Hp : List AEnt) (X : PV) (Hp' : List AEnt) : Prop := ACalls P f args Hp (fun r H' => r = .ret X ∧ H' = Hp')
inductive Callee (o : Oper) (env : List (Nat × PV)) (f : FuncId) (args : List Operand) : List PV → Prop
 | func {types : Array TypeId} : o.op = .call { callee := .value (.func f), args := args.toArray, argTypes := types } → Callee o env f args []
 | held {types : Array TypeId} {t : Tmp} {cap : List PV} : o.op = .call { callee := .value (.tmp t), args := args.toArray, argTypes := types } → get env t = some (.fn (.func f) [] cap) → Callee o env f args cap
theorem Callee.run {F : Fr} {g : List (Option Nat)} {a : Act} {w : World} {f : FuncId} {args : List Operand} {cap xs cargs : List PV} (hc : Callee o env f args cap) (hr : Rel P F ⟨env, H, n⟩ a w g) (hen : z0v P f)
 (hx : evs env args = some xs) (hw : WkL (xs ++ cap) cargs) : ∃ vargs, (execOp a.eval o).run P w = .ok (.enter f vargs) w ∧ VRs (ctx P F H g w) cargs vargs := by
 have hv := hr.vrs hx
 cases hc with
 | func ho =>
  refine ⟨args.toArray.map a.eval, ?_, ?_⟩
  ·simp only [execOp, ho]
   simp [resolve, Deferred.ofValue, invoke, Act.eval, z2k hen]
  ·rw [List.append_nil] at hw
   refine ⟨by rw [← hw.len]; exact hv.1, fun j y hy => ?_⟩
   obtain ⟨x, h1, h2⟩ := hw.get j y hy
   obtain ⟨u, h3, h4⟩ := hv.2 j x h1
   exact ⟨u, h3, h2 _ _ h4⟩
 | @held types t _ ho hf =>
  obtain ⟨us, vs, hu, hl1, hl2, _, hcap⟩ := vr_fn.1 (hr.slot hf)
  have h1 : us = [] := List.eq_nil_of_length_eq_zero hl1
  subst h1
  refine ⟨args.toArray.map a.eval ++ vs.toArray, ?_, ?_⟩
  ·have he : a.eval (.tmp t) = .func (.func f) #[] vs.toArray := hu
   simp only [execOp, ho]
   simp [resolve, Deferred.ofValue, invoke, he, z2k hen]
  ·refine ⟨by rw [← hw.len]; simp [hv.1, hl2]; have := hv.1; simp at this; omega, fun i y hy => ?_⟩
   obtain ⟨x, h1, h2⟩ := hw.get i y hy
   rcases Nat.lt_or_ge i xs.length with hi | hi
   ·rw [List.getElem?_append_left hi] at h1
    obtain ⟨u, h3, h4⟩ := hv.2 i x h1
    refine ⟨u, ?_, h2 _ _ h4⟩
    rw [Array.getElem?_append_left (z1j h3)]; exact h3
   ·rw [List.getElem?_append_right hi] at h1
    obtain ⟨u, h3, h4⟩ := hcap _ x h1
    refine ⟨u, ?_, h2 _ _ h4⟩
    have hs := hv.1
    rw [Array.getElem?_append_right (by rw [hs]; exact hi), hs]
    simpa using h3


theorem Z5v {F : Fr} {g : List (Option Nat)} {a : Act} {w : World} {f : FuncId} {vargs : Array Value} {cargs fargs : List PV} {Hp Hp' es : List AEnt} {X X' : PV} (hr : RelH P F H g w)
 (hrun : (execOp a.eval o).run P w = .ok (.enter f vargs) w) (hv : VRs (ctx P F H g w) cargs vargs) (hn : σ.Nodup) (hH : Hand H σ σ Hp) (hb : RnSL σ cargs fargs) (hc : z18 P f fargs Hp X Hp') (hX : RnS σ X' X) (hB : HandB σ es Hp') (hlen : Hp'.length = σ.length)
 (Kn : Act → World → Prop) (Q : Exit → Act → World → Prop) (hK : ∀ v w' g', VR (ctx P F (z7i H σ es) g' w') X' v → RelH P F (z7i H σ es) g' w' → Ext P F H g w (z7i H σ es) g' w' → Kn (a.put o.dst v) w') : o.wp P a w Kn Q := by
 have hf := z3s hr σ
 have hrel := z4k hr hn hf hH.lt hH.ids
 have hpick : z32 H σ = Hp := hH.pick hn
 have hargs : VRs (ctx P (z3c P F H g σ) (z32 H σ) (z4l g σ) w) fargs vargs := by
  have e : fargs = cargs.map (PV.ren (σ.idxOf ·)) := by rw [← z26, hb.down hn]
  rw [e]
  refine ⟨by simpa using hv.1, fun i x hx => ?_⟩
  rw [List.getElem?_map, Option.map_eq_some_iff] at hx
  obtain ⟨y, hy, rfl⟩ := hx
  obtain ⟨u, h1, h2⟩ := hv.2 i y hy
  exact ⟨u, h1, z5y hr hn hf (fun k hk => hb.ids k (mem_idsL.2 ⟨y, List.mem_of_getElem? hy, hk⟩)) h2⟩
 rw [← hpick] at hc
 unfold Oper.wp
 rw [hrun]
 simp only [Oper.upon_enter]
 refine Calls.mono (hc _ _ _ _ hrel hargs) ?_
 rintro e w' ⟨r, H', g', h1, h2, h3, rfl, rfl⟩
 have hm := z6d hr hn hH.lt h2 h3
 have hx := z6f hr hn hH.lt h2 h3
 rw [zb7 hn hH.lt hB hlen] at hm hx
 cases e with
 | returned v =>
  have hvv := z8a hr hn hH.lt h2 h3 h1
  rw [zb7 hn hH.lt hB hlen, hX.up H] at hvv
  exact hK v w' _ hvv hm hx
 | panicked c => exact h1.elim
 | outgrown => exact h1.elim
theorem nodupσ : ∀ {σ : List Nat}, (σ.map fun i => σ.count i).all (Nat.beq 1) = true → σ.Nodup := by
 intro σ h
 rw [List.nodup_iff_count]
 intro a
 by_cases ha : a ∈ σ
 ·have := List.all_eq_true.1 h (σ.count a) (List.mem_map.2 ⟨a, ha, rfl⟩)
  have := beq_iff'.1 this
  omega
 ·rw [List.count_eq_zero_of_not_mem ha]; omega
theorem z1b {f : FuncId} {args : List Operand} {cap xs cargs fargs : List PV} {Hp Hp' es : List AEnt} {X X' : PV} (σ : List Nat) (hcl : Callee o env f args cap) (hen : z0v P f)
 (hx : evs env args = some xs) (hw : WkL (xs ++ cap) cargs) (hn : (σ.map fun i => σ.count i).all (Nat.beq 1) = true) (hH : Hand H σ σ Hp) (hb : RnSL σ cargs fargs) (hc : z18 P f fargs Hp X Hp') (hX : RnS σ X' X) (hB : HandB σ es Hp') (hlen : Hp'.length = σ.length) :
 Op1 P o env H n X' (z7i H σ es) := by
 intro F g a w hr Kn Q hK
 obtain ⟨vargs, hrun, hv⟩ := hcl.run hr hen hx hw
 exact Z5v hr.rel hrun hv (nodupσ hn) hH hb hc hX hB hlen Kn Q hK
inductive ArgN (j e sz : Nat) : List PV → List PV → Prop
 | nil : ArgN j e sz [] []
 | row {xs ys : List PV} : ArgN j e sz xs ys → ArgN j e sz (.v (.slice none 0 0) :: xs) (.sl (some j) e sz [] :: ys)
 | val {x y : PV} {xs ys : List PV} : Wk x y → ArgN j e sz xs ys → ArgN j e sz (x :: xs) (y :: ys)
theorem ArgN.len {j e sz : Nat} : ∀ {xs ys : List PV}, ArgN j e sz xs ys → xs.length = ys.length
 | _, _, .nil => rfl
 | _, _, .row h => by rw [List.length_cons, List.length_cons, h.len]
 | _, _, .val _ h => by rw [List.length_cons, List.length_cons, h.len]
theorem ArgN.get {j e sz : Nat} : ∀ {xs ys : List PV}, ArgN j e sz xs ys → ∀ (i : Nat) (y : PV), ys[i]? = some y → ∃ x, xs[i]? = some x ∧ (Wk x y ∨ (x = .v (.slice none 0 0) ∧ y = .sl (some j) e sz []))
 | _, _, .nil, i, y, h => by simp at h
 | _, _, .row h, 0, y, hy => by simp at hy; subst hy; exact ⟨_, by simp, .inr ⟨rfl, rfl⟩⟩
 | _, _, .val hw h, 0, y, hy => by simp at hy; subst hy; exact ⟨_, by simp, .inl hw⟩
 | _, _, .row h, i + 1, y, hy => by simpa using h.get i y (by simpa using hy)
 | _, _, .val _ h, i + 1, y, hy => by simpa using h.get i y (by simpa using hy)
theorem Z3d {x y : PV} {Hp' : List AEnt} {R : PV → List AEnt → Prop} (m : Nat) (hw : Wk x y) (hH : H.take m = Hp') (hm : Nat.ble m H.length = true) (hy : zdt m y) (hW : ∀ e, e ∈ Hp' → ∀ k, k ∈ e.ids → k < m) (hR : R y Hp') : EndOk H m x R := by
 have hm := Nat.le_of_ble_eq_true hm
 have hl : Hp'.length = m := by rw [← hH, List.length_take]; omega
 have hidx : ∀ k, k < m → (List.range m).idxOf k = k := fun k hk => z8v List.nodup_range (by simp [hk])
 have hget : ∀ i, i < m → H[i]? = Hp'[i]? := fun i hi => by rw [← hH, List.getElem?_take, if_pos hi]
 refine ⟨List.range m, y, List.nodup_range, fun i hi => by have := List.mem_range.1 hi; omega, fun k hk => by simp [hk], hw, fun i hi => List.mem_range.2 (hy i hi), fun i e hi he k hk => ?_, ?_⟩
 ·have hi := List.mem_range.1 hi
  rw [hget i hi] at he
  exact List.mem_range.2 (hW e (List.mem_of_getElem? he) k hk)
 ·rw [z1f y (fun k hk => hidx k (hy k hk))]
  have : z32 H (List.range m) = Hp' := by
   apply List.ext_getElem?
   intro i
   rw [z32, List.getElem?_map]
   rcases Nat.lt_or_ge i m with hi | hi
   ·rw [List.getElem?_range hi, Option.map_some, List.getD_eq_getElem?_getD, hget i hi, List.getElem?_eq_getElem (by omega), Option.getD_some]
    congr 1
    have hids := hW Hp'[i] (List.getElem_mem _)
    generalize Hp'[i] = e at hids
    cases e with
    | box t cs =>
     simp only [AEnt.ren]
     congr 1
     rw [z26]
     conv => rhs; rw [← List.map_id cs]
     refine List.map_congr_left fun p hp => z1f p (fun k hk => hidx k (hids k ?_))
     simp only [AEnt.ids]; exact mem_idsL.2 ⟨p, hp, hk⟩
    | arr _ _ => rfl
    | reg => rfl
    | dead => rfl
   ·rw [List.getElem?_eq_none (by simpa using hi), List.getElem?_eq_none (by omega)]; rfl
  rw [this]; exact hR
end Go.Proofs.YthidgpcbnieleaaGreatDoor.Aw

namespace Go.Proofs.YthidgpcbnieleaaGreatDoor.Aw
open Go
set_option linter.unusedVariables false
set_option linter.unusedSimpArgs false
variable {P : Program} {H : List AEnt} {env : List (Nat × PV)} {n : Nat} {o : Oper} {σ : List Nat}
inductive Xr (S A : Type) where
 | ret (a : A)
 | pan (s : S)
section
variable {ι : Type} {ρ : ι → Type} {S T A B : Type}
end
theorem zis {es Hp : List AEnt} : HandB σ es Hp → ∀ e, e ∈ es → ∀ k, k ∈ e.ids → k ∈ σ
 | .nil, e, he => by cases he
 | .cons h hr, e, he => by
  rcases List.mem_cons.1 he with rfl | he
  ·exact h.ids
  ·exact zis hr e he
theorem endR {x y : PV} {Hp' : List AEnt} {R : PV → List AEnt → Prop} (m : Nat) (hw : Wk x y) (hH : H.take m = Hp') (hm : Nat.ble m H.length = true) (hy : RnS (List.range m) y y) (hB : HandB (List.range m) Hp' Hp') (hR : R y Hp') : EndOk H m x R :=
 Z3d m hw hH hm (fun k hk => List.mem_range.1 (hy.ids k hk)) (fun e he k hk => List.mem_range.1 (zis hB e he k hk)) hR
section
variable {H0 : List AEnt} {K : AExit → ASt → Prop} {y : Code} {p : PV} {s : ASt} {id : Nat} {I : ASt → Prop}
end
end Go.Proofs.YthidgpcbnieleaaGreatDoor.Aw

namespace Go.Proofs.YthidgpcbnieleaaGreatDoor.Aw
open Go
set_option linter.unusedVariables false
set_option linter.unusedSimpArgs false
variable {P : Program} {H : List AEnt} {env : List (Nat × PV)} {n : Nat} {o : Oper} {σ : List Nat}
inductive DMode where
 | ret
 | pan (p : PV)
def Z0w (C : Ctx) : DMode → FrameMode → Prop
 | .ret, .returning => True
 | .pan p, .panicking ch => ∃ v, ch = [{ v := v, recovered := false }] ∧ VR C p v
 | _, _ => False
def DMode.told : DMode → PV
 | .ret => .v .nilIface
 | .pan p => p
def DCalls (P : Program) (f : FuncId) (args : List PV) (Hp : List AEnt) (u : DMode) (Q : List AEnt → Prop) : Prop :=
 ∀ F g vargs w u0, RelH P F Hp g w → VRs (ctx P F Hp g w) args vargs → Z0w (ctx P F Hp g w) u u0 → CallsD P f vargs u0 w fun e u' w' =>
  ∃ v H' g', e = .returned v ∧ settle u' = .returning ∧ RelH P F H' g' w' ∧ Ext P F Hp g w H' g' w' ∧ Q H'
def DefOk (C : Ctx) : List (FuncId × List PV) → List Deferred → Prop
 | [], [] => True
 | (f, cap) :: r, d :: ds => (∃ us, d = { target := .fn (.func f) us, args := #[] } ∧ VRs C cap us) ∧ DefOk C r ds
 | _, _ => False
theorem VRs.mono {C C' : Ctx} (h : C.Le C') {xs : List PV} {us : Array Value} (hv : VRs C xs us) : VRs C' xs us := ⟨hv.1, fun i x hx => let ⟨u, h1, h2⟩ := hv.2 i x hx; ⟨u, h1, h2.mono h⟩⟩
theorem DefOk.mono {C C' : Ctx} (h : C.Le C') : ∀ {ds : List (FuncId × List PV)} {dv : List Deferred}, DefOk C ds dv → DefOk C' ds dv
 | [], [], _ => trivial
 | (_, _) :: _, _ :: _, ⟨⟨us, h1, h2⟩, h3⟩ => ⟨⟨us, h1, h2.mono h⟩, DefOk.mono h h3⟩
 | [], _ :: _, h => h.elim
 | (_, _) :: _, [], h => h.elim
def Fin (P : Program) (F : Lo) (H0 : List AEnt) (g0 : List (Option Nat)) (w0 : World) (R : ARes → List AEnt → Prop) : Ending → World → Prop := fun e w' =>
 ∃ r H' g', Z8j (ctx P F H' g' w') r e ∧ RelH P F H' g' w' ∧ Ext P F H0 g0 w0 H' g' w' ∧ R r H'
def DW (P : Program) (fn : Func) (H0 : List AEnt) (R : ARes → List AEnt → Prop) (c : Code) (s : ASt) (ds : List (FuncId × List PV)) : Prop :=
 ∀ (F : Fr) g a w g0 w0, RelH P F H0 g0 w0 → Rel P F s a w g → Ext P F H0 g0 w0 s.H g w → DefOk (ctx P F s.H g w) ds F.ds → c.wp P (bodyPostD P fn (Fin P F H0 g0 w0 R)) a w
theorem z82 {f : FuncId} {fn : Func} {c : Code} {args : List PV} {Hp : List AEnt} {R : ARes → List AEnt → Prop} {N : Nat}
 (hf : P.funcs[f]? = some fn) (hb : fn.body = some c) (hN : fn.ntmps = N) (hlen : Nat.ble args.length N = true) (h : DW P fn Hp R c ⟨z6z 0 args, Hp, N⟩ []) : ACalls P f args Hp R := by
 intro F g vargs w hrel hargs
 refine calls_of_wp_defers hf hb ?_
 have hlen' := Nat.le_of_ble_eq_true hlen
 have hr : Rel P ⟨F, []⟩ ⟨z6z 0 args, Hp, N⟩ { tmps := vargs ++ Array.replicate (fn.ntmps - vargs.size) undef, defers := [] } w g := by
  refine ⟨hrel, fun t x hx => ?_, ?_, rfl⟩
  ·obtain ⟨_, h1⟩ := z6y hx
   obtain ⟨u, h2, h3⟩ := hargs.2 _ _ h1
   refine ⟨u, ?_, h3⟩
   have : t < vargs.size := by simpa using z1j h2
   show (vargs ++ _)[t]? = some u
   rw [Array.getElem?_append_left this]
   simpa using h2
  ·show (vargs ++ _).size = N
   simp [hargs.1, hN]; omega
 exact h ⟨F, []⟩ g _ w g w hrel hr .refl trivial
def Z9h (P : Program) (fn : Func) (H0 : List AEnt) (R : ARes → List AEnt → Prop) (y : Code) (ds : List (FuncId × List PV)) : AExit → ASt → Prop
 | .normal, s => DW P fn H0 R y s ds
 | _, _ => False
theorem zf5 {fn : Func} {H0 : List AEnt} {R : ARes → List AEnt → Prop} {x y : Code} {s : ASt} {ds : List (FuncId × List PV)} (h : BW P s.H x s (Z9h P fn H0 R y ds)) : DW P fn H0 R (.seq x y) s ds := by
 intro F g a w g0 w0 h0 hr hx hd
 refine wp_seq (wp_mono (z0g h F g a w hr) ?_)
 rintro e a' w' ⟨x, s', g', h1, h2, h3, h4⟩
 cases x <;> cases e <;> first
  | exact h1.elim
  | exact h4.elim
  | skip
 exact h4 F g' a' w' g0 w0 h0 h2 (hx.trans h3) (hd.mono h3.le)
theorem zgc {fn : Func} {H0 : List AEnt} {R : ARes → List AEnt → Prop} {y : Code} {rid fc t : Nat} {caps : List Operand} {cap : List PV} {om od : Oper} {types : Array TypeId}
 (hm : om.op = .makeFunc (.func fc) #[] caps.toArray) (hmg : om.guard = none) (hmd : om.dst = some t) (hn : Nat.blt t n = true) (hx : evs env caps = some cap)
 (hdf : od.op = .defer { callee := .value (.tmp t), args := #[], argTypes := types }) (hdg : od.guard = none) (hdd : od.dst = none)
 (h : DW P fn H0 R y ⟨(t, .fn (.func fc) [] cap) :: env, H, n⟩ [(fc, cap)]) : DW P fn H0 R (.seq (.region rid [om, od].toArray false) y) ⟨env, H, n⟩ [] := by
 intro F g a w g0 w0 h0 hr hext hd
 have hds : F.ds = [] := by
  cases hF : F.ds with
  | nil => rfl
  | cons _ _ => rw [hF] at hd; exact hd.elim
 refine wp_seq (wp_region ?_)
 have hcap := hr.vrs hx
 have hv : VR (ctx P F H g w) (.fn (.func fc) [] cap) (.func (.func fc) #[] (caps.toArray.map a.eval)) :=
  vr_fn.2 ⟨[], (caps.toArray.map a.eval).toList, by simp, rfl, by simpa using hcap.1, by simp, fun i y hy => by simpa using hcap.2 i y hy⟩
 have hr1 : Rel P F ⟨(t, .fn (.func fc) [] cap) :: env, H, n⟩ (a.put (some t) (.func (.func fc) #[] (caps.toArray.map a.eval))) w g := hr.put (d := some t) (by simpa [z80] using hn) hv hr.rel .refl
 have ht : (a.put (some t) (.func (.func fc) #[] (caps.toArray.map a.eval))).tmps[t]? = some (.func (.func fc) #[] (caps.toArray.map a.eval)) := by
  have : t < a.tmps.size := by rw [hr.size]; exact Nat.le_of_ble_eq_true hn
  simp [Act.put, this]
 generalize hval : Value.func (.func fc) #[] (caps.toArray.map a.eval) = fv at hr1 ht
 have hval' : Value.func (.func fc) #[] (List.map a.eval caps).toArray = fv := by rw [← hval]; simp
 have hrun1 : (execOp a.eval om).run P w = .ok (.value fv) w := by simp [execOp, hm, Instr.makeFunc, hval']
 have hrange : List.range ([om, od].toArray : Array Oper).size = [0, 1] := rfl
 rw [hrange]
 have hw0 : Region.wanted om (yielded [om, od].toArray a.tmps) = true := by simp [Region.wanted, hmg]
 have hw1 : ∀ a' : Act, Region.wanted od (yielded [om, od].toArray a'.tmps) = true := fun a' => by simp [Region.wanted, hdg]
 have hrun2 : (execOp (a.put (some t) fv).eval od).run P w = .ok (.defer { target := .fn (.func fc) (caps.toArray.map a.eval), args := #[] }) w := by
  have he : (a.put (some t) fv).eval (.tmp t) = fv := by simp only [Act.eval]; rw [Array.getD_eq_getD_getElem?, ht]; rfl
  have he' := he.trans hval.symm
  simp only [execOp, hdf]
  simp [resolve, he', Deferred.ofValue]
 unfold wpOps
 simp only [List.getElem?_toArray, List.getElem?_cons_zero, hw0, if_true]
 unfold Oper.wp
 rw [hrun1]
 refine .inl ?_
 rw [Oper.upon_value]
 rw [hmd]
 unfold wpOps
 simp only [List.getElem?_toArray, List.getElem?_cons_succ, List.getElem?_cons_zero, hw1, if_true]
 unfold Oper.wp
 rw [hrun2]
 refine .inl ?_
 simp only [Oper.upon]
 rw [hdd]
 unfold wpOps
 show y.wp P _ _ w
 refine h ⟨F.fr, [{ target := .fn (.func fc) (caps.toArray.map a.eval), args := #[] }]⟩ g _ w g0 w0 h0 ⟨hr1.rel, hr1.env, hr1.size, ?_⟩ hext ⟨⟨_, rfl, hcap⟩, trivial⟩
 show _ :: (a.put (some t) fv).defers = _
 have := hr1.defers
 rw [this, hds]
def Z14 (P : Program) (rs : List ResultVar) (m : Nat) (R : ARes → List AEnt → Prop) (fc : FuncId) (cap : List PV) (u : DMode) (s : ASt) : Prop :=
 ∃ (σ : List Nat) (Hp : List AEnt) (fargs : List PV), σ.Nodup ∧ Hand s.H σ σ Hp ∧ RnSL σ cap fargs ∧ (∀ p, u = .pan p → p.ids = []) ∧ DCalls P fc fargs Hp u fun Hp' => ∃ es, HandB σ es Hp' ∧ Hp'.length = σ.length ∧
  ∃ xs, z7o P s.env (z7i s.H σ es) rs = some xs ∧ EndOk (z7i s.H σ es) m (zca xs) (fun x H' => R (.ret x) H')
def Z3e (P : Program) (rs : List ResultVar) (m : Nat) (R : ARes → List AEnt → Prop) (fc : FuncId) (cap : List PV) : AExit → ASt → Prop
 | .normal, s => Z14 P rs m R fc cap .ret s
 | .ret, s => Z14 P rs m R fc cap .ret s
 | .panic p, s => Z14 P rs m R fc cap (.pan p) s
 | _, _ => False
theorem DCalls.mono {f : FuncId} {args : List PV} {Hp : List AEnt} {u : DMode} {Q Q' : List AEnt → Prop} (h : DCalls P f args Hp u Q) (hq : ∀ H', Q H' → Q' H') : DCalls P f args Hp u Q' := fun F g vargs w u0 h1 h2 h3 =>
 CallsD.mono (h F g vargs w u0 h1 h2 h3) fun e u' w' ⟨v, H', g', a, b, c, d, e⟩ => ⟨v, H', g', a, b, c, d, hq _ e⟩
theorem zkg {rs : List ResultVar} {m : Nat} {R : ARes → List AEnt → Prop} {fc : FuncId} {cap fargs xs : List PV} {u : DMode} {s : ASt} {Hp Hp' es : List AEnt} (σ : List Nat) (hn : (σ.map fun i => σ.count i).all (Nat.beq 1) = true) (hH : Hand s.H σ σ Hp) (hb : RnSL σ cap fargs) (hp : ∀ p, u = .pan p → p.ids = [])
 (hc : DCalls P fc fargs Hp u (fun H' => H' = Hp')) (hB : HandB σ es Hp') (hlen : Hp'.length = σ.length) (hx : z7o P s.env (z7i s.H σ es) rs = some xs) (he : EndOk (z7i s.H σ es) m (zca xs) (fun x H' => R (.ret x) H')) : Z14 P rs m R fc cap u s :=
 ⟨σ, Hp, fargs, nodupσ hn, hH, hb, hp, hc.mono fun H' h => by subst h; exact ⟨es, hB, hlen, xs, hx, he⟩⟩
theorem zdo {rs : List ResultVar} {m : Nat} {R : ARes → List AEnt → Prop} {fc : FuncId} {cap : List PV} {s : ASt} (h : Z14 P rs m R fc cap .ret s) : Z3e P rs m R fc cap .ret s := h
theorem zsg {fn : Func} {H0 : List AEnt} {R : ARes → List AEnt → Prop} {c : Code} {s : ASt} {fc : FuncId} {cap : List PV} {rs : List ResultVar} (hen : z0v P fc) (hres : fn.results = rs.toArray) (h : BW P s.H c s (Z3e P rs H0.length R fc cap)) : DW P fn H0 R c s [(fc, cap)] := by
 intro F g a w g0 w0 h0 hr hext hd
 obtain ⟨dv, hF, us, rfl, hus⟩ : ∃ dv, F.ds = [dv] ∧ ∃ us, dv = { target := .fn (.func fc) us, args := #[] } ∧ VRs (ctx P F s.H g w) cap us := by
  cases hF : F.ds with
  | nil => rw [hF] at hd; exact hd.elim
  | cons d r =>
   rw [hF] at hd
   cases r with
   | nil => exact ⟨d, rfl, hd.1⟩
   | cons _ _ => exact hd.2.elim
 refine wp_mono (z0g h F g a w hr) ?_
 rintro e a' w' ⟨x, s', g', h1, h2, h3, h4⟩
 have hus' := hus.mono h3.le
 have hdf : a'.defers = [{ target := .fn (.func fc) us, args := #[] }] := by rw [h2.defers, hF]
 -- the closure runs
 have run : ∀ (u : DMode) (u0 : FrameMode), u0 ≠ .run → Z0w (ctx P F s'.H g' w') u u0 → Z14 P rs H0.length R fc cap u s' → Leaves P fn a'.tmps (Fin P F H0 g0 w0 R) a'.defers u0 w' := by
  intro u u0 hu0 hmode ⟨σ, Hp, fargs, hn, hH, hb, hids, hc⟩
  have hf := z3s h2.rel σ
  have hrel := z4k h2.rel hn hf hH.lt hH.ids
  have hpick : z32 s'.H σ = Hp := hH.pick hn
  have hargs : VRs (ctx P (z3c P F s'.H g' σ) (z32 s'.H σ) (z4l g' σ) w') fargs us := by
   have e : fargs = cap.map (PV.ren (σ.idxOf ·)) := by rw [← z26, hb.down hn]
   rw [e]
   refine ⟨by simpa using hus'.1, fun i x hx => ?_⟩
   rw [List.getElem?_map, Option.map_eq_some_iff] at hx
   obtain ⟨y, hy, rfl⟩ := hx
   obtain ⟨u, h1, h2'⟩ := hus'.2 i y hy
   exact ⟨u, h1, z5y h2.rel hn hf (fun k hk => hb.ids k (mem_idsL.2 ⟨y, List.mem_of_getElem? hy, hk⟩)) h2'⟩
  have hmode' : Z0w (ctx P (z3c P F s'.H g' σ) (z32 s'.H σ) (z4l g' σ) w') u u0 := by
   cases u with
   | ret =>
    cases u0 with
    | returning => trivial
    | _ => exact hmode.elim
   | pan p =>
    cases u0 with
    | panicking ch =>
     obtain ⟨v, h1, h3⟩ := hmode
     have hi := hids p rfl
     have := z5y h2.rel hn hf (p := p) (fun k hk => by rw [hi] at hk; cases hk) h3
     rw [z1f p (fun k hk => by rw [hi] at hk; cases hk)] at this
     exact ⟨v, h1, this⟩
    | _ => exact hmode.elim
  rw [← hpick] at hc
  rw [hdf]
  have hinv : (invoke (.fn (.func fc) us) #[]).run P w' = .ok (.enter fc us) w' := by
   simp [invoke, z2k hen]
  refine leaves_cons hu0 hinv (CallsD.mono (hc _ _ us w' u0 hrel hargs hmode') ?_)
  rintro e u' w'' ⟨v, H', g'', rfl, hset, a1, a2, es, hB, hlen, xs, hxs, hend⟩
  have hm := z6d h2.rel hn hH.lt a1 a2
  have hx := z6f h2.rel hn hH.lt a1 a2
  rw [zb7 hn hH.lt hB hlen] at hm hx
  show Leaves P fn a'.tmps _ [] (settle u') w''
  rw [hset]
  have hr3 : Rel P ⟨F.fr, a'.defers⟩ ⟨s'.env, z7i s'.H σ es, s'.n⟩ a' w'' (z3q g' σ g'') := ⟨hm, fun t y hy => let ⟨u, b1, b2⟩ := h2.env t y hy; ⟨u, b1, b2.mono hx.le⟩, h2.size, rfl⟩
  obtain ⟨v', h5, h6⟩ := z8o hres hr3 hxs
  obtain ⟨τ, y, e1, e2, e3, e4, e5, e6, e7⟩ := hend
  have hfd := za7 hm τ
  exact ⟨v', h5, .ret _, _, z4l _ τ, z5y hm e1 hfd e5 (e4 _ _ h6), z4k hm e1 hfd e2 e6, zgd ((hext.trans h3).trans hx) h0 hm rfl e1 e2 e3, e7⟩
 cases x <;> cases e <;> first
  | exact h1.elim
  | exact h4.elim
  | exact run .ret .returning (by simp) trivial h4
  | skip
 obtain ⟨v, rfl, hv⟩ := h1
 exact run (.pan _) (.panicking _) (by simp) ⟨v, rfl, hv⟩ h4
end Go.Proofs.YthidgpcbnieleaaGreatDoor.Aw


