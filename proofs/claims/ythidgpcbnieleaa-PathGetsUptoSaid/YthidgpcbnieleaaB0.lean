/- Plain laws, one behind the other. -/
import Derived.Test.YthidgpcbnieleaaAwF
import Derived.Test.YthidgpcbnieleaaA0
import Derived.Recover
namespace Go.Proofs.Ythidgpcbnieleaa.Aw
open Go
set_option linter.unusedVariables false
set_option linter.unusedSimpArgs false
variable {P : Program} {F : Fr} {H H' : List AEnt} {g g' : List (Option Nat)} {w w' : World}
section
variable {ops : Array Oper} {fs : Nat → Option Nat} {ls I : List Nat} {H0 HF : List AEnt} {n k : Nat} {K : AExit → ASt → Prop} {o : Oper} {r : List Oper} {env : List (Nat × PV)}
end
end Go.Proofs.Ythidgpcbnieleaa.Aw

namespace Go.Proofs.Ythidgpcbnieleaa.Aw
open Go
set_option linter.unusedVariables false
set_option linter.unusedSimpArgs false
variable {P : Program} {H : List AEnt} {env : List (Nat × PV)} {n : Nat} {o : Oper} {σ : List Nat}
mutual
inductive RnS (σ : List Nat) : PV → PV → Prop
 | same {x : PV} : x.ids = [] → RnS σ x x
 | rf {i j off : Nat} : σ[j]? = some i → RnS σ (.rf i off) (.rf j off)
 | rs {i j o k e sz : Nat} : σ[j]? = some i → RnS σ (.rs i o k e sz) (.rs j o k e sz)
 | row {i j e sz : Nat} {xs : List PV} : σ[j]? = some i → PV.ids.idsL xs = [] → RnS σ (.sl (some i) e sz xs) (.sl (some j) e sz xs)
 | hid {i j : Nat} {x : PV} : σ[j]? = some i → x.ids = [] → RnS σ (.hid i x) (.hid j x)
 | iface {t : TypeId} {x y : PV} : RnS σ x y → RnS σ (.iface t x) (.iface t y)
 | agg {xs ys : List PV} : RnSL σ xs ys → RnS σ (.agg xs) (.agg ys)
 | tup {xs ys : List PV} : RnSL σ xs ys → RnS σ (.tup xs) (.tup ys)
 | fn {f : Fn} {xs ys : List PV} : RnSL σ xs ys → RnS σ (.fn f [] xs) (.fn f [] ys)
inductive RnSL (σ : List Nat) : List PV → List PV → Prop
 | nil : RnSL σ [] []
 | cons {x y : PV} {xs ys : List PV} : RnS σ x y → RnSL σ xs ys → RnSL σ (x :: xs) (y :: ys)
end
theorem zf3 {x : PV} {r : List PV} : PV.ids.idsL (x :: r) = x.ids ++ PV.ids.idsL r := by rw [PV.ids.idsL]
theorem z97 {f : Nat → Nat} {xs : List PV} (h : PV.ids.idsL xs = []) : PV.ren.renL f xs = xs := by
 rw [z25]
 conv => rhs; rw [← List.map_id xs]
 refine List.map_congr_left fun p hp => z18 p (fun k hk => ?_)
 have : k ∈ PV.ids.idsL xs := mem_idsL.2 ⟨p, hp, hk⟩
 rw [h] at this; cases this
mutual
theorem RnS.ids : ∀ {x y : PV}, RnS σ x y → ∀ k, k ∈ x.ids → k ∈ σ
 | _, _, .same h, k, hk => by rw [h] at hk; cases hk
 | _, _, .rf h, k, hk => by simp [PV.ids] at hk; subst hk; exact List.mem_of_getElem? h
 | _, _, .rs h, k, hk => by simp [PV.ids] at hk; subst hk; exact List.mem_of_getElem? h
 | _, _, .row h hx, k, hk => by simp [PV.ids, hx] at hk; subst hk; exact List.mem_of_getElem? h
 | _, _, .hid h hx, k, hk => by simp [PV.ids, hx] at hk; subst hk; exact List.mem_of_getElem? h
 | _, _, .iface h, k, hk => RnS.ids h k (by simpa only [PV.ids] using hk)
 | _, _, .agg h, k, hk => RnSL.ids h k (by simpa only [PV.ids] using hk)
 | _, _, .tup h, k, hk => RnSL.ids h k (by simpa only [PV.ids] using hk)
 | _, _, .fn h, k, hk => RnSL.ids h k (by simpa only [PV.ids, PV.ids.idsL, List.nil_append] using hk)
theorem RnSL.ids : ∀ {xs ys : List PV}, RnSL σ xs ys → ∀ k, k ∈ PV.ids.idsL xs → k ∈ σ
 | _, _, .nil, k, hk => by cases hk
 | _, _, .cons h hr, k, hk => by
  rw [zf3, List.mem_append] at hk
  rcases hk with hk | hk
  ·exact RnS.ids h k hk
  ·exact RnSL.ids hr k hk
end
mutual
theorem RnS.down (hn : σ.Nodup) : ∀ {x y : PV}, RnS σ x y → x.ren (σ.idxOf ·) = y
 | _, _, .same h => z18 _ (fun k hk => by rw [h] at hk; cases hk)
 | _, _, .rf h => by rw [PV.ren, z8n hn h]
 | _, _, .rs h => by rw [PV.ren, z8n hn h]
 | _, _, .row h hx => by rw [PV.ren, Option.map_some, z8n hn h, z97 hx]
 | _, _, .hid h hx => by rw [PV.ren, z8n hn h, z18 _ (fun k hk => by rw [hx] at hk; cases hk)]
 | _, _, .iface h => by rw [PV.ren, RnS.down hn h]
 | _, _, .agg h => by rw [PV.ren, RnSL.down hn h]
 | _, _, .tup h => by rw [PV.ren, RnSL.down hn h]
 | _, _, .fn h => by rw [PV.ren, RnSL.down hn h]; rfl
theorem RnSL.down (hn : σ.Nodup) : ∀ {xs ys : List PV}, RnSL σ xs ys → PV.ren.renL (σ.idxOf ·) xs = ys
 | _, _, .nil => rfl
 | _, _, .cons h hr => by rw [PV.ren.renL, RnS.down hn h, RnSL.down hn hr]
end
theorem zgj {i j : Nat} (h : σ[j]? = some i) : backσ H σ j = i := by
 unfold backσ
 have hl := z0a h
 rw [dif_pos hl]
 rw [List.getElem?_eq_getElem hl] at h
 injection h
mutual
theorem RnS.up (H : List AEnt) : ∀ {x y : PV}, RnS σ x y → y.ren (backσ H σ) = x
 | _, _, .same h => z18 _ (fun k hk => by rw [h] at hk; cases hk)
 | _, _, .rf h => by rw [PV.ren, zgj h]
 | _, _, .rs h => by rw [PV.ren, zgj h]
 | _, _, .row h hx => by rw [PV.ren, Option.map_some, zgj h, z97 hx]
 | _, _, .hid h hx => by rw [PV.ren, zgj h, z18 _ (fun k hk => by rw [hx] at hk; cases hk)]
 | _, _, .iface h => by rw [PV.ren, RnS.up H h]
 | _, _, .agg h => by rw [PV.ren, RnSL.up H h]
 | _, _, .tup h => by rw [PV.ren, RnSL.up H h]
 | _, _, .fn h => by rw [PV.ren, RnSL.up H h]; rfl
theorem RnSL.up (H : List AEnt) : ∀ {xs ys : List PV}, RnSL σ xs ys → PV.ren.renL (backσ H σ) ys = xs
 | _, _, .nil => rfl
 | _, _, .cons h hr => by rw [PV.ren.renL, RnS.up H h, RnSL.up H hr]
end
theorem RnSL.len : ∀ {xs ys : List PV}, RnSL σ xs ys → xs.length = ys.length
 | _, _, .nil => rfl
 | _, _, .cons _ hr => by rw [List.length_cons, List.length_cons, hr.len]
theorem z4y {f : Nat → Nat} {e : AEnt} (h : e.ids = []) : e.ren f = e := by
 cases e with
 | box ty cs => simp only [AEnt.ren]; rw [z97 h]
 | _ => rfl
inductive RnE (σ : List Nat) : AEnt → AEnt → Prop
 | same {e : AEnt} : e.ids = [] → RnE σ e e
 | box {t : TypeId} {xs ys : List PV} : RnSL σ xs ys → RnE σ (.box t xs) (.box t ys)
 | arr {e k : Nat} : RnE σ (.arr e k) (.arr e k)
 | dead : RnE σ .dead .dead
theorem RnE.ids {e e' : AEnt} (h : RnE σ e e') : ∀ k, k ∈ e.ids → k ∈ σ := by
 cases h with
 | same h => intro k hk; rw [h] at hk; cases hk
 | box h => exact fun k hk => h.ids k (by simpa only [AEnt.ids] using hk)
 | arr => intro k hk; cases hk
 | dead => intro k hk; cases hk
theorem RnE.down (hn : σ.Nodup) {e e' : AEnt} (h : RnE σ e e') : e.ren (σ.idxOf ·) = e' := by
 cases h with
 | same h => exact z4y h
 | box h => simp only [AEnt.ren]; rw [h.down hn]
 | arr => rfl
 | dead => rfl
theorem RnE.up (H : List AEnt) {e e' : AEnt} (h : RnE σ e e') : e'.ren (backσ H σ) = e := by
 cases h with
 | same h => exact z4y h
 | box h => simp only [AEnt.ren]; rw [h.up H]
 | arr => rfl
 | dead => rfl
inductive Hand (H : List AEnt) (σ : List Nat) : List Nat → List AEnt → Prop
 | nil : Hand H σ [] []
 | cons {i : Nat} {e e' : AEnt} {τ : List Nat} {Hp : List AEnt} : H[i]? = some e → RnE σ e e' → Hand H σ τ Hp → Hand H σ (i :: τ) (e' :: Hp)
theorem Hand.lt {τ : List Nat} {Hp : List AEnt} : Hand H σ τ Hp → ∀ i, i ∈ τ → i < H.length
 | .nil, i, hi => by cases hi
 | .cons h _ hr, i, hi => by
  rcases List.mem_cons.1 hi with rfl | hi
  ·exact z0a h
  ·exact hr.lt i hi
theorem Hand.ids {τ : List Nat} {Hp : List AEnt} : Hand H σ τ Hp → ∀ i e, i ∈ τ → H[i]? = some e → ∀ k, k ∈ e.ids → k ∈ σ
 | .nil, i, e, hi, _ => by cases hi
 | .cons h he hr, i, e, hi, hH => by
  rcases List.mem_cons.1 hi with rfl | hi
  ·rw [h] at hH; injection hH with hH; subst hH; exact he.ids
  ·exact hr.ids i e hi hH
theorem Hand.pick (hn : σ.Nodup) {τ : List Nat} {Hp : List AEnt} : Hand H σ τ Hp → (τ.map fun i => (H.getD i .dead).ren (σ.idxOf ·)) = Hp
 | .nil => rfl
 | .cons h he hr => by
  rw [List.map_cons, hr.pick hn, List.getD_eq_getElem?_getD, h, Option.getD_some, he.down hn]
def za7 : List AEnt → List Nat → List AEnt → List AEnt
 | H, i :: σ, e :: es => za7 (H.set i e) σ es
 | H, _, _ => H
theorem zgz : ∀ {σ : List Nat} {es H : List AEnt}, (za7 H σ es).length = H.length
 | [], es, H => by cases es <;> rfl
 | i :: σ, [], H => rfl
 | i :: σ, e :: es, H => by rw [za7, zgz]; simp
theorem zfm : ∀ {σ : List Nat} {es H : List AEnt} {i : Nat}, i ∉ σ → (za7 H σ es)[i]? = H[i]?
 | [], es, H, i, _ => by cases es <;> rfl
 | j :: σ, [], H, i, _ => rfl
 | j :: σ, e :: es, H, i, h => by
  simp only [List.mem_cons, not_or] at h
  rw [za7, zfm h.2, z0z (fun hq => h.1 hq.symm)]
theorem zl1 : ∀ {σ : List Nat} {es H : List AEnt} {k i : Nat} {e : AEnt}, σ.Nodup → i < H.length → σ[k]? = some i → es[k]? = some e → (za7 H σ es)[i]? = some e
 | [], es, H, k, i, e, _, _, h, _ => by simp at h
 | j :: σ, [], H, k, i, e, _, _, _, h => by simp at h
 | j :: σ, e' :: es, H, 0, i, e, hn, hi, h1, h2 => by
  simp at h1 h2; subst h1; subst h2
  rw [za7, zfm (List.nodup_cons.1 hn).1]
  simp [hi]
 | j :: σ, e' :: es, H, k + 1, i, e, hn, hi, h1, h2 => by
  rw [za7]
  exact zl1 (List.nodup_cons.1 hn).2 (by simpa using hi) (by simpa using h1) (by simpa using h2)
inductive HandB (σ : List Nat) : List AEnt → List AEnt → Prop
 | nil : HandB σ [] []
 | cons {e e' : AEnt} {es Hp : List AEnt} : RnE σ e e' → HandB σ es Hp → HandB σ (e :: es) (e' :: Hp)
theorem HandB.len : ∀ {es Hp : List AEnt}, HandB σ es Hp → es.length = Hp.length
 | _, _, .nil => rfl
 | _, _, .cons _ h => by rw [List.length_cons, List.length_cons, h.len]
theorem HandB.get : ∀ {es Hp : List AEnt}, HandB σ es Hp → ∀ {k : Nat} {e' : AEnt}, Hp[k]? = some e' → ∃ e, es[k]? = some e ∧ RnE σ e e'
 | _, _, .nil, k, e', h => by simp at h
 | _, _, .cons he hr, 0, e', h => by simp at h; subst h; exact ⟨_, by simp, he⟩
 | _, _, .cons he hr, k + 1, e', h => by simpa using hr.get (k := k) (by simpa using h)
theorem zew (hn : σ.Nodup) (hl : ∀ i, i ∈ σ → i < H.length) {es Hp' : List AEnt} (hb : HandB σ es Hp') (hlen : Hp'.length = σ.length) : z2c H σ Hp' = za7 H σ es := by
 apply List.ext_getElem?
 intro i
 rcases Nat.lt_or_ge i H.length with hi | hi
 ·by_cases hs : i ∈ σ
  ·rw [zit hi hs]
   have h1 := z4n hs
   have h2 : σ.idxOf i < Hp'.length := by rw [hlen]; exact z0a h1
   obtain ⟨e, h3, h4⟩ := hb.get (List.getElem?_eq_getElem h2)
   rw [zl1 hn hi h1 h3, List.getD_eq_getElem?_getD, List.getElem?_eq_getElem h2, Option.getD_some, h4.up H]
  ·rw [z3y hi hs, zfm hs]
 ·rw [List.getElem?_eq_none, List.getElem?_eq_none]
  ·rw [zgz]; exact hi
  ·rw [z5u (by omega)]; omega
def zfb (P : Program) (f : FuncId) (args : List PV) (Hp : List AEnt) (X : PV) (Hp' : List AEnt) : Prop := ACalls P f args Hp (fun r H' => r = .ret X ∧ H' = Hp')
inductive Callee (o : Oper) (env : List (Nat × PV)) (f : FuncId) (args : List Operand) : List PV → Prop
 | func {types : Array TypeId} : o.op = .call { callee := .value (.func f), args := args.toArray, argTypes := types } → Callee o env f args []
 | held {types : Array TypeId} {t : Tmp} {cap : List PV} : o.op = .call { callee := .value (.tmp t), args := args.toArray, argTypes := types } → get env t = some (.fn (.func f) [] cap) → Callee o env f args cap
theorem Callee.run {F : Fr} {g : List (Option Nat)} {a : Act} {w : World} {f : FuncId} {args : List Operand} {cap xs cargs : List PV} (hc : Callee o env f args cap) (hr : Rel P F ⟨env, H, n⟩ a w g) (hen : z0x P f)
 (hx : evs env args = some xs) (hw : WkL (xs ++ cap) cargs) : ∃ vargs, (execOp a.eval o).run P w = .ok (.enter f vargs) w ∧ VRs (ctx P F H g w) cargs vargs := by
 have hv := hr.vrs hx
 cases hc with
 | func ho =>
  refine ⟨args.toArray.map a.eval, ?_, ?_⟩
  ·simp only [execOp, ho]
   simp [resolve, Deferred.ofValue, invoke, Act.eval, z2j hen]
  ·rw [List.append_nil] at hw
   refine ⟨by rw [← hw.len]; exact hv.1, fun j y hy => ?_⟩
   obtain ⟨x, h1, h2⟩ := hw.get j y hy
   obtain ⟨u, h3, h4⟩ := hv.2 j x h1
   exact ⟨u, h3, h2 _ _ h4⟩
 | @held types t _ ho hf =>
  obtain ⟨us, vs, hu, hl1, hl2, _, hcap⟩ := vr_fn.1 (hr.slot hf)
  have h1 : us = [] := List.eq_nil_of_length_eq_zero hl1
  subst h1
  refine ⟨args.toArray.map a.eval ++ vs.toArray, ?_, ?_⟩
  ·have he : a.eval (.tmp t) = .func (.func f) #[] vs.toArray := hu
   simp only [execOp, ho]
   simp [resolve, Deferred.ofValue, invoke, he, z2j hen]
  ·refine ⟨by rw [← hw.len]; simp [hv.1, hl2]; have := hv.1; simp at this; omega, fun i y hy => ?_⟩
   obtain ⟨x, h1, h2⟩ := hw.get i y hy
   rcases Nat.lt_or_ge i xs.length with hi | hi
   ·rw [List.getElem?_append_left hi] at h1
    obtain ⟨u, h3, h4⟩ := hv.2 i x h1
    refine ⟨u, ?_, h2 _ _ h4⟩
    rw [Array.getElem?_append_left (z1e h3)]; exact h3
   ·rw [List.getElem?_append_right hi] at h1
    obtain ⟨u, h3, h4⟩ := hcap _ x h1
    refine ⟨u, ?_, h2 _ _ h4⟩
    have hs := hv.1
    rw [Array.getElem?_append_right (by rw [hs]; exact hi), hs]
    simpa using h3


theorem Z3t {F : Fr} {g : List (Option Nat)} {a : Act} {w : World} {f : FuncId} {vargs : Array Value} {cargs fargs : List PV} {Hp Hp' es : List AEnt} {X X' : PV} (hr : RelH P F H g w)
 (hrun : (execOp a.eval o).run P w = .ok (.enter f vargs) w) (hv : VRs (ctx P F H g w) cargs vargs) (hn : σ.Nodup) (hH : Hand H σ σ Hp) (hb : RnSL σ cargs fargs) (hc : zfb P f fargs Hp X Hp') (hX : RnS σ X' X) (hB : HandB σ es Hp') (hlen : Hp'.length = σ.length)
 (Kn : Act → World → Prop) (Q : Exit → Act → World → Prop) (hK : ∀ v w' g', VR (ctx P F (za7 H σ es) g' w') X' v → RelH P F (za7 H σ es) g' w' → Ext P F H g w (za7 H σ es) g' w' → Kn (a.put o.dst v) w') : o.wp P a w Kn Q := by
 have hf := z2i hr σ
 have hrel := z4u hr hn hf hH.lt hH.ids
 have hpick : z3f H σ = Hp := hH.pick hn
 have hargs : VRs (ctx P (z3i P F H g σ) (z3f H σ) (z4k g σ) w) fargs vargs := by
  have e : fargs = cargs.map (PV.ren (σ.idxOf ·)) := by rw [← z25, hb.down hn]
  rw [e]
  refine ⟨by simpa using hv.1, fun i x hx => ?_⟩
  rw [List.getElem?_map, Option.map_eq_some_iff] at hx
  obtain ⟨y, hy, rfl⟩ := hx
  obtain ⟨u, h1, h2⟩ := hv.2 i y hy
  exact ⟨u, h1, z76 hr hn hf (fun k hk => hb.ids k (mem_idsL.2 ⟨y, List.mem_of_getElem? hy, hk⟩)) h2⟩
 rw [← hpick] at hc
 unfold Oper.wp
 rw [hrun]
 simp only [Oper.upon_enter]
 refine Calls.mono (hc _ _ _ _ hrel hargs) ?_
 rintro e w' ⟨r, H', g', h1, h2, h3, rfl, rfl⟩
 have hm := z7c hr hn hH.lt h2 h3
 have hx := z7d hr hn hH.lt h2 h3
 rw [zew hn hH.lt hB hlen] at hm hx
 cases e with
 | returned v =>
  have hvv := z6n hr hn hH.lt h2 h3 h1
  rw [zew hn hH.lt hB hlen, hX.up H] at hvv
  exact hK v w' _ hvv hm hx
 | panicked c => exact h1.elim
 | outgrown => exact h1.elim
theorem nodupσ : ∀ {σ : List Nat}, (σ.map fun i => σ.count i).all (Nat.beq 1) = true → σ.Nodup := by
 intro σ h
 rw [List.nodup_iff_count]
 intro a
 by_cases ha : a ∈ σ
 ·have := List.all_eq_true.1 h (σ.count a) (List.mem_map.2 ⟨a, ha, rfl⟩)
  have := beq_iff'.1 this
  omega
 ·rw [List.count_eq_zero_of_not_mem ha]; omega
theorem zd2 {f : FuncId} {args : List Operand} {cap xs cargs fargs : List PV} {Hp Hp' es : List AEnt} {X X' : PV} (σ : List Nat) (hcl : Callee o env f args cap) (hen : z0x P f)
 (hx : evs env args = some xs) (hw : WkL (xs ++ cap) cargs) (hn : (σ.map fun i => σ.count i).all (Nat.beq 1) = true) (hH : Hand H σ σ Hp) (hb : RnSL σ cargs fargs) (hc : zfb P f fargs Hp X Hp') (hX : RnS σ X' X) (hB : HandB σ es Hp') (hlen : Hp'.length = σ.length) :
 Op1 P o env H n X' (za7 H σ es) := by
 intro F g a w hr Kn Q hK
 obtain ⟨vargs, hrun, hv⟩ := hcl.run hr hen hx hw
 exact Z3t hr.rel hrun hv (nodupσ hn) hH hb hc hX hB hlen Kn Q hK
inductive ArgN (j e sz : Nat) : List PV → List PV → Prop
 | nil : ArgN j e sz [] []
 | row {xs ys : List PV} : ArgN j e sz xs ys → ArgN j e sz (.v (.slice none 0 0) :: xs) (.sl (some j) e sz [] :: ys)
 | val {x y : PV} {xs ys : List PV} : Wk x y → ArgN j e sz xs ys → ArgN j e sz (x :: xs) (y :: ys)
theorem ArgN.len {j e sz : Nat} : ∀ {xs ys : List PV}, ArgN j e sz xs ys → xs.length = ys.length
 | _, _, .nil => rfl
 | _, _, .row h => by rw [List.length_cons, List.length_cons, h.len]
 | _, _, .val _ h => by rw [List.length_cons, List.length_cons, h.len]
theorem ArgN.get {j e sz : Nat} : ∀ {xs ys : List PV}, ArgN j e sz xs ys → ∀ (i : Nat) (y : PV), ys[i]? = some y → ∃ x, xs[i]? = some x ∧ (Wk x y ∨ (x = .v (.slice none 0 0) ∧ y = .sl (some j) e sz []))
 | _, _, .nil, i, y, h => by simp at h
 | _, _, .row h, 0, y, hy => by simp at hy; subst hy; exact ⟨_, by simp, .inr ⟨rfl, rfl⟩⟩
 | _, _, .val hw h, 0, y, hy => by simp at hy; subst hy; exact ⟨_, by simp, .inl hw⟩
 | _, _, .row h, i + 1, y, hy => by simpa using h.get i y (by simpa using hy)
 | _, _, .val _ h, i + 1, y, hy => by simpa using h.get i y (by simpa using hy)
end Go.Proofs.Ythidgpcbnieleaa.Aw

namespace Go.Proofs.Ythidgpcbnieleaa.Aw
open Go
set_option linter.unusedVariables false
set_option linter.unusedSimpArgs false
variable {P : Program} {H : List AEnt} {env : List (Nat × PV)} {n : Nat} {o : Oper} {σ : List Nat}
inductive Xr (S A : Type) where
 | ret (a : A)
 | pan (s : S)
section
variable {ι : Type} {ρ : ι → Type} {S T A B : Type}
end
section
variable {H0 : List AEnt} {K : AExit → ASt → Prop} {y : Code} {p : PV} {s : ASt} {id : Nat} {I : ASt → Prop}
end
end Go.Proofs.Ythidgpcbnieleaa.Aw

namespace Go.Proofs.Ythidgpcbnieleaa.Aw
open Go
set_option linter.unusedVariables false
set_option linter.unusedSimpArgs false
variable {P : Program} {H : List AEnt} {env : List (Nat × PV)} {n : Nat} {o : Oper} {σ : List Nat}
inductive DMode where
 | ret
 | pan (p : PV)
def Z5f (C : Ctx) : DMode → FrameMode → Prop
 | .ret, .returning => True
 | .pan p, .panicking ch => ∃ v, ch = [{ v := v, recovered := false }] ∧ VR C p v
 | _, _ => False
def DMode.told : DMode → PV
 | .ret => .v .nilIface
 | .pan p => p
def DCalls (P : Program) (f : FuncId) (args : List PV) (Hp : List AEnt) (u : DMode) (Q : List AEnt → Prop) : Prop :=
 ∀ F g vargs w u0, RelH P F Hp g w → VRs (ctx P F Hp g w) args vargs → Z5f (ctx P F Hp g w) u u0 → CallsD P f vargs u0 w fun e u' w' =>
  ∃ v H' g', e = .returned v ∧ settle u' = .returning ∧ RelH P F H' g' w' ∧ Ext P F Hp g w H' g' w' ∧ Q H'
def DefOk (C : Ctx) : List (FuncId × List PV) → List Deferred → Prop
 | [], [] => True
 | (f, cap) :: r, d :: ds => (∃ us, d = { target := .fn (.func f) us, args := #[] } ∧ VRs C cap us) ∧ DefOk C r ds
 | _, _ => False
theorem VRs.mono {C C' : Ctx} (h : C.Le C') {xs : List PV} {us : Array Value} (hv : VRs C xs us) : VRs C' xs us := ⟨hv.1, fun i x hx => let ⟨u, h1, h2⟩ := hv.2 i x hx; ⟨u, h1, h2.mono h⟩⟩
theorem DefOk.mono {C C' : Ctx} (h : C.Le C') : ∀ {ds : List (FuncId × List PV)} {dv : List Deferred}, DefOk C ds dv → DefOk C' ds dv
 | [], [], _ => trivial
 | (_, _) :: _, _ :: _, ⟨⟨us, h1, h2⟩, h3⟩ => ⟨⟨us, h1, h2.mono h⟩, DefOk.mono h h3⟩
 | [], _ :: _, h => h.elim
 | (_, _) :: _, [], h => h.elim
theorem DCalls.mono {f : FuncId} {args : List PV} {Hp : List AEnt} {u : DMode} {Q Q' : List AEnt → Prop} (h : DCalls P f args Hp u Q) (hq : ∀ H', Q H' → Q' H') : DCalls P f args Hp u Q' := fun F g vargs w u0 h1 h2 h3 =>
 CallsD.mono (h F g vargs w u0 h1 h2 h3) fun e u' w' ⟨v, H', g', a, b, c, d, e⟩ => ⟨v, H', g', a, b, c, d, hq _ e⟩
end Go.Proofs.Ythidgpcbnieleaa.Aw

