/- Aw: a plain call on values that may stand anywhere: its answer may stand anywhere. -/
import Derived.Test.YthidgpcbnieleaaAwS
import Derived.Test.YthidgpcbnieleaaB0
namespace Go.Proofs.Ythidgpcbnieleaa.Aw
open Go
set_option linter.unusedVariables false
set_option linter.unusedSimpArgs false
set_option maxRecDepth 4000
section
variable {P : Program} {F : Lo} {H : List AEnt} {g : List (Option Nat)} {w w' : World}
def Lo.wide (F : Lo) : Lo := ⟨F.fr, (0, false)⟩
theorem wide_le : (ctx P F H g w).Le (ctx P F.wide H g w) :=
 ⟨fun _ _ _ h => ⟨⟨h.1.1, fun hf => (nomatch hf)⟩, h.2⟩, fun _ _ h => h, fun _ _ _ _ _ h => h, fun _ _ _ h => h, fun _ _ _ h => h, fun _ _ _ _ _ hf => (nomatch hf), fun _ _ h => h⟩
theorem zsz (h : RelH P F H g w) : RelH P F.wide H g w :=
 ⟨h.len, h.inj, h.fr, h.fb, ⟨Nat.zero_le _, fun _ _ _ => Nat.zero_le _⟩, fun i ty cs hi => by
  obtain ⟨b, cells, h1, h2, h3, h4⟩ := h.box i ty cs hi
  exact ⟨b, cells, h1, h2, h3, fun j y hy => by
   obtain ⟨u, h5, h6⟩ := h4 j y hy
   exact ⟨u, h5, VR.mono wide_le h6⟩⟩, fun i e n hi => h.arr i e n hi⟩
theorem zt0 {x : PV} {u : Value} (hv : VR (ctx P F H g w) (.old x) u) : VR (ctx P F.wide H g w) x u :=
 VR.leans (C := (ctx P F H g w).all) (C' := ctx P F.wide H g w) (fun b o u hm => ⟨⟨hm.1, fun hf => (nomatch hf)⟩, hm.2⟩) (fun _ _ _ h => h) (fun _ _ _ _ _ hf => (nomatch hf)) (fun _ _ h => h) (fun _ _ _ _ _ h => h) (fun _ _ _ h => h) (vr_old.1 hv)
theorem zgp {x : PV} {u : Value} (hx : Pl x) (hv : VR (ctx P F.wide H g w) x u) : VR (ctx P F H g w) (.old x) u :=
 vr_old.2 (VR.move (C := ctx P F.wide H g w) (C' := (ctx P F H g w).all) (fun b o u hm => ⟨hm.1.1, hm.2⟩) (fun _ _ _ _ _ => trivial) x u hx hv)
end
mutual
inductive OA : PV → PV → Prop
 | wk {x y : PV} : Wk x y → y.ids = [] → OA x y
 | old {y : PV} : y.ids = [] → OA (.old y) y
 | pt {e : TypeId} {x y : PV} {o : Nat} : OAL x.cells y.cells → y.ids = [] → OA (.pt e x o) (.pt e y o)
 | fn {f : Fn} {xs ys : List PV} : OAL xs ys → OA (.fn f [] xs) (.fn f [] ys)
inductive OAL : List PV → List PV → Prop
 | nil : OAL [] []
 | cons {x y : PV} {xs ys : List PV} : OA x y → OAL xs ys → OAL (x :: xs) (y :: ys)
end
theorem OAL.len : ∀ {xs ys : List PV}, OAL xs ys → xs.length = ys.length
 | _, _, .nil => rfl
 | _, _, .cons _ h => by rw [List.length_cons, List.length_cons, h.len]
theorem OAL.get : ∀ {xs ys : List PV}, OAL xs ys → ∀ {i : Nat} {y : PV}, ys[i]? = some y → ∃ x, xs[i]? = some x ∧ OA x y
 | _, _, .nil, i, y, h => by simp at h
 | _, _, .cons h0 h, 0, y, hy => by simp at hy; subst hy; exact ⟨_, by simp, h0⟩
 | _, _, .cons h0 h, i + 1, y, hy => by simpa using h.get (i := i) (by simpa using hy)
mutual
theorem OA.ids : ∀ {x y : PV}, OA x y → y.ids = []
 | _, _, .wk _ hi => hi
 | _, _, .old hi => hi
 | _, _, .pt _ hi => by simp only [PV.ids]; exact hi
 | _, _, .fn h => by simp [PV.ids, PV.ids.idsL, h.ids]
theorem OAL.ids : ∀ {xs ys : List PV}, OAL xs ys → PV.ids.idsL ys = []
 | _, _, .nil => by simp [PV.ids.idsL]
 | _, _, .cons h0 h => by simp [PV.ids.idsL, h0.ids, h.ids]
end
section
variable {P : Program} {F : Lo} {H : List AEnt} {g : List (Option Nat)} {w : World}
mutual
theorem OA.vr : ∀ {x y : PV}, OA x y → ∀ {u : Value}, VR (ctx P F H g w) x u → VR (ctx P F.wide H g w) y u
 | _, _, .wk hw _, u, hv => VR.mono wide_le (hw _ _ hv)
 | _, _, .old _, u, hv => zt0 hv
 | _, _, .pt h _, u, hv => by
  obtain ⟨b, o0, h1, h3⟩ := vr_pt.1 hv
  refine vr_pt.2 ⟨b, o0, ⟨h1.1, fun hf => (nomatch hf)⟩, fun j z hz => ?_⟩
  obtain ⟨u', h4, h5⟩ := h.vr h3 j z hz
  exact ⟨u', h4, h5⟩
 | _, _, .fn h, u, hv => by
  obtain ⟨us, vs, h1, h2, h3, h4, h5⟩ := vr_fn.1 hv
  refine vr_fn.2 ⟨us, vs, h1, h2, h3.trans h.len, fun i y hy => by simp at hy, fun i z hz => ?_⟩
  exact h.vrv h5 i z hz
theorem OAL.vr : ∀ {xs ys : List PV}, OAL xs ys → ∀ {b o0 : Nat}, (∀ (j : Nat) (y : PV), xs[j]? = some y → ∃ u', (ctx P F H g w).M b (o0 + j) u' ∧ VR (ctx P F H g w) y u') → ∀ (j : Nat) (y : PV), ys[j]? = some y → ∃ u', (ctx P F.wide H g w).M b (o0 + j) u' ∧ VR (ctx P F.wide H g w) y u'
 | _, _, .nil, _, _, _, j, y, hy => by simp at hy
 | _, _, .cons h0 h, b, o0, hx, 0, y, hy => by
  simp at hy; subst hy
  obtain ⟨u', h1, h2⟩ := hx 0 _ rfl
  exact ⟨u', wide_le.M _ _ _ h1, h0.vr h2⟩
 | _, _, .cons h0 h, b, o0, hx, j + 1, y, hy => by
  have := h.vr (b := b) (o0 := o0 + 1) (fun k z hz => by
   obtain ⟨u', h1, h2⟩ := hx (k + 1) z (by simpa using hz)
   exact ⟨u', by rw [show o0 + 1 + k = o0 + (k + 1) by omega]; exact h1, h2⟩) j y (by simpa using hy)
  rw [show o0 + 1 + j = o0 + (j + 1) by omega] at this
  exact this
theorem OAL.vrv : ∀ {xs ys : List PV}, OAL xs ys → ∀ {us : List Value}, (∀ (j : Nat) (y : PV), xs[j]? = some y → ∃ u', us[j]? = some u' ∧ VR (ctx P F H g w) y u') → ∀ (j : Nat) (y : PV), ys[j]? = some y → ∃ u', us[j]? = some u' ∧ VR (ctx P F.wide H g w) y u'
 | _, _, .nil, _, _, j, y, hy => by simp at hy
 | _, _, .cons h0 h, us, hx, 0, y, hy => by
  simp at hy; subst hy
  obtain ⟨u', h1, h2⟩ := hx 0 _ rfl
  exact ⟨u', h1, h0.vr h2⟩
 | _, _, .cons h0 h, us, hx, j + 1, y, hy => by
  obtain ⟨u', h1, h2⟩ := h.vrv (us := us.drop 1) (fun k z hz => by
   obtain ⟨u', h1, h2⟩ := hx (k + 1) z (by simpa using hz)
   exact ⟨u', by rw [List.getElem?_drop, Nat.add_comm]; exact h1, h2⟩) j y (by simpa using hy)
  rw [List.getElem?_drop, Nat.add_comm] at h1
  exact ⟨u', h1, h2⟩
end
end
inductive ORL : List PV → List PV → Prop
 | nil : ORL [] []
 | sc {x : PV} {xs ys : List PV} : Sc x → ORL xs ys → ORL (x :: xs) (x :: ys)
 | old {x : PV} {xs ys : List PV} : Pl x → ORL xs ys → ORL (x :: xs) (.old x :: ys)
theorem ORL.len : ∀ {xs ys : List PV}, ORL xs ys → xs.length = ys.length
 | _, _, .nil => rfl
 | _, _, .sc _ h => by rw [List.length_cons, List.length_cons, h.len]
 | _, _, .old _ h => by rw [List.length_cons, List.length_cons, h.len]
theorem ORL.get : ∀ {xs ys : List PV}, ORL xs ys → ∀ {i : Nat} {y : PV}, ys[i]? = some y → ∃ x, xs[i]? = some x ∧ (x = y ∧ Sc x ∨ y = .old x ∧ Pl x)
 | _, _, .nil, i, y, h => by simp at h
 | _, _, .sc h0 h, 0, y, hy => by simp at hy; subst hy; exact ⟨_, rfl, .inl ⟨rfl, h0⟩⟩
 | _, _, .old h0 h, 0, y, hy => by simp at hy; subst hy; exact ⟨_, rfl, .inr ⟨rfl, h0⟩⟩
 | _, _, .sc h0 h, i + 1, y, hy => by simpa using h.get (i := i) (by simpa using hy)
 | _, _, .old h0 h, i + 1, y, hy => by simpa using h.get (i := i) (by simpa using hy)
inductive OR : PV → PV → Prop
 | sc {x : PV} : Sc x → OR x x
 | old {x : PV} : Pl x → OR x (.old x)
 | tup {xs ys : List PV} : ORL xs ys → OR (.tup xs) (.tup ys)
theorem OR.vr {P : Program} {F : Lo} {H : List AEnt} {g : List (Option Nat)} {w : World} {x y : PV} (h : OR x y) {u : Value} (hv : VR (ctx P F.wide H g w) x u) : VR (ctx P F H g w) y u := by
 cases h with
 | sc hs => exact hs.any hv
 | old hp => exact zgp hp hv
 | tup h =>
  obtain ⟨us, h1, h2, h3⟩ := vr_tup.1 hv
  refine vr_tup.2 ⟨us, h1, h2.trans h.len, fun i z hz => ?_⟩
  obtain ⟨x, h4, h5⟩ := h.get hz
  obtain ⟨u', h6, h7⟩ := h3 i x h4
  refine ⟨u', h6, ?_⟩
  rcases h5 with ⟨rfl, hs⟩ | ⟨rfl, hp⟩
  ·exact hs.any h7
  ·exact zgp hp h7
variable {P : Program} {H : List AEnt} {env : List (Nat × PV)} {n : Nat} {o : Oper}
theorem znq {f : FuncId} {args : List Operand} {types : Array TypeId} {xs fargs : List PV} {X Y : PV}
 (ho : o.op = .call { callee := .value (.func f), args := args.toArray, argTypes := types }) (hen : z0x P f)
 (hx : evs env args = some xs) (hw : OAL xs fargs) (hc : z0o P f fargs X) (hX : X.ids = []) (hY : OR X Y) : Op1 P o env H n Y H := by
 intro F g a w hr Kn Q hK
 have hv := hr.vrs hx
 have hr0 := zsz hr.rel
 have hf := z2i hr0 []
 have hrel := z4u hr0 (σ := []) (by simp) hf (by simp) (by simp)
 have hargs : VRs (ctx P (z3i P (Lo.wide F.fr) H g []) (z3f H []) (z4k g []) w) fargs (args.toArray.map a.eval) := by
  refine ⟨by rw [← hw.len]; exact hv.1, fun i y hy => ?_⟩
  obtain ⟨x, h1, h2⟩ := hw.get hy
  obtain ⟨u, h3, h4⟩ := hv.2 i x h1
  have hid := h2.ids
  have := z76 hr0 (σ := []) (by simp) hf (fun k hk => by rw [hid] at hk; cases hk) (h2.vr h4)
  rw [z18 y (fun i hi => by rw [hid] at hi; cases hi)] at this
  exact ⟨u, h3, this⟩
 unfold Oper.wp
 rw [z9x (F := F) (g := g) ho hen]
 simp only [Oper.upon_enter]
 refine Calls.mono (hc _ _ _ _ hrel hargs) ?_
 rintro e w' ⟨r, H', g', h1, h2, h3, rfl, rfl⟩
 have hg' : g' = [] := List.eq_nil_of_length_eq_zero h2.len
 subst hg'
 have ho' : ∀ k, k < w.heap.size → w'.heap[k]? = w.heap[k]? := fun k hk => (h3.keep k hk (fun i hl => by simp [live, z4k] at hl)).1
 cases e with
 | returned v =>
  have hvv := z6n hr0 (σ := []) (by simp) (by simp) h2 h3 h1
  have hg : z3g g [] [] = g := by
   apply List.ext_getElem?
   intro i
   simp [z3g, List.getElem?_mapIdx]
  rw [z5t, hg, z18 X (fun i hi => by rw [hX] at hi; cases hi)] at hvv
  exact hK v w' g (hY.vr hvv) (z7n hr.rel h3.size ho') (z7x hr.rel h3.size ho' h3.os h3.tape h3.output)
 | panicked c => exact h1.elim
 | outgrown => exact h1.elim
theorem Z1h {x y : PV} {R : PV → List AEnt → Prop} (hw : Wk x y) (hy : y.ids = []) (h0 : H[0]? = some .dead) (hR : R y [.dead]) : EndOk H 1 x R := by
 have hH : Hand H [0] [0] [.dead] := .cons h0 .dead .nil
 refine ⟨[0], y, by simp, hH.lt, fun k hk => ?_, hw, (fun k hk => by rw [hy] at hk; cases hk), hH.ids, ?_⟩
 ·have : k = 0 := by omega
  subst this; rfl
 ·rw [z18 y (fun k hk => by rw [hy] at hk; cases hk)]
  have : z3f H [0] = [.dead] := hH.pick (by simp)
  rw [this]; exact hR
end Go.Proofs.Ythidgpcbnieleaa.Aw
