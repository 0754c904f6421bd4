/- Aw: a function's whole body: what is handed in, what is handed back. -/
import Derived.Test.YthidgpcbnieleaaAw3
namespace Go.Proofs.Ythidgpcbnieleaa.Aw
open Go
set_option linter.unusedVariables false
set_option linter.unusedSimpArgs false
variable {P : Program} {F : Fr} {H H' : List AEnt} {g g' : List (Option Nat)} {w w' : World}

theorem Wk.iface {t : TypeId} {x y : PV} (h : Wk x y) : Wk (.iface t x) (.iface t y) := by
 intro C u hu
 obtain ⟨u', h1, h2⟩ := vr_iface.1 hu
 exact vr_iface.2 ⟨u', h1, h _ _ h2⟩
theorem Wk.agg {xs ys : List PV} (h : WkL xs ys) : Wk (.agg xs) (.agg ys) := by
 intro C u hu
 obtain ⟨us, h1, h2, h3⟩ := vr_agg.1 hu
 refine vr_agg.2 ⟨us, h1, by rw [h2, h.len], fun i y hy => ?_⟩
 obtain ⟨x, h4, h5⟩ := h.get i y hy
 obtain ⟨u', h6, h7⟩ := h3 i x h4
 exact ⟨u', h6, h5 _ _ h7⟩
theorem Wk.tup {xs ys : List PV} (h : WkL xs ys) : Wk (.tup xs) (.tup ys) := by
 intro C u hu
 obtain ⟨us, h1, h2, h3⟩ := vr_tup.1 hu
 refine vr_tup.2 ⟨us, h1, by rw [h2, h.len], fun i y hy => ?_⟩
 obtain ⟨x, h4, h5⟩ := h.get i y hy
 obtain ⟨u', h6, h7⟩ := h3 i x h4
 exact ⟨u', h6, h5 _ _ h7⟩
theorem Wk.pt {e : TypeId} {x y : PV} {off : Nat} (h : WkL x.cells y.cells) : Wk (.pt e x off) (.pt e y off) := by
 intro C u hu
 obtain ⟨b, o0, h1, h2⟩ := vr_pt.1 hu
 refine vr_pt.2 ⟨b, o0, ⟨h1.1, by rw [← h.len]; exact h1.2⟩, fun i y hy => ?_⟩
 obtain ⟨x, h4, h5⟩ := h.get i y hy
 obtain ⟨u', h6, h7⟩ := h2 i x h4
 exact ⟨u', h6, h5 _ _ h7⟩
theorem Wk.trans {x y z : PV} (h : Wk x y) (k : Wk y z) : Wk x z := fun C u hu => k C u (h C u hu)

def zcu : Nat → List PV → List (Nat × PV)
 | _, [] => []
 | k, x :: r => (k, x) :: zcu (k + 1) r
theorem zct : ∀ {xs : List PV} {k t : Nat} {x : PV}, get (zcu k xs) t = some x → k ≤ t ∧ xs[t - k]? = some x
 | [], k, t, x, h => by cases h
 | y :: r, k, t, x, h => by
  simp only [zcu, get] at h
  cases hb : Nat.beq k t with
  | true =>
   rw [hb] at h; simp at h; subst h
   have := beq_iff'.1 hb; subst this
   exact ⟨Nat.le_refl _, by simp⟩
  | false =>
   rw [hb] at h
   obtain ⟨h1, h2⟩ := zct h
   refine ⟨by omega, ?_⟩
   have : t - k = (t - (k + 1)) + 1 := by omega
   rw [this]; simpa using h2

def EndOk (H : List AEnt) (m : Nat) (x : PV) (R : PV → List AEnt → Prop) : Prop :=
 ∃ (σ : List Nat) (y : PV), σ.Nodup ∧ (∀ i, i ∈ σ → i < H.length) ∧ (∀ k, k < m → σ[k]? = some k) ∧ Wk x y ∧ (∀ i, i ∈ y.ids → i ∈ σ) ∧
  (∀ i e, i ∈ σ → H[i]? = some e → ∀ k, k ∈ e.ids → k ∈ σ) ∧ R (y.ren (σ.idxOf ·)) (z3f H σ)
theorem z0p {H : List AEnt} {x y : PV} {R : PV → List AEnt → Prop} (hw : Wk x y) (hy : y.ids = []) (hR : R y []) : EndOk H 0 x R :=
 ⟨[], y, by simp, by simp, by simp, hw, by simp [hy], by simp, by rw [zq0, z18 y (fun i hi => by rw [hy] at hi; cases hi)]; exact hR⟩
def Z6o (P : Program) (res : List ResultVar) (m : Nat) (R : ARes → List AEnt → Prop) : AExit → ASt → Prop
 | .normal, s => ∃ xs, zaz P s.env s.H res = some xs ∧ EndOk s.H m (zgq xs) (fun x H' => R (.ret x) H')
 | .ret, s => ∃ xs, zaz P s.env s.H res = some xs ∧ EndOk s.H m (zgq xs) (fun x H' => R (.ret x) H')
 | .panic p, s => EndOk s.H m p (fun x H' => R (.pan x) H')
 | _, _ => False

def zea (tmps : Array Value) : ResultVar → Sem Value
 | .tmp t => pure (tmps.getD t undef)
 | .cell a t => do loadVar t (← asAddr (tmps.getD a undef))
theorem zx6 {s : ASt} {a : Act} (hr : Rel P F s a w g) {r : ResultVar} {x : PV} (h : zxc P s.env s.H r = some x) : ∃ u, (zea a.tmps r).run P w = .ok u w ∧ VR (ctx P F s.H g w) x u := by
 cases r with
 | tmp t =>
  have := hr.slot h
  exact ⟨_, rfl, this⟩
 | cell c t =>
  simp only [zxc] at h
  split at h
  ·rename_i i hc
   split at h
   ·rename_i ty cs hi
    have hv := hr.slot hc
    obtain ⟨b, hu, hR⟩ := vr_rf.1 hv
    obtain ⟨b', cells, h1, h2, h3, h4⟩ := hr.rel.box i ty cs hi
    rw [hR.1] at h1; injection h1 with h1; injection h1 with h1; subst h1
    have hptr : a.tmps.getD c undef = .pointer (some ⟨b, 0, none⟩) := hu
    have hadd : ∀ j, (⟨b, 0, none⟩ : Addr).add j = ⟨b, j, none⟩ := by intro j; unfold Addr.add; split <;> simp_all
    have hgd : a.tmps[c]?.getD undef = .pointer (some ⟨b, 0, none⟩) := by simpa using hptr
    split at h
    ·rename_i d hd
     cases hag : zgm d with
     | true =>
      rw [hag] at h
      cases hn : Nat.beq cs.length (P.cellsOf t) with
      | true =>
       rw [hn] at h; simp at h; subst h
       have hn' := beq_iff'.1 hn
       have hlt : (cells.toList.take cs.length).length = cs.length := by
        have : cells.toList.length = cells.size := rfl
        rw [List.length_take, this]; exact Nat.min_eq_left h3
       refine ⟨.agg (cells.toList.take cs.length).toArray, ?_, vr_agg.2 ⟨cells.toList.take cs.length, rfl, hlt, fun j y hy => ?_⟩⟩
       ·have hl := z73 (P := P) (w := w) (t := t) (a := ⟨b, 0, none⟩) (cs := cells.toList.take cs.length) hd hag (by rw [← hn', hlt]) (fun j v hj => by
         rw [hadd, z1p h2]
         rw [List.getElem?_take] at hj
         split at hj
         ·simpa using hj
         ·cases hj)
        simp [zea, hgd, asAddr]
        simpa using hl
       ·obtain ⟨u, h5, h6⟩ := h4 j y hy
        exact ⟨u, by rw [List.getElem?_take, if_pos (z0a hy)]; simpa using h5, h6⟩
      | false => rw [hn] at h; simp at h
     | false =>
      rw [hag] at h
      obtain ⟨u, h5, h6⟩ := h4 0 x h
      refine ⟨u, ?_, h6⟩
      have hl := z72 (P := P) (w := w) (t := t) (a := ⟨b, 0, none⟩) hd hag (by rw [z1p h2]; exact h5)
      simp [zea, hgd, asAddr]
      exact hl
    ·cases h
   ·cases h
  ·cases h
theorem zl3 {s : ASt} {a : Act} (hr : Rel P F s a w g) : ∀ {rs : List ResultVar} {xs : List PV}, zaz P s.env s.H rs = some xs →
 ∃ us : List Value, (rs.mapM (zea a.tmps)).run P w = .ok us w ∧ us.length = xs.length ∧ ∀ (i : Nat) (x : PV), xs[i]? = some x → ∃ u, us[i]? = some u ∧ VR (ctx P F s.H g w) x u
 | [], xs, h => by
  simp only [zaz] at h; injection h with h; subst h
  exact ⟨[], rfl, rfl, by simp⟩
 | r :: rs, xs, h => by
  simp only [zaz] at h
  split at h
  ·rename_i x xs' hx hxs
   injection h with h; subst h
   obtain ⟨u, h1, h2⟩ := zx6 hr hx
   obtain ⟨us, h3, h4, h5⟩ := zl3 hr hxs
   refine ⟨u :: us, ?_, by simp [h4], fun i y hy => ?_⟩
   ·simp [List.mapM_cons, h1, h3]
   ·cases i with
    | zero => simp at hy; subst hy; exact ⟨u, by simp, h2⟩
    | succ i => simpa using h5 i y (by simpa using hy)
  ·cases h
theorem za9 {fn : Func} {rs : List ResultVar} (h : fn.results = rs.toArray) (tmps : Array Value) :
 results fn tmps = (do let vs ← rs.mapM (zea tmps); pure (if h : vs.toArray.size = 1 then vs.toArray[0] else .tuple vs.toArray)) := by
 unfold results
 rw [h]
 simp only [List.mapM_toArray]
 rw [bind_map_left]
 congr 1
theorem zjl {fn : Func} {rs : List ResultVar} (hres : fn.results = rs.toArray) {s : ASt} {a : Act} (hr : Rel P F s a w g) {xs : List PV} (h : zaz P s.env s.H rs = some xs) :
 ∃ v, (results fn a.tmps).run P w = .ok v w ∧ VR (ctx P F s.H g w) (zgq xs) v := by
 obtain ⟨us, h1, h2, h3⟩ := zl3 hr h
 have hrun : (results fn a.tmps).run P w = .ok (if h : us.toArray.size = 1 then us.toArray[0] else .tuple us.toArray) w := by
  rw [za9 hres]; simp only [Sem.run_bind, h1, Result.andThen_ok, Sem.run_pure]
 refine ⟨_, hrun, ?_⟩
 match xs, h2, h3 with
 | [], h2, h3 =>
  have : us = [] := List.eq_nil_of_length_eq_zero h2
  subst this
  exact vr_tup.2 ⟨[], rfl, rfl, by simp⟩
 | [x], h2, h3 =>
  obtain ⟨u, h4, h5⟩ := h3 0 x rfl
  match us, h2, h4 with
  | [u'], _, h4 => simp at h4; subst h4; simpa [zgq] using h5
 | x :: y :: r, h2, h3 =>
  have : ¬ us.toArray.size = 1 := by simp at h2 ⊢; omega
  rw [dif_neg this]
  exact vr_tup.2 ⟨us, rfl, h2, h3⟩

theorem z0j {f : FuncId} {fn : Func} {c : Code} {args : List PV} {Hp : List AEnt} {R : ARes → List AEnt → Prop} {N : Nat} {rs : List ResultVar}
 (hf : P.funcs[f]? = some fn) (hb : fn.body = some c) (hN : fn.ntmps = N) (hres : fn.results = rs.toArray) (hlen : Nat.ble args.length N = true)
 (h : AW P c ⟨zcu 0 args, Hp, N⟩ (Z6o P rs Hp.length R)) : ACalls P f args Hp R := by
 intro F g vargs w hrel hargs
 refine calls_of_wp hf hb ?_
 have hlen' := Nat.le_of_ble_eq_true hlen
 have hr : Rel P ⟨F, []⟩ ⟨zcu 0 args, Hp, N⟩ { tmps := vargs ++ Array.replicate (fn.ntmps - vargs.size) undef, defers := [] } w g := by
  refine ⟨hrel, fun t x hx => ?_, ?_, rfl⟩
  ·obtain ⟨_, h1⟩ := zct hx
   obtain ⟨u, h2, h3⟩ := hargs.2 _ _ h1
   refine ⟨u, ?_, h3⟩
   have : t < vargs.size := by simpa using z1e h2
   show (vargs ++ _)[t]? = some u
   rw [Array.getElem?_append_left this]
   simpa using h2
  ·show (vargs ++ _).size = N
   simp [hargs.1, hN]; omega
 refine wp_mono (h ⟨F, []⟩ g _ w hr) ?_
 have fin : ∀ {s' : ASt} {a' : Act} {w' : World} {g' : List (Option Nat)} {x : PV} {u : Value} {R' : PV → List AEnt → Prop}, Rel P ⟨F, []⟩ s' a' w' g' → Ext P F Hp g w s'.H g' w' → VR (ctx P F s'.H g' w') x u → EndOk s'.H Hp.length x R' →
  ∃ y H'' g'', VR (ctx P F H'' g'' w') y u ∧ RelH P F H'' g'' w' ∧ Ext P F Hp g w H'' g'' w' ∧ R' y H'' := by
  rintro s' a' w' g' x u R' h2 h3 hv ⟨σ, y, e1, e2, e3, e4, e5, e6, e7⟩
  have hf := zj5 h2.rel σ
  exact ⟨_, _, z4k g' σ, z76 h2.rel e1 hf e5 (e4 _ _ hv), z4u h2.rel e1 hf e2 e6, zun h3 hrel h2.rel rfl e1 e2 e3, e7⟩
 rintro e a' w' ⟨x, s', g', h1, h2, h3, h4⟩
 have ok : ∀ {xs : List PV}, zaz P s'.env s'.H rs = some xs → EndOk s'.H Hp.length (zgq xs) (fun x H' => R (.ret x) H') →
  a'.defers = [] ∧ ∃ v, (results fn a'.tmps).run P w' = .ok v w' ∧ ∃ r H'' g'', Z6e (ctx P F H'' g'' w') r (.returned v) ∧ RelH P F H'' g'' w' ∧ Ext P F Hp g w H'' g'' w' ∧ R r H'' := by
  intro xs hx hend
  obtain ⟨v, h5, h6⟩ := zjl hres h2 hx
  obtain ⟨y, H'', g'', a1, a2, a3, a4⟩ := fin h2 h3 h6 hend
  exact ⟨h2.defers, v, h5, .ret y, H'', g'', a1, a2, a3, a4⟩
 cases x <;> cases e <;> first
  | exact h1.elim
  | exact h4.elim
  | (obtain ⟨xs, hx, hend⟩ := h4; exact ok hx hend)
  | skip
 obtain ⟨v, rfl, hv⟩ := h1
 obtain ⟨y, H'', g'', a1, a2, a3, a4⟩ := fin h2 h3 hv (show EndOk s'.H Hp.length _ (fun x H' => R (.pan x) H') from h4)
 exact ⟨h2.defers, .pan y, H'', g'', ⟨v, rfl, a1⟩, a2, a3, a4⟩

def thaw (i : Nat) (ty : TypeId) (cs : List PV) : PV → PV
 | .rf j off => bif Nat.beq j i then .pt ty (.agg cs) off else .rf j off
 | .rs j o n e sz => bif Nat.beq j i then .junk else .rs j o n e sz
 | .iface t x => .iface t (thaw i ty cs x)
 | x => x
theorem zof (h : RelH P F H g w) {i : Nat} {ty : TypeId} {cs : List PV} (hi : H[i]? = some (.box ty cs)) : ∀ {x : PV} {u : Value}, VR (ctx P F H g w) x u → VR (ctx P F (H.set i .dead) g w) (thaw i ty cs x) u
 | .rf j off, u, hu => by
  simp only [thaw]
  cases hb : Nat.beq j i with
  | true => have := beq_iff'.1 hb; subst this; exact zoh h hi hu
  | false => exact hu.mono (z3z h i)
 | .rs j o n e sz, u, hu => by
  simp only [thaw]
  cases hb : Nat.beq j i with
  | true => exact z70
  | false => exact hu.mono (z3z h i)
 | .iface t x, u, hu => by
  obtain ⟨u', h1, h2⟩ := vr_iface.1 hu
  exact vr_iface.2 ⟨u', h1, zof h hi h2⟩
 | .v _, u, hu | .sl _ _ _ _, u, hu | .pt _ _ _, u, hu | .agg _, u, hu | .tup _, u, hu | .fn _ _ _, u, hu | .old _, u, hu | .hid _ _, u, hu | .junk, u, hu => by simp only [thaw]; exact hu.mono (z3z h i)
end Go.Proofs.Ythidgpcbnieleaa.Aw
