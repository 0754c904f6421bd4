/- Aw: from what a row reads to trees; and from a call to a row's word. -/
import Derived.Test.YthidgpcbnieleaaAw9
import Derived.Test.YthidgpcbnieleaaRows
import Derived.WalkKit
import Derived.ProofKit
import Derived.OpenShut
import Derived.JoinedCond
import Derived.Carry
import Derived.Deep.Slices
import Derived.WideKeyArgs
import Derived.ChangeSame
namespace Go.Proofs.Ythidgpcbnieleaa.Aw
open Go Go.ChangeShapes Go.RowKit
set_option linter.unusedVariables false
set_option linter.unusedSimpArgs false
variable {P : Program}

abbrev ctx0 (P : Program) (w : World) : Ctx := ctx P ⟨fun _ => none, (0, false)⟩ [] [] w
theorem Z2a {w : World} {b off : Nat} {u : Value} (h : w.cell? ⟨b, off, none⟩ = some u) : (ctx0 P w).M b off u :=
 ⟨⟨.inl ⟨fun i hl => (by simp [live] at hl), fun k hk => (by cases hk)⟩, fun hf => nomatch hf⟩, h⟩
theorem Z3q (w : World) : RelH P ⟨fun _ => none, (0, false)⟩ [] [] w :=
 ⟨rfl, fun i j b hl => (by simp [live] at hl), fun i b hl => (by simp [live] at hl), fun b k hk => (by cases hk), ⟨Nat.zero_le _, fun i b hl => (by simp [live] at hl)⟩, fun i ty cs h => (by simp at h), fun i e n h => (by simp at h)⟩
theorem zln {α β : Type} {f : α → Option β} : ∀ {l : List α} {r : List β}, l.mapM f = some r → r.length = l.length ∧ ∀ (i : Nat) (x : α), l[i]? = some x → ∃ y, r[i]? = some y ∧ f x = some y
 | [], r, h => by simp at h; subst h; simp
 | x :: l, r, h => by
  rw [List.mapM_cons] at h
  cases hx : f x with
  | none => rw [hx] at h; simp at h
  | some y =>
   rw [hx] at h
   cases hl : l.mapM f with
   | none => rw [hl] at h; simp at h
   | some r' =>
    rw [hl] at h
    simp at h; subst h
    obtain ⟨h1, h2⟩ := zln hl
    refine ⟨by simp [h1], fun i z hz => ?_⟩
    cases i with
    | zero => simp at hz; subst hz; exact ⟨y, rfl, hx⟩
    | succ i => simpa using h2 i z (by simpa using hz)
theorem zm8 {w : World} {base : Nat} {a : Addr} {n : Nat} {cs : List Value} (h : w.cells? base a n = some cs) : cs.length = n ∧ ∀ (j : Nat) (u : Value), cs[j]? = some u → w.cell? (a.add j) = some u := by
 unfold World.cells? at h
 split at h
 ·obtain ⟨h1, h2⟩ := zln h
  refine ⟨by simpa using h1, fun j u hu => ?_⟩
  have hj : j < n := by have := (List.getElem?_eq_some_iff.1 hu).1; simp at h1; omega
  obtain ⟨y, h3, h4⟩ := h2 j j (by simp [hj])
  rw [hu] at h3; injection h3 with h3; subst h3; exact h4
 ·cases h
theorem zsj {w : World} {a : Addr} {u : Value} (h : w.cell? a = some u) : a = ⟨a.block, a.off, none⟩ := by
 obtain ⟨b, o, s⟩ := a
 cases s with
 | none => rfl
 | some s => unfold World.cell? at h; split at h <;> simp at h
theorem zdl {α : Type} : ∀ (n : Nat) (Q : Nat → α → Prop), (∀ i, i < n → ∃ x, Q i x) → ∃ xs : List α, xs.length = n ∧ ∀ (i : Nat) (x : α), xs[i]? = some x → Q i x
 | 0, _, _ => ⟨[], rfl, by simp⟩
 | n + 1, Q, h => by
  obtain ⟨xs, h1, h2⟩ := zdl n (fun i => Q (i + 1)) (fun i hi => h (i + 1) (by omega))
  obtain ⟨x, hx⟩ := h 0 (by omega)
  refine ⟨x :: xs, by simp [h1], fun i y hy => ?_⟩
  cases i with
  | zero => simp at hy; subst hy; exact hx
  | succ i => exact h2 i y (by simpa using hy)
def TV (C : Ctx) (x : PV) (cs : List Value) : Prop := x.cells.length = cs.length ∧ ∀ (j : Nat) (y : PV), x.cells[j]? = some y → ∃ u, cs[j]? = some u ∧ VR C y u
section
variable {H : Type} {enc : TypeId × Value → H} {w : World} {base : Nat} {spare : Nat → Bool} {held : Bool}
end
theorem Z2e {f : FuncId} {xs : List PV} {v : Value} (hc : z0o P f xs (.v v)) {w : World} {args : Array Value} (hv : VRs (ctx0 P w) xs args) : Calls P f args w fun e w' => e = .returned v ∧ Below w.heap.size w w' := by
 refine Calls.mono (hc _ _ _ w (Z3q w) hv) ?_
 rintro e w' ⟨r, H', g', h1, h2, h3, rfl, rfl⟩
 cases e with
 | returned u => exact ⟨by rw [vr_v.1 h1], h3.below⟩
 | panicked c => exact h1.elim
 | outgrown => exact h1.elim
theorem z90 {H : Type} {enc : TypeId × Value → H} (hl : laidOutB P = true) {W W' : World} (hb : Below W.heap.size W W') {sp' : Nat → Bool} : ∀ {ts : List TypeId} {vs : List Value} {ds : List (DataW H)} {ps : List MemPlace},
 ts.all (fun t => P.readableRec t && decide (t < P.types.size)) = true → DataW.TrodAll enc P W 0 (fun _ => true) true ts vs ds ps → (∀ x ∈ ps, x.block < W.heap.size) → (∀ x ∈ ps, sp' x.block = true) → DataW.TrodAll enc P W' 0 sp' true ts vs ds ps
 | [], [], [], _, _, h, _, _ => h
 | t :: ts, v :: vs, d :: ds, ps, ht, ⟨p, q, h1, h2, h3⟩, hlt, hs => by
  simp only [List.all_cons, Bool.and_eq_true, decide_eq_true_eq] at ht
  subst h3
  refine ⟨p, q, ?_, z90 hl hb (by simpa using ht.2) h2 (fun x hx => hlt x (by simp [hx])) (fun x hx => hs x (by simp [hx])), rfl⟩
  exact WideElems.Trod_stays hl ht.1.1 ht.1.2 h1 (fun x hx => hb.same (hlt x (by simp [hx]))) (fun x hx => hs x (by simp [hx]))
 | [], _ :: _, _, _, _, h, _, _ => h.elim
 | [], [], _ :: _, _, _, h, _, _ => h.elim
 | _ :: _, [], _, _, _, h, _, _ => h.elim
 | _ :: _, _ :: _, [], _, _, h, _, _ => h.elim
theorem ztd {H : Type} {enc : TypeId × Value → H} {f : Func} {s : ChangeSpec} {apart fresh handsOn again : Bool} {W W' : World} {args : Array Value} {ds gs : List (DataW H)} {before : List MemPlace} {tb : TypeId}
 (hW : DataW.Whole enc P f.params.toList s.vars apart W args.toList ds gs before) (hb : Below W.heap.size W W') (hl : laidOutB P = true)
 (hts : f.params.toList.all (fun t => P.readableRec t && decide (t < P.types.size)) = true) (htb : P.underlying tb = some .bool) (hrt : f.resultTypes = #[tb]) (hv : s.vars = [])
 (ha : (s.fn H (ds ++ gs)).args = ds) (hr : (s.fn H (ds ++ gs)).results = [.lit (.bool true)]) (hvv : (s.fn H (ds ++ gs)).vars = []) :
 s.post enc P f apart fresh handsOn again W args (.bool true) W' := by
 have hW' := hW
 obtain ⟨p, q, hA, hV, rfl, hz, hn⟩ := hW
 rw [hv] at hV
 obtain ⟨rfl, rfl⟩ := trodVars_none hV
 have hlt : ∀ x ∈ p ++ [], x.block < W.heap.size := fun x hx => by simpa using hW'.lt x hx
 have hlt' : ∀ x ∈ p, x.block < W.heap.size := fun x hx => hlt x (by simpa using hx)
 have hres : ∀ (w : World) (b : Nat) (sp : Nat → Bool) (hd : Bool), DataW.TrodAll enc P w b sp hd f.resultTypes.toList ((Value.bool true).resultList f.resultTypes.size) (s.fn H (ds ++ [])).results [] := fun w b sp hd => by
  rw [hr, hrt]; exact trodAll_cons_mk (shut_bool htb _) trodAll_mk0
 have hargs : ∀ sp : Nat → Bool, (∀ x ∈ p, sp x.block = true) → DataW.TrodAll enc P W' 0 sp true f.params.toList args.toList (s.fn H (ds ++ [])).args p := fun sp hs => by
  rw [ha]; exact z90 hl hb hts hA hlt' hs
 have hvars : ∀ sp : Nat → Bool, DataW.TrodVars enc P W' sp s.vars (s.fn H (ds ++ [])).vars [] := fun sp => by rw [hv, hvv]; rfl
 refine ⟨ds, [], p ++ [], [], p, [], hW', hres _ _ _ _, hargs _ (fun x hx => by simpa using hlt' x hx), hvars _, hb.frame _, fun _ => ?_⟩
 refine ⟨ok_one hrt rfl (okWide_bool_mk htb _), _, _, ([] ++ p) ++ [], ⟨[] ++ p, [], trodAll_append (hargs _ (fun _ _ => rfl)) (hres _ _ _ _), hvars _, rfl, ?_, ?_⟩, ?_⟩
 ·intro b off hp
  have hp' : MemPlace.cell b off ∈ p ++ [] := by simpa using hp
  rw [hb.frozen (hlt _ hp')]
  exact hz b off hp'
 ·intro h
  have := hn h
  simpa using this
 ·intro x hx _
  simpa using hx
end Go.Proofs.Ythidgpcbnieleaa.Aw
