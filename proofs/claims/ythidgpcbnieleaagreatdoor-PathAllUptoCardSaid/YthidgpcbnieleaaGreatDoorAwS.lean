/- Aw: results on new memory; ranges that are told apart, read and spoilt. -/
import Derived.Test.YthidgpcbnieleaaGreatDoorD0
namespace Go.Proofs.YthidgpcbnieleaaGreatDoor
namespace Aw
open Go
set_option linter.unusedVariables false
set_option linter.unusedSimpArgs false
set_option maxRecDepth 4000
mutual
inductive Pl : PV → Prop
 | v {x : Value} : Pl (.v x)
 | sl {e : TypeId} {sz : Nat} {xs : List PV} : PlL xs → Pl (.sl none e sz xs)
 | pt {e : TypeId} {x : PV} {off : Nat} : Pl x → Pl (.pt e x off)
 | iface {t : TypeId} {x : PV} : Pl x → Pl (.iface t x)
 | agg {cs : List PV} : PlL cs → Pl (.agg cs)
 | tup {cs : List PV} : PlL cs → Pl (.tup cs)
 | fn {f : Fn} {a b : List PV} : PlL a → PlL b → Pl (.fn f a b)
 | junk : Pl .junk
inductive PlL : List PV → Prop
 | nil : PlL []
 | cons {x : PV} {xs : List PV} : Pl x → PlL xs → PlL (x :: xs)
end
theorem PlL.mem : ∀ {xs : List PV}, PlL xs → ∀ x, x ∈ xs → Pl x
 | _, .nil, x, hx => by cases hx
 | _, .cons h hr, x, hx => by
  rcases List.mem_cons.1 hx with rfl | hx
  ·exact h
  ·exact hr.mem x hx
theorem PlL.of : ∀ {xs : List PV}, (∀ x, x ∈ xs → Pl x) → PlL xs
 | [], _ => .nil
 | x :: r, h => .cons (h x (by simp)) (PlL.of fun y hy => h y (by simp [hy]))
theorem Pl.cells {x : PV} (h : Pl x) : ∀ {j : Nat} {y : PV}, x.cells[j]? = some y → Pl y := by
 intro j y hy
 cases h with
 | agg h => exact h.mem y (List.mem_of_getElem? hy)
 | _ =>
  simp only [PV.cells] at hy
  cases j with
  | zero => simp at hy; subst hy; constructor <;> assumption
  | succ j => simp at hy
theorem VR.move {C C' : Ctx} (hM : ∀ b o u, C.M b o u → C'.M b o u) (hB : ∀ A e s n, C.B A e s n → C'.B A e s n) : ∀ (p : PV) (u : Value), Pl p → VR C p u → VR C' p u
 | .v x, u, _, h => vr_v.2 (vr_v.1 h)
 | .junk, u, _, _ => zag
 | .old x, u, hp, h => by cases hp
 | .hid k x, u, hp, h => by cases hp
 | .rf i off, u, hp, h => by cases hp
 | .sl o e sz xs, u, hp, h => by
  cases hp with
  | sl hp =>
  obtain ⟨A, c, hu, hc, ht, hx⟩ := vr_sl.1 h
  refine vr_sl.2 ⟨A, c, hu, ⟨hc.1, hB _ _ _ _ hc.2⟩, (by intro j hj; cases hj), fun i x hxi => ?_⟩
  obtain ⟨h1, b, off, h2, h3⟩ := hx i x hxi
  refine ⟨h1, b, off, h2, fun j z hz => ?_⟩
  obtain ⟨u', hm, hv⟩ := h3 j z hz
  have := z64 hxi
  have := z84 hz
  exact ⟨u', hM _ _ _ hm, VR.move hM hB z u' ((hp.mem x (List.mem_of_getElem? hxi)).cells hz) hv⟩
 | .pt e x off, u, hp, h => by
  cases hp with
  | pt hp =>
  obtain ⟨b, o0, hu, hx⟩ := vr_pt.1 h
  refine vr_pt.2 ⟨b, o0, ⟨hu.1, hB _ _ _ _ hu.2⟩, fun j z hz => ?_⟩
  obtain ⟨u', hm, hv⟩ := hx j z hz
  have := z84 hz
  exact ⟨u', hM _ _ _ hm, VR.move hM hB z u' (hp.cells hz) hv⟩
 | .iface t x, u, hp, h => by
  cases hp with
  | iface hp =>
  obtain ⟨u', hu, hv⟩ := vr_iface.1 h
  exact vr_iface.2 ⟨u', hu, VR.move hM hB x u' hp hv⟩
 | .agg cs, u, hp, h => by
  cases hp with
  | agg hp =>
  obtain ⟨us, hu, hl, hx⟩ := vr_agg.1 h
  refine vr_agg.2 ⟨us, hu, hl, fun i y hy => ?_⟩
  obtain ⟨u', h1, h2⟩ := hx i y hy
  have := z64 hy
  exact ⟨u', h1, VR.move hM hB y u' (hp.mem y (List.mem_of_getElem? hy)) h2⟩
 | .tup cs, u, hp, h => by
  cases hp with
  | tup hp =>
  obtain ⟨us, hu, hl, hx⟩ := vr_tup.1 h
  refine vr_tup.2 ⟨us, hu, hl, fun i y hy => ?_⟩
  obtain ⟨u', h1, h2⟩ := hx i y hy
  have := z64 hy
  exact ⟨u', h1, VR.move hM hB y u' (hp.mem y (List.mem_of_getElem? hy)) h2⟩
 | .fn g a b, u, hp, h => by
  cases hp with
  | fn hpa hpb =>
  obtain ⟨us, vs, hu, hl, hl2, hx, hy⟩ := vr_fn.1 h
  refine vr_fn.2 ⟨us, vs, hu, hl, hl2, fun i y hy' => ?_, fun i y hy' => ?_⟩
  ·obtain ⟨u', h1, h2⟩ := hx i y hy'
   have := z64 hy'
   exact ⟨u', h1, VR.move hM hB y u' (hpa.mem y (List.mem_of_getElem? hy')) h2⟩
  ·obtain ⟨u', h1, h2⟩ := hy i y hy'
   have := z64 hy'
   exact ⟨u', h1, VR.move hM hB y u' (hpb.mem y (List.mem_of_getElem? hy')) h2⟩
termination_by p => SizeOf.sizeOf p
decreasing_by all_goals (simp_wf; omega)
inductive Sc : PV → Prop
 | v {x : Value} : Sc (.v x)
 | junk : Sc .junk
 | iface {t : TypeId} {x : PV} : Sc x → Sc (.iface t x)
 | agg {cs : List PV} : (∀ x, x ∈ cs → Sc x) → Sc (.agg cs)
 | tup {cs : List PV} : (∀ x, x ∈ cs → Sc x) → Sc (.tup cs)
theorem Z1o : ∀ x, x ∈ ([] : List PV) → Sc x := fun x hx => by cases hx
theorem zp8 {y : PV} {r : List PV} (h : Sc y) (hr : ∀ x, x ∈ r → Sc x) : ∀ x, x ∈ y :: r → Sc x := fun x hx => by
 rcases List.mem_cons.1 hx with rfl | hx
 ·exact h
 ·exact hr x hx
theorem Sc.any {C C' : Ctx} {p : PV} (h : Sc p) : ∀ {u : Value}, VR C p u → VR C' p u := by
 induction h with
 | v => exact fun hv => vr_v.2 (vr_v.1 hv)
 | junk => exact fun _ => zag
 | iface _ ih => exact fun hv => let ⟨u', hu, h1⟩ := vr_iface.1 hv; vr_iface.2 ⟨u', hu, ih h1⟩
 | agg _ ih =>
  intro u hv
  obtain ⟨us, hu, hl, hx⟩ := vr_agg.1 hv
  exact vr_agg.2 ⟨us, hu, hl, fun i y hy => let ⟨u', h1, h2⟩ := hx i y hy; ⟨u', h1, ih y (List.mem_of_getElem? hy) h2⟩⟩
 | tup _ ih =>
  intro u hv
  obtain ⟨us, hu, hl, hx⟩ := vr_tup.1 hv
  exact vr_tup.2 ⟨us, hu, hl, fun i y hy => let ⟨u', h1, h2⟩ := hx i y hy; ⟨u', h1, ih y (List.mem_of_getElem? hy) h2⟩⟩
section
variable {P : Program} {F : Lo} {H H' : List AEnt} {g g' : List (Option Nat)} {w w' : World}
end
variable {P : Program} {H H' : List AEnt} {env : List (Nat × PV)} {n : Nat} {o : Oper}
theorem ztp (w : World) (m : Nat) (f : Bool) (hm : m ≤ w.heap.size) : RelH P ⟨fun _ => none, (m, f)⟩ [] [] w :=
 ⟨rfl, fun i j b hl => (by simp [live] at hl), fun i b hl => (by simp [live] at hl), fun b k hk => (by cases hk), ⟨hm, fun i b hl => (by simp [live] at hl)⟩, fun i ty cs h => (by simp at h), fun i e n h => (by simp at h)⟩
theorem Z49 {m : Nat × Bool} {w : World} {b off : Nat} {u : Value} (h : w.cell? ⟨b, off, none⟩ = some u) : (ctx P ⟨fun _ => none, m⟩ [] [] w).N b off u :=
 ⟨.inl ⟨fun i hl => (by simp [live] at hl), fun k hk => (by cases hk)⟩, h⟩
theorem Z4a {m : Nat} {w : World} {b off : Nat} {u : Value} (h : w.cell? ⟨b, off, none⟩ = some u) : (ctx P ⟨fun _ => none, (m, false)⟩ [] [] w).M b off u :=
 ⟨⟨(Z49 (P := P) (m := (m, false)) h).1, fun hf => nomatch hf⟩, h⟩
theorem Z0p {w : World} {b o : Nat} {ob : Obj} {u : Value} (h : w.heap[b]? = some ob) (hc : Obj.at ob o = some u) : w.cell? ⟨b, o, none⟩ = some u := by
 cases ob with
 | cells c t z => simpa [World.cell?, h, Obj.at] using hc
 | _ => cases hc
theorem zm9 {F : Lo} {g : List (Option Nat)} {w : World} {k b o : Nat} {u : Value} (hk : H[k]? = some .reg) (h : ((ctx P F H g w).inn k).M b o u) : w.cell? ⟨b, o, none⟩ = some u := by
 obtain ⟨ob, h1, h2⟩ := h
 obtain ⟨c, _, _, h3⟩ := h1.2 hk
 exact Z0p h3 h2
inductive HA (H : List AEnt) : PV → PV → Prop
 | wk {x y : PV} : Wk x y → y.ids = [] → HA H x y
 | old {y : PV} : HA H (.old y) y
 | hid {k : Nat} {y : PV} : H[k]? = some .reg → HA H (.hid k y) y
inductive HAL (H : List AEnt) : List PV → List PV → Prop
 | nil : HAL H [] []
 | cons {x y : PV} {xs ys : List PV} : HA H x y → HAL H xs ys → HAL H (x :: xs) (y :: ys)
theorem HAL.len : ∀ {xs ys : List PV}, HAL H xs ys → xs.length = ys.length
 | _, _, .nil => rfl
 | _, _, .cons _ h => by rw [List.length_cons, List.length_cons, h.len]
theorem HAL.get : ∀ {xs ys : List PV}, HAL H xs ys → ∀ {i : Nat} {y : PV}, ys[i]? = some y → ∃ x, xs[i]? = some x ∧ HA H x y
 | _, _, .nil, i, y, h => by simp at h
 | _, _, .cons h0 h, 0, y, hy => by simp at hy; subst hy; exact ⟨_, by simp, h0⟩
 | _, _, .cons h0 h, i + 1, y, hy => by simpa using h.get (i := i) (by simpa using hy)
theorem HA.vr {F : Lo} {g : List (Option Nat)} {w : World} {x y : PV} {u : Value} (h : HA H x y) (hv : VR (ctx P F H g w) x u) {C : Ctx} (hM : ∀ b o u, w.cell? ⟨b, o, none⟩ = some u → C.M b o u) (hB : ∀ A e s n, C.B A e s n) : VR C y u := by
 cases h with
 | wk hw hi =>
  have := VR.turn (C := ctx P F H g w) (C' := C) (f := fun i => i) (fun b o u hm => hM b o u hm.2) (fun b o u hm => C.nm b o u (hM b o u hm.2)) (fun A e s n _ => hB A e s n) y u (fun i hx => by rw [hi] at hx; cases hx) (hw _ _ hv)
  rwa [z1f y (fun i hx => rfl)] at this
 | old => exact VR.leans (C := (ctx P F H g w).all) (fun b o u hm => hM b o u hm.2) (fun b o u hm => C.nm b o u (hM b o u hm.2)) (fun A e s n _ => hB A e s n) (fun _ _ h => h) (fun _ _ _ _ _ h => h) (fun _ _ _ h => h) (vr_old.1 hv)
 | @hid k y hk => exact VR.leans (C := (ctx P F H g w).inn k) (fun b o u hm => hM b o u (zm9 hk hm)) (fun b o u hm => C.nm b o u (hM b o u (zm9 hk hm))) (fun A e s n _ => hB A e s n) (fun _ _ h => h) (fun _ _ _ _ _ h => h) (fun _ _ _ h => h) (vr_hid.1 hv)
theorem HAL.vrs {F : Lo} {g : List (Option Nat)} {w : World} {xs ys : List PV} {us : Array Value} (h : HAL H xs ys) (hv : VRs (ctx P F H g w) xs us) (m : Nat) : VRs (ctx P ⟨fun _ => none, (m, false)⟩ [] [] w) ys us := by
 refine ⟨by rw [← h.len]; exact hv.1, fun i y hy => ?_⟩
 obtain ⟨x, h1, h2⟩ := h.get hy
 obtain ⟨u, h3, h4⟩ := hv.2 i x h1
 exact ⟨u, h3, h2.vr h4 (fun _ _ _ h => Z4a h) (fun A e s n hf => nomatch hf)⟩
inductive FA (H : List AEnt) : PV → PV → Prop
 | sc {x y : PV} : Wk x y → Sc y → FA H x y
 | old {x y : PV} : HA H x y → FA H x (.old y)
inductive FAL (H : List AEnt) : List PV → List PV → Prop
 | nil : FAL H [] []
 | cons {x y : PV} {xs ys : List PV} : FA H x y → FAL H xs ys → FAL H (x :: xs) (y :: ys)
theorem FAL.len : ∀ {xs ys : List PV}, FAL H xs ys → xs.length = ys.length
 | _, _, .nil => rfl
 | _, _, .cons _ h => by rw [List.length_cons, List.length_cons, h.len]
theorem FAL.get : ∀ {xs ys : List PV}, FAL H xs ys → ∀ {i : Nat} {y : PV}, ys[i]? = some y → ∃ x, xs[i]? = some x ∧ FA H x y
 | _, _, .nil, i, y, h => by simp at h
 | _, _, .cons h0 h, 0, y, hy => by simp at hy; subst hy; exact ⟨_, by simp, h0⟩
 | _, _, .cons h0 h, i + 1, y, hy => by simpa using h.get (i := i) (by simpa using hy)
theorem FAL.vrs {F : Lo} {g : List (Option Nat)} {w : World} {xs ys : List PV} {us : Array Value} (h : FAL H xs ys) (hv : VRs (ctx P F H g w) xs us) (m : Nat × Bool) : VRs (ctx P ⟨fun _ => none, m⟩ [] [] w) ys us := by
 refine ⟨by rw [← h.len]; exact hv.1, fun i y hy => ?_⟩
 obtain ⟨x, h1, h2⟩ := h.get hy
 obtain ⟨u, h3, h4⟩ := hv.2 i x h1
 refine ⟨u, h3, ?_⟩
 cases h2 with
 | sc hw hs => exact hs.any (hw _ _ h4)
 | old hx => exact vr_old.2 (hx.vr h4 (fun _ _ _ h => Z49 h) (fun _ _ _ _ => trivial))
theorem zvy {F : Fr} {g : List (Option Nat)} {a : Act} {w : World} {f : FuncId} {args : List Operand} {types : Array TypeId} (ho : o.op = .call { callee := .value (.func f), args := args.toArray, argTypes := types }) (hen : z0v P f) :
 (execOp a.eval o).run P w = .ok (.enter f (args.toArray.map a.eval)) w := by
 simp only [execOp, ho]
 simp [resolve, Deferred.ofValue, invoke, Act.eval, z2k hen]
def Z9i (S : Nat → Prop) (w : World) : Ctx := ⟨fun b o u => S b ∧ w.cell? ⟨b, o, none⟩ = some u, fun _ _ => False, fun _ _ _ _ _ => False, fun b o u => S b ∧ w.cell? ⟨b, o, none⟩ = some u, fun _ _ _ h => h, fun _ _ _ => False,
 fun A e s n => (A = none ∧ n = 0) ∨ ∃ (b o : Nat) (cells : Array Value) (z : Nat × Nat) (q : Nat), A = some ⟨b, o, none⟩ ∧ S b ∧ w.heap[b]? = some (.cells cells e z) ∧ o + n ≤ cells.size ∧ (z.2 ≤ z.1 ∨ cells.size ≤ z.1) ∧ o = q * s, fun _ _ => .inl ⟨rfl, rfl⟩, fun _ _ => False⟩
inductive SA (k : Nat) : PV → PV → Prop
 | sc {x y : PV} : Wk x y → Sc y → SA k x y
 | hid {y : PV} : SA k (.hid k y) y
inductive SAL (k : Nat) : List PV → List PV → Prop
 | nil : SAL k [] []
 | cons {x y : PV} {xs ys : List PV} : SA k x y → SAL k xs ys → SAL k (x :: xs) (y :: ys)
theorem SAL.len {k : Nat} : ∀ {xs ys : List PV}, SAL k xs ys → xs.length = ys.length
 | _, _, .nil => rfl
 | _, _, .cons _ h => by rw [List.length_cons, List.length_cons, h.len]
theorem SAL.get {k : Nat} : ∀ {xs ys : List PV}, SAL k xs ys → ∀ {i : Nat} {y : PV}, ys[i]? = some y → ∃ x, xs[i]? = some x ∧ SA k x y
 | _, _, .nil, i, y, h => by simp at h
 | _, _, .cons h0 h, 0, y, hy => by simp at hy; subst hy; exact ⟨_, by simp, h0⟩
 | _, _, .cons h0 h, i + 1, y, hy => by simpa using h.get (i := i) (by simpa using hy)
section
variable {F : Lo} {g : List (Option Nat)} {w w' : World}
end
def RegL (H : List AEnt) : List Nat → Prop
 | [] => True
 | k :: r => H[k]? = some .reg ∧ RegL H r
theorem RegL.get : ∀ {ks : List Nat}, RegL H ks → ∀ k, k ∈ ks → H[k]? = some .reg
 | [], _, k, hk => by cases hk
 | j :: r, h, k, hk => by
  rcases List.mem_cons.1 hk with rfl | hk
  ·exact h.1
  ·exact RegL.get h.2 k hk
end Aw
end Go.Proofs.YthidgpcbnieleaaGreatDoor
