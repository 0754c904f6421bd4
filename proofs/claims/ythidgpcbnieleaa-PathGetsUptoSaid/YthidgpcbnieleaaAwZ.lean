/- Aw: code over trees, told from the call's beginning on: what is no longer needed is let go; joins and loops by pure functions; pure functions that call themselves. -/
import Derived.Test.YthidgpcbnieleaaAwY
import Derived.Test.YthidgpcbnieleaaAwC
namespace Go.Proofs.Ythidgpcbnieleaa.Aw
open Go
set_option linter.unusedVariables false
set_option linter.unusedSimpArgs false
set_option linter.unusedSectionVars false
variable {P : Program} {F : Fr} {H H' H0 : List AEnt} {g g' g0 : List (Option Nat)} {w w' w0 : World}

def LeO {ι : Type} {ρ : ι → Type} (g g' : ∀ i, Option (ρ i)) : Prop := ∀ i r, g i = some r → g' i = some r
structure Lim {ι : Type} {ρ : ι → Type} (c : Nat → ∀ i, Option (ρ i)) (g : ∀ i, Option (ρ i)) : Prop where
 up : ∀ m n, m ≤ n → LeO (c m) (c n)
 le : ∀ n, LeO (c n) g
 at_ : ∀ i r, g i = some r → ∃ n, c n i = some r
structure CM {ι : Type} {ρ : ι → Type} {β : Type} (φ : (∀ i, Option (ρ i)) → Option β) : Prop where
 mono : ∀ g g', LeO g g' → ∀ r, φ g = some r → φ g' = some r
 cont : ∀ c g, Lim c g → ∀ r, φ g = some r → ∃ n, φ (c n) = some r
section
variable {ι : Type} {ρ : ι → Type} {α β : Type}
theorem z0h {x : Option β} : CM (fun _ : (∀ i, Option (ρ i)) => x) := ⟨fun _ _ _ _ h => h, fun _ _ _ _ h => ⟨0, h⟩⟩
theorem z1i {i : ι} : CM (fun g : (∀ i, Option (ρ i)) => g i) := ⟨fun _ _ hl r h => hl i r h, fun _ _ hl r h => hl.at_ i r h⟩
theorem z11 {φ : (∀ i, Option (ρ i)) → Option α} {ψ : (∀ i, Option (ρ i)) → α → Option β} (h1 : CM φ) (h2 : ∀ x, CM (fun g => ψ g x)) : CM (fun g => (φ g).bind (fun x => ψ g x)) := by
 refine ⟨fun g g' hl r h => ?_, fun c g hl r h => ?_⟩
 ·obtain ⟨x, hx, hr⟩ := Option.bind_eq_some_iff.1 h
  exact Option.bind_eq_some_iff.2 ⟨x, h1.mono g g' hl x hx, (h2 x).mono g g' hl r hr⟩
 ·obtain ⟨x, hx, hr⟩ := Option.bind_eq_some_iff.1 h
  obtain ⟨m, hm⟩ := h1.cont c g hl x hx
  obtain ⟨n, hn⟩ := (h2 x).cont c g hl r hr
  exact ⟨max m n, Option.bind_eq_some_iff.2 ⟨x, h1.mono _ _ (hl.up _ _ (Nat.le_max_left _ _)) x hm, (h2 x).mono _ _ (hl.up _ _ (Nat.le_max_right _ _)) r hn⟩⟩
theorem z10 {b : Bool} {φ ψ : (∀ i, Option (ρ i)) → Option β} (h1 : CM φ) (h2 : CM ψ) : CM (fun g => bif b then φ g else ψ g) := by
 cases b
 ·exact h2
 ·exact h1
def z7f (Φ : (∀ i, Option (ρ i)) → ∀ i, Option (ρ i)) : Nat → ∀ i, Option (ρ i)
 | 0 => fun _ => none
 | n + 1 => Φ (z7f Φ n)
open Classical in
noncomputable def z3b (Φ : (∀ i, Option (ρ i)) → ∀ i, Option (ρ i)) (i : ι) : Option (ρ i) :=
 if h : ∃ r n, z7f Φ n i = some r then some h.choose else none
theorem z5w {Φ : (∀ i, Option (ρ i)) → ∀ i, Option (ρ i)} {i : ι} {r : ρ i} (h : z3b Φ i = some r) : ∃ n, z7f Φ n i = some r := by
 unfold z3b at h
 split at h
 ·rename_i hx
  injection h with h
  obtain ⟨n, hn⟩ := hx.choose_spec
  exact ⟨n, by rw [hn, h]⟩
 ·cases h
theorem z42 {Φ : (∀ i, Option (ρ i)) → ∀ i, Option (ρ i)} {Q : ∀ i, ρ i → Prop} (step : ∀ g : (∀ i, Option (ρ i)), (∀ i r, g i = some r → Q i r) → ∀ i r, Φ g i = some r → Q i r) (i : ι) (r : ρ i) (h : z3b Φ i = some r) : Q i r := by
 obtain ⟨n, hn⟩ := z5w h
 have key : ∀ n i r, z7f Φ n i = some r → Q i r := by
  intro n
  induction n with
  | zero => intro i r h; cases h
  | succ n ih => exact step _ ih
 exact key n i r hn
theorem zbr {Φ : (∀ i, Option (ρ i)) → ∀ i, Option (ρ i)} (hΦ : ∀ i, CM (fun g => Φ g i)) : ∀ m n, m ≤ n → LeO (z7f Φ m) (z7f Φ n)
 | 0, _, _ => fun i r h => by cases h
 | m + 1, 0, h => by omega
 | m + 1, n + 1, h => fun i r hr => (hΦ i).mono _ _ (zbr hΦ m n (by omega)) r hr
theorem z9n {Φ : (∀ i, Option (ρ i)) → ∀ i, Option (ρ i)} (hΦ : ∀ i, CM (fun g => Φ g i)) {n : Nat} {i : ι} {r : ρ i} (h : z7f Φ n i = some r) : z3b Φ i = some r := by
 have hx : ∃ r n, z7f Φ n i = some r := ⟨r, n, h⟩
 unfold z3b
 rw [dif_pos hx]
 obtain ⟨m, hm⟩ := hx.choose_spec
 have h1 := zbr hΦ m (max m n) (Nat.le_max_left _ _) i _ hm
 have h2 := zbr hΦ n (max m n) (Nat.le_max_right _ _) i _ h
 rw [h1] at h2
 exact h2
theorem ziv {Φ : (∀ i, Option (ρ i)) → ∀ i, Option (ρ i)} (hΦ : ∀ i, CM (fun g => Φ g i)) : Lim (z7f Φ) (z3b Φ) :=
 ⟨zbr hΦ, fun n i r h => z9n hΦ h, fun i r h => z5w h⟩
theorem z1f {Φ : (∀ i, Option (ρ i)) → ∀ i, Option (ρ i)} (hΦ : ∀ i, CM (fun g => Φ g i)) (i : ι) : z3b Φ i = Φ (z3b Φ) i := by
 cases h : Φ (z3b Φ) i with
 | some r =>
  obtain ⟨n, hn⟩ := (hΦ i).cont _ _ (ziv hΦ) r h
  exact z9n hΦ (n := n + 1) hn
 | none =>
  cases h2 : z3b Φ i with
  | none => rfl
  | some r =>
   obtain ⟨n, hn⟩ := z5w h2
   cases n with
   | zero => cases hn
   | succ n =>
    have := (hΦ i).mono _ _ ((ziv hΦ).le n) r hn
    rw [h] at this; cases this
end
section
variable {ι κ : Type} {ρ : ι → Type} {τ : κ → Type}
theorem z5z {Φ : (∀ i, Option (ρ i)) → (∀ k, Option (τ k)) → ∀ k, Option (τ k)} (h1 : ∀ h k, CM (fun g => Φ g h k)) (h2 : ∀ g k, CM (fun h => Φ g h k)) (k : κ) : CM (fun g => z3b (Φ g) k) := by
 have hm : ∀ g g', LeO g g' → ∀ n, LeO (z7f (Φ g) n) (z7f (Φ g') n) := by
  intro g g' hl n
  induction n with
  | zero => intro i r h; cases h
  | succ n ih => intro i r h; exact (h2 g' i).mono _ _ ih r ((h1 _ i).mono _ _ hl r h)
 refine ⟨fun g g' hl r h => ?_, fun c g hl r h => ?_⟩
 ·obtain ⟨n, hn⟩ := z5w h
  exact z9n (h2 g') (hm g g' hl n k r hn)
 ·obtain ⟨n, hn⟩ := z5w h
  have key : ∀ n k r, z7f (Φ g) n k = some r → ∃ j, z7f (Φ (c j)) n k = some r := by
   intro n
   induction n with
   | zero => intro k r h; cases h
   | succ n ih =>
    intro k r h
    have hlim : Lim (fun j => z7f (Φ (c j)) n) (z7f (Φ g) n) := ⟨fun a b hab => hm _ _ (hl.up a b hab) n, fun a => hm _ _ (hl.le a) n, fun i r h => ih i r h⟩
    obtain ⟨a, ha⟩ := (h2 g k).cont _ _ hlim r h
    obtain ⟨b, hb⟩ := (h1 _ k).cont _ _ hl r ha
    refine ⟨max a b, ?_⟩
    have h3 := (h1 _ k).mono _ _ (hl.up b (max a b) (Nat.le_max_right _ _)) r hb
    exact (h2 _ k).mono _ _ (hm _ _ (hl.up a (max a b) (Nat.le_max_left _ _)) n) r h3
  obtain ⟨j, hj⟩ := key n k r hn
  exact ⟨j, z9n (h2 (c j)) hj⟩
end
theorem obind {α β : Type} {o : Option α} {f : α → Option β} {r : β} (h : o.bind f = some r) : ∃ x, o = some x ∧ f x = some r := Option.bind_eq_some_iff.1 h
theorem z0t {α : Type} {b : Bool} {x y : α} {z : α} (hc : b = true) (h : (bif b then x else y) = z) : x = z := by subst hc; exact h
theorem z0u {α : Type} {b : Bool} {x y : α} {z : α} (hc : b = false) (h : (bif b then x else y) = z) : y = z := by subst hc; exact h

inductive ESub : AEnt → AEnt → Prop
 | same {e : AEnt} : ESub e e
 | box {ty : TypeId} {cs cs' : List PV} : WkL cs cs' → ESub (.box ty cs') (.box ty cs)
 | dead {e : AEnt} : ESub .dead e
inductive HSub : List AEnt → List AEnt → Prop
 | nil {H : List AEnt} : HSub [] H
 | cons {e' e : AEnt} {H' H : List AEnt} : ESub e' e → HSub H' H → HSub (e' :: H') (e :: H)
theorem HSub.len : ∀ {H' H : List AEnt}, HSub H' H → H'.length ≤ H.length
 | _, _, .nil => by simp
 | _, _, .cons _ h => by simp only [List.length_cons]; have := h.len; omega
theorem HSub.get : ∀ {H' H : List AEnt}, HSub H' H → ∀ {i : Nat} {e' : AEnt}, H'[i]? = some e' → ∃ e, H[i]? = some e ∧ ESub e' e
 | _, _, .nil, i, e', h => by simp at h
 | _, _, .cons (e := e) he hr, 0, e', h => by simp at h; subst h; exact ⟨e, by simp, he⟩
 | _, _, .cons he hr, i + 1, e', h => by simpa using hr.get (i := i) (by simpa using h)
def zjh (k : Nat) (p : PV) : Prop := ∀ i, i ∈ p.ids → i < k
theorem z02 {k : Nat} {p : PV} (h : p.ids = []) : zjh k p := fun i hi => by rw [h] at hi; cases hi
theorem il_rf {k i off : Nat} (h : Nat.blt i k = true) : zjh k (.rf i off) := fun j hj => by simp [PV.ids] at hj; subst hj; exact Nat.le_of_ble_eq_true h
theorem z4m {k j e sz : Nat} {xs : List PV} (h : Nat.blt j k = true) (hx : PV.ids.idsL xs = []) : zjh k (.sl (some j) e sz xs) := fun i hi => by
 simp [PV.ids, hx] at hi; subst hi; exact Nat.le_of_ble_eq_true h
def WfE (k : Nat) : List (Nat × PV) → Prop
 | [] => True
 | (_, x) :: r => zjh k x ∧ WfE k r
theorem WfE.get {k : Nat} : ∀ {env : List (Nat × PV)}, WfE k env → ∀ {t : Nat} {x : PV}, get env t = some x → zjh k x
 | [], _, t, x, h => by cases h
 | (s, y) :: r, hw, t, x, h => by
  simp only [Aw.get] at h
  cases hb : Nat.beq s t with
  | true => rw [hb] at h; simp at h; subst h; exact hw.1
  | false => rw [hb] at h; exact hw.2.get h
def WfL (k : Nat) : List PV → Prop
 | [] => True
 | x :: r => zjh k x ∧ WfL k r
theorem WfL.get {k : Nat} : ∀ {cs : List PV}, WfL k cs → ∀ {j : Nat} {x : PV}, cs[j]? = some x → zjh k x
 | [], _, j, x, h => by simp at h
 | y :: r, hw, 0, x, h => by simp at h; subst h; exact hw.1
 | y :: r, hw, j + 1, x, h => hw.2.get (j := j) (by simpa using h)
def WfH (k : Nat) : List AEnt → Prop
 | [] => True
 | .box _ cs :: r => WfL k cs ∧ WfH k r
 | _ :: r => WfH k r
theorem WfH.get {k : Nat} : ∀ {H : List AEnt}, WfH k H → ∀ {i : Nat} {ty : TypeId} {cs : List PV}, H[i]? = some (.box ty cs) → WfL k cs
 | [], _, i, ty, cs, h => by simp at h
 | .box t c :: r, hw, 0, ty, cs, h => by simp at h; obtain ⟨_, rfl⟩ := h; exact hw.1
 | .arr _ _ :: r, hw, 0, ty, cs, h => by simp at h
 | .dead :: r, hw, 0, ty, cs, h => by simp at h
 | .reg :: r, hw, 0, ty, cs, h => by simp at h
 | .reg :: r, hw, i + 1, ty, cs, h => WfH.get (H := r) hw (i := i) (by simpa using h)
 | .box t c :: r, hw, i + 1, ty, cs, h => WfH.get (H := r) hw.2 (i := i) (by simpa using h)
 | .arr _ _ :: r, hw, i + 1, ty, cs, h => WfH.get (H := r) hw (i := i) (by simpa using h)
 | .dead :: r, hw, i + 1, ty, cs, h => WfH.get (H := r) hw (i := i) (by simpa using h)
theorem zw6 (hs : HSub H' H) {i e n : Nat} (h : H'[i]? = some (.arr e n)) : H[i]? = some (.arr e n) := by
 obtain ⟨e0, h1, h2⟩ := hs.get h
 cases h2 with
 | same => exact h1
theorem z8m (h : RelH P F H g w) (hs : HSub H' H) {i b : Nat} (hl : live H' (g.take H'.length) i b) : live H g i b := by
 obtain ⟨c, h1, e, h2, h3⟩ := hl
 obtain ⟨e0, h4, h5⟩ := hs.get h2
 refine ⟨c, ?_, e0, h4, ?_⟩
 ·rw [List.getElem?_take] at h1
  split at h1
  ·exact h1
  ·cases h1
 ·cases h5 with
  | same => exact h3
  | box => exact h3
  | dead => exact h3.elim
theorem Z17 (hs : HSub H' H) {i : Nat} (hi : i < H'.length) : (g.take H'.length)[i]? = g[i]? := by simp [List.getElem?_take, hi]
theorem Z3w (h : RelH P F H g w) (hs : HSub H' H) {b off : Nat} (hb : zmu P F H g b off) : zmu P F H' (g.take H'.length) b off := by
 rcases hb with ⟨h1, h2⟩ | ⟨i, e, n, h1, h2, h3⟩
 ·exact .inl ⟨fun i hl => h1 i (z8m h hs hl), h2⟩
 ·by_cases hi : H'[i]? = some (.arr e n)
  ·exact .inr ⟨i, e, n, hi, by rw [Z17 hs (z0a hi)]; exact h2, h3⟩
  ·refine .inl ⟨fun j hl => ?_, fun k hF => ?_⟩
   ·have hl' := z8m h hs hl
    have hij := h.inj i j b ⟨_, h2, _, h1, rfl⟩ hl'
    subst hij
    obtain ⟨_, _, e', h4, h5⟩ := hl
    obtain ⟨e0, h6, h7⟩ := hs.get h4
    rw [h1] at h6; injection h6 with h6; subst h6
    cases h7 with
    | same => exact hi h4
    | dead => exact h5
   ·have := (h.fr i b ⟨_, h2, _, h1, rfl⟩).1; rw [this] at hF; cases hF
theorem Z5u (hs : HSub H' H) {i b : Nat} (hi : i < H'.length) (hr : (ctx P F H g w).R i b) : (ctx P F H' (g.take H'.length) w).R i b :=
 ⟨by rw [Z17 hs hi]; exact hr.1, fun e n he => hr.2 e n (zw6 hs he)⟩
theorem Z5t (hs : HSub H' H) {j n c sz : Nat} {A : Option Addr} (hj : j < H'.length) (ht : (ctx P F H g w).T j n A c sz) : (ctx P F H' (g.take H'.length) w).T j n A c sz := by
 refine ⟨hj, fun e k he => ?_⟩
 rw [Z17 hs hj]
 exact ht.2 e k (zw6 hs he)
theorem Z5v (hs : HSub H' H) {k b : Nat} {ob : Obj} (hk : k < H'.length) (hg : (ctx P F H g w).G k b ob) : (ctx P F H' (g.take H'.length) w).G k b ob := by
 refine ⟨hk, fun he => ?_⟩
 obtain ⟨e, h1, h2⟩ := hs.get he
 cases h2 with
 | same =>
  obtain ⟨c, h3, h4⟩ := hg.2 h1
  exact ⟨c, by rw [Z17 hs hk]; exact h3, h4⟩
theorem Z18 (h : RelH P F H g w) (hs : HSub H' H) {p : PV} {u : Value} (hp : zjh H'.length p) (hv : VR (ctx P F H g w) p u) : VR (ctx P F H' (g.take H'.length) w) p u := by
 have := VR.turn (f := fun i => i) (C := ctx P F H g w) (C' := ctx P F H' (g.take H'.length) w) (fun _ _ _ hm => ⟨⟨Z3w h hs hm.1.1, hm.1.2⟩, hm.2⟩) (fun _ _ _ hm => ⟨Z3w h hs hm.1, hm.2⟩) ((Keeps.refl w).B rfl) p u (fun i hi => ⟨fun b hr => ⟨Z5u hs (hp i hi) hr, fun m => (Keeps.refl w).K b m⟩, fun n A c z => Z5t hs (hp i hi), fun b o => Z5v hs (hp i hi)⟩) hv
 rwa [z18 p (fun _ _ => rfl)] at this
theorem Z16 (h : RelH P F H g w) (hs : HSub H' H) (hw : WfH H'.length H') : RelH P F H' (g.take H'.length) w := by
 have hlen : H'.length ≤ g.length := by rw [h.len]; exact hs.len
 refine z2s (by simp; omega) (fun i j b hi hj => h.inj i j b (z8m h hs hi) (z8m h hs hj)) (fun i b hi => h.fr i b (z8m h hs hi)) h.fb ⟨h.bs.1, fun i b hi => h.bs.2 i b (z8m h hs hi)⟩ ?_
 intro i e' hi
 obtain ⟨e, h1, h2⟩ := hs.get hi
 obtain ⟨n, h3, h4⟩ := z4t h h1
 have hlt := z0a hi
 refine ⟨n, by rw [Z17 hs hlt]; exact h3, ?_⟩
 cases e' with
 | dead => trivial
 | reg => trivial
 | arr t k => cases h2 with | same => exact h4
 | box ty cs' =>
  have hwl := hw.get hi
  have hbox : ∃ cs, e = .box ty cs ∧ WkL cs cs' := by
   cases h2 with
   | same => exact ⟨cs', rfl, .refl _⟩
   | box hk => exact ⟨_, rfl, hk⟩
  obtain ⟨cs, rfl, hk⟩ := hbox
  obtain ⟨b, cells, h5, h6, h7, h8⟩ := h4
  refine ⟨b, cells, h5, h6, by rw [← hk.len]; exact h7, fun j y hy => ?_⟩
  obtain ⟨x, h9, h10⟩ := hk.get j y hy
  obtain ⟨u, h11, h12⟩ := h8 j x h9
  exact ⟨u, h11, Z18 h hs (hwl.get hy) (h10 _ _ h12)⟩
theorem zrv (h : RelH P F H g w) (hs : HSub H' H) (hg : g0.length = H0.length) (hl : H0.length ≤ H'.length) (hx : Ext P F H0 g0 w0 H g w) : Ext P F H0 g0 w0 H' (g.take H'.length) w := by
 refine ⟨hx.os, hx.tape, hx.output, hx.size, fun b hb hn => ?_, zbl rfl (fun b o u hm => ?_) (fun i b hr => ?_) (fun i n A c z ht => ?_) (fun k b o hg => Z5v hs (Nat.lt_of_lt_of_le hg.1 hl) (hx.le.G _ _ _ hg)) (fun A n hB => hx.le.B A n hB) hx.le.K, hl⟩
 ·obtain ⟨h1, h2⟩ := hx.keep b hb hn
  exact ⟨h1, fun i hi => h2 i (z8m h hs hi)⟩
 ·have hm' := hx.le.N _ _ _ hm
  exact ⟨Z3w h hs hm'.1, hm'.2⟩
 ·have hi : i < g0.length := z0a hr.1
  exact Z5u hs (by omega) (hx.le.R _ _ hr)
 ·have hi : i < H0.length := ht.1
  exact Z5t hs (by omega) (hx.le.T _ _ _ _ _ ht)

def BW (P : Program) (H0 : List AEnt) (c : Code) (s : ASt) (K : AExit → ASt → Prop) : Prop :=
 ∀ F g a w g0 w0, g0.length = H0.length → Rel P F s a w g → Ext P F H0 g0 w0 s.H g w → c.wp P (Post P F H0 g0 w0 K) a w
structure WfJ (m : Nat) (env : List (Nat × PV)) (H : List AEnt) : Prop where
 len : m ≤ H.length
 env : WfE H.length env
 ent : WfH H.length H
structure Joins (env : List (Nat × PV)) (H : List AEnt) (s : ASt) : Prop where
 H : HSub H s.H
 env : Sub env s.env
section
variable {s : ASt} {K : AExit → ASt → Prop}
theorem zo1 {c : Code} (h : AW P c s K) : BW P H0 c s K := fun F g a w g0 w0 _ hr hx => wp_mono (h F g a w hr) (fun _ _ _ hp => hp.from hx)
theorem z0q {c : Code} (h : BW P s.H c s K) : AW P c s K := fun F g a w hr => h F g a w g w hr.rel.len hr .refl
theorem z0c (h : K .normal s) : BW P H0 .skip s K := zo1 (zz3 h)
theorem z1z {i : Nat} (h : K (.exit i) s) : BW P H0 (.exit i) s K := zo1 (zz4 h)
theorem z04 (h : K .ret s) : BW P H0 .ret s K := zo1 (Z2h h)
theorem z0e {id : Nat} {l : List Oper} (h : AO P l.toArray l s K) : BW P H0 (.region id l.toArray false) s K := zo1 (zsp h)
theorem zo0 {id : Nat} {ops : Array Oper} (h : AO P ops ops.toList s K) : BW P H0 (.region id ops false) s K := zo1 (zo7 h)
theorem z1y {rid : Nat} {ops : Array Oper} {env : List (Nat × PV)} {n : Nat} (m : Nat) (ls I : List Nat) (hm : P.follows .mixedOrders = true) (hq : zky ops ls m = true) (h : AC P ops ls I H n (fun _ s1 => AO P ops (ops.toList.drop m) s1 K) 0 (ops.toList.take m) env H) : BW P H0 (.region rid ops true) ⟨env, H, n⟩ K := zo1 (zz2 m ls I hm hq h)
theorem zka {c : Operand} {x y : Code} {b : Bool} (hc : ev s.env c = some (.v (.bool b))) (ht : b = true → BW P H0 x s K) (hf : b = false → BW P H0 y s K) : BW P H0 (.cond c x y) s K :=
 fun F g a w g0 w0 hl hr hx => wp_cond_split (hr.const hc) (fun hb => ht hb F g a w g0 w0 hl hr hx) (fun hb => hf hb F g a w g0 w0 hl hr hx)
theorem zma {c : Operand} {x y : Code} (hc : ev s.env c = some (.v (.bool true))) (h : BW P H0 x s K) : BW P H0 (.cond c x y) s K := zka hc (fun _ => h) (fun h => by cases h)
theorem zmb {c : Operand} {x y : Code} (hc : ev s.env c = some (.v (.bool false))) (h : BW P H0 y s K) : BW P H0 (.cond c x y) s K := zka hc (fun h => by cases h) (fun _ => h)
def Z5l (P : Program) (H0 : List AEnt) (c : Code) (K : AExit → ASt → Prop) : AExit → ASt → Prop
 | .normal, s => BW P H0 c s K
 | x, s => K x s
theorem z0d {x y : Code} (h : BW P H0 x s (Z5l P H0 y K)) : BW P H0 (.seq x y) s K := fun F g a w g0 w0 hl hr hx => by
 refine wp_seq (wp_mono (h F g a w g0 w0 hl hr hx) ?_)
 rintro e a' w' ⟨x, s', g', h1, h2, h3, h4⟩
 cases x <;> cases e <;> first
  | exact h1.elim
  | exact h4 F g' a' w' g0 w0 hl h2 h3
  | exact ⟨_, s', g', h1, h2, h3, h4⟩
theorem z0r {id : Nat} {c : Code} (h : BW P H0 c s (zwi id K)) : BW P H0 (.block id c) s K := fun F g a w g0 w0 hl hr hx => by
 refine wp_block (wp_mono (h F g a w g0 w0 hl hr hx) ?_)
 rintro e a' w' ⟨x, s', g', h1, h2, h3, h4⟩
 cases x <;> cases e <;> first
  | exact h1.elim
  | exact ⟨_, s', g', h1, h2, h3, h4⟩
  | skip
 rename_i i j
 have hij : i = j := h1
 subst hij
 simp only [zwi] at h4
 simp only [Exit.inBlock]
 by_cases he : i = id
 ·rw [if_pos he]
  rw [beq_iff'.2 he] at h4
  exact ⟨.normal, s', g', trivial, h2, h3, h4⟩
 ·rw [if_neg he]
  have : Nat.beq i id = false := by
   cases hb : Nat.beq i id with
   | false => rfl
   | true => exact absurd (beq_iff'.1 hb) he
  rw [this] at h4
  exact ⟨.exit i, s', g', rfl, h2, h3, h4⟩
theorem zyy {c : Code} {K' : AExit → ASt → Prop} (h : BW P H0 c s K) (hk : ∀ x s, K x s → K' x s) : BW P H0 c s K' := fun F g a w g0 w0 hl hr hx => wp_mono (h F g a w g0 w0 hl hr hx) (fun _ _ _ hp => hp.mono hk)
theorem zcd {F : Fr} {g : List (Option Nat)} {a : Act} {w : World} (hr : Rel P F s a w g) {env' : List (Nat × PV)} {m : Nat} (hj : Joins env' H' s) (hw : WfJ m env' H') :
 Rel P F ⟨env', H', s.n⟩ a w (g.take H'.length) := by
 refine ⟨Z16 hr.rel hj.H hw.ent, fun t x hx => ?_, hr.size, hr.defers⟩
 obtain ⟨y, h1, h2⟩ := hj.env t x hx
 obtain ⟨u, h3, h4⟩ := hr.env t y h1
 exact ⟨u, h3, Z18 hr.rel hj.H (hw.env.get hx) (h2 _ _ h4)⟩
theorem zur {c : Code} {env' : List (Nat × PV)} (hj : Joins env' H' s) (hw : WfJ H0.length env' H') (h : BW P H0 c ⟨env', H', s.n⟩ K) : BW P H0 c s K := fun F g a w g0 w0 hl hr hx =>
 h F _ a w g0 w0 hl (zcd hr hj hw) (zrv hr.rel hj.H hl hw.len hx)
def zub (I : ASt → Prop) (K : AExit → ASt → Prop) : AExit → ASt → Prop
 | .normal, s => I s
 | x, s => K x s
theorem z2l {ι : Type} {x y : Code} (J : ι → Prop) (mk : ι → List (Nat × PV)) (mkH : ι → List AEnt) (hw : ∀ i, WfJ H0.length (mk i) (mkH i)) (hy : ∀ i, J i → BW P H0 y ⟨mk i, mkH i, s.n⟩ K)
 (hx : BW P H0 x s (zub (fun s' => s'.n = s.n ∧ ∃ i, J i ∧ Joins (mk i) (mkH i) s') K)) : BW P H0 (.seq x y) s K := by
 refine z0d (zyy hx ?_)
 intro e s' h
 cases e with
 | normal =>
  obtain ⟨hn, i, h1, h2⟩ := h
  have h3 := hy i h1
  rw [← hn] at h3
  exact zur h2 (hw i) h3
 | _ => exact h
theorem z3c {σ ρ : Type} {Φ : (σ → Option ρ) → σ → Option ρ} {r : ρ} {c : Code} (mk : σ → List (Nat × PV)) (mkH : σ → List AEnt) (x0 : σ) (hr0 : z3b Φ x0 = some r) (hw : ∀ x, WfJ H0.length (mk x) (mkH x)) (h0 : Joins (mk x0) (mkH x0) s)
 (round : ∀ (g : σ → Option ρ) (x : σ), Φ g x = some r → BW P H0 c ⟨mk x, mkH x, s.n⟩ (zub (fun s' => s'.n = s.n ∧ ∃ x', g x' = some r ∧ Joins (mk x') (mkH x') s') K)) : BW P H0 (.loop c) s K := fun F g a w g0 w0 hl hr hx => by
 obtain ⟨n, hn⟩ := z5w hr0
 refine zbz (fun n a' w' => ∃ x g', z7f Φ n x = some r ∧ Rel P F ⟨mk x, mkH x, s.n⟩ a' w' g' ∧ Ext P F H0 g0 w0 (mkH x) g' w') ⟨x0, _, hn, zcd hr h0 (hw x0), zrv hr.rel h0.H hl (hw x0).len hx⟩ ?_
 rintro n a1 w1 ⟨x, g1, hI, hr1, hx1⟩
 cases n with
 | zero => cases hI
 | succ n =>
  refine wp_mono (round (z7f Φ n) x hI F g1 a1 w1 g0 w0 hl hr1 hx1) ?_
  rintro e a' w' ⟨y, s', g', h1, h2, h3, h4⟩
  cases y <;> cases e <;> first
   | exact h1.elim
   | exact ⟨_, s', g', h1, h2, h3, h4⟩
   | skip
  obtain ⟨hn', x', h5, h6⟩ := h4
  have h7 := zcd h2 h6 (hw x')
  rw [hn'] at h7
  exact ⟨n, by omega, x', _, h5, h7, zrv h2.rel h6.H hl (hw x').len h3⟩
theorem z3p {c : Code} {t e sz : Nat} {tk : Option Nat} {xs : List PV} (hx : get s.env t = some (.sl tk e sz xs)) (h : xs.length ≤ 9223372036854775807 → BW P H0 c s K) : BW P H0 c s K := fun F g a w g0 w0 hl hr hx' => by
 obtain ⟨u, _, h2⟩ := hr.env t _ hx
 obtain ⟨A, cp, _, h3, _⟩ := vr_sl.1 h2
 exact h h3.1.2 F g a w g0 w0 hl hr hx'
theorem zav {c : Code} (i t : Nat) {ty : TypeId} {cs : List PV} {x y : PV} (hi : s.H[i]? = some (.box ty cs)) (hx : get s.env t = some x) (hw : Wk (thaw i ty cs x) y)
 (h : BW P H0 c ⟨(t, y) :: s.env, s.H.set i .dead, s.n⟩ K) : BW P H0 c s K := by
 intro F g a w g0 w0 hl hr hx'
 have hd := hr.dead i
 obtain ⟨u, h1, h2⟩ := hr.env t x hx
 have hr' : Rel P F ⟨(t, y) :: s.env, s.H.set i .dead, s.n⟩ a w g := by
  refine ⟨hd.rel, fun k z hz => ?_, hr.size, hr.defers⟩
  simp only [get] at hz
  cases hb : Nat.beq t k with
  | true =>
   rw [hb] at hz; simp at hz; subst hz
   have := beq_iff'.1 hb; subst this
   exact ⟨u, h1, hw _ _ (zof hr.rel hi h2)⟩
  | false => rw [hb] at hz; exact hd.env k z hz
 exact h F g a w g0 w0 hl hr' (hx'.trans (z9r hr.rel i))
end
theorem Op1.wk {o : Oper} {env : List (Nat × PV)} {n : Nat} {x y : PV} (h : Op1 P o env H n x H') (hw : Wk x y) : Op1 P o env H n y H' := fun F g a w hr Kn Q hK =>
 h F g a w hr Kn Q (fun v w' g' hv h1 h2 => hK v w' g' (hw _ _ hv) h1 h2)
end Go.Proofs.Ythidgpcbnieleaa.Aw
