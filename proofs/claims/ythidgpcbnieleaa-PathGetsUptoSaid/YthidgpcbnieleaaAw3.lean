/- Aw: a function's code over trees: what it means that code, run from a state of trees, ends as said; the rules of code, and of calls. -/
import Derived.Test.YthidgpcbnieleaaAw2
namespace Go.Proofs.Ythidgpcbnieleaa.Aw
open Go
set_option linter.unusedVariables false
set_option linter.unusedSimpArgs false
structure Fr where
 fr : Lo
 ds : List Deferred
instance : Coe Fr Lo := ⟨Fr.fr⟩
variable {P : Program} {F : Fr} {H H' : List AEnt} {g g' : List (Option Nat)} {w w' : World}

theorem beq_iff' {a b : Nat} : Nat.beq a b = true ↔ a = b := ⟨Nat.eq_of_beq_eq_true, fun h => by subst h; exact Nat.beq_refl a⟩
def get : List (Nat × PV) → Nat → Option PV
 | [], _ => none
 | (k, x) :: r, t => bif Nat.beq k t then some x else get r t
structure ASt where
 env : List (Nat × PV)
 H : List AEnt
 n : Nat
inductive AExit where
 | normal
 | exit (id : Nat)
 | goto (l : Nat)
 | ret
 | panic (p : PV)
structure Rel (P : Program) (F : Fr) (s : ASt) (a : Act) (w : World) (g : List (Option Nat)) : Prop where
 rel : RelH P F s.H g w
 env : ∀ (t : Nat) (x : PV), get s.env t = some x → ∃ u, a.tmps[t]? = some u ∧ VR (ctx P F s.H g w) x u
 size : a.tmps.size = s.n
 defers : a.defers = F.ds
def ExR (C : Ctx) : AExit → Exit → Prop
 | .normal, .normal => True
 | .exit i, .exit j => i = j
 | .goto i, .goto j => i = j
 | .ret, .ret => True
 | .panic p, .panic ch => ∃ v, ch = [{ v := v, recovered := false }] ∧ VR C p v
 | _, _ => False
def Post (P : Program) (F : Fr) (H : List AEnt) (g : List (Option Nat)) (w : World) (K : AExit → ASt → Prop) : Exit → Act → World → Prop := fun e a' w' =>
 ∃ x s' g', ExR (ctx P F s'.H g' w') x e ∧ Rel P F s' a' w' g' ∧ Ext P F H g w s'.H g' w' ∧ K x s'
def AW (P : Program) (c : Code) (s : ASt) (K : AExit → ASt → Prop) : Prop := ∀ F g a w, Rel P F s a w g → c.wp P (Post P F s.H g w K) a w
def AO (P : Program) (ops : Array Oper) (l : List Oper) (s : ASt) (K : AExit → ASt → Prop) : Prop := ∀ F g a w, Rel P F s a w g → wpList P ops (Post P F s.H g w K) l a w

theorem Post.mono {K K' : AExit → ASt → Prop} (hk : ∀ x s, K x s → K' x s) {e : Exit} {a : Act} (h : Post P F H g w K e a w') : Post P F H g w K' e a w' := by
 obtain ⟨x, s', g', h1, h2, h3, h4⟩ := h
 exact ⟨x, s', g', h1, h2, h3, hk _ _ h4⟩
theorem Post.from {K : AExit → ASt → Prop} {H0 : List AEnt} {g0 : List (Option Nat)} {w0 : World} (hx : Ext P F H0 g0 w0 H g w) {e : Exit} {a : Act} (h : Post P F H g w K e a w') : Post P F H0 g0 w0 K e a w' := by
 obtain ⟨x, s', g', h1, h2, h3, h4⟩ := h
 exact ⟨x, s', g', h1, h2, hx.trans h3, h4⟩
theorem Oper.wp_mono2 {o : Oper} {a : Act} {K K' : Act → World → Prop} {Q Q' : Exit → Act → World → Prop} (h : ∀ a w, K a w → K' a w) (hq : ∀ e a w, Q e a w → Q' e a w) (hh : o.wp P a w K Q) : o.wp P a w K' Q' := by
  unfold Oper.wp at *
  generalize (execOp a.eval o).run P w = r at *
  cases r with
  | ok n w' =>
    cases n <;> simp only [Oper.upon] at hh ⊢ <;> first
      | exact h _ _ hh
      | (refine Calls.mono hh (fun e w'' he => ?_)
         cases e with
         | returned v => exact h _ _ he
         | panicked c => exact hq _ _ _ he
         | outgrown => obtain ⟨a', w', hl⟩ := he; exact ⟨a', w', hq _ _ _ hl⟩)
      | exact Rows.mono hh (fun _ _ he => h _ _ he)
  | halt x w' => cases x <;> simp only [Oper.upon] at hh ⊢ <;> first | exact hq _ _ _ hh | exact hh
theorem z32 {ops : Array Oper} {Q Q' : Exit → Act → World → Prop} (hq : ∀ e a w, Q e a w → Q' e a w) : ∀ (l : List Oper) (a : Act) (w : World), wpList P ops Q l a w → wpList P ops Q' l a w
 | [], a, w, h => hq _ _ _ h
 | o :: r, a, w, h => by
  unfold wpList at *
  split
  ·rename_i hw
   rw [if_pos hw] at h
   rcases h with h | ⟨h1, a', w', h2⟩
   ·exact .inl (Oper.wp_mono2 (fun a w h => z32 hq r a w h) hq h)
   ·exact .inr ⟨h1, a', w', hq _ _ _ h2⟩
  ·rename_i hw
   rw [if_neg hw] at h
   exact z32 hq r _ _ h

theorem AW.mono {c : Code} {s : ASt} {K K' : AExit → ASt → Prop} (h : AW P c s K) (hk : ∀ x s, K x s → K' x s) : AW P c s K' :=
 fun F g a w hr => wp_mono (h F g a w hr) (fun _ _ _ hp => hp.mono hk)
theorem AO.mono {ops : Array Oper} {l : List Oper} {s : ASt} {K K' : AExit → ASt → Prop} (h : AO P ops l s K) (hk : ∀ x s, K x s → K' x s) : AO P ops l s K' :=
 fun F g a w hr => z32 (fun _ _ _ hp => hp.mono hk) l a w (h F g a w hr)

section
variable {s : ASt} {K : AExit → ASt → Prop}
theorem z9e {F : Fr} {g : List (Option Nat)} {a : Act} {w : World} (hr : Rel P F s a w g) {x : AExit} {e : Exit} (hx : ExR (ctx P F s.H g w) x e) (h : K x s) : Post P F s.H g w K e a w := ⟨x, s, g, hx, hr, .refl, h⟩
theorem zz3 (h : K .normal s) : AW P .skip s K := fun _ _ _ _ hr => wp_skip (z9e hr (x := .normal) trivial h)
theorem zz4 {i : Nat} (h : K (.exit i) s) : AW P (.exit i) s K := fun _ _ _ _ hr => wp_exit (z9e hr (x := .exit i) rfl h)
theorem Z2h (h : K .ret s) : AW P .ret s K := fun _ _ _ _ hr => wp_ret (z9e hr (x := .ret) trivial h)
def zwi (id : Nat) (K : AExit → ASt → Prop) : AExit → ASt → Prop
 | .exit i, s => bif Nat.beq i id then K .normal s else K (.exit i) s
 | x, s => K x s
theorem zbz {c : Code} {Q : Exit → Act → World → Prop} (I : Nat → Act → World → Prop) {n : Nat} {a : Act} {w : World} (h₀ : I n a w)
 (round : ∀ n a w, I n a w → c.wp P (Exit.then (fun a' w' => ∃ m, m < n ∧ I m a' w') Q) a w) : (Code.loop c).wp P Q a w := by
 intro b k cs
 have key : ∀ n a w, I n a w →
  ∃ e a' w', Q e a' w' ∧ Arrives P (lone (b.at a (.code c :: .inLoop c :: k)) cs w) b k cs e a' w' := by
  intro n
  induction n using Nat.strongRecOn with
  | _ n ih =>
   intro a w hI
   obtain ⟨e, a₁, w₁, hq, harr⟩ := round n a w hI b (.inLoop c :: k) cs
   cases e with
   | normal =>
    obtain ⟨m, hlt, hI₁⟩ := hq
    obtain ⟨e₂, a₂, w₂, hq₂, harr₂⟩ := ih m hlt a₁ w₁ hI₁
    exact ⟨e₂, a₂, w₂, hq₂, .of_steps (Steps.trans harr (.one step_inLoop)) harr₂⟩
   | exit id => exact ⟨_, a₁, w₁, hq, .pass (x := .inLoop c) rfl (fun _ _ => .inl (by simp)) harr⟩
   | goto l => exact ⟨_, a₁, w₁, hq, .pass (x := .inLoop c) rfl (fun _ _ => .inl (by simp)) harr⟩
   | ret => exact ⟨_, a₁, w₁, hq, .pass (x := .inLoop c) rfl (fun _ _ => .inl (by simp)) harr⟩
   | panic ch => exact ⟨_, a₁, w₁, hq, .pass (x := .inLoop c) rfl (fun _ _ => .inl (by simp)) harr⟩
   | outgrown => exact ⟨_, a₁, w₁, hq, .pass (x := .inLoop c) rfl (fun _ _ => .inl (by simp)) harr⟩
 obtain ⟨e, a', w', hq, harr⟩ := key n a w h₀
 exact ⟨e, a', w', hq, .of_steps (.one step_loop) harr⟩
theorem Rel.slot {F : Fr} {g : List (Option Nat)} {a : Act} {w : World} (hr : Rel P F s a w g) {t : Nat} {x : PV} (h : get s.env t = some x) : VR (ctx P F s.H g w) x (a.eval (.tmp t)) := by
 obtain ⟨u, h1, h2⟩ := hr.env t x h
 have : a.eval (.tmp t) = u := by simp [Act.eval, h1]
 rw [this]; exact h2
def ev (env : List (Nat × PV)) : Operand → Option PV
 | .tmp t => get env t
 | .const v => some (.v v)
 | .func f => some (.fn (.func f) [] [])
 | .global _ => none
theorem Rel.opd {F : Fr} {g : List (Option Nat)} {a : Act} {w : World} (hr : Rel P F s a w g) {o : Operand} {x : PV} (h : ev s.env o = some x) : VR (ctx P F s.H g w) x (a.eval o) := by
 cases o with
 | tmp t => exact hr.slot h
 | const v => simp only [Aw.ev] at h; injection h with h; subst h; exact vr_v.2 rfl
 | func f => simp only [Aw.ev] at h; injection h with h; subst h; exact vr_fn.2 ⟨[], [], rfl, rfl, rfl, by simp, by simp⟩
 | global _ => cases h
theorem Rel.const {F : Fr} {g : List (Option Nat)} {a : Act} {w : World} (hr : Rel P F s a w g) {o : Operand} {v : Value} (h : ev s.env o = some (.v v)) : a.eval o = v := vr_v.1 (hr.opd h)

theorem zsp {id : Nat} {l : List Oper} (h : AO P l.toArray l s K) : AW P (.region id l.toArray false) s K := fun F g a w hr => wp_region_lit (h F g a w hr)
theorem zo7 {id : Nat} {ops : Array Oper} (h : AO P ops ops.toList s K) : AW P (.region id ops false) s K := fun F g a w hr => wp_region_list (h F g a w hr)
theorem z08 {ops : Array Oper} (h : K .normal s) : AO P ops [] s K := fun _ _ _ _ hr => wpList_nil (z9e hr (x := .normal) trivial h)

theorem Rel.sub {F : Fr} {g : List (Option Nat)} {a : Act} {w : World} {s' : ASt} (hr : Rel P F s a w g) (hH : s'.H = s.H) (hn : s'.n = s.n)
 (h : ∀ (t : Nat) (x : PV), get s'.env t = some x → ∃ y, get s.env t = some y ∧ ∀ C u, VR C y u → VR C x u) : Rel P F s' a w g := by
 refine ⟨by rw [hH]; exact hr.rel, fun t x hx => ?_, by rw [hn]; exact hr.size, hr.defers⟩
 obtain ⟨y, h1, h2⟩ := h t x hx
 obtain ⟨u, h3, h4⟩ := hr.env t y h1
 exact ⟨u, h3, by rw [hH]; exact h2 _ _ h4⟩
def Sub (e' e : List (Nat × PV)) : Prop := ∀ (t : Nat) (x : PV), get e' t = some x → ∃ y, get e t = some y ∧ ∀ C u, VR C y u → VR C x u
theorem z2a {e : List (Nat × PV)} : Sub [] e := fun t x h => by cases h
theorem zc4 {e e' : List (Nat × PV)} {k : Nat} {x y : PV} (h : get e k = some y) (hw : ∀ C u, VR C y u → VR C x u) (hs : Sub e' e) : Sub ((k, x) :: e') e := by
 intro t z hz
 simp only [get] at hz
 cases hb : Nat.beq k t with
 | true =>
  rw [hb] at hz; simp at hz; subst hz
  rw [← beq_iff'.1 hb]; exact ⟨y, h, hw⟩
 | false => rw [hb] at hz; exact hs t z hz
theorem zwj {ops : Array Oper} {l : List Oper} {e' : List (Nat × PV)} (hs : Sub e' s.env) (h : AO P ops l ⟨e', s.H, s.n⟩ K) : AO P ops l s K := fun F g a w hr => h F g a w (hr.sub (s' := ⟨e', s.H, s.n⟩) rfl rfl hs)
end

def Op1 (P : Program) (o : Oper) (env : List (Nat × PV)) (H : List AEnt) (n : Nat) (x : PV) (H' : List AEnt) : Prop :=
 ∀ F g a w, Rel P F ⟨env, H, n⟩ a w g → ∀ (Kn : Act → World → Prop) (Q : Exit → Act → World → Prop),
  (∀ v w' g', VR (ctx P F H' g' w') x v → RelH P F H' g' w' → Ext P F H g w H' g' w' → Kn (a.put o.dst v) w') → o.wp P a w Kn Q
def zpv (d : Option Tmp) (x : PV) (env : List (Nat × PV)) : List (Nat × PV) :=
 match d with
 | some d => (d, x) :: env
 | none => env
def z6q (d : Option Tmp) (n : Nat) : Bool :=
 match d with
 | some d => Nat.blt d n
 | none => true
theorem Rel.put {F : Fr} {g g' : List (Option Nat)} {a : Act} {w w' : World} {s : ASt} (hr : Rel P F s a w g) {d : Option Tmp} (hd : z6q d s.n = true) {x : PV} {v : Value} {H' : List AEnt}
 (hv : VR (ctx P F H' g' w') x v) (hr' : RelH P F H' g' w') (hx : Ext P F s.H g w H' g' w') : Rel P F ⟨zpv d x s.env, H', s.n⟩ (a.put d v) w' g' := by
 have hold : ∀ (t : Nat) (y : PV), get s.env t = some y → ∃ u, a.tmps[t]? = some u ∧ VR (ctx P F H' g' w') y u := by
  intro t y hy
  obtain ⟨u, h1, h2⟩ := hr.env t y hy
  exact ⟨u, h1, h2.mono hx.le⟩
 cases d with
 | none => exact ⟨hr', hold, hr.size, hr.defers⟩
 | some d =>
  have hlt : d < a.tmps.size := by rw [hr.size]; simpa [z6q, Nat.blt_eq] using hd
  refine ⟨hr', fun t y hy => ?_, by simp [Act.put, hr.size], hr.defers⟩
  simp only [zpv, get] at hy
  cases hb : Nat.beq d t with
  | true =>
   rw [hb] at hy; simp at hy; subst hy
   have := beq_iff'.1 hb; subst this
   exact ⟨v, by simp [Act.put, hlt], hv⟩
  | false =>
   rw [hb] at hy
   have hne : d ≠ t := fun e => by subst e; simp at hb
   obtain ⟨u, h1, h2⟩ := hold t y hy
   exact ⟨u, by simpa [Act.put, Array.getElem?_setIfInBounds_ne hne] using h1, h2⟩
section
variable {s : ASt} {K : AExit → ASt → Prop} {ops : Array Oper} {o : Oper} {rest : List Oper}
theorem zml {x : PV} {H' : List AEnt} (hg : o.guard = none) (hd : z6q o.dst s.n = true) (h1 : Op1 P o s.env s.H s.n x H') (h : AO P ops rest ⟨zpv o.dst x s.env, H', s.n⟩ K) : AO P ops (o :: rest) s K := by
 intro F g a w hr
 refine wpList_plain hg (fun K' hK' => ?_)
 refine h1 F g a w hr K' _ (fun v w' g' hv hr' hx => hK' _ _ ?_)
 exact z32 (fun _ _ _ hp => hp.from hx) rest _ _ (h F g' _ w' (hr.put hd hv hr' hx))
def noW : Value → Bool → Bool
 | .bool b, want => !(b == want)
 | _, _ => true
theorem zev {o : Oper} {ops : Array Oper} {tmps : Array Value} {j : Nat} {want : Bool} {t : Tmp} {v : Value} (hg : o.guard = some (j, want)) (ht : (ops[j]?).bind (·.dst) = some t) (h1 : tmps[t]? = some v) (hw : noW v want = true) : Region.wanted o (yielded ops tmps) = false := by
 have h2 : ((ops[j]?).bind (·.dst)).bind (tmps[·]?) = some v := by rw [ht]; exact h1
 simp only [Region.wanted, hg, yielded, h2]
 cases v <;> first | rfl | (simp only [noW] at hw; simpa using hw)
theorem Z2j {j : Nat} {want : Bool} {v : Value} {t : Tmp} (hg : o.guard = some (j, want)) (ht : (ops[j]?).bind (·.dst) = some t) (hb : get s.env t = some (.v v)) (hn : noW v want = true)
 (hd : z6q o.dst s.n = true) (h : AO P ops rest ⟨zpv o.dst (.v undef) s.env, s.H, s.n⟩ K) : AO P ops (o :: rest) s K := by
 intro F g a w hr
 have hy : Region.wanted o (yielded ops a.tmps) = false := by
  obtain ⟨u, h1, h2⟩ := hr.env t _ hb
  have := vr_v.1 h2; subst this
  exact zev hg ht h1 hn
 unfold wpList
 rw [if_neg (by rw [hy]; decide)]
 exact h F g _ w (hr.put hd (vr_v.2 rfl) hr.rel .refl)
theorem zz5 {x : PV} {H' : List AEnt} {j : Nat} {want b : Bool} {t : Tmp} (hg : o.guard = some (j, want)) (ht : (ops[j]?).bind (·.dst) = some t) (hb : get s.env t = some (.v (.bool b))) (hn : (b == want) = true)
 (hd : z6q o.dst s.n = true) (h1 : Op1 P o s.env s.H s.n x H') (h : AO P ops rest ⟨zpv o.dst x s.env, H', s.n⟩ K) : AO P ops (o :: rest) s K := by
 intro F g a w hr
 have hy : yielded ops a.tmps j = some b := by
  obtain ⟨u, h1, h2⟩ := hr.env t _ hb
  have := vr_v.1 h2; subst this
  simp [yielded, ht, h1]
 unfold wpList
 rw [if_pos (by simp only [Region.wanted, hg, hy]; simpa using hn)]
 refine .inl (h1 F g a w hr _ _ (fun v w' g' hv hr' hx => ?_))
 exact z32 (fun _ _ _ hp => hp.from hx) rest _ _ (h F g' _ w' (hr.put hd hv hr' hx))
variable {env : List (Nat × PV)} {H : List AEnt} {n : Nat}
theorem zz6 {x : PV} {H' : List AEnt} {d : Nat} (hg : o.guard = none) (hd : o.dst = some d) (hn : Nat.blt d n = true) (h1 : Op1 P o env H n x H') (h : AO P ops rest ⟨(d, x) :: env, H', n⟩ K) : AO P ops (o :: rest) ⟨env, H, n⟩ K :=
 zml (s := ⟨env, H, n⟩) hg (by rw [hd]; exact hn) h1 (by rw [hd]; exact h)
theorem z0l {x : PV} {H' : List AEnt} (hg : o.guard = none) (hd : o.dst = none) (h1 : Op1 P o env H n x H') (h : AO P ops rest ⟨env, H', n⟩ K) : AO P ops (o :: rest) ⟨env, H, n⟩ K :=
 zml (s := ⟨env, H, n⟩) hg (by rw [hd]; rfl) h1 (by rw [hd]; exact h)
theorem Z5d {j : Nat} {want : Bool} {v : Value} {t d : Tmp} (hg : o.guard = some (j, want)) (ht : (ops[j]?).bind (·.dst) = some t) (hb : get env t = some (.v v)) (hw : noW v want = true)
 (hd : o.dst = some d) (hn : Nat.blt d n = true) (h : AO P ops rest ⟨(d, .v undef) :: env, H, n⟩ K) : AO P ops (o :: rest) ⟨env, H, n⟩ K :=
 Z2j (s := ⟨env, H, n⟩) hg ht hb hw (by rw [hd]; exact hn) (by rw [hd]; exact h)
theorem z1t {x : PV} {H' : List AEnt} {j : Nat} {want b : Bool} {t d : Tmp} (hg : o.guard = some (j, want)) (ht : (ops[j]?).bind (·.dst) = some t) (hb : get env t = some (.v (.bool b))) (hw : (b == want) = true)
 (hd : o.dst = some d) (hn : Nat.blt d n = true) (h1 : Op1 P o env H n x H') (h : AO P ops rest ⟨(d, x) :: env, H', n⟩ K) : AO P ops (o :: rest) ⟨env, H, n⟩ K :=
 zz5 (s := ⟨env, H, n⟩) hg ht hb hw (by rw [hd]; exact hn) h1 (by rw [hd]; exact h)
def zzu (t : Nat) (x : PV) : List (Nat × PV) → List (Nat × PV)
 | [] => []
 | (k, y) :: r => bif Nat.beq k t then (k, x) :: r else (k, y) :: zzu t x r
theorem zc6 {t : Nat} {x : PV} : ∀ {env : List (Nat × PV)}, get env t = some x → zzu t x env = env
 | [], h => by cases h
 | (k, y) :: r, h => by
  simp only [get, zzu] at h ⊢
  cases hb : Nat.beq k t with
  | true => rw [hb] at h; simp at h; subst h; rfl
  | false => rw [hb] at h; simp only [cond_false]; rw [zc6 h]
theorem z0n {t : Nat} {b : Bool} (hb : get env t = some (.v (.bool b))) (ht : b = true → AO P ops rest ⟨(t, .v (.bool true)) :: env, H, n⟩ K) (hf : b = false → AO P ops rest ⟨(t, .v (.bool false)) :: env, H, n⟩ K) : AO P ops rest ⟨env, H, n⟩ K := by
 cases b with
 | true => exact zwj (s := ⟨env, H, n⟩) (zc4 hb (fun _ _ h => h) (fun t x h => ⟨x, h, fun _ _ h => h⟩)) (ht rfl)
 | false => exact zwj (s := ⟨env, H, n⟩) (zc4 hb (fun _ _ h => h) (fun t x h => ⟨x, h, fun _ _ h => h⟩)) (hf rfl)
theorem Rel.dead {F : Fr} {g : List (Option Nat)} {a : Act} {w : World} (hr : Rel P F s a w g) (i : Nat) : Rel P F ⟨s.env, s.H.set i .dead, s.n⟩ a w g :=
 ⟨zfr hr.rel i, fun t x hx => let ⟨u, h1, h2⟩ := hr.env t x hx; ⟨u, h1, h2.mono (z3z hr.rel i)⟩, hr.size, hr.defers⟩
end

inductive ARes where
 | ret (x : PV)
 | pan (x : PV)
def Z6e (C : Ctx) : ARes → Ending → Prop
 | .ret x, .returned v => VR C x v
 | .pan x, .panicked ch => ∃ v, ch = [{ v := v, recovered := false }] ∧ VR C x v
 | _, _ => False
def VRs (C : Ctx) (xs : List PV) (us : Array Value) : Prop := us.size = xs.length ∧ ∀ (i : Nat) (x : PV), xs[i]? = some x → ∃ u, us[i]? = some u ∧ VR C x u
def ACalls (P : Program) (f : FuncId) (args : List PV) (Hp : List AEnt) (R : ARes → List AEnt → Prop) : Prop :=
 ∀ F g vargs w, RelH P F Hp g w → VRs (ctx P F Hp g w) args vargs → Calls P f vargs w fun e w' =>
  ∃ r H' g', Z6e (ctx P F H' g' w') r e ∧ RelH P F H' g' w' ∧ Ext P F Hp g w H' g' w' ∧ R r H'
theorem ACalls.mono {f : FuncId} {args : List PV} {Hp : List AEnt} {R R' : ARes → List AEnt → Prop} (h : ACalls P f args Hp R) (hr : ∀ r H', R r H' → R' r H') : ACalls P f args Hp R' :=
 fun F g vargs w h1 h2 => Calls.mono (h F g vargs w h1 h2) fun e w' ⟨r, H', g', a, b, c, d⟩ => ⟨r, H', g', a, b, c, hr _ _ d⟩
def Wk (x y : PV) : Prop := ∀ C u, VR C x u → VR C y u
theorem Wk.refl (x : PV) : Wk x x := fun _ _ h => h
theorem Wk.tok {o : Option Nat} {e : TypeId} {sz : Nat} {xs : List PV} : Wk (.sl o e sz xs) (.sl none e sz xs) := by
 intro C u h
 obtain ⟨A, c, h1, h2, _, h4⟩ := vr_sl.1 h
 exact vr_sl.2 ⟨A, c, h1, h2, by simp, h4⟩
theorem Wk.nil {e : TypeId} {sz : Nat} : Wk (.v (.slice none 0 0)) (.sl none e sz []) := by
 intro C u h
 rw [vr_v.1 h]
 exact vr_sl.2 ⟨none, 0, rfl, ⟨⟨Nat.le_refl _, by simp⟩, by rw [Nat.zero_mul]; exact C.b0 _ _⟩, by simp, by simp⟩
inductive WkL : List PV → List PV → Prop
 | nil : WkL [] []
 | cons {x y : PV} {xs ys : List PV} : Wk x y → WkL xs ys → WkL (x :: xs) (y :: ys)
theorem WkL.refl : ∀ xs, WkL xs xs
 | [] => .nil
 | x :: r => .cons (.refl x) (WkL.refl r)
theorem WkL.len : ∀ {xs ys : List PV}, WkL xs ys → xs.length = ys.length
 | _, _, .nil => rfl
 | _, _, .cons _ h => by simp [h.len]
theorem WkL.get : ∀ {xs ys : List PV}, WkL xs ys → ∀ (i : Nat) (y : PV), ys[i]? = some y → ∃ x, xs[i]? = some x ∧ Wk x y
 | _, _, .nil, i, y, h => by simp at h
 | _, _, .cons (x := x) hw h, 0, y, hy => by simp at hy; subst hy; exact ⟨x, by simp, hw⟩
 | _, _, .cons hw h, i + 1, y, hy => by simpa using h.get i y (by simpa using hy)

def evs (env : List (Nat × PV)) : List Operand → Option (List PV)
 | [] => some []
 | o :: r => match ev env o, evs env r with
  | some x, some xs => some (x :: xs)
  | _, _ => none
theorem zs2 {env : List (Nat × PV)} : ∀ {os : List Operand} {xs : List PV}, evs env os = some xs → xs.length = os.length ∧ ∀ (i : Nat) (x : PV), xs[i]? = some x → ∃ o, os[i]? = some o ∧ ev env o = some x
 | [], xs, h => by simp only [evs] at h; injection h with h; subst h; simp
 | o :: r, xs, h => by
  simp only [evs] at h
  split at h
  ·rename_i x xs' hx hxs
   injection h with h; subst h
   obtain ⟨h1, h2⟩ := zs2 hxs
   refine ⟨by simp [h1], fun i y hy => ?_⟩
   cases i with
   | zero => simp at hy; subst hy; exact ⟨o, by simp, hx⟩
   | succ i => simpa using h2 i y (by simpa using hy)
  ·cases h
theorem Rel.vrs {F : Fr} {g : List (Option Nat)} {a : Act} {w : World} {s : ASt} (hr : Rel P F s a w g) {os : List Operand} {xs : List PV} (h : evs s.env os = some xs) : VRs (ctx P F s.H g w) xs (os.toArray.map a.eval) := by
 obtain ⟨h1, h2⟩ := zs2 h
 refine ⟨by simp [h1], fun i x hx => ?_⟩
 obtain ⟨o, h3, h4⟩ := h2 i x hx
 exact ⟨a.eval o, by simp [h3], hr.opd h4⟩

def z0x (P : Program) (f : FuncId) : Prop := ∃ fn, P.funcs[f]? = some fn ∧ (fn.name == "runtime.NumGoroutine") = false ∧ fn.body.isNone = false
theorem z2j {f : FuncId} (h : z0x P f) (args : Array Value) : (callFunc f args).run P w = .ok (.enter f args) w := by
 obtain ⟨fn, h1, h2, h3⟩ := h
 have h2' : ¬ fn.name = "runtime.NumGoroutine" := by simpa using h2
 have h3' : ¬ fn.body = none := by intro h; rw [h] at h3; cases h3
 simp [callFunc, h1, h2', h3']

section
variable {s : ASt} {K : AExit → ASt → Prop} {ops : Array Oper} {o : Oper} {rest : List Oper}
theorem z5t : z2c H [] [] = H := by
 unfold z2c
 simp [List.mapIdx_eq_zipIdx_map]
theorem zq0 : z3f H [] = [] := rfl
end

def zgm : TypeDesc → Bool
 | .struct _ => true
 | .array _ _ => true
 | _ => false
def zxc (P : Program) (env : List (Nat × PV)) (H : List AEnt) : ResultVar → Option PV
 | .tmp t => get env t
 | .cell a t => match get env a with
  | some (.rf i 0) => match H[i]? with
   | some (.box ty cs) => match P.underlying t with
    | some d => bif zgm d then (bif Nat.beq cs.length (P.cellsOf t) then some (.agg cs) else none) else cs[0]?
    | none => none
   | _ => none
  | _ => none
def zaz (P : Program) (env : List (Nat × PV)) (H : List AEnt) : List ResultVar → Option (List PV)
 | [] => some []
 | r :: rs => match zxc P env H r, zaz P env H rs with
  | some x, some xs => some (x :: xs)
  | _, _ => none
def zgq : List PV → PV
 | [x] => x
 | xs => .tup xs

theorem z73 {t : TypeId} {a : Addr} {cs : List Value} {d : TypeDesc} (hd : P.underlying t = some d) (hs : zgm d = true) (hn : P.cellsOf t = cs.length)
 (hc : ∀ j v, cs[j]? = some v → w.cell? (a.add j) = some v) : (loadVar t a).run P w = .ok (.agg cs.toArray) w := by
 have hrun := run_loadCells_list (P := P) (w := w) a cs hc
 have hsz : (Go.sizeOf t).run P w = .ok cs.length w := by
  unfold Program.cellsOf at hn
  cases hi : P.info? t with
  | none => unfold Program.underlying at hd; rw [hi] at hd; cases hd
  | some i => rw [hi] at hn; simp at hn; simp [Go.sizeOf, typeInfo, hi, hn]
 have hag : (isAgg t).run P w = .ok true w := by
  simp only [isAgg, Go.underlying, Sem.run_bind, run_program, Result.andThen_ok, hd, Sem.run_pure]
  cases d <;> first | rfl | cases hs
 simp [loadVar, hag, hsz, hrun]
theorem z72 {t : TypeId} {a : Addr} {v : Value} {d : TypeDesc} (hd : P.underlying t = some d) (hs : zgm d = false) (hc : w.cell? a = some v) : (loadVar t a).run P w = .ok v w := by
 have hag : (isAgg t).run P w = .ok false w := by
  simp only [isAgg, Go.underlying, Sem.run_bind, run_program, Result.andThen_ok, hd, Sem.run_pure]
  cases d <;> first | rfl | cases hs
 simp [loadVar, hag, hc]

end Go.Proofs.Ythidgpcbnieleaa.Aw
