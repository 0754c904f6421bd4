/- Aw: code within a function that spoils a range. -/
import Derived.Test.YtpmbflnoohpbnaaAwK
namespace Go.Proofs.Ytpmbflnoohpbnaa
namespace Aw
open Go
set_option linter.unusedVariables false
set_option linter.unusedSimpArgs false
variable {P : Program} {H0 : List AEnt}
def SpoilsC (P : Program) (N : Nat) (c : Code) (D : List Nat) (t : Nat) (x : PV) : Prop :=
  ∀ (S : Nat → Prop) (w : World) (u : Value) (env : VE) (ds : List Deferred), VR (memC S w) x u → vget env t = some u → XW P N ds c env w fun e env' w' =>
    e = .normal ∧ (∀ s, D.contains s = false → vget env' s = vget env s) ∧ w'.os = w.os ∧ w'.tape = w.tape ∧ w'.output = w.output ∧ w.heap.size ≤ w'.heap.size ∧ (∀ b, b < w.heap.size → ¬ S b → w'.heap[b]? = w.heap[b]?) ∧ Keeps w w'
def freeE (D : List Nat) : List (Nat × PV) → Bool
  | [] => true
  | (k, _) :: r => !D.contains k && freeE D r
theorem freeE_get {D : List Nat} : ∀ {env : List (Nat × PV)}, freeE D env = true → ∀ {t : Nat} {x : PV}, get env t = some x → D.contains t = false
  | [], _, t, x, h => by cases h
  | (k, y) :: r, hf, t, x, h => by
    simp only [freeE, Bool.and_eq_true, Bool.not_eq_true'] at hf
    simp only [Aw.get] at h
    cases hb : Nat.beq k t with
    | true =>
      have := beq_iff'.1 hb
      subst this
      exact hf.1
    | false => rw [hb] at h; exact freeE_get hf.2 h
theorem vget_all : ∀ (l : List Value) (k t : Nat), vget ((l.zipIdx k).map fun p => (p.2, p.1)) t = if k ≤ t then l[t - k]? else none
  | [], k, t => by simp [vget]
  | x :: r, k, t => by
    simp only [List.zipIdx_cons, List.map_cons, vget]
    cases hb : Nat.beq k t with
    | true =>
      have := beq_iff'.1 hb
      subst this
      simp
    | false =>
      have hne : k ≠ t := fun e => by subst e; simp at hb
      rw [cond_false, vget_all r (k + 1) t]
      by_cases h : k ≤ t
      · rw [if_pos h, if_pos (by omega), show t - k = (t - (k + 1)) + 1 by omega]; simp
      · rw [if_neg h, if_neg (by omega)]
theorem bw_spoilC {c : Code} {s : ASt} {K : AExit → ASt → Prop} (k t : Nat) (D : List Nat) {x : PV} {env' : List (Nat × PV)} (hk : s.H[k]? = some .reg) (hx : get s.env t = some (.hid k x)) (hc : SpoilsC P s.n c D t x)
    (hs : Sub env' s.env) (hd : freeE D env' = true) (h : K .normal ⟨env', s.H.set k .dead, s.n⟩) : BW P H0 c s K := by
  intro F g a w g0 w0 hl hr hx0
  obtain ⟨u, hu, hv⟩ := hr.env t _ hx
  let S : Nat → Prop := fun b => ∃ c, g[k]? = some (some c) ∧ inReg c b
  have hvm : VR (memC S w) x u := by
    have hm : ∀ b o u, ((ctx P F s.H g w).inn k).M b o u → S b ∧ w.cell? ⟨b, o, none⟩ = some u := by
      rintro b o u ⟨ob, h5, h6⟩
      obtain ⟨c, h7, h8, h9⟩ := h5.2 hk
      exact ⟨⟨c, h7, h8⟩, at_cell h9 h6⟩
    refine VR.leans hm hm (fun A e s m hB => ?_) (fun _ _ h => h) (fun _ _ _ _ _ h => h) (fun _ _ _ h => h) (vr_hid.1 hv)
    rcases hB with h5 | ⟨b, o, c, z, q, h5, h6, h7⟩
    · exact .inl h5
    · obtain ⟨c', h8, h9, h10⟩ := h6.2 hk
      exact .inr ⟨b, o, c, z, q, h5, ⟨c', h8, h9⟩, h10, h7⟩
  have hget : ∀ (t : Nat), vget (a.tmps.toList.zipIdx.map fun p => (p.2, p.1)) t = a.tmps[t]? := fun t => by
    rw [vget_all]; simp
  have ha : AR s.n a.defers (a.tmps.toList.zipIdx.map fun p => (p.2, p.1)) a := ⟨fun t v hv => by rw [← hget]; exact hv, hr.size, rfl⟩
  refine wp_mono (hc S w u _ a.defers hvm (by rw [hget]; exact hu) a ha) ?_
  rintro e a' w' ⟨env2, h1, rfl, h2, h3, h4, h5, h6, h7, h8⟩
  have key : RelH P F (s.H.set k .dead) g w' ∧ Ext P F s.H g w (s.H.set k .dead) g w' := by
    by_cases hgk : ∃ c, g[k]? = some (some c)
    · obtain ⟨c, hgk⟩ := hgk
      have ho' : ∀ b, b < w.heap.size → ¬ inReg c b → w'.heap[b]? = w.heap[b]? := fun b hb hn => h7 b hb (by rintro ⟨c', h8, h9⟩; rw [hgk] at h8; injection h8 with h8; injection h8 with h8; subst h8; exact hn h9)
      exact ⟨rel_spoil hr.rel hk hgk h6 ho' h8, ext_spoil hr.rel hk hgk h6 ho' h8 h3 h4 h5⟩
    · have ho' : ∀ b, b < w.heap.size → w'.heap[b]? = w.heap[b]? := fun b hb => h7 b hb (fun ⟨c, h8, _⟩ => hgk ⟨c, h8⟩)
      have hr' := rel_grow hr.rel h6 ho'
      exact ⟨rel_dead hr' k, (ext_grow hr.rel h6 ho' h3 h4 h5).trans (ext_dead hr' k)⟩
  refine ⟨.normal, ⟨env', s.H.set k .dead, s.n⟩, g, trivial, ⟨key.1, fun t x hx' => ?_, h1.size, h1.ds.trans hr.defers⟩, hx0.trans key.2, h⟩
  obtain ⟨y, h9, h10⟩ := hs t x hx'
  obtain ⟨u', h11, h12⟩ := hr.env t y h9
  exact ⟨u', h1.env t u' (by rw [h2 t (freeE_get hd hx'), hget]; exact h11), h10 _ _ (h12.mono key.2.le)⟩
end Aw
end Go.Proofs.Ytpmbflnoohpbnaa
