/- Dicts of a type, by their fields. -/
import Derived.Test.YtiapdjdhaclmnaaC5
namespace Go.Proofs.Ytiapdjdhaclmnaa
open Go Aw
set_option linter.unusedVariables false
set_option linter.unusedSimpArgs false
set_option maxRecDepth 8000
theorem dict_bad (q : Bool) (a : Int) : ∀ (m : Nat) (W : List Tri) (d : List (Str × V)) (n : Int), W.length + d.length ≤ m → SrtW W → Srt (d.map (·.1)) →
    (dictG q a (W.map fun z => (z.1, z.2.1, isF z.2.2)) d n).1 = true →
    (∀ p, p ∈ d → match lookG W p.1 with | none => q = true | some (_, u) => isB u p.2 = true) ∧ ∀ z, z ∈ W → z.2.1 = false → z.1 ∈ d.map (·.1) := by
  intro m
  induction m with
  | zero =>
    intro W d n h _ _ _
    cases W with
    | cons z r => simp at h
    | nil =>
      cases d with
      | cons z r => simp at h
      | nil => exact ⟨fun p hp => (by cases hp), fun z hz => by cases hz⟩
  | succ m ih =>
    intro W d n h hW hd hg
    match W, d with
    | [], [] => exact ⟨fun p hp => (by cases hp), fun z hz => by cases hz⟩
    | (s, b, u) :: W, [] =>
      rw [List.map_cons, dictG] at hg
      cases b with
      | false => simp at hg
      | true =>
        rw [if_pos rfl] at hg
        have h1 := ih W [] n (by simp at h ⊢; omega) (List.pairwise_cons.1 hW).2 .nil hg
        refine ⟨fun p hp => (by cases hp), fun z hz hb => ?_⟩
        rcases List.mem_cons.1 hz with rfl | hz
        · cases hb
        · exact h1.2 z hz hb
    | [], (x, y) :: r =>
      rw [List.map_nil, dictG] at hg
      cases hq : q with
      | false => rw [hq] at hg; simp at hg
      | true =>
        rw [if_pos hq] at hg
        have h1 := ih [] r (n + cnt y) (by simp at h ⊢; omega) hW (List.pairwise_cons.1 hd).2 (by rw [List.map_nil]; exact hg)
        exact ⟨fun p hp => rfl, fun z hz => by cases hz⟩
    | (s, b, u) :: W, (x, y) :: r =>
      obtain ⟨w1, w2⟩ := List.pairwise_cons.1 hW
      rw [List.map_cons] at hd ⊢
      obtain ⟨l1, l2⟩ := List.pairwise_cons.1 hd
      simp only [List.length_cons] at h
      rw [List.map_cons, dictG] at hg
      rcases cmp3 s x with hc | rfl | hc
      · have hall : ∀ m', m' ∈ x :: r.map (·.1) → ltS s m' := fun m' hm' => by
          rcases List.mem_cons.1 hm' with rfl | hm'
          · exact hc
          · exact ltS_trans hc (l1 m' hm')
        rw [if_pos hc] at hg
        cases b with
        | false => simp at hg
        | true =>
          rw [if_pos rfl] at hg
          have h1 := ih W ((x, y) :: r) n (by simp; omega) w2 hd hg
          refine ⟨fun p hp => ?_, fun z hz hb => ?_⟩
          · rw [look_skip (hall p.1 (List.mem_map_of_mem (f := (·.1)) hp))]; exact h1.1 p hp
          · rcases List.mem_cons.1 hz with rfl | hz
            · cases hb
            · exact h1.2 z hz hb
      · rw [if_neg (ltS_irr s), if_pos (by simp), isB_at] at hg
        cases hB : isB u y with
        | false => rw [hB] at hg; simp at hg
        | true =>
          rw [if_pos hB] at hg
          have h1 := ih W r _ (by omega) w2 l2 hg
          refine ⟨fun p hp => ?_, fun z hz hb => ?_⟩
          · rcases List.mem_cons.1 hp with rfl | hp
            · have h4 : lookG ((s, b, u) :: W) s = some (b, u) := by simp [lookG]
              simp only [h4]; exact hB
            · rw [look_skip (l1 p.1 (List.mem_map_of_mem (f := (·.1)) hp))]; exact h1.1 p hp
          · rcases List.mem_cons.1 hz with rfl | hz
            · exact List.mem_cons_self
            · exact List.mem_cons_of_mem _ (h1.2 z hz hb)
      · have e1 : ¬ (Op.bytesLess s x = true) := fun h => ltS_irr _ (ltS_trans h hc)
        have e2 : ¬ ((s == x) = true) := fun h => by have := eq_of_beq h; subst this; exact ltS_irr _ hc
        rw [if_neg e1, if_neg e2] at hg
        cases hq : q with
        | false => rw [hq] at hg; simp at hg
        | true =>
          rw [if_pos hq] at hg
          have h1 := ih ((s, b, u) :: W) r (n + cnt y) (by simp; omega) hW l2 (by rw [List.map_cons]; exact hg)
          rw [hq] at h1
          have hn1 : lookG ((s, b, u) :: W) x = none := look_none (fun z hz => by
            rcases List.mem_cons.1 hz with rfl | hz
            · exact hc
            · exact ltS_trans hc (w1 z hz))
          refine ⟨fun p hp => ?_, fun z hz hb => List.mem_cons_of_mem _ (h1.2 z hz hb)⟩
          rcases List.mem_cons.1 hp with rfl | hp
          · simp only [hn1]
          · exact h1.1 p hp
theorem hits_pos {F : Type} (W : List (Str × Bool × F)) : ∀ l, 0 ≤ hits W l
  | [] => Int.le_refl _
  | m :: r => by
    have := hits_pos W r
    have h2 : 0 ≤ hit W m := by
      unfold hit
      split
      · unfold need1; split <;> omega
      · omega
    simp only [hits]; omega
theorem needs_le {F : Type} : ∀ (m : Nat) (W : List (Str × Bool × F)) (l : List Str), W.length + l.length ≤ m → SrtW W → Srt l → (∀ z, z ∈ W → z.2.1 = false → z.1 ∈ l) → needs W ≤ hits W l := by
  intro m
  induction m with
  | zero =>
    intro W l h _ _ _
    cases W with
    | cons z r => simp at h
    | nil => exact hits_pos _ _
  | succ m ih =>
    intro W l h hW hl hk
    match W, l with
    | [], l => exact hits_pos _ _
    | (s, b, f) :: W, [] =>
      have hb : b = true := by
        cases b with
        | true => rfl
        | false => have := hk (s, false, f) (by simp) rfl; cases this
      subst hb
      have := ih W [] (by simp at h ⊢; omega) (List.pairwise_cons.1 hW).2 .nil (fun z hz hb => hk z (by simp [hz]) hb)
      simpa [needs, need1, hits] using this
    | (s, b, f) :: W, x :: r =>
      obtain ⟨w1, w2⟩ := List.pairwise_cons.1 hW
      obtain ⟨l1, l2⟩ := List.pairwise_cons.1 hl
      simp only [List.length_cons] at h
      rcases cmp3 s x with hc | rfl | hc
      · have hall : ∀ m', m' ∈ x :: r → ltS s m' := fun m' hm' => by
          rcases List.mem_cons.1 hm' with rfl | hm'
          · exact hc
          · exact ltS_trans hc (l1 m' hm')
        have hb : b = true := by
          cases b with
          | true => rfl
          | false => exact absurd (hall s (hk (s, false, f) (by simp) rfl)) (ltS_irr s)
        subst hb
        have h1 := ih W (x :: r) (by simp; omega) w2 hl (fun z hz hb => hk z (by simp [hz]) hb)
        rw [hits_skip hall]
        simpa [needs, need1] using h1
      · have h1 := ih W r (by omega) w2 l2 (fun z hz hb => by
          rcases List.mem_cons.1 (hk z (by simp [hz]) hb) with h | h
          · have := w1 z hz
            simp only [h] at this
            exact absurd this (ltS_irr s)
          · exact h)
        have h2 : hits ((s, b, f) :: W) r = hits W r := hits_skip l1
        have h3 : hit ((s, b, f) :: W) s = need1 b := by simp [hit, lookG]
        simp only [hits, needs, h2, h3]; omega
      · have hlt : ∀ z, z ∈ (s, b, f) :: W → ltS x z.1 := fun z hz => by
          rcases List.mem_cons.1 hz with rfl | hz
          · exact hc
          · exact ltS_trans hc (w1 z hz)
        have h1 := ih ((s, b, f) :: W) r (by simp; omega) hW l2 (fun z hz hb => by
          rcases List.mem_cons.1 (hk z hz hb) with h | h
          · have := hlt z hz
            rw [h] at this
            exact absurd this (ltS_irr x)
          · exact h)
        have h3 : hit ((s, b, f) :: W) x = 0 := by unfold hit; rw [look_none hlt]
        rw [hits, h3]; omega
/-! ### types' rows -/
def tz (t : Typ) : List Tri := t.names.zip (t.lacks.zip t.parts)
theorem zip_f {F : Type} (f : Typ → F) (n : List Str) : ∀ (l : List Bool) (p : List Typ), n.zip (l.zip (p.map f)) = (n.zip (l.zip p)).map fun z => (z.1, z.2.1, f z.2.2) := by
  induction n with
  | nil => intro l p; rfl
  | cons s n ih =>
    intro l p
    cases l with
    | nil => rfl
    | cons b l =>
      cases p with
      | nil => rfl
      | cons u p => simp only [List.map_cons, List.zip_cons_cons, ih]
theorem look_map {F : Type} (f : Typ → F) : ∀ (W : List Tri) (m : Str), lookG (W.map fun z => (z.1, z.2.1, f z.2.2)) m = (lookG W m).map fun p => (p.1, f p.2)
  | [], m => rfl
  | (s, b, u) :: W, m => by
    rw [List.map_cons, lookG, lookG]
    split
    · rfl
    · exact look_map f W m
theorem needs_map {F : Type} (f : Typ → F) : ∀ (W : List Tri), needs (W.map fun z => (z.1, z.2.1, f z.2.2)) = needs W
  | [] => rfl
  | (s, b, u) :: W => by rw [List.map_cons, needs, needs, needs_map f W]
theorem hits_map {F : Type} (f : Typ → F) (W : List Tri) : ∀ l, hits (W.map fun z => (z.1, z.2.1, f z.2.2)) l = hits W l
  | [] => rfl
  | m :: r => by
    rw [hits, hits, hits_map f W r]
    congr 1
    unfold hit
    rw [look_map]
    cases lookG W m <;> rfl
theorem srt_zip : ∀ {n : List Str} (h : Srt n) (x : List (Bool × Typ)), SrtW (n.zip x)
  | [], _, x => .nil
  | s :: n, h, [] => .nil
  | s :: n, h, b :: x => by
    obtain ⟨h1, h2⟩ := List.pairwise_cons.1 h
    exact .cons (fun z hz => h1 _ (List.of_mem_zip (a := z.1) (b := z.2) hz).1) (srt_zip h2 x)
theorem look_mem : ∀ {W : List Tri} {m : Str} {b : Bool} {u : Typ}, lookG W m = some (b, u) → ∃ z, z ∈ W ∧ z.2.2 = u
  | (s, c, w) :: W, m, b, u, h => by
    rw [lookG] at h
    split at h
    · injection h with h; injection h with h1 h2; exact ⟨(s, c, w), by simp, h2⟩
    · obtain ⟨z, hz, he⟩ := look_mem h; exact ⟨z, by simp [hz], he⟩
theorem VT.risen {t : Typ} (h : VT t) (hk : t.kind = 6) : risen none t.names = true := by
  rcases h.cases with hl | ⟨_, hv, _⟩
  · simp [leafT, hk] at hl
  · simp [visT, hk] at hv; exact hv.2
theorem near_risen {d : List (Str × V)} (h : nearE (.dict d) = 0) : risen none (d.map (·.1)) = true := by
  simp only [nearE, fieldsE] at h
  split at h
  · cases h
  · split at h
    · assumption
    · cases h
/-! ### of the type -/
theorem any_mem {u : Typ} {v : V} (a : Int) (hB : isB u v = true) : ∀ {l : List Typ}, u ∈ l → anyG (l.map isF) v a = true
  | x :: r, h => by
    rw [List.map_cons, anyG, isB_at]
    rcases List.mem_cons.1 h with rfl | h
    · rw [hB]; rfl
    · rw [any_mem a hB h, Bool.or_true]
theorem list_all {p : Typ} : ∀ {l : List V} (n : Int), (∀ x, x ∈ l → isB p x = true) → (listG (isF p) l n).1 = true
  | [], n, _ => rfl
  | x :: r, n, h => by
    rw [listG, isB_at, if_pos (h x (by simp))]
    exact list_all _ (fun y hy => h y (by simp [hy]))
end Go.Proofs.Ytiapdjdhaclmnaa
