/- Values made narrow: what is left is of the type. -/
import Derived.Test.YtiapdjdhaclmnaaC2
namespace Go.Proofs.Ytiapdjdhaclmnaa
open Go Aw
set_option linter.unusedVariables false
set_option linter.unusedSimpArgs false
set_option maxRecDepth 8000
/-! ### texts in order -/
theorem cmpS_key (a b : Str) : cmpS a b = lexc (keyS a) (keyS b) := by
  have h := keyS_c a b [] []
  rw [List.append_nil, List.append_nil] at h
  rw [h]; exact (th_zero _).symm
abbrev ltS (a b : Str) : Prop := Op.bytesLess a b = true
theorem ltS_cmp {a b : Str} : ltS a b ↔ cmpS a b = -1 := by
  unfold cmpS ltS
  cases Op.bytesLess a b with
  | true => simp
  | false => cases a == b <;> simp
theorem ltS_trans {a b c : Str} (h : ltS a b) (k : ltS b c) : ltS a c := by
  rw [ltS_cmp, cmpS_key] at *
  have := lexc_trans (keyS a) (keyS b) (keyS c) (by omega) (by omega)
  have h2 := this.2 (.inl (by omega))
  have := lexc_rng (keyS a) (keyS c)
  omega
theorem ltS_neg {a b : Str} (h : cmpS a b = 1) : ltS b a := by
  rw [ltS_cmp, cmpS_key]
  rw [cmpS_key] at h
  have := lexc_neg (keyS a) (keyS b)
  omega
theorem ltS_irr (a : Str) : ¬ ltS a a := by
  rw [ltS_cmp]
  have h1 := lexc_neg (keyS a) (keyS a)
  rw [cmpS_key]; omega
theorem leB_not {a b : Str} (h : leB b a = false) : ltS a b := by
  simp only [leB, Bool.or_eq_false_iff] at h
  have : cmpS b a = 1 := by unfold cmpS; rw [if_neg (by simp [h.1]), if_neg (by simp [h.2])]
  exact ltS_neg this
abbrev Srt (l : List Str) : Prop := l.Pairwise ltS
theorem srt_of : ∀ {l : List Str} {p : Option Str}, risen p l = true → Srt l ∧ ∀ q, p = some q → ∀ s, s ∈ l → ltS q s
  | [], _, _ => ⟨.nil, fun _ _ s hs => by cases hs⟩
  | s :: r, p, h => by
    simp only [risen, Bool.and_eq_true] at h
    have ih := srt_of h.2
    refine ⟨.cons (fun x hx => ih.2 s rfl x hx) ih.1, fun q hq x hx => ?_⟩
    subst hq
    have h1 : ltS q s := leB_not (by simpa using h.1.2)
    rcases List.mem_cons.1 hx with rfl | hx
    · exact h1
    · exact ltS_trans h1 (ih.2 s rfl x hx)
/-- Rising again, when some are left out. -/
theorem risen_of : ∀ {l : List Str} {p : Option Str}, Srt l → (∀ s, s ∈ l → nameOk s = true) → (∀ q, p = some q → ∀ s, s ∈ l → ltS q s) → risen p l = true
  | [], p, _, _, _ => risen_nil p
  | s :: r, p, h, hn, hp => by
    obtain ⟨h1, h2⟩ := List.pairwise_cons.1 h
    have ih := risen_of (p := some s) h2 (fun x hx => hn x (by simp [hx])) (fun q hq x hx => by injection hq with hq; subst hq; exact h1 x hx)
    simp only [risen, hn s (by simp), ih, Bool.true_and, Bool.and_true]
    cases p with
    | none => rfl
    | some q =>
      have := hp q rfl s (by simp)
      have h3 : leB s q = false := by
        simp only [leB, Bool.or_eq_false_iff]
        refine ⟨?_, ?_⟩
        · cases hb : Op.bytesLess s q with
          | false => rfl
          | true => exact absurd (ltS_trans this hb) (ltS_irr q)
        · rw [beq_eq_false_iff_ne]; rintro rfl; exact ltS_irr _ this
      simp [h3]
theorem risen_name : ∀ {l : List Str} {p : Option Str}, risen p l = true → ∀ s, s ∈ l → nameOk s = true
  | x :: r, p, h, s, hs => by
    simp only [risen, Bool.and_eq_true] at h
    rcases List.mem_cons.1 hs with rfl | hs
    · exact h.1.1
    · exact risen_name h.2 s hs
/-! ### the place plays no part in whether -/
noncomputable def isB (t : Typ) (v : V) : Bool := (isF t v 0).1
def Same1 (f : Tst) : Prop := ∀ v a b, (f v a).1 = (f v b).1
theorem any_same {fs : List Tst} (h : ∀ f, f ∈ fs → Same1 f) (v : V) (a b : Int) : anyG fs v a = anyG fs v b := by
  induction fs with
  | nil => rfl
  | cons f r ih => simp only [anyG]; rw [h f (by simp) v a b, ih (fun g hg => h g (by simp [hg]))]
theorem list_same {f : Tst} (h : Same1 f) : ∀ (l : List V) (a b : Int), (listG f l a).1 = (listG f l b).1
  | [], a, b => rfl
  | x :: r, a, b => by
    simp only [listG, h x a b]
    split
    · exact list_same h r _ _
    · rfl
theorem dict_same (q : Bool) (a a' : Int) : ∀ (m : Nat) (Z : List (Str × Bool × Tst)) (d : List (Str × V)) (n n' : Int), Z.length + d.length ≤ m → (∀ z, z ∈ Z → Same1 z.2.2) → (dictG q a Z d n).1 = (dictG q a' Z d n').1 := by
  intro m
  induction m with
  | zero =>
    intro Z d n n' h hZ
    cases Z with
    | cons z r => simp at h
    | nil =>
      cases d with
      | cons z r => simp at h
      | nil => rw [dictG, dictG]
  | succ m ih =>
    intro Z d n n' h hZ
    match Z, d with
    | [], [] => rw [dictG, dictG]
    | (s, b, f) :: ts, [] =>
      rw [dictG, dictG]
      split
      · exact ih ts [] n n' (by simp at h ⊢; omega) (fun z hz => hZ z (by simp [hz]))
      · rfl
    | [], (x, y) :: r =>
      rw [dictG, dictG]
      split
      · exact ih [] r _ _ (by simp at h ⊢; omega) hZ
      · rfl
    | (s, b, f) :: ts, (x, y) :: r =>
      rw [dictG, dictG, hZ (s, b, f) (by simp) y n n']
      simp only [List.length_cons] at h
      split
      · split
        · exact ih ts ((x, y) :: r) n n' (by simp; omega) (fun z hz => hZ z (by simp [hz]))
        · rfl
      · split
        · split
          · exact ih ts r _ _ (by omega) (fun z hz => hZ z (by simp [hz]))
          · rfl
        · split
          · exact ih ((s, b, f) :: ts) r _ _ (by simp; omega) hZ
          · rfl
theorem mem_zip3 {α β γ : Type} {n : List α} {l : List β} {p : List γ} {z : α × β × γ} (h : z ∈ n.zip (l.zip p)) : z.2.2 ∈ p := by
  have := (List.of_mem_zip (a := z.1) (b := z.2) h).2
  exact (List.of_mem_zip (a := z.2.1) (b := z.2.2) this).2
theorem isF_same (t : Typ) : Same1 (isF t) := by
  induction t using Typ.byParts with
  | _ t ih =>
  intro v a b
  have hf : ∀ f, f ∈ t.parts.map isF → Same1 f := fun f hf => by obtain ⟨u, hu, rfl⟩ := List.mem_map.1 hf; exact ih u hu
  rw [isF_eq, isF_eq]
  unfold isG plc
  rw [any_same hf v a b]
  split
  · rfl
  split
  · split <;> rfl
  split
  · split <;> rfl
  split
  · split <;> rfl
  split
  · split <;> rfl
  split
  · cases v with
    | list l =>
      show (match t.parts.map isF with | f :: _ => listG f l (a + 1) | [] => (false, a)).1 = (match t.parts.map isF with | f :: _ => listG f l (b + 1) | [] => (false, b)).1
      cases hp : t.parts.map isF with
      | nil => rfl
      | cons f r => exact list_same (hf f (by rw [hp]; simp)) l _ _
    | _ => rfl
  split
  · cases v with
    | dict d => exact dict_same _ _ _ _ _ d _ _ (Nat.le_refl _) (fun z hz => hf _ (mem_zip3 hz))
    | _ => rfl
  · rfl
theorem isB_at (t : Typ) (v : V) (a : Int) : (isF t v a).1 = isB t v := isF_same t v a 0
/-! ### dicts that are of a type -/
abbrev Tri := Str × Bool × Typ
def lookG {F : Type} : List (Str × Bool × F) → Str → Option (Bool × F)
  | [], _ => none
  | (s, b, f) :: r, m => if m == s then some (b, f) else lookG r m
def need1 (b : Bool) : Int := if b then 0 else 1
def needs {F : Type} : List (Str × Bool × F) → Int
  | [] => 0
  | (_, b, _) :: r => need1 b + needs r
def hit {F : Type} (W : List (Str × Bool × F)) (m : Str) : Int := match lookG W m with | some (b, _) => need1 b | none => 0
def hits {F : Type} (W : List (Str × Bool × F)) : List Str → Int
  | [] => 0
  | m :: r => hit W m + hits W r
section
variable {F : Type}
theorem look_skip {s : Str} {b : Bool} {f : F} {W : List (Str × Bool × F)} {m : Str} (h : ltS s m) : lookG ((s, b, f) :: W) m = lookG W m := by
  have : (m == s) = false := by rw [beq_eq_false_iff_ne]; rintro rfl; exact ltS_irr _ h
  rw [lookG, if_neg (by simp [this])]
theorem look_none {W : List (Str × Bool × F)} {m : Str} (h : ∀ z, z ∈ W → ltS m z.1) : lookG W m = none := by
  induction W with
  | nil => rfl
  | cons z r ih =>
    obtain ⟨s, b, f⟩ := z
    have h1 : ltS m s := h (s, b, f) (by simp)
    have : (m == s) = false := by rw [beq_eq_false_iff_ne]; rintro rfl; exact ltS_irr _ h1
    rw [lookG, if_neg (by simp [this])]
    exact ih (fun z hz => h z (by simp [hz]))
theorem hits_skip {s : Str} {b : Bool} {f : F} {W : List (Str × Bool × F)} : ∀ {l : List Str}, (∀ m, m ∈ l → ltS s m) → hits ((s, b, f) :: W) l = hits W l
  | [], _ => rfl
  | m :: r, h => by simp only [hits, hit]; rw [look_skip (h m (by simp)), hits_skip (fun x hx => h x (by simp [hx]))]
abbrev SrtW (W : List (Str × Bool × F)) : Prop := W.Pairwise (fun x y => ltS x.1 y.1)
theorem needs_pos : ∀ (W : List (Str × Bool × F)), 0 ≤ needs W
  | [] => Int.le_refl _
  | (s, b, f) :: r => by have := needs_pos r; simp only [needs, need1]; split <;> omega
theorem cmp3 (s m : Str) : ltS s m ∨ s = m ∨ ltS m s := by
  by_cases h : ltS s m
  · exact .inl h
  · by_cases h2 : s = m
    · exact .inr (.inl h2)
    · refine .inr (.inr (ltS_neg ?_))
      unfold cmpS
      rw [if_neg h, if_neg (by simpa using h2)]
theorem hits_le : ∀ (m : Nat) (W : List (Str × Bool × F)) (l : List Str), W.length + l.length ≤ m → SrtW W → Srt l → hits W l ≤ needs W := by
  intro m
  induction m with
  | zero =>
    intro W l h _ _
    cases l with
    | nil => exact needs_pos W
    | cons x r => simp at h
  | succ m ih =>
    intro W l h hW hl
    match W, l with
    | W, [] => exact needs_pos W
    | [], x :: r =>
      have := ih [] r (by simp at h ⊢; omega) hW (List.pairwise_cons.1 hl).2
      simp only [hits, hit, lookG, needs] at this ⊢; omega
    | (s, b, f) :: W, x :: r =>
      obtain ⟨w1, w2⟩ := List.pairwise_cons.1 hW
      obtain ⟨l1, l2⟩ := List.pairwise_cons.1 hl
      simp only [List.length_cons] at h
      have hb : 0 ≤ need1 b := by unfold need1; split <;> omega
      rcases cmp3 s x with hc | rfl | hc
      · have h1 := ih W (x :: r) (by simp; omega) w2 hl
        have h2 : hits ((s, b, f) :: W) (x :: r) = hits W (x :: r) := hits_skip (fun y hy => by
          rcases List.mem_cons.1 hy with rfl | hy
          · exact hc
          · exact ltS_trans hc (l1 y hy))
        rw [h2]; simp only [needs]; omega
      · have h1 := ih W r (by omega) w2 l2
        have h2 : hits ((s, b, f) :: W) r = hits W r := hits_skip l1
        have h3 : hit ((s, b, f) :: W) s = need1 b := by simp [hit, lookG]
        simp only [hits, needs, h2, h3]; omega
      · have h1 := ih ((s, b, f) :: W) r (by simp; omega) hW l2
        have h3 : hit ((s, b, f) :: W) x = 0 := by
          unfold hit
          rw [look_none (fun z hz => by
            rcases List.mem_cons.1 hz with rfl | hz
            · exact hc
            · exact ltS_trans hc (w1 z hz))]
        rw [hits, h3]; omega
end
theorem dict_good (q : Bool) (a : Int) : ∀ (m : Nat) (W : List Tri) (d : List (Str × V)) (n : Int), W.length + d.length ≤ m → SrtW W → Srt (d.map (·.1)) →
    (∀ p, p ∈ d → match lookG W p.1 with | none => q = true | some (_, u) => isB u p.2 = true) → needs W ≤ hits W (d.map (·.1)) → (dictG q a (W.map fun z => (z.1, z.2.1, isF z.2.2)) d n).1 = true := by
  intro m
  induction m with
  | zero =>
    intro W d n h _ _ _ _
    cases W with
    | cons z r => simp at h
    | nil =>
      cases d with
      | cons z r => simp at h
      | nil => rw [List.map_nil, dictG]
  | succ m ih =>
    intro W d n h hW hd hk hn
    match W, d with
    | [], [] => rw [List.map_nil, dictG]
    | (s, b, u) :: W, [] =>
      simp only [List.map_nil, hits, needs] at hn
      have := needs_pos W
      have hb : b = true := by
        cases b with
        | true => rfl
        | false => simp only [need1, Bool.false_eq_true, if_false] at hn; omega
      rw [List.map_cons, dictG, if_pos hb]
      subst hb
      exact ih W [] n (by simp at h ⊢; omega) (List.pairwise_cons.1 hW).2 .nil (fun p hp => by cases hp) (by simpa [needs, need1, hits] using hn)
    | [], (x, y) :: r =>
      have hq : q = true := hk (x, y) (by simp)
      rw [List.map_nil, dictG, if_pos hq]
      have h2 := ih [] r (n + cnt y) (by simp at h ⊢; omega) hW (List.pairwise_cons.1 hd).2 (fun p hp => hk p (by simp [hp])) (by
        have : ∀ l : List Str, hits ([] : List Tri) l = 0 := fun l => by induction l with
          | nil => rfl
          | cons z r ih => simp only [hits, hit, lookG]; omega
        rw [this]; exact Int.le_refl _)
      rw [List.map_nil] at h2; exact h2
    | (s, b, u) :: W, (x, y) :: r =>
      obtain ⟨w1, w2⟩ := List.pairwise_cons.1 hW
      rw [List.map_cons] at hd hn
      obtain ⟨l1, l2⟩ := List.pairwise_cons.1 hd
      simp only [List.length_cons] at h
      rw [List.map_cons, dictG]
      rcases cmp3 s x with hc | rfl | hc
      · have hall : ∀ m', m' ∈ x :: r.map (·.1) → ltS s m' := fun m' hm' => by
          rcases List.mem_cons.1 hm' with rfl | hm'
          · exact hc
          · exact ltS_trans hc (l1 m' hm')
        have h2 : hits ((s, b, u) :: W) (x :: r.map (·.1)) = hits W (x :: r.map (·.1)) := hits_skip hall
        have h3 := hits_le _ W (x :: r.map (·.1)) (Nat.le_refl _) w2 hd
        rw [h2] at hn
        simp only [needs] at hn
        have hb : b = true := by
          cases b with
          | true => rfl
          | false => simp only [need1, Bool.false_eq_true, if_false] at hn; omega
        rw [if_pos hc, if_pos hb]
        subst hb
        refine ih W ((x, y) :: r) n (by simp; omega) w2 hd (fun p hp => ?_) (by simpa [need1] using hn)
        have := hk p hp
        rwa [look_skip (hall p.1 (List.mem_map_of_mem (f := (·.1)) hp))] at this
      · have h1 := hk (s, y) (by simp)
        have h4 : lookG ((s, b, u) :: W) s = some (b, u) := by simp [lookG]
        simp only [h4] at h1
        have h2 : hits ((s, b, u) :: W) (r.map (·.1)) = hits W (r.map (·.1)) := hits_skip l1
        have h3 : hit ((s, b, u) :: W) s = need1 b := by simp [hit, lookG]
        rw [if_neg (ltS_irr s), if_pos (by simp), isB_at, if_pos h1]
        refine ih W r _ (by omega) w2 l2 (fun p hp => ?_) ?_
        · have := hk p (by simp [hp])
          rwa [look_skip (l1 p.1 (List.mem_map_of_mem (f := (·.1)) hp))] at this
        · simp only [hits, needs, h2, h3] at hn; omega
      · have hn1 : lookG ((s, b, u) :: W) x = none := look_none (fun z hz => by
            rcases List.mem_cons.1 hz with rfl | hz
            · exact hc
            · exact ltS_trans hc (w1 z hz))
        have hq := hk (x, y) (by simp)
        simp only [hn1] at hq
        have e1 : ¬ (Op.bytesLess s x = true) := fun h => ltS_irr _ (ltS_trans h hc)
        have e2 : ¬ ((s == x) = true) := fun h => by have := eq_of_beq h; subst this; exact ltS_irr _ hc
        rw [if_neg e1, if_neg e2, if_pos hq]
        have h3 : hit ((s, b, u) :: W) x = 0 := by unfold hit; rw [hn1]
        have := ih ((s, b, u) :: W) r (n + cnt y) (by simp; omega) hW l2 (fun p hp => hk p (by simp [hp])) (by simp only [hits, h3] at hn; omega)
        rw [List.map_cons] at this; exact this
end Go.Proofs.Ytiapdjdhaclmnaa
