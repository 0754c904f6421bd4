/- Plain laws, one behind the other. -/
import Derived.Test.YtiapdjdhaclmnaaM0
namespace Go.Proofs.Ytiapdjdhaclmnaa
open Go Aw
set_option linter.unusedVariables false
set_option linter.unusedSimpArgs false
set_option maxRecDepth 8000
/-! ### texts in order -/
theorem zcg (a b : Str) : cmpS a b = z4r (zac a) (zac b) := by
  have h := zfd a b [] []
  rw [List.append_nil, List.append_nil] at h
  rw [h]; exact (zjd _).symm
abbrev ltS (a b : Str) : Prop := Op.bytesLess a b = true
theorem zk2 {a b : Str} : ltS a b ↔ cmpS a b = -1 := by
  unfold cmpS ltS
  cases Op.bytesLess a b with
  | true => simp
  | false => cases a == b <;> simp
theorem z3l {a b c : Str} (h : ltS a b) (k : ltS b c) : ltS a c := by
  rw [zk2, zcg] at *
  have := z8g (zac a) (zac b) (zac c) (by omega) (by omega)
  have h2 := this.2 (.inl (by omega))
  have := zm4 (zac a) (zac c)
  omega
theorem zry {a b : Str} (h : cmpS a b = 1) : ltS b a := by
  rw [zk2, zcg]
  rw [zcg] at h
  have := z8h (zac a) (zac b)
  omega
theorem z56 (a : Str) : ¬ ltS a a := by
  rw [zk2]
  have h1 := z8h (zac a) (zac a)
  rw [zcg]; omega
theorem zz2 {a b : Str} (h : leB b a = false) : ltS a b := by
  simp only [leB, Bool.or_eq_false_iff] at h
  have : cmpS b a = 1 := by unfold cmpS; rw [if_neg (by simp [h.1]), if_neg (by simp [h.2])]
  exact zry this
abbrev Srt (l : List Str) : Prop := l.Pairwise ltS
theorem zgs : ∀ {l : List Str} {p : Option Str}, risen p l = true → Srt l ∧ ∀ q, p = some q → ∀ s, s ∈ l → ltS q s
  | [], _, _ => ⟨.nil, fun _ _ s hs => by cases hs⟩
  | s :: r, p, h => by
    simp only [risen, Bool.and_eq_true] at h
    have ih := zgs h.2
    refine ⟨.cons (fun x hx => ih.2 s rfl x hx) ih.1, fun q hq x hx => ?_⟩
    subst hq
    have h1 : ltS q s := zz2 (by simpa using h.1.2)
    rcases List.mem_cons.1 hx with rfl | hx
    · exact h1
    · exact z3l h1 (ih.2 s rfl x hx)
/-- Rising again, when some are left out. -/
theorem zef : ∀ {l : List Str} {p : Option Str}, risen p l = true → ∀ s, s ∈ l → z3c s = true
  | x :: r, p, h, s, hs => by
    simp only [risen, Bool.and_eq_true] at h
    rcases List.mem_cons.1 hs with rfl | hs
    · exact h.1.1
    · exact zef h.2 s hs
/-! ### the place plays no part in whether -/
noncomputable def isB (t : Typ) (v : V) : Bool := (isF t v 0).1
def ztk (f : Tst) : Prop := ∀ v a b, (f v a).1 = (f v b).1
theorem zwu {fs : List Tst} (h : ∀ f, f ∈ fs → ztk f) (v : V) (a b : Int) : zl9 fs v a = zl9 fs v b := by
  induction fs with
  | nil => rfl
  | cons f r ih => simp only [zl9]; rw [h f (by simp) v a b, ih (fun g hg => h g (by simp [hg]))]
theorem zif {f : Tst} (h : ztk f) : ∀ (l : List V) (a b : Int), (z6o f l a).1 = (z6o f l b).1
  | [], a, b => rfl
  | x :: r, a, b => by
    simp only [z6o, h x a b]
    split
    · exact zif h r _ _
    · rfl
theorem zst (q : Bool) (a a' : Int) : ∀ (m : Nat) (Z : List (Str × Bool × Tst)) (d : List (Str × V)) (n n' : Int), Z.length + d.length ≤ m → (∀ z, z ∈ Z → ztk z.2.2) → (z2q q a Z d n).1 = (z2q q a' Z d n').1 := by
  intro m
  induction m with
  | zero =>
    intro Z d n n' h hZ
    cases Z with
    | cons z r => simp at h
    | nil =>
      cases d with
      | cons z r => simp at h
      | nil => rw [z2q, z2q]
  | succ m ih =>
    intro Z d n n' h hZ
    match Z, d with
    | [], [] => rw [z2q, z2q]
    | (s, b, f) :: ts, [] =>
      rw [z2q, z2q]
      split
      · exact ih ts [] n n' (by simp at h ⊢; omega) (fun z hz => hZ z (by simp [hz]))
      · rfl
    | [], (x, y) :: r =>
      rw [z2q, z2q]
      split
      · exact ih [] r _ _ (by simp at h ⊢; omega) hZ
      · rfl
    | (s, b, f) :: ts, (x, y) :: r =>
      rw [z2q, z2q, hZ (s, b, f) (by simp) y n n']
      simp only [List.length_cons] at h
      split
      · split
        · exact ih ts ((x, y) :: r) n n' (by simp; omega) (fun z hz => hZ z (by simp [hz]))
        · rfl
      · split
        · split
          · exact ih ts r _ _ (by omega) (fun z hz => hZ z (by simp [hz]))
          · rfl
        · split
          · exact ih ((s, b, f) :: ts) r _ _ (by simp; omega) hZ
          · rfl
theorem zcb {α β γ : Type} {n : List α} {l : List β} {p : List γ} {z : α × β × γ} (h : z ∈ n.zip (l.zip p)) : z.2.2 ∈ p := by
  have := (List.of_mem_zip (a := z.1) (b := z.2) h).2
  exact (List.of_mem_zip (a := z.2.1) (b := z.2.2) this).2
theorem zut (t : Typ) : ztk (isF t) := by
  induction t using Typ.byParts with
  | _ t ih =>
  intro v a b
  have hf : ∀ f, f ∈ t.parts.map isF → ztk f := fun f hf => by obtain ⟨u, hu, rfl⟩ := List.mem_map.1 hf; exact ih u hu
  rw [z2w, z2w]
  unfold isG plc
  rw [zwu hf v a b]
  split
  · rfl
  split
  · split <;> rfl
  split
  · split <;> rfl
  split
  · split <;> rfl
  split
  · split <;> rfl
  split
  · cases v with
    | list l =>
      show (match t.parts.map isF with | f :: _ => z6o f l (a + 1) | [] => (false, a)).1 = (match t.parts.map isF with | f :: _ => z6o f l (b + 1) | [] => (false, b)).1
      cases hp : t.parts.map isF with
      | nil => rfl
      | cons f r => exact zif (hf f (by rw [hp]; simp)) l _ _
    | _ => rfl
  split
  · cases v with
    | dict d => exact zst _ _ _ _ _ d _ _ (Nat.le_refl _) (fun z hz => hf _ (zcb hz))
    | _ => rfl
  · rfl
theorem zfg (t : Typ) (v : V) (a : Int) : (isF t v a).1 = isB t v := zut t v a 0
/-! ### dicts that are of a type -/
abbrev Tri := Str × Bool × Typ
def z49 {F : Type} : List (Str × Bool × F) → Str → Option (Bool × F)
  | [], _ => none
  | (s, b, f) :: r, m => if m == s then some (b, f) else z49 r m
def z8w (b : Bool) : Int := if b then 0 else 1
def z8l {F : Type} : List (Str × Bool × F) → Int
  | [] => 0
  | (_, b, _) :: r => z8w b + z8l r
def hit {F : Type} (W : List (Str × Bool × F)) (m : Str) : Int := match z49 W m with | some (b, _) => z8w b | none => 0
def z90 {F : Type} (W : List (Str × Bool × F)) : List Str → Int
  | [] => 0
  | m :: r => hit W m + z90 W r
section
variable {F : Type}
theorem z6m {s : Str} {b : Bool} {f : F} {W : List (Str × Bool × F)} {m : Str} (h : ltS s m) : z49 ((s, b, f) :: W) m = z49 W m := by
  have : (m == s) = false := by rw [beq_eq_false_iff_ne]; rintro rfl; exact z56 _ h
  rw [z49, if_neg (by simp [this])]
theorem z9u {W : List (Str × Bool × F)} {m : Str} (h : ∀ z, z ∈ W → ltS m z.1) : z49 W m = none := by
  induction W with
  | nil => rfl
  | cons z r ih =>
    obtain ⟨s, b, f⟩ := z
    have h1 : ltS m s := h (s, b, f) (by simp)
    have : (m == s) = false := by rw [beq_eq_false_iff_ne]; rintro rfl; exact z56 _ h1
    rw [z49, if_neg (by simp [this])]
    exact ih (fun z hz => h z (by simp [hz]))
theorem z58 {s : Str} {b : Bool} {f : F} {W : List (Str × Bool × F)} : ∀ {l : List Str}, (∀ m, m ∈ l → ltS s m) → z90 ((s, b, f) :: W) l = z90 W l
  | [], _ => rfl
  | m :: r, h => by simp only [z90, hit]; rw [z6m (h m (by simp)), z58 (fun x hx => h x (by simp [hx]))]
abbrev zww (W : List (Str × Bool × F)) : Prop := W.Pairwise (fun x y => ltS x.1 y.1)
theorem z9r : ∀ (W : List (Str × Bool × F)), 0 ≤ z8l W
  | [] => Int.le_refl _
  | (s, b, f) :: r => by have := z9r r; simp only [z8l, z8w]; split <;> omega
theorem cmp3 (s m : Str) : ltS s m ∨ s = m ∨ ltS m s := by
  by_cases h : ltS s m
  · exact .inl h
  · by_cases h2 : s = m
    · exact .inr (.inl h2)
    · refine .inr (.inr (zry ?_))
      unfold cmpS
      rw [if_neg h, if_neg (by simpa using h2)]
theorem zz9 : ∀ (m : Nat) (W : List (Str × Bool × F)) (l : List Str), W.length + l.length ≤ m → zww W → Srt l → z90 W l ≤ z8l W := by
  intro m
  induction m with
  | zero =>
    intro W l h _ _
    cases l with
    | nil => exact z9r W
    | cons x r => simp at h
  | succ m ih =>
    intro W l h hW hl
    match W, l with
    | W, [] => exact z9r W
    | [], x :: r =>
      have := ih [] r (by simp at h ⊢; omega) hW (List.pairwise_cons.1 hl).2
      simp only [z90, hit, z49, z8l] at this ⊢; omega
    | (s, b, f) :: W, x :: r =>
      obtain ⟨w1, w2⟩ := List.pairwise_cons.1 hW
      obtain ⟨l1, l2⟩ := List.pairwise_cons.1 hl
      simp only [List.length_cons] at h
      have hb : 0 ≤ z8w b := by unfold z8w; split <;> omega
      rcases cmp3 s x with hc | rfl | hc
      · have h1 := ih W (x :: r) (by simp; omega) w2 hl
        have h2 : z90 ((s, b, f) :: W) (x :: r) = z90 W (x :: r) := z58 (fun y hy => by
          rcases List.mem_cons.1 hy with rfl | hy
          · exact hc
          · exact z3l hc (l1 y hy))
        rw [h2]; simp only [z8l]; omega
      · have h1 := ih W r (by omega) w2 l2
        have h2 : z90 ((s, b, f) :: W) r = z90 W r := z58 l1
        have h3 : hit ((s, b, f) :: W) s = z8w b := by simp [hit, z49]
        simp only [z90, z8l, h2, h3]; omega
      · have h1 := ih ((s, b, f) :: W) r (by simp; omega) hW l2
        have h3 : hit ((s, b, f) :: W) x = 0 := by
          unfold hit
          rw [z9u (fun z hz => by
            rcases List.mem_cons.1 hz with rfl | hz
            · exact hc
            · exact z3l hc (w1 z hz))]
        rw [z90, h3]; omega
end
theorem zix (q : Bool) (a : Int) : ∀ (m : Nat) (W : List Tri) (d : List (Str × V)) (n : Int), W.length + d.length ≤ m → zww W → Srt (d.map (·.1)) →
    (∀ p, p ∈ d → match z49 W p.1 with | none => q = true | some (_, u) => isB u p.2 = true) → z8l W ≤ z90 W (d.map (·.1)) → (z2q q a (W.map fun z => (z.1, z.2.1, isF z.2.2)) d n).1 = true := by
  intro m
  induction m with
  | zero =>
    intro W d n h _ _ _ _
    cases W with
    | cons z r => simp at h
    | nil =>
      cases d with
      | cons z r => simp at h
      | nil => rw [List.map_nil, z2q]
  | succ m ih =>
    intro W d n h hW hd hk hn
    match W, d with
    | [], [] => rw [List.map_nil, z2q]
    | (s, b, u) :: W, [] =>
      simp only [List.map_nil, z90, z8l] at hn
      have := z9r W
      have hb : b = true := by
        cases b with
        | true => rfl
        | false => simp only [z8w, Bool.false_eq_true, if_false] at hn; omega
      rw [List.map_cons, z2q, if_pos hb]
      subst hb
      exact ih W [] n (by simp at h ⊢; omega) (List.pairwise_cons.1 hW).2 .nil (fun p hp => by cases hp) (by simpa [z8l, z8w, z90] using hn)
    | [], (x, y) :: r =>
      have hq : q = true := hk (x, y) (by simp)
      rw [List.map_nil, z2q, if_pos hq]
      have h2 := ih [] r (n + cnt y) (by simp at h ⊢; omega) hW (List.pairwise_cons.1 hd).2 (fun p hp => hk p (by simp [hp])) (by
        have : ∀ l : List Str, z90 ([] : List Tri) l = 0 := fun l => by induction l with
          | nil => rfl
          | cons z r ih => simp only [z90, hit, z49]; omega
        rw [this]; exact Int.le_refl _)
      rw [List.map_nil] at h2; exact h2
    | (s, b, u) :: W, (x, y) :: r =>
      obtain ⟨w1, w2⟩ := List.pairwise_cons.1 hW
      rw [List.map_cons] at hd hn
      obtain ⟨l1, l2⟩ := List.pairwise_cons.1 hd
      simp only [List.length_cons] at h
      rw [List.map_cons, z2q]
      rcases cmp3 s x with hc | rfl | hc
      · have hall : ∀ m', m' ∈ x :: r.map (·.1) → ltS s m' := fun m' hm' => by
          rcases List.mem_cons.1 hm' with rfl | hm'
          · exact hc
          · exact z3l hc (l1 m' hm')
        have h2 : z90 ((s, b, u) :: W) (x :: r.map (·.1)) = z90 W (x :: r.map (·.1)) := z58 hall
        have h3 := zz9 _ W (x :: r.map (·.1)) (Nat.le_refl _) w2 hd
        rw [h2] at hn
        simp only [z8l] at hn
        have hb : b = true := by
          cases b with
          | true => rfl
          | false => simp only [z8w, Bool.false_eq_true, if_false] at hn; omega
        rw [if_pos hc, if_pos hb]
        subst hb
        refine ih W ((x, y) :: r) n (by simp; omega) w2 hd (fun p hp => ?_) (by simpa [z8w] using hn)
        have := hk p hp
        rwa [z6m (hall p.1 (List.mem_map_of_mem (f := (·.1)) hp))] at this
      · have h1 := hk (s, y) (by simp)
        have h4 : z49 ((s, b, u) :: W) s = some (b, u) := by simp [z49]
        simp only [h4] at h1
        have h2 : z90 ((s, b, u) :: W) (r.map (·.1)) = z90 W (r.map (·.1)) := z58 l1
        have h3 : hit ((s, b, u) :: W) s = z8w b := by simp [hit, z49]
        rw [if_neg (z56 s), if_pos (by simp), zfg, if_pos h1]
        refine ih W r _ (by omega) w2 l2 (fun p hp => ?_) ?_
        · have := hk p (by simp [hp])
          rwa [z6m (l1 p.1 (List.mem_map_of_mem (f := (·.1)) hp))] at this
        · simp only [z90, z8l, h2, h3] at hn; omega
      · have hn1 : z49 ((s, b, u) :: W) x = none := z9u (fun z hz => by
            rcases List.mem_cons.1 hz with rfl | hz
            · exact hc
            · exact z3l hc (w1 z hz))
        have hq := hk (x, y) (by simp)
        simp only [hn1] at hq
        have e1 : ¬ (Op.bytesLess s x = true) := fun h => z56 _ (z3l h hc)
        have e2 : ¬ ((s == x) = true) := fun h => by have := eq_of_beq h; subst this; exact z56 _ hc
        rw [if_neg e1, if_neg e2, if_pos hq]
        have h3 : hit ((s, b, u) :: W) x = 0 := by unfold hit; rw [hn1]
        have := ih ((s, b, u) :: W) r (n + cnt y) (by simp; omega) hW l2 (fun p hp => hk p (by simp [hp])) (by simp only [z90, h3] at hn; omega)
        rw [List.map_cons] at this; exact this
end Go.Proofs.Ytiapdjdhaclmnaa

namespace Go.Proofs.Ytiapdjdhaclmnaa
open Go Aw
set_option linter.unusedVariables false
set_option linter.unusedSimpArgs false
set_option maxRecDepth 8000
theorem zvt (q : Bool) (a : Int) : ∀ (m : Nat) (W : List Tri) (d : List (Str × V)) (n : Int), W.length + d.length ≤ m → zww W → Srt (d.map (·.1)) →
    (z2q q a (W.map fun z => (z.1, z.2.1, isF z.2.2)) d n).1 = true →
    (∀ p, p ∈ d → match z49 W p.1 with | none => q = true | some (_, u) => isB u p.2 = true) ∧ ∀ z, z ∈ W → z.2.1 = false → z.1 ∈ d.map (·.1) := by
  intro m
  induction m with
  | zero =>
    intro W d n h _ _ _
    cases W with
    | cons z r => simp at h
    | nil =>
      cases d with
      | cons z r => simp at h
      | nil => exact ⟨fun p hp => (by cases hp), fun z hz => by cases hz⟩
  | succ m ih =>
    intro W d n h hW hd hg
    match W, d with
    | [], [] => exact ⟨fun p hp => (by cases hp), fun z hz => by cases hz⟩
    | (s, b, u) :: W, [] =>
      rw [List.map_cons, z2q] at hg
      cases b with
      | false => simp at hg
      | true =>
        rw [if_pos rfl] at hg
        have h1 := ih W [] n (by simp at h ⊢; omega) (List.pairwise_cons.1 hW).2 .nil hg
        refine ⟨fun p hp => (by cases hp), fun z hz hb => ?_⟩
        rcases List.mem_cons.1 hz with rfl | hz
        · cases hb
        · exact h1.2 z hz hb
    | [], (x, y) :: r =>
      rw [List.map_nil, z2q] at hg
      cases hq : q with
      | false => rw [hq] at hg; simp at hg
      | true =>
        rw [if_pos hq] at hg
        have h1 := ih [] r (n + cnt y) (by simp at h ⊢; omega) hW (List.pairwise_cons.1 hd).2 (by rw [List.map_nil]; exact hg)
        exact ⟨fun p hp => rfl, fun z hz => by cases hz⟩
    | (s, b, u) :: W, (x, y) :: r =>
      obtain ⟨w1, w2⟩ := List.pairwise_cons.1 hW
      rw [List.map_cons] at hd ⊢
      obtain ⟨l1, l2⟩ := List.pairwise_cons.1 hd
      simp only [List.length_cons] at h
      rw [List.map_cons, z2q] at hg
      rcases cmp3 s x with hc | rfl | hc
      · have hall : ∀ m', m' ∈ x :: r.map (·.1) → ltS s m' := fun m' hm' => by
          rcases List.mem_cons.1 hm' with rfl | hm'
          · exact hc
          · exact z3l hc (l1 m' hm')
        rw [if_pos hc] at hg
        cases b with
        | false => simp at hg
        | true =>
          rw [if_pos rfl] at hg
          have h1 := ih W ((x, y) :: r) n (by simp; omega) w2 hd hg
          refine ⟨fun p hp => ?_, fun z hz hb => ?_⟩
          · rw [z6m (hall p.1 (List.mem_map_of_mem (f := (·.1)) hp))]; exact h1.1 p hp
          · rcases List.mem_cons.1 hz with rfl | hz
            · cases hb
            · exact h1.2 z hz hb
      · rw [if_neg (z56 s), if_pos (by simp), zfg] at hg
        cases hB : isB u y with
        | false => rw [hB] at hg; simp at hg
        | true =>
          rw [if_pos hB] at hg
          have h1 := ih W r _ (by omega) w2 l2 hg
          refine ⟨fun p hp => ?_, fun z hz hb => ?_⟩
          · rcases List.mem_cons.1 hp with rfl | hp
            · have h4 : z49 ((s, b, u) :: W) s = some (b, u) := by simp [z49]
              simp only [h4]; exact hB
            · rw [z6m (l1 p.1 (List.mem_map_of_mem (f := (·.1)) hp))]; exact h1.1 p hp
          · rcases List.mem_cons.1 hz with rfl | hz
            · exact List.mem_cons_self
            · exact List.mem_cons_of_mem _ (h1.2 z hz hb)
      · have e1 : ¬ (Op.bytesLess s x = true) := fun h => z56 _ (z3l h hc)
        have e2 : ¬ ((s == x) = true) := fun h => by have := eq_of_beq h; subst this; exact z56 _ hc
        rw [if_neg e1, if_neg e2] at hg
        cases hq : q with
        | false => rw [hq] at hg; simp at hg
        | true =>
          rw [if_pos hq] at hg
          have h1 := ih ((s, b, u) :: W) r (n + cnt y) (by simp; omega) hW l2 (by rw [List.map_cons]; exact hg)
          rw [hq] at h1
          have hn1 : z49 ((s, b, u) :: W) x = none := z9u (fun z hz => by
            rcases List.mem_cons.1 hz with rfl | hz
            · exact hc
            · exact z3l hc (w1 z hz))
          refine ⟨fun p hp => ?_, fun z hz hb => List.mem_cons_of_mem _ (h1.2 z hz hb)⟩
          rcases List.mem_cons.1 hp with rfl | hp
          · simp only [hn1]
          · exact h1.1 p hp
theorem zgc {F : Type} (W : List (Str × Bool × F)) : ∀ l, 0 ≤ z90 W l
  | [] => Int.le_refl _
  | m :: r => by
    have := zgc W r
    have h2 : 0 ≤ hit W m := by
      unfold hit
      split
      · unfold z8w; split <;> omega
      · omega
    simp only [z90]; omega
theorem zls {F : Type} : ∀ (m : Nat) (W : List (Str × Bool × F)) (l : List Str), W.length + l.length ≤ m → zww W → Srt l → (∀ z, z ∈ W → z.2.1 = false → z.1 ∈ l) → z8l W ≤ z90 W l := by
  intro m
  induction m with
  | zero =>
    intro W l h _ _ _
    cases W with
    | cons z r => simp at h
    | nil => exact zgc _ _
  | succ m ih =>
    intro W l h hW hl hk
    match W, l with
    | [], l => exact zgc _ _
    | (s, b, f) :: W, [] =>
      have hb : b = true := by
        cases b with
        | true => rfl
        | false => have := hk (s, false, f) (by simp) rfl; cases this
      subst hb
      have := ih W [] (by simp at h ⊢; omega) (List.pairwise_cons.1 hW).2 .nil (fun z hz hb => hk z (by simp [hz]) hb)
      simpa [z8l, z8w, z90] using this
    | (s, b, f) :: W, x :: r =>
      obtain ⟨w1, w2⟩ := List.pairwise_cons.1 hW
      obtain ⟨l1, l2⟩ := List.pairwise_cons.1 hl
      simp only [List.length_cons] at h
      rcases cmp3 s x with hc | rfl | hc
      · have hall : ∀ m', m' ∈ x :: r → ltS s m' := fun m' hm' => by
          rcases List.mem_cons.1 hm' with rfl | hm'
          · exact hc
          · exact z3l hc (l1 m' hm')
        have hb : b = true := by
          cases b with
          | true => rfl
          | false => exact absurd (hall s (hk (s, false, f) (by simp) rfl)) (z56 s)
        subst hb
        have h1 := ih W (x :: r) (by simp; omega) w2 hl (fun z hz hb => hk z (by simp [hz]) hb)
        rw [z58 hall]
        simpa [z8l, z8w] using h1
      · have h1 := ih W r (by omega) w2 l2 (fun z hz hb => by
          rcases List.mem_cons.1 (hk z (by simp [hz]) hb) with h | h
          · have := w1 z hz
            simp only [h] at this
            exact absurd this (z56 s)
          · exact h)
        have h2 : z90 ((s, b, f) :: W) r = z90 W r := z58 l1
        have h3 : hit ((s, b, f) :: W) s = z8w b := by simp [hit, z49]
        simp only [z90, z8l, h2, h3]; omega
      · have hlt : ∀ z, z ∈ (s, b, f) :: W → ltS x z.1 := fun z hz => by
          rcases List.mem_cons.1 hz with rfl | hz
          · exact hc
          · exact z3l hc (w1 z hz)
        have h1 := ih ((s, b, f) :: W) r (by simp; omega) hW l2 (fun z hz hb => by
          rcases List.mem_cons.1 (hk z hz hb) with h | h
          · have := hlt z hz
            rw [h] at this
            exact absurd this (z56 x)
          · exact h)
        have h3 : hit ((s, b, f) :: W) x = 0 := by unfold hit; rw [z9u hlt]
        rw [z90, h3]; omega
/-! ### types' rows -/
def tz (t : Typ) : List Tri := t.names.zip (t.lacks.zip t.parts)
theorem Z3c {F : Type} (f : Typ → F) (n : List Str) : ∀ (l : List Bool) (p : List Typ), n.zip (l.zip (p.map f)) = (n.zip (l.zip p)).map fun z => (z.1, z.2.1, f z.2.2) := by
  induction n with
  | nil => intro l p; rfl
  | cons s n ih =>
    intro l p
    cases l with
    | nil => rfl
    | cons b l =>
      cases p with
      | nil => rfl
      | cons u p => simp only [List.map_cons, List.zip_cons_cons, ih]
theorem zfx : ∀ {n : List Str} (h : Srt n) (x : List (Bool × Typ)), zww (n.zip x)
  | [], _, x => .nil
  | s :: n, h, [] => .nil
  | s :: n, h, b :: x => by
    obtain ⟨h1, h2⟩ := List.pairwise_cons.1 h
    exact .cons (fun z hz => h1 _ (List.of_mem_zip (a := z.1) (b := z.2) hz).1) (zfx h2 x)
theorem VT.risen {t : Typ} (h : VT t) (hk : t.kind = 6) : risen none t.names = true := by
  rcases h.cases with hl | ⟨_, hv, _⟩
  · simp [z2v, hk] at hl
  · simp [zc3, hk] at hv; exact hv.2
theorem zfa {d : List (Str × V)} (h : z3e (.dict d) = 0) : risen none (d.map (·.1)) = true := by
  simp only [z3e, z5a] at h
  split at h
  · cases h
  · split at h
    · assumption
    · cases h
/-! ### of the type -/
theorem zgn {u : Typ} {v : V} (a : Int) (hB : isB u v = true) : ∀ {l : List Typ}, u ∈ l → zl9 (l.map isF) v a = true
  | x :: r, h => by
    rw [List.map_cons, zl9, zfg]
    rcases List.mem_cons.1 h with rfl | h
    · rw [hB]; rfl
    · rw [zgn a hB h, Bool.or_true]
theorem zg8 {p : Typ} : ∀ {l : List V} (n : Int), (∀ x, x ∈ l → isB p x = true) → (z6o (isF p) l n).1 = true
  | [], n, _ => rfl
  | x :: r, n, h => by
    rw [z6o, zfg, if_pos (h x (by simp))]
    exact zg8 _ (fun y hy => h y (by simp [hy]))
end Go.Proofs.Ytiapdjdhaclmnaa

namespace Go.Proofs.Ytiapdjdhaclmnaa
open Go Aw
set_option linter.unusedVariables false
set_option linter.unusedSimpArgs false
set_option maxRecDepth 8000
/-! ### values that are the same are of the same types -/
theorem zgq {a b : Int} (h : th a b = 0) : a = 0 ∧ b = 0 := by
  unfold th at h
  split at h
  · exact ⟨by assumption, h⟩
  · exact absurd h (by assumption)
theorem zt0 {a b : Str} (h : cmpS a b = 0) : a = b := by
  unfold cmpS at h
  split at h
  · cases h
  · split at h
    · rename_i h2; exact eq_of_beq h2
    · cases h
theorem zua {x y : V} (h : z4x x y = 0) : z1m x = z1m y := by
  rcases Classical.em (z1m x = z1m y) with h2 | h2
  · exact h2
  · rw [zr8 h2] at h; exact c3_zero.1 h
theorem zr7 {x y c : V} (h : z4x x y = 0) : (z4x x c == 0) = (z4x y c == 0) := by
  rw [zg3] at h
  have h1 := z8h (key x) (key y)
  have key : ∀ a b c, z4r a b = 0 → z4r b a = 0 → z4r b c = 0 → z4r a c = 0 := by
    intro a b c h h2 h3
    have h4 := z8h b c
    have t1 := (z8g a b c (by omega) (by omega)).1
    have t2 := (z8g c b a (by omega) (by omega)).1
    have h5 := z8h a c
    omega
  have e : z4x x c = 0 ↔ z4x y c = 0 := by
    rw [zg3, zg3]
    exact ⟨fun h3 => key _ _ _ (by omega) h h3, fun h3 => key _ _ _ h (by omega) h3⟩
  by_cases h2 : z4x x c = 0
  · rw [e.1 h2, h2]
  · have h3 : z4x y c ≠ 0 := fun h => h2 (e.2 h)
    rw [z1v h2, z1v h3]
def Z33 (f : Tst) : Prop := ∀ x y a b, Can x → Can y → z4x x y = 0 → (f x a).1 = (f y b).1
theorem zzu {fs : List Tst} (h : ∀ f, f ∈ fs → Z33 f) {x y : V} (a b : Int) (hx : Can x) (hy : Can y) (ho : z4x x y = 0) : zl9 fs x a = zl9 fs y b := by
  induction fs with
  | nil => rfl
  | cons f r ih => simp only [zl9]; rw [h f (by simp) x y a b hx hy ho, ih (fun g hg => h g (by simp [hg]))]
theorem zm3 {f : Tst} (h : Z33 f) : ∀ (l k : List V) (a b : Int), (∀ x, x ∈ l → Can x) → (∀ x, x ∈ k → Can x) → zi8 l k = 0 → (z6o f l a).1 = (z6o f k b).1
  | [], [], a, b, _, _, _ => rfl
  | [], y :: s, a, b, _, _, ho => by rw [zi8] at ho; cases ho
  | x :: r, [], a, b, _, _, ho => by rw [zi8] at ho; cases ho
  | x :: r, y :: s, a, b, hl, hk, ho => by
    rw [zi8] at ho
    obtain ⟨h1, h2⟩ := zgq ho
    simp only [z6o, h x y a b (hl x (by simp)) (hk y (by simp)) h1]
    split
    · exact zm3 h r s _ _ (fun z hz => hl z (by simp [hz])) (fun z hz => hk z (by simp [hz])) h2
    · rfl
theorem zvs (q : Bool) (a a' : Int) : ∀ (m : Nat) (Z : List (Str × Bool × Tst)) (d e : List (Str × V)) (n n' : Int), Z.length + d.length ≤ m → (∀ z, z ∈ Z → Z33 z.2.2) → (∀ x, x ∈ d → Can x.2) → (∀ x, x ∈ e → Can x.2) → ze9 d e = 0 →
    (z2q q a Z d n).1 = (z2q q a' Z e n').1 := by
  intro m
  induction m with
  | zero =>
    intro Z d e n n' h hZ hd he ho
    cases Z with
    | cons z r => simp at h
    | nil =>
      cases d with
      | cons z r => simp at h
      | nil =>
        cases e with
        | nil => rw [z2q, z2q]
        | cons z r => rw [ze9] at ho; cases ho
  | succ m ih =>
    intro Z d e n n' h hZ hd he ho
    match Z, d, e with
    | [], [], [] => rw [z2q, z2q]
    | _, [], z :: r => rw [ze9] at ho; cases ho
    | _, (x, y) :: r, [] => rw [ze9] at ho; cases ho
    | (s, b, f) :: ts, [], [] =>
      rw [z2q, z2q]
      split
      · exact ih ts [] [] n n' (by simp at h ⊢; omega) (fun z hz => hZ z (by simp [hz])) (fun z hz => by cases hz) (fun z hz => by cases hz) (by rw [ze9])
      · rfl
    | [], (x, y) :: r, (x', y') :: r' =>
      rw [ze9] at ho
      obtain ⟨h1, h2⟩ := zgq ho
      rw [z2q, z2q]
      split
      · exact ih [] r r' _ _ (by simp at h ⊢; omega) hZ (fun z hz => hd z (by simp [hz])) (fun z hz => he z (by simp [hz])) h2
      · rfl
    | (s, b, f) :: ts, (x, y) :: r, (x', y') :: r' =>
      have ho' := ho
      rw [ze9] at ho
      obtain ⟨h1, h2⟩ := zgq ho
      obtain ⟨h3, h4⟩ := zgq h1
      have := zt0 h3; subst this
      rw [z2q, z2q, hZ (s, b, f) (by simp) y y' n n' (hd (x, y) (by simp)) (he (x, y') (by simp)) h4]
      simp only [List.length_cons] at h
      split
      · split
        · exact ih ts ((x, y) :: r) ((x, y') :: r') n n' (by simp; omega) (fun z hz => hZ z (by simp [hz])) hd he ho'
        · rfl
      · split
        · split
          · exact ih ts r r' _ _ (by omega) (fun z hz => hZ z (by simp [hz])) (fun z hz => hd z (by simp [hz])) (fun z hz => he z (by simp [hz])) h2
          · rfl
        · split
          · exact ih ((s, b, f) :: ts) r r' _ _ (by simp; omega) hZ (fun z hz => hd z (by simp [hz])) (fun z hz => he z (by simp [hz])) h2
          · rfl
theorem zz4 (t : Typ) : Z33 (isF t) := by
  induction t using Typ.byParts with
  | _ t ih =>
  intro x y a b hx hy ho
  have hf : ∀ f, f ∈ t.parts.map isF → Z33 f := fun f hf => by obtain ⟨u, hu, rfl⟩ := List.mem_map.1 hf; exact ih u hu
  have hk := zua ho
  rw [z2w, z2w]
  unfold isG plc
  rw [zzu hf a b hx hy ho, hk]
  split
  · rfl
  split
  · split <;> rfl
  split
  · have : zgt x (bu t.only) = zgt y (bu t.only) := by simp only [zgt, z82 hx, z82 hy, zr7 ho]
    rw [this]; split <;> rfl
  split
  · have : zn6 t.cls x = zn6 t.cls y := by
      cases x <;> cases y <;> first | rfl | (simp [z1m] at hk; done) | skip
      rw [z4x] at ho
      have := zt0 (zgq ho).1
      subst this; rfl
    rw [this]; split <;> rfl
  split
  · split <;> rfl
  split
  · cases x <;> cases y <;> first | rfl | (simp [z1m] at hk; done) | skip
    rename_i l k
    rw [z4x] at ho
    show (match t.parts.map isF with | f :: _ => z6o f l (a + 1) | [] => (false, a)).1 = (match t.parts.map isF with | f :: _ => z6o f k (b + 1) | [] => (false, b)).1
    cases hp : t.parts.map isF with
    | nil => rfl
    | cons f r => exact zm3 (hf f (by rw [hp]; simp)) l k _ _ (fun z hz => hx.part hz) (fun z hz => hy.part hz) ho
  split
  · cases x <;> cases y <;> first | rfl | (simp [z1m] at hk; done) | skip
    rename_i l k
    rw [z4x] at ho
    exact zvs _ _ _ _ _ l k _ _ (Nat.le_refl _) (fun z hz => hf _ (zcb hz)) (fun z hz => hx.part (List.mem_map_of_mem hz)) (fun z hz => hy.part (List.mem_map_of_mem hz)) ho
  · rfl
/-! ### lists that hold one -/
theorem zxs (c : Typ) (l : List Typ) (h : ∀ x, x ∈ l → ∃ r, z43 x c = some r) : ∀ k i, k + i = l.length → ∃ j : Int, zf4 zbz l c i = some j ∧ (j ≥ 0 ↔ ∃ x, x ∈ l.drop i ∧ z43 x c = some false)
  | 0, i, hi => by
    refine ⟨-1, ?_, by rw [List.drop_of_length_le (by omega)]; simp⟩
    rw [zi0]
    simp only [z67, z7n (by omega : ¬ i < l.length), cond_false]
  | k + 1, i, hi => by
    obtain ⟨x, hx, hdr⟩ := dropc (by omega : i < l.length)
    obtain ⟨r, hr⟩ := h x (List.mem_of_getElem? hx)
    have hs : zbz x c = some (!r) := by rw [Z5d, zkm, hr]; rfl
    rw [zi0]
    simp only [z67, z7o (by omega : i < l.length), cond_true, hx, hs, Option.bind_some]
    rw [hdr]
    cases r with
    | false => exact ⟨(i : Int), rfl, ⟨fun _ => ⟨x, by simp, hr⟩, fun _ => by omega⟩⟩
    | true =>
      obtain ⟨j, h1, h2⟩ := zxs c l h k (i + 1) (by omega)
      refine ⟨j, h1, h2.trans ⟨fun ⟨y, hy, he⟩ => ⟨y, by simp [hy], he⟩, fun ⟨y, hy, he⟩ => ?_⟩⟩
      rcases List.mem_cons.1 hy with rfl | hy
      · rw [hr] at he; cases he
      · exact ⟨y, hy, he⟩
theorem has2 (c : Typ) (l : List Typ) (h : ∀ x, x ∈ l → ∃ r, z43 x c = some r) : ∃ b, zdi l c = some b ∧ (b = true ↔ ∃ x, x ∈ l ∧ z43 x c = some false) := by
  obtain ⟨j, h1, h2⟩ := zxs c l h l.length 0 (by omega)
  rw [List.drop_zero] at h2
  refine ⟨decide (j ≥ 0), ?_, by rw [decide_eq_true_iff]; exact h2⟩
  rw [Z5u, zl5, Z5r, zl2, h1]; rfl
theorem zxr (c : Typ) (l : List Typ) (h : ∀ x, x ∈ l → ∃ r, z43 c x = some r) : ∀ k i, k + i = l.length → ∃ j : Int, zf5 zc0 l c i = some j ∧ (j ≥ 0 ↔ ∃ x, x ∈ l.drop i ∧ z43 c x = some true)
  | 0, i, hi => by
    refine ⟨-1, ?_, by rw [List.drop_of_length_le (by omega)]; simp⟩
    rw [zi1]
    simp only [z68, z7n (by omega : ¬ i < l.length), cond_false]
  | k + 1, i, hi => by
    obtain ⟨x, hx, hdr⟩ := dropc (by omega : i < l.length)
    obtain ⟨r, hr⟩ := h x (List.mem_of_getElem? hx)
    have hs : zc0 x c = some r := by rw [Z5e, zko, hr]; rfl
    rw [zi1]
    simp only [z68, z7o (by omega : i < l.length), cond_true, hx, hs, Option.bind_some]
    rw [hdr]
    cases r with
    | true => exact ⟨(i : Int), rfl, ⟨fun _ => ⟨x, by simp, hr⟩, fun _ => by omega⟩⟩
    | false =>
      obtain ⟨j, h1, h2⟩ := zxr c l h k (i + 1) (by omega)
      refine ⟨j, h1, h2.trans ⟨fun ⟨y, hy, he⟩ => ⟨y, by simp [hy], he⟩, fun ⟨y, hy, he⟩ => ?_⟩⟩
      rcases List.mem_cons.1 hy with rfl | hy
      · rw [hr] at he; cases he
      · exact ⟨y, hy, he⟩
theorem has3 (c : Typ) (l : List Typ) (h : ∀ x, x ∈ l → ∃ r, z43 c x = some r) : ∃ b, zdh l c = some b ∧ (b = true ↔ ∃ x, x ∈ l ∧ z43 c x = some true) := by
  obtain ⟨j, h1, h2⟩ := zxr c l h l.length 0 (by omega)
  rw [List.drop_zero] at h2
  refine ⟨decide (j ≥ 0), ?_, by rw [decide_eq_true_iff]; exact h2⟩
  rw [Z5t, zl4, Z5s, zl3, h1]; rfl
/-! ### where a name stands -/
theorem at_l (n : List Str) (m : Str) : ∀ k i, k + i = n.length → ∃ r, zhw n m i = some r ∧
    ((r = -1 ∧ m ∉ n.drop i) ∨ ∃ j : Nat, r = (j : Int) ∧ i ≤ j ∧ n[j]? = some m)
  | 0, i, h => by
    refine ⟨-1, ?_, .inl ⟨rfl, by rw [List.drop_of_length_le (by omega)]; simp⟩⟩
    rw [zhv]
    simp only [z74, z7n (by omega : ¬ i < n.length), cond_false]
  | k + 1, i, h => by
    obtain ⟨s, hs, hdr⟩ := dropc (by omega : i < n.length)
    rw [zhv]
    simp only [z74, z7o (by omega : i < n.length), cond_true, hs, Option.bind_some]
    cases heq : m == s with
    | true =>
      have := eq_of_beq heq; subst this
      exact ⟨_, rfl, .inr ⟨i, rfl, Nat.le_refl _, hs⟩⟩
    | false =>
      simp only [cond_false]
      obtain ⟨r, h1, h2⟩ := at_l n m k (i + 1) (by omega)
      refine ⟨r, h1, ?_⟩
      rcases h2 with ⟨h3, h4⟩ | ⟨j, h3, h4, h5⟩
      · refine .inl ⟨h3, ?_⟩
        rw [hdr]
        intro hm
        rcases List.mem_cons.1 hm with rfl | hm
        · simp at heq
        · exact h4 hm
      · exact .inr ⟨j, h3, by omega, h5⟩
theorem at_eq (n : List Str) (m : Str) : ∃ r, zr2 n m = some r ∧ ((r = -1 ∧ m ∉ n) ∨ ∃ j : Nat, r = (j : Int) ∧ n[j]? = some m) := by
  obtain ⟨r, h1, h2⟩ := at_l n m n.length 0 (by omega)
  rw [List.drop_zero] at h2
  refine ⟨r, h1, ?_⟩
  rcases h2 with h | ⟨j, h3, _, h5⟩
  · exact .inl h
  · exact .inr ⟨j, h3, h5⟩
theorem zux (n : List Str) (m : Str) : ∃ b, zr4 n m = some b ∧ (b = true ↔ m ∈ n) := by
  obtain ⟨r, h1, h2⟩ := at_eq n m
  refine ⟨decide (r ≥ 0), by simp only [zr4, h1, Option.bind_some], ?_⟩
  rw [decide_eq_true_iff]
  rcases h2 with ⟨rfl, h3⟩ | ⟨j, rfl, h3⟩
  · exact ⟨fun h => by omega, fun h => absurd h h3⟩
  · exact ⟨fun _ => List.mem_of_getElem? h3, fun _ => by omega⟩
theorem zxg (n : List Str) (t : Typ) : ∀ k i, k + i = n.length → ∃ j : Int, zhz n t i = some j ∧ (j ≥ 0 ↔ ∃ s, s ∈ n.drop i ∧ s ∉ t.names)
  | 0, i, hi => by
    refine ⟨-1, ?_, by rw [List.drop_of_length_le (by omega)]; simp⟩
    rw [zhy]
    simp only [z76, z7n (by omega : ¬ i < n.length), cond_false]
  | k + 1, i, hi => by
    obtain ⟨x, hx, hdr⟩ := dropc (by omega : i < n.length)
    obtain ⟨b, hb, hm⟩ := zux t.names x
    have hs : zqy x t = some (!b) := by simp only [zqy, hb, Option.bind_some]
    rw [zhy]
    simp only [z76, z7o (by omega : i < n.length), cond_true, hx, hs, Option.bind_some]
    rw [hdr]
    cases b with
    | false => exact ⟨(i : Int), rfl, ⟨fun _ => ⟨x, by simp, fun h => by have := hm.2 h; cases this⟩, fun _ => by omega⟩⟩
    | true =>
      obtain ⟨j, h1, h2⟩ := zxg n t k (i + 1) (by omega)
      refine ⟨j, h1, h2.trans ⟨fun ⟨y, hy, he⟩ => ⟨y, by simp [hy], he⟩, fun ⟨y, hy, he⟩ => ?_⟩⟩
      rcases List.mem_cons.1 hy with rfl | hy
      · exact absurd (hm.1 rfl) he
      · exact ⟨y, hy, he⟩
theorem zyx (n : List Str) (t : Typ) : ∃ b, zr6 n t = some b ∧ (b = true ↔ ∃ s, s ∈ n ∧ s ∉ t.names) := by
  obtain ⟨j, h1, h2⟩ := zxg n t n.length 0 (by omega)
  rw [List.drop_zero] at h2
  refine ⟨decide (j ≥ 0), ?_, by rw [decide_eq_true_iff]; exact h2⟩
  simp only [zr6, zu9, h1, Option.bind_some]
end Go.Proofs.Ytiapdjdhaclmnaa

namespace Go.Proofs.Ytiapdjdhaclmnaa
open Go Aw
set_option linter.unusedVariables false
set_option linter.unusedSimpArgs false
set_option maxRecDepth 8000
/-! ### rows of a type of dicts -/
theorem z7h {F : Type} : ∀ {W : List (Str × Bool × F)}, zww W → ∀ {s : Str} {l : Bool} {u : F}, (s, l, u) ∈ W → z49 W s = some (l, u)
  | (s', l', u') :: W, h, s, l, u, hm => by
    obtain ⟨w1, w2⟩ := List.pairwise_cons.1 h
    rcases List.mem_cons.1 hm with he | hm
    · injection he with h1 h2; injection h2 with h2 h3
      subst h1 h2 h3
      simp [z49]
    · rw [z6m (w1 _ hm)]; exact z7h w2 hm
theorem zk3 {F : Type} : ∀ {W : List (Str × Bool × F)} {m : Str} {b : Bool} {u : F}, z49 W m = some (b, u) → (m, b, u) ∈ W
  | (s, c, w) :: W, m, b, u, h => by
    rw [z49] at h
    split at h
    · rename_i he; have := eq_of_beq he; subst this
      injection h with h; injection h with h1 h2; subst h1 h2; simp
    · exact List.mem_cons_of_mem _ (zk3 h)
theorem zly {F : Type} : ∀ {W : List (Str × Bool × F)} {m : Str}, (∀ z, z ∈ W → z.1 ≠ m) → z49 W m = none
  | [], m, _ => rfl
  | (s, c, w) :: W, m, h => by
    rw [z49, if_neg (by have := h (s, c, w) (by simp); simp; exact fun e => this e.symm)]
    exact zly (fun z hz => h z (by simp [hz]))
theorem tz_at {t : Typ} (D : DT t) {j : Nat} (hj : j < t.names.length) : ∃ s l u, t.names[j]? = some s ∧ t.lacks[j]? = some l ∧ t.parts[j]? = some u ∧ (s, l, u) ∈ tz t := by
  have h1 := List.getElem?_eq_getElem hj
  have h2 := List.getElem?_eq_getElem (show j < t.lacks.length by rw [D.l]; exact hj)
  have h3 := List.getElem?_eq_getElem (show j < t.parts.length by rw [D.p]; exact hj)
  refine ⟨_, _, _, h1, h2, h3, ?_⟩
  have h4 : (tz t).drop j = _ := zld h1 h2 h3
  exact List.mem_of_mem_drop (i := j) (by rw [h4]; exact List.mem_cons_self)
theorem tz_is {t : Typ} {s : Str} {l : Bool} {u : Typ} (h : (s, l, u) ∈ tz t) : ∃ j : Nat, t.names[j]? = some s ∧ t.lacks[j]? = some l ∧ t.parts[j]? = some u := by
  obtain ⟨j, hj⟩ := List.getElem?_of_mem h
  unfold tz at hj
  rw [List.getElem?_zip_eq_some] at hj
  obtain ⟨h1, h2⟩ := hj
  rw [List.getElem?_zip_eq_some] at h2
  exact ⟨j, h1, h2.1, h2.2⟩
theorem zjc {t : Typ} {z : Tri} (h : z ∈ tz t) : z.1 ∈ t.names := (List.of_mem_zip (a := z.1) (b := z.2) h).1
theorem zgb {t : Typ} (hk : t.kind = 6) (d : List (Str × V)) : isB t (.dict d) = (z2q t.opn 0 ((tz t).map fun z => (z.1, z.2.1, isF z.2.2)) d 1).1 := by
  unfold isB
  rw [z2w]
  unfold isG
  rw [hk]
  simp only [show ¬ (6 : Int) = 1 by decide, show ¬ (6 : Int) = 3 by decide, show ¬ (6 : Int) = 4 by decide, show ¬ (6 : Int) = 8 by decide, show ¬ (6 : Int) = 7 by decide, show ¬ (6 : Int) = 5 by decide, if_false, if_true]
  rw [Z3c isF]; rfl
/-! ### the program's word on types of dicts -/
def DQ (a b : Typ) (j : Nat) : Prop := ∃ s lb ub, b.names[j]? = some s ∧ b.lacks[j]? = some lb ∧ b.parts[j]? = some ub ∧
  ((s ∉ a.names ∧ lb = true ∧ a.opn = false) ∨ ∃ ua la, (s, la, ua) ∈ tz a ∧ z43 ua ub = some true ∧ (la = true → lb = true))
theorem dd_l (a b : Typ) (A : DT a) (B : DT b) (hs : ∀ u, u ∈ a.parts → ∀ w, w ∈ b.parts → ∃ r, z43 u w = some r) : ∀ k i, k + i = b.names.length →
    ∃ r, zer z43 a b i = some r ∧ (r = true → ∀ j, i ≤ j → j < b.names.length → DQ a b j)
  | 0, i, h => by
    refine ⟨true, ?_, fun _ j h1 h2 => by omega⟩
    rw [zh9]
    simp only [z5u, z7n (by omega : ¬ i < b.names.length), cond_false]
  | k + 1, i, h => by
    obtain ⟨s, lb, ub, e1, e2, e3, _⟩ := tz_at B (by omega : i < b.names.length)
    obtain ⟨r, hr, hrest⟩ := dd_l a b A B hs k (i + 1) (by omega)
    obtain ⟨x, hx, hcase⟩ := at_eq a.names s
    have next : ∀ j, DQ a b i → (r = true → i ≤ j → j < b.names.length → DQ a b j) := fun j hq hrt hij hj => by
      rcases Nat.lt_or_ge i j with hlt | hge
      · exact hrest hrt j (by omega) hj
      · have : j = i := by omega
        subst this; exact hq
    rw [zh9]
    simp only [z5u, z7o (by omega : i < b.names.length), cond_true, e1, hx, Option.bind_some, e2, e3, zbp, z9c, zbq, hr]
    rcases hcase with ⟨rfl, hno⟩ | ⟨m, rfl, hm⟩
    · have e : decide ((-1 : Int) < 0) = true := rfl
      simp only [e, cond_true]
      cases lb with
      | false => exact ⟨false, rfl, fun h => by cases h⟩
      | true =>
        simp only [Bool.not_true, cond_false]
        cases ho : a.opn with
        | true => exact ⟨false, rfl, fun h => by cases h⟩
        | false => exact ⟨r, rfl, fun hrt j hij hj => next j ⟨s, true, ub, e1, e2, e3, .inl ⟨hno, rfl, ho⟩⟩ hrt hij hj⟩
    · have e : decide ((m : Int) < 0) = false := decide_eq_false (by omega)
      obtain ⟨s', la, ua, f1, f2, f3, f4⟩ := tz_at A (List.getElem?_eq_some_iff.1 hm).1
      rw [hm] at f1; injection f1 with f1; subst f1
      obtain ⟨q, hq⟩ := hs ua (List.mem_of_getElem? f3) ub (List.mem_of_getElem? e3)
      simp only [e, cond_false, z5k, f3, f2, Option.bind_some, hq]
      cases q with
      | false => exact ⟨false, rfl, fun h => by cases h⟩
      | true =>
        simp only [Bool.not_true, cond_false]
        cases la with
        | false => exact ⟨r, rfl, fun hrt j hij hj => next j ⟨s, lb, ub, e1, e2, e3, .inr ⟨ua, false, f4, hq, fun h => by cases h⟩⟩ hrt hij hj⟩
        | true =>
          simp only [cond_true]
          cases lb with
          | false => exact ⟨false, rfl, fun h => by cases h⟩
          | true => exact ⟨r, rfl, fun hrt j hij hj => next j ⟨s, true, ub, e1, e2, e3, .inr ⟨ua, true, f4, hq, fun _ => rfl⟩⟩ hrt hij hj⟩
theorem zvr (a b : Typ) (A : DT a) (B : DT b) (hs : ∀ u, u ∈ a.parts → ∀ w, w ∈ b.parts → ∃ r, z43 u w = some r) :
    ∃ r, zdf a b = some r ∧ (r = true → (b.opn = false → a.opn = false ∧ ∀ s, s ∈ a.names → s ∈ b.names) ∧ ∀ j, j < b.names.length → DQ a b j) := by
  obtain ⟨r, hr, hq⟩ := dd_l a b A B hs b.names.length 0 (by omega)
  rw [Z5g, zkq]
  simp only [zbr, zbo, hr]
  cases hb : b.opn with
  | true => exact ⟨r, rfl, fun h => ⟨fun h => (by cases h), fun j hj => hq h j (by omega) hj⟩⟩
  | false =>
    simp only [Bool.not_false, cond_true]
    cases ha : a.opn with
    | true => exact ⟨false, rfl, fun h => by cases h⟩
    | false =>
      obtain ⟨c, hc, hm⟩ := zyx a.names b
      simp only [cond_false, hc, Option.bind_some]
      cases c with
      | true => exact ⟨false, rfl, fun h => by cases h⟩
      | false =>
        refine ⟨r, rfl, fun h => ⟨fun _ => ⟨by simp, fun s hs => ?_⟩, fun j hj => hq h j (by omega) hj⟩⟩
        rcases Classical.em (s ∈ b.names) with h | h
        · exact h
        · have := hm.2 ⟨s, hs, h⟩; cases this
theorem zof {a b : Typ} (ha : VT a) (hb : VT b) (ka : a.kind = 6) (kb : b.kind = 6) (A : DT a) (B : DT b) (h1 : b.opn = false → a.opn = false ∧ ∀ s, s ∈ a.names → s ∈ b.names) (h2 : ∀ j, j < b.names.length → DQ a b j)
    (hs : ∀ u, u ∈ a.parts → ∀ w, w ∈ b.parts → z43 u w = some true → ∀ v, Can v → isB u v = true → isB w v = true) (d : List (Str × V)) (hd : Can (.dict d)) (hi : isB a (.dict d) = true) : isB b (.dict d) = true := by
  have sa : zww (tz a) := zfx (zgs (ha.risen ka)).1 _
  have sb : zww (tz b) := zfx (zgs (hb.risen kb)).1 _
  have sd := (zgs (zfa hd.1.own)).1
  rw [zgb ka] at hi
  rw [zgb kb]
  have hbad := zvt a.opn 0 _ (tz a) d 1 (Nat.le_refl _) sa sd hi
  have hq : ∀ s lb ub, (s, lb, ub) ∈ tz b → (s ∉ a.names ∧ lb = true ∧ a.opn = false) ∨ ∃ ua la, (s, la, ua) ∈ tz a ∧ z43 ua ub = some true ∧ (la = true → lb = true) := by
    intro s lb ub hm
    obtain ⟨j, g1, g2, g3⟩ := tz_is hm
    obtain ⟨s', lb', ub', k1, k2, k3, k4⟩ := h2 j (List.getElem?_eq_some_iff.1 g1).1
    rw [g1] at k1; rw [g2] at k2; rw [g3] at k3
    injection k1 with k1; injection k2 with k2; injection k3 with k3
    subst k1 k2 k3; exact k4
  refine zix b.opn 0 _ (tz b) d 1 (Nat.le_refl _) sb sd (fun p hp => ?_) (zls _ (tz b) _ (Nat.le_refl _) sb sd (fun z hz hl => ?_))
  · have hA := hbad.1 p hp
    cases hl : z49 (tz b) p.1 with
    | none =>
      cases ho : b.opn with
      | true => rfl
      | false =>
        obtain ⟨g1, g2⟩ := h1 ho
        cases hla : z49 (tz a) p.1 with
        | none => rw [hla] at hA; simp only [] at hA; rw [g1] at hA; cases hA
        | some q =>
          obtain ⟨la, ua⟩ := q
          have := g2 p.1 (zjc (zk3 hla))
          obtain ⟨j, hj⟩ := List.getElem?_of_mem this
          obtain ⟨s, l, u, f1, _, _, f4⟩ := tz_at B (List.getElem?_eq_some_iff.1 hj).1
          rw [hj] at f1; injection f1 with f1; subst f1
          rw [z7h sb f4] at hl; cases hl
    | some q =>
      obtain ⟨lb, ub⟩ := q
      simp only []
      have hmb := zk3 hl
      rcases hq _ _ _ hmb with ⟨g1, _, g3⟩ | ⟨ua, la, g1, g2, _⟩
      · have : z49 (tz a) p.1 = none := zly (fun z hz he => g1 (by rw [← he]; exact zjc hz))
        rw [this] at hA; simp only [] at hA; rw [g3] at hA; cases hA
      · rw [z7h sa g1] at hA
        simp only [] at hA
        exact hs ua (zcb g1) ub (zcb hmb) g2 p.2 (hd.part (List.mem_map_of_mem hp)) hA
  · obtain ⟨s, lb, ub⟩ := z
    simp only [] at hl
    subst hl
    rcases hq _ _ _ hz with ⟨_, g2, _⟩ | ⟨ua, la, g1, _, g3⟩
    · cases g2
    · have hla : la = false := by
        cases la with
        | false => rfl
        | true => have := g3 rfl; cases this
      subst hla
      have h9 := hbad.2 _ g1 rfl
      exact h9
/-! ### sound -/
theorem z9y {t : Typ} (h : t.kind = 1) (v : V) : isB t v = true := by unfold isB; rw [z2w]; unfold isG; rw [h]; rfl
theorem zs5 {t : Typ} (h : t.kind = 2) (v : V) : isB t v = false := by unfold isB; rw [z2w]; unfold isG; rw [h]; rfl
theorem z6q {t : Typ} (h : t.kind = 3) (v : V) : isB t v = (z1m v == t.of) := by unfold isB; rw [z2w]; unfold isG; rw [h]; show (plc _ _).1 = _; unfold plc; split <;> simp_all
theorem zs4 {t : Typ} (h : t.kind = 4) (v : V) : isB t v = zgt v (bu t.only) := by unfold isB; rw [z2w]; unfold isG; rw [h]; show (plc _ _).1 = _; unfold plc; split <;> simp_all
theorem z9w {t : Typ} (h : t.kind = 8) (v : V) : isB t v = zn6 t.cls v := by unfold isB; rw [z2w]; unfold isG; rw [h]; show (plc _ _).1 = _; unfold plc; split <;> simp_all
theorem z9x {t : Typ} (h : t.kind = 7) (v : V) : isB t v = zl9 (t.parts.map isF) v 0 := by unfold isB; rw [z2w]; unfold isG; rw [h]; show (plc _ _).1 = _; unfold plc; split <;> simp_all
theorem zth {v : V} {a : Int} : ∀ {l : List Typ}, zl9 (l.map isF) v a = true → ∃ u, u ∈ l ∧ isB u v = true
  | [], h => by cases h
  | x :: r, h => by
    rw [List.map_cons, zl9, zfg, Bool.or_eq_true] at h
    rcases h with h | h
    · exact ⟨x, by simp, h⟩
    · obtain ⟨u, hu, hb⟩ := zth h; exact ⟨u, by simp [hu], hb⟩
theorem zdr {t p : Typ} (h : t.kind = 5) (hp : t.parts = [p]) (l : List V) : isB t (.list l) = (z6o (isF p) l 1).1 := by unfold isB; rw [z2w]; unfold isG; rw [h, hp]; rfl
theorem zm9 {t : Typ} (h : t.kind = 5) {v : V} (hb : isB t v = true) : ∃ l, v = .list l := by
  unfold isB at hb; rw [z2w] at hb; unfold isG at hb; rw [h] at hb
  cases v <;> first | exact ⟨_, rfl⟩ | (cases hb)
theorem zff {t : Typ} (h : t.kind = 6) {v : V} (hb : isB t v = true) : ∃ l, v = .dict l := by
  unfold isB at hb; rw [z2w] at hb; unfold isG at hb; rw [h] at hb
  cases v <;> first | exact ⟨_, rfl⟩ | (cases hb)
theorem zy4 {p : Typ} : ∀ {l : List V} {n : Int}, (z6o (isF p) l n).1 = true → ∀ x, x ∈ l → isB p x = true
  | y :: r, n, h, x, hx => by
    rw [z6o, zfg] at h
    cases hy : isB p y with
    | false => rw [hy] at h; simp at h
    | true =>
      rw [hy, if_pos rfl] at h
      rcases List.mem_cons.1 hx with rfl | hx
      · exact hy
      · exact zy4 h x hx
def ztj (a b : Typ) : Prop := ∃ r, z43 a b = some r ∧ (r = true → ∀ v, Can v → isB a v = true → isB b v = true)
theorem zlf : ∀ (n : Nat) (a b : Typ), SizeOf.sizeOf a + SizeOf.sizeOf b ≤ n → VT a → VT b → bkTy a ≤ 268435456 → bkTy b ≤ 268435456 → ztj a b := by
  intro n
  induction n with
  | zero => intro a b h; have : 0 < SizeOf.sizeOf a := by cases a; simp; omega
            omega
  | succ n ih =>
    intro a b hn va vb ba bb
    have Ba := tb ba
    have Bb := tb bb
    have Ka := va.know
    have Kb := vb.know
    unfold ztj
    rw [Z5b, zkk]
    simp only [zbh]
    by_cases hb1 : b.kind = 1
    · exact ⟨true, by simp [hb1], fun _ v _ _ => z9y hb1 v⟩
    by_cases ha2 : a.kind = 2
    · exact ⟨true, by simp [hb1, ha2], fun _ v _ h => by rw [zs5 ha2] at h; cases h⟩
    by_cases ha7 : a.kind = 7
    · have hp : ∀ u, u ∈ a.parts → VT u := by cases Ka <;> first | assumption | (exfalso; omega)
      have hx : ∀ u, u ∈ a.parts → ztj u b := fun u hu => ih u b (by have := zcl hu; omega) (hp u hu) vb (Ba.parts u hu) bb
      obtain ⟨c, hc, hm⟩ := has2 b a.parts (fun u hu => let ⟨r, h, _⟩ := hx u hu; ⟨r, h⟩)
      refine ⟨!c, by simp [z1v hb1, ha7, hc], fun hr v hv hi => ?_⟩
      rw [z9x ha7] at hi
      obtain ⟨u, hu, hub⟩ := zth hi
      obtain ⟨r, h1, h2⟩ := hx u hu
      cases r with
      | true => exact h2 rfl v hv hub
      | false => have := hm.2 ⟨u, hu, h1⟩; subst this; cases hr
    by_cases hb7 : b.kind = 7
    · have hp : ∀ u, u ∈ b.parts → VT u := by cases Kb <;> first | assumption | (exfalso; omega)
      have hx : ∀ u, u ∈ b.parts → ztj a u := fun u hu => ih a u (by have := zcl hu; omega) va (hp u hu) ba (Bb.parts u hu)
      obtain ⟨c, hc, hm⟩ := has3 a b.parts (fun u hu => let ⟨r, h, _⟩ := hx u hu; ⟨r, h⟩)
      refine ⟨c, by simp [z1v ha2, z1v ha7, hb7, hc], fun hr v hv hi => ?_⟩
      obtain ⟨u, hu, h1⟩ := hm.1 hr
      obtain ⟨r, h3, h4⟩ := hx u hu
      rw [h1] at h3; injection h3 with h3
      rw [z9x hb7]
      exact zgn 0 (h4 h3.symm v hv hi) hu
    by_cases hb2 : b.kind = 2
    · exact ⟨false, by simp [z1v ha2, z1v ha7, hb2], fun h => by cases h⟩
    cases Ka with
    | none h => exact absurd h ha2
    | union h _ => exact absurd h ha7
    | any h => exact ⟨false, by simp [z1v hb1, z1v hb7, z1v hb2, h], fun h => by cases h⟩
    | only h ho =>
      have hf := z51 ho
      have hc := za7 ho
      have e : (ofF (lo a.only)).1 = bu a.only := by rw [zyz _ hf.1, ofF, if_neg (by simp [ho])]
      have hi := zx3 b vb bb (bu a.only) 0 hc (by omega) (by have := hc.2.1; omega)
      refine ⟨isB b (bu a.only), ?_, fun hr v hv hv2 => ?_⟩
      · simp only [h, z1v hb1, z1v hb7, z1v hb2, zlj a.only Ba.only, e, Option.bind_some, hi]; rfl
      · rw [zs4 h] at hv2
        simp only [zgt, Bool.and_eq_true, beq_iff_eq] at hv2
        have := zz4 b v (bu a.only) 0 0 hv hc hv2.2.2
        show (isF b v 0).1 = true
        rw [this]; exact hr
    | kind h =>
      by_cases hb3 : b.kind = 3
      · refine ⟨a.of == b.of, by simp [h, hb3], fun hr v hv hv2 => ?_⟩
        rw [z6q h] at hv2; rw [z6q hb3]
        have := eq_of_beq hr; rw [← this]; exact hv2
      · exact ⟨false, by simp [z1v hb1, z1v hb7, z1v hb2, h, z1v hb3], fun h => by cases h⟩
    | recd h =>
      by_cases hb3 : b.kind = 3
      · by_cases ho : b.of = 10
        · refine ⟨true, by simp [h, hb3, ho], fun hr v hv hv2 => ?_⟩
          rw [z9w h] at hv2; rw [z6q hb3, ho]
          cases v <;> first | rfl | (cases hv2)
        · exact ⟨false, by simp [h, hb3, z1v ho], fun h => by cases h⟩
      · by_cases hb8 : b.kind = 8
        · refine ⟨a.cls == b.cls, by simp [h, hb8], fun hr v hv hv2 => ?_⟩
          rw [z9w h] at hv2; rw [z9w hb8]
          have := eq_of_beq hr; rw [← this]; exact hv2
        · exact ⟨false, by simp [z1v hb1, z1v hb7, z1v hb2, h, z1v hb3, z1v hb8], fun h => by cases h⟩
    | list h hp =>
      obtain ⟨p, hp1, hp2⟩ := hp
      by_cases hb3 : b.kind = 3
      · by_cases ho : b.of = 8
        · refine ⟨true, by simp [h, hb3, ho], fun hr v hv hv2 => ?_⟩
          obtain ⟨l, rfl⟩ := zm9 h hv2
          rw [z6q hb3, ho]; rfl
        · exact ⟨false, by simp [h, hb3, z1v ho], fun h => by cases h⟩
      · by_cases hb5 : b.kind = 5
        · obtain ⟨q, hq1, hq2⟩ : ∃ q, b.parts = [q] ∧ VT q := by cases Kb <;> first | assumption | (exfalso; omega)
          have hpm : p ∈ a.parts := by rw [hp1]; simp
          have hqm : q ∈ b.parts := by rw [hq1]; simp
          obtain ⟨r, h1, h2⟩ := ih p q (by have := zcl hpm; have := zcl hqm; omega) hp2 hq2 (Ba.parts p hpm) (Bb.parts q hqm)
          have h11 : zdg p q = some r := by rw [Z5k, zkv, h1]; rfl
          have h1s : zno q = some q := by simp only [zno, Typ.eta]
          refine ⟨r, by simp [h, hb5, hp1, hq1, h11, h1s], fun hr v hv hv2 => ?_⟩
          obtain ⟨l, rfl⟩ := zm9 h hv2
          rw [zdr h hp1] at hv2; rw [zdr hb5 hq1]
          exact zg8 _ (fun x hx => h2 hr x (hv.part hx) (zy4 hv2 x hx))
        · exact ⟨false, by simp [z1v hb1, z1v hb7, z1v hb2, h, z1v hb3, z1v hb5], fun h => by cases h⟩
    | dict h hn1 hn2 hn3 hp =>
      by_cases hb3 : b.kind = 3
      · by_cases ho : b.of = 9
        · refine ⟨true, by simp [h, hb3, ho], fun hr v hv hv2 => ?_⟩
          obtain ⟨l, rfl⟩ := zff h hv2
          rw [z6q hb3, ho]; rfl
        · exact ⟨false, by simp [h, hb3, z1v ho], fun h => by cases h⟩
      · by_cases hb6 : b.kind = 6
        · have D : DT a := ⟨hn1, hn2, hn3⟩
          obtain ⟨E, hq⟩ : DT b ∧ ∀ u, u ∈ b.parts → VT u := by
            cases Kb with
            | dict _ x1 x2 x3 x4 => exact ⟨⟨x1, x2, x3⟩, x4⟩
            | _ => exfalso; omega
          have hx : ∀ u, u ∈ a.parts → ∀ w, w ∈ b.parts → ztj u w := fun u hu w hw => ih u w (by have := zcl hu; have := zcl hw; omega) (hp u hu) (hq w hw) (Ba.parts u hu) (Bb.parts w hw)
          obtain ⟨r, h1, h2⟩ := zvr a b D E (fun u hu w hw => let ⟨r, h, _⟩ := hx u hu w hw; ⟨r, h⟩)
          refine ⟨r, by simp [h, hb6, h1, Typ.eta], fun hr v hv hv2 => ?_⟩
          obtain ⟨l, rfl⟩ := zff h hv2
          refine zof va vb h hb6 D E (h2 hr).1 (h2 hr).2 (fun u hu w hw hsub => ?_) l hv hv2
          obtain ⟨r', h3, h4⟩ := hx u hu w hw
          rw [hsub] at h3; injection h3 with h3
          exact h4 h3.symm
        · exact ⟨false, by simp [z1v hb1, z1v hb7, z1v hb2, h, z1v hb3, z1v hb6], fun h => by cases h⟩
end Go.Proofs.Ytiapdjdhaclmnaa

namespace Go.Proofs.Ytiapdjdhaclmnaa
open Go Aw
set_option linter.unusedVariables false
set_option linter.unusedSimpArgs false
set_option maxRecDepth 8000
abbrev T00 : Term := Term.mk 0 false 0 0 [] [] 0 [] [] [] 0
theorem Z2w (x : V) : Fine x → bu (cl x) = x := by
  induction x using V.byParts with
  | _ x ih =>
  intro hx
  have hp := hx.own.2
  have hn := hx.own.1
  have hm : ∀ l : List V, (∀ u, u ∈ l → bu (cl u) = u) → (l.map cl).map bu = l := fun l h => by
    rw [List.map_map]
    conv => rhs; rw [← List.map_id l]
    exact List.map_congr_left fun u hu => h u hu
  have hd : ∀ l : List (Str × V), (∀ u, u ∈ l → bu (cl u.2) = u.2) → (l.map clE).map buE = l := fun l h => by
    rw [List.map_map]
    conv => rhs; rw [← List.map_id l]
    exact List.map_congr_left fun u hu => by obtain ⟨s, x⟩ := u; exact congrArg (Prod.mk s) (h _ hu)
  cases x with
  | nothing => simp [z3e] at hn
  | alien t => simp [z3e] at hn
  | list l => rw [cl, zgg, bu, zch, hm l (fun u hu => ih u hu (hp u hu))]; rfl
  | dict l => rw [cl, z93, bu, za8, hd l (fun u hu => ih u.2 (List.mem_map_of_mem hu) (hp _ (List.mem_map_of_mem hu)))]; rfl
  | record c v l => rw [cl, z93, bu, za8, hd l (fun u hu => ih u.2 (List.mem_map_of_mem hu) (hp _ (List.mem_map_of_mem hu)))]; rfl
  | _ => rw [cl, bu]; rfl
theorem zt7 : ∀ {l : List Term}, (∀ u, u ∈ l → bkT (cl (bu u)) ≤ bkT u) → ze0 ((l.map bu).map cl) ≤ ze0 l
  | [], _ => Nat.le_refl _
  | x :: r, h => by
    have h1 := h x (by simp)
    have h2 := zt7 (l := r) (fun u hu => h u (by simp [hu]))
    simp only [List.map_cons, ze0] at h2 ⊢
    omega
theorem zt8 : ∀ {l : List (Str × Term)}, (∀ u, u ∈ l → bkT (cl (bu u.2)) ≤ bkT u.2) → bkEs ((l.map buE).map clE) ≤ bkEs l
  | [], _ => Nat.le_refl _
  | (s, x) :: r, h => by
    have h1 := h (s, x) (by simp)
    have h2 := zt8 (l := r) (fun u hu => h u (by simp [hu]))
    simp only [List.map_cons, bkEs, buE, clE] at h1 h2 ⊢
    omega
theorem Z5z (t : Term) : bkT (cl (bu t)) ≤ bkT t := by
  induction t using Term.byParts with
  | _ t ih =>
  have hb := Z3a t
  have h0 := zaa t
  have hl : t.kind = 8 → ze0 ((t.list.map bu).map cl) ≤ ze0 t.list := fun hk => zt7 fun u hu => ih u (by unfold z3v; rw [if_pos hk]; exact hu)
  have hd : (t.kind = 9 ∨ t.kind = 10) → bkEs ((t.fields.map buE).map clE) ≤ bkEs t.fields := fun hk => zt8 fun u hu => ih u.2 (by unfold z3v; rw [if_neg (by omega), if_pos hk]; exact List.mem_map_of_mem hu)
  generalize bu t = y at hb
  cases hb with
  | list hk => have := hl hk; rw [cl, zgg]; simp only [bkT, List.length_nil, bkEs]; omega
  | dict hk => have := hd (.inl hk); rw [cl, z93]; simp only [bkT, List.length_nil, ze0]; omega
  | record hk => have := hd (.inr hk); rw [cl, z93]; simp only [bkT, List.length_nil, ze0]; omega
  | _ hk => rw [cl]; simp only [bkT, List.length_nil, ze0, bkEs]; omega
/-! ### clean -/
noncomputable def clT (t : Typ) : Typ := (z8t t).getD t
structure ClOk (t : Typ) : Prop where
  run : z8t t = some (clT t)
  fit : ∀ left d, za3 (clT t) left d = za3 t left d
  is : ∀ v a, isF (clT t) v a = isF t v a
  bk : bkTy (clT t) ≤ bkTy t
theorem zgf {t c : Typ} (h : z8t t = some c) (h1 : ∀ left d, za3 c left d = za3 t left d) (h2 : ∀ v a, isF c v a = isF t v a) (h3 : bkTy c ≤ bkTy t) : ClOk t := by
  have e : clT t = c := by unfold clT; rw [h]; rfl
  exact ⟨by rw [e]; exact h, by rw [e]; exact h1, by rw [e]; exact h2, by rw [e]; exact h3⟩
theorem Z6x (t : Typ) (hl : ∀ u, u ∈ t.parts → z8t u = some (clT u)) (hb : t.parts.length ≤ 268435456) (s1 s2 : Int) (s3 : Bool) (s4 : Int) (s5 : Nat) (s6 s7 : Str) (s8 : Int) (s9 : List Term) (s10 : List (Str × Term)) (s11 : Str) (s12 : Int) (s13 : List Str) (s14 : List Bool) (s15 : Bool) (s16 : Str) :
    ∀ k i, k + i = t.parts.length → zet z8t t s1 s2 s3 s4 s5 s6 s7 s8 s9 s10 s11 s12 s13 s14 s15 s16 i ((t.parts.take i).map clT) = z7t t s1 s2 s3 s4 s5 s6 s7 s8 s9 s10 s11 s12 s13 s14 s15 s16 (t.parts.map clT)
  | 0, i, h => by
    rw [zhd]
    simp only [z5w, z7n (by omega : ¬ i < t.parts.length), cond_false]
    rw [List.take_of_length_le (by omega)]
  | k + 1, i, h => by
    obtain ⟨x, hx, _⟩ := dropc (by omega : i < t.parts.length)
    rw [zhd]
    simp only [z5w, z7o (by omega : i < t.parts.length), cond_true, hx, Option.bind_some, Typ.eta, hl x (List.mem_of_getElem? hx), zto (b := 264) (by omega) (show ((t.parts.take i).map clT).length ≤ 1073741824 by simp; omega)]
    rw [show (t.parts.take i).map clT ++ [clT x] = (t.parts.take (i + 1)).map clT from z4m (f := clT) hx]
    exact Z6x t hl hb s1 s2 s3 s4 s5 s6 s7 s8 s9 s10 s11 s12 s13 s14 s15 s16 k (i + 1) (by omega)
theorem Z5y (t : Typ) (hl : ∀ u, u ∈ t.parts → z8t u = some (clT u)) (hb : t.parts.length ≤ 268435456) (s1 s2 : Int) (s3 : Bool) (s4 : Int) (s5 : Nat) (s6 s7 : Str) (s8 : Int) (s9 : List Term) (s10 : List (Str × Term)) (s11 : Str) (s12 : Int) (s13 : List Str) (s14 : List Bool) (s15 : Bool) (s16 : Str) :
    z5h z8t t s1 s2 s3 s4 s5 s6 s7 s8 s9 s10 s11 s12 s13 s14 s15 s16 = z7t t s1 s2 s3 s4 s5 s6 s7 s8 s9 s10 s11 s12 s13 s14 s15 s16 (if t.kind = 5 ∨ t.kind = 6 ∨ t.kind = 7 then t.parts.map clT else []) := by
  have h := Z6x t hl hb s1 s2 s3 s4 s5 s6 s7 s8 s9 s10 s11 s12 s13 s14 s15 s16 t.parts.length 0 (by omega)
  rw [List.take_zero, List.map_nil] at h
  unfold z5h z8r
  by_cases h5 : t.kind = 5
  · rw [zbf h5, cond_true, cond_true, if_pos (.inl h5), h]
  · rw [z1v h5, cond_false]
    by_cases h6 : t.kind = 6
    · rw [zbf h6, cond_true, cond_true, if_pos (.inr (.inl h6)), h]
    · rw [z1v h6, cond_false]
      by_cases h7 : t.kind = 7
      · rw [zbf h7, cond_true, if_pos (.inr (.inr h7)), h]
      · rw [z1v h7, cond_false, if_neg (by omega)]
theorem zgd {d : Int} : ∀ {l : List Typ}, (∀ u, u ∈ l → ∀ left d, za3 (clT u) left d = za3 u left d) → ∀ left, fitsF (l.map clT) left d = fitsF l left d
  | [], _, left => rfl
  | x :: r, h, left => by
    rw [List.map_cons, z6u, z6u, h x (by simp)]
    rw [zgd (l := r) (fun u hu => h u (by simp [hu]))]
theorem zsf {c t : Typ} (hl : z2v c = z2v t) (hv : zc3 c = zc3 t) (hp : z2v t = false → zc3 t = true → ∀ left d, fitsF c.parts left d = fitsF t.parts left d) (left d : Int) : za3 c left d = za3 t left d := by
  rw [z59, z59, hl, hv]
  cases h1 : z2v t with
  | true => rfl
  | false =>
    cases h2 : zc3 t with
    | false => rfl
    | true => rw [hp h1 h2]
theorem zci : ∀ {l : List Typ}, (∀ u, u ∈ l → bkTy (clT u) ≤ bkTy u) → bkTys (l.map clT) ≤ bkTys l
  | [], _ => Nat.le_refl _
  | x :: r, h => by
    have h1 := h x (by simp)
    have h2 := zci (l := r) (fun u hu => h u (by simp [hu]))
    simp only [List.map_cons, bkTys] at h2 ⊢
    omega
theorem Z2y (t : Term) : bkT T00 ≤ bkT t := by
  have := zaa t
  simp only [T00, bkT, List.length_nil, ze0, bkEs]; omega
theorem tkK {k o : Int} {y : Term} {p : List Typ} {n : List Str} {l : List Bool} {q : Bool} {c : Str} : (Typ.mk k o y p n l q c).kind = k := rfl
theorem tkO {k o : Int} {y : Term} {p : List Typ} {n : List Str} {l : List Bool} {q : Bool} {c : Str} : (Typ.mk k o y p n l q c).of = o := rfl
theorem tkY {k o : Int} {y : Term} {p : List Typ} {n : List Str} {l : List Bool} {q : Bool} {c : Str} : (Typ.mk k o y p n l q c).only = y := rfl
theorem tkP {k o : Int} {y : Term} {p : List Typ} {n : List Str} {l : List Bool} {q : Bool} {c : Str} : (Typ.mk k o y p n l q c).parts = p := rfl
theorem tkN {k o : Int} {y : Term} {p : List Typ} {n : List Str} {l : List Bool} {q : Bool} {c : Str} : (Typ.mk k o y p n l q c).names = n := rfl
theorem tkL {k o : Int} {y : Term} {p : List Typ} {n : List Str} {l : List Bool} {q : Bool} {c : Str} : (Typ.mk k o y p n l q c).lacks = l := rfl
theorem tkQ {k o : Int} {y : Term} {p : List Typ} {n : List Str} {l : List Bool} {q : Bool} {c : Str} : (Typ.mk k o y p n l q c).opn = q := rfl
theorem tkC {k o : Int} {y : Term} {p : List Typ} {n : List Str} {l : List Bool} {q : Bool} {c : Str} : (Typ.mk k o y p n l q c).cls = c := rfl
theorem zmm (t : Typ) : VT t → bkTy t ≤ 268435456 → ClOk t := by
  induction t using Typ.byParts with
  | _ t ih =>
  intro hv hb
  have B := tb hb
  have h00 := Z2y t.only
  have hbk := zgm t
  have hP : (∀ u, u ∈ t.parts → VT u) → (∀ u, u ∈ t.parts → ClOk u) := fun h u hu => ih u hu (h u hu) (B.parts u hu)
  -- kinds without parts
  have leaf : ∀ {k o : Int} {y : Term} {c : Str}, t.kind = k → ¬ (t.kind = 5 ∨ t.kind = 6 ∨ t.kind = 7) → z8t t = some (Typ.mk k o y [] [] [] false c) → z2v (Typ.mk k o y [] [] [] false c) = z2v t → z2v t = true →
      (∀ v a, isF (Typ.mk k o y [] [] [] false c) v a = isF t v a) → bkT y ≤ bkT t.only → c.length ≤ t.cls.length → ClOk t := fun ek hk hr hl ht hi hy hc => by
    refine zgf hr (fun left d => ?_) hi (by simp only [bkTy, bkTys, List.map_nil, List.sum_nil, List.length_nil]; omega)
    rw [z59, z59, hl, ht]; rfl
  have noP : ¬ (t.kind = 5 ∨ t.kind = 6 ∨ t.kind = 7) → ∀ (s1 s2 : Int) (s3 : Bool) (s4 : Int) (s5 : Nat) (s6 s7 : Str) (s8 : Int) (s9 : List Term) (s10 : List (Str × Term)) (s11 : Str) (s12 : Int) (s13 : List Str) (s14 : List Bool) (s15 : Bool) (s16 : Str),
      z5h z8t t s1 s2 s3 s4 s5 s6 s7 s8 s9 s10 s11 s12 s13 s14 s15 s16 = some (Typ.mk t.kind s1 (Term.mk s2 s3 s4 s5 s6 s7 s8 s9 s10 s11 s12) [] s13 s14 s15 s16) := fun hk s1 s2 s3 s4 s5 s6 s7 s8 s9 s10 s11 s12 s13 s14 s15 s16 => by
    unfold z5h z8r z7t
    rw [z1v (fun h => hk (.inl h)), z1v (fun h => hk (.inr (.inl h))), z1v (fun h => hk (.inr (.inr h)))]
    rfl
  have run := Z2o t
  rw [zks] at run
  rcases hv.know with hk | hk | hk | ⟨hk, ho⟩ | ⟨hk, p, hp, hvp⟩ | ⟨hk, n1, n2, n3, hp⟩ | ⟨hk, hp⟩ | hk
  · refine leaf (k := 1) (o := 0) (y := T00) (c := []) hk (by omega) ?_ ?_ ?_ (fun v a => ?_) h00 (Nat.zero_le _)
    · rw [run, z1v (by omega), cond_false, z1v (by omega), cond_false, z1v (by omega), cond_false, z1v (by omega), cond_false, noP (by omega), hk]
    · simp [z2v, tkK, hk]
    · simp [z2v, hk]
    · rw [z2w, z2w, hk]; simp only [tkK, tkO, tkY, tkP, tkN, tkL, tkQ, tkC]; unfold isG; rfl
  · refine leaf (k := 2) (o := 0) (y := T00) (c := []) hk (by omega) ?_ ?_ ?_ (fun v a => ?_) h00 (Nat.zero_le _)
    · rw [run, z1v (by omega), cond_false, z1v (by omega), cond_false, z1v (by omega), cond_false, z1v (by omega), cond_false, noP (by omega), hk]
    · simp [z2v, tkK, hk]
    · simp [z2v, hk]
    · rw [z2w, z2w, hk]; simp only [tkK, tkO, tkY, tkP, tkN, tkL, tkQ, tkC]; unfold isG; rfl
  · have ht : z2v t = true := by
      rcases hv.cases with h | ⟨_, h, _⟩
      · exact h
      · simp [zc3, hk] at h
    have hl : z2v (Typ.mk 3 t.of T00 [] [] [] false []) = z2v t := by
      simp only [z2v, tkK, tkO, tkY, tkP, tkN, tkL, tkQ, tkC, hk]; rfl
    refine leaf (k := 3) (o := t.of) (y := T00) (c := []) hk (by omega) ?_ hl ht (fun v a => ?_) h00 (Nat.zero_le _)
    · rw [run, zbf hk, cond_true, noP (by omega), hk]
    · rw [z2w, z2w, hk]; simp only [tkK, tkO, tkY, tkP, tkN, tkL, tkQ, tkC]; unfold isG; rfl
  · have hf := (z51 ho).1
    have hbc := Z2w _ hf
    have ht : z2v t = true := by
      rcases hv.cases with h | ⟨_, h, _⟩
      · exact h
      · simp [zc3, hk] at h
    have hl : z2v (Typ.mk 4 0 (cl (bu t.only)) [] [] [] false []) = z2v t := by
      simp [z2v, tkK, tkO, tkY, tkP, tkN, tkL, tkQ, tkC, hk, hbc]
    refine leaf (k := 4) (o := 0) (y := cl (bu t.only)) (c := []) hk (by omega) ?_ hl ht (fun v a => ?_) (Z5z _) (Nat.zero_le _)
    · have hof : ze3 t.only = some (bu t.only, 0) := by
        rw [zlj t.only B.only]
        unfold ofF
        rw [zm0, if_neg (by rw [ho]; simp), zyz _ hf]
      have hpl : zqv (bu t.only) = some (cl (bu t.only), 0) := by
        simp only [zqv, zll, (z51 ho).2, Option.bind_some, Z16 _ hf]; rfl
      rw [run, z1v (by omega), cond_false, zbf hk, cond_true]
      have et : Term.mk t.only.kind t.only.bool t.only.int t.only.float t.only.text t.only.bytes t.only.ref t.only.list t.only.fields t.only.cls t.only.ver = t.only := by cases t.only; rfl
      simp only [et, hof, Option.bind_some, hpl, noP (show ¬ (t.kind = 5 ∨ t.kind = 6 ∨ t.kind = 7) by omega), hk]
      congr 2
      cases cl (bu t.only); rfl
    · rw [z2w, z2w, hk]; simp only [tkK, tkO, tkY, tkP, tkN, tkL, tkQ, tkC]; unfold isG; rw [hbc]; rfl
  · have hC := hP (fun u hu => by rw [hp] at hu; simp at hu; subst hu; exact hvp)
    have hj := Z5y t (fun u hu => (hC u hu).run) B.np
    refine zgf (c := Typ.mk 5 0 T00 (t.parts.map clT) [] [] false []) ?_ (zsf ?_ ?_ ?_) (fun v a => ?_) ?_
    · rw [run, z1v (by omega), cond_false, z1v (by omega), cond_false, z1v (by omega), cond_false, z1v (by omega), cond_false, hj, if_pos (.inl hk)]; unfold z7t; rw [hk]
    · simp only [z2v, tkK, tkO, tkY, tkP, tkN, tkL, tkQ, tkC, hk]; rfl
    · simp [zc3, tkK, tkO, tkY, tkP, tkN, tkL, tkQ, tkC, hk]
    · intro _ _ left d; exact zgd (fun u hu => (hC u hu).fit) left
    · rw [z2w, z2w, hk]; simp only [tkK, tkO, tkY, tkP, tkN, tkL, tkQ, tkC]; unfold isG
      rw [List.map_map, List.map_congr_left (g := isF) (fun u hu => by funext v a; exact (hC u hu).is v a)]
      rfl
    · have := zci (fun u hu => (hC u hu).bk)
      simp only [bkTy, List.map_nil, List.sum_nil, List.length_nil]; omega
  · have hC := hP hp
    have hj := Z5y t (fun u hu => (hC u hu).run) B.np
    refine zgf (c := Typ.mk 6 0 T00 (t.parts.map clT) t.names t.lacks t.opn []) ?_ (zsf ?_ ?_ ?_) (fun v a => ?_) ?_
    · have hn : zr3 t.names = some t.names := by
        unfold zr3; rw [Z02 (by omega) (by have := B.nn; omega)]; rfl
      have hlk : zr1 t.lacks = some t.lacks := by
        unfold zr1; rw [Z02 (by omega) (by have := B.nl; omega)]; rfl
      rw [run, z1v (by omega), cond_false, z1v (by omega), cond_false, z1v (by omega), cond_false, zbf hk, cond_true, hn, Option.bind_some, hlk, Option.bind_some, hj, if_pos (.inr (.inl hk))]; unfold z7t; rw [hk]
    · simp only [z2v, tkK, tkO, tkY, tkP, tkN, tkL, tkQ, tkC, hk]; rfl
    · simp only [zc3, tkK, tkO, tkY, tkP, tkN, tkL, tkQ, tkC, hk, List.length_map]; rfl
    · intro _ _ left d; exact zgd (fun u hu => (hC u hu).fit) left
    · rw [z2w, z2w, hk]; simp only [tkK, tkO, tkY, tkP, tkN, tkL, tkQ, tkC]; unfold isG
      rw [List.map_map, List.map_congr_left (g := isF) (fun u hu => by funext v a; exact (hC u hu).is v a)]
      rfl
    · have := zci (fun u hu => (hC u hu).bk)
      simp only [bkTy, List.length_nil]; omega
  · have hC := hP hp
    have hj := Z5y t (fun u hu => (hC u hu).run) B.np
    refine zgf (c := Typ.mk 7 0 T00 (t.parts.map clT) [] [] false []) ?_ (zsf ?_ ?_ ?_) (fun v a => ?_) ?_
    · rw [run, z1v (by omega), cond_false, z1v (by omega), cond_false, z1v (by omega), cond_false, z1v (by omega), cond_false, hj, if_pos (.inr (.inr hk))]; unfold z7t; rw [hk]
    · simp only [z2v, tkK, tkO, tkY, tkP, tkN, tkL, tkQ, tkC, hk]; rfl
    · simp [zc3, tkK, tkO, tkY, tkP, tkN, tkL, tkQ, tkC, hk]
    · intro _ _ left d; exact zgd (fun u hu => (hC u hu).fit) left
    · rw [z2w, z2w, hk]; simp only [tkK, tkO, tkY, tkP, tkN, tkL, tkQ, tkC]; unfold isG
      rw [List.map_map, List.map_congr_left (g := isF) (fun u hu => by funext v a; exact (hC u hu).is v a)]
      rfl
    · have := zci (fun u hu => (hC u hu).bk)
      simp only [bkTy, List.map_nil, List.sum_nil, List.length_nil]; omega
  · have ht : z2v t = true := by
      rcases hv.cases with h | ⟨_, h, _⟩
      · exact h
      · simp [zc3, hk] at h
    have hl : z2v (Typ.mk 8 0 T00 [] [] [] false t.cls) = z2v t := by
      simp only [z2v, tkK, tkO, tkY, tkP, tkN, tkL, tkQ, tkC, hk]; rfl
    refine leaf (k := 8) (o := 0) (y := T00) (c := t.cls) hk (by omega) ?_ hl ht (fun v a => ?_) h00 (Nat.le_refl _)
    · rw [run, z1v (by omega), cond_false, z1v (by omega), cond_false, zbf hk, cond_true, noP (by omega), hk]
    · rw [z2w, z2w, hk]; simp only [tkK, tkO, tkY, tkP, tkN, tkL, tkQ, tkC]; unfold isG; rfl
end Go.Proofs.Ytiapdjdhaclmnaa

namespace Go.Proofs.Ytiapdjdhaclmnaa
open Go Aw
set_option linter.unusedVariables false
set_option linter.unusedSimpArgs false
set_option maxRecDepth 8000
abbrev Z35 : Typ := Typ.mk 1 0 T00 [] [] [] false []
theorem zzn : bkT T00 = 12 := by simp [T00, bkT, ze0, bkEs]
theorem zdx : ∀ (a b : List Typ), bkTys (a ++ b) = bkTys a + bkTys b
  | [], b => by simp [bkTys]
  | x :: r, b => by simp only [List.cons_append, bkTys, zdx r b]; omega
theorem zdz : z24 Z35 = true := by
  unfold z24; rw [z59]
  rw [if_neg (by omega), if_pos (by simp [z2v, tkK])]
theorem zt9 : bkTy Z35 = 20 := by simp only [bkTy, zzn, bkTys, List.map_nil, List.sum_nil, List.length_nil]; rfl
/-! ### either -/
def z8k (t : Typ) : List Typ := if t.kind = 7 then t.parts else [t]
theorem zyo (t : Typ) : znv t = some (z8k t) := by
  unfold znv z8k
  by_cases h : t.kind = 7
  · rw [zbf h, cond_true, if_pos h]
  · rw [z1v h, cond_false, if_neg h]
theorem zsx (x y : List Typ) (h1 : 1 ≤ x.length + y.length) (h2 : x.length + y.length ≤ 536870912) : zr5 [x, y] = some (x ++ y) := by
  have l2 : zhx [x, y] ([] : List Typ) 0 = some (x ++ y) := by
    rw [zd7]
    simp only [z75]
    rw [show decide (((0 : Nat) : Int) < ((([x, y] : List (List Typ)).length : Nat) : Int)) = true from rfl, cond_true, show ([x, y] : List (List Typ))[0]? = some x from rfl, Option.bind_some, Z02 (by omega) (by omega), Option.bind_some, zd7]
    simp only [z75]
    have ha : zad 264 x y = some (x ++ y) := by unfold zad; rw [Nat.ble_eq_true_of_le (by omega)]; rfl
    rw [show decide (((0 + 1 : Nat) : Int) < ((([x, y] : List (List Typ)).length : Nat) : Int)) = true from rfl, cond_true, show ([x, y] : List (List Typ))[0 + 1]? = some y from rfl, Option.bind_some, ha, Option.bind_some, zd7]
    rfl
  unfold zr5
  rw [zd8]
  simp only [z66]
  have w1 : IntKind.i64.wrap (0 + ((x.length : Nat) : Int)) = ((x.length : Nat) : Int) := by rw [z4d (by omega) (by omega)]; omega
  have w2 : IntKind.i64.wrap (((x.length : Nat) : Int) + ((y.length : Nat) : Int)) = ((x.length + y.length : Nat) : Int) := by rw [z4d (by omega) (by omega)]; omega
  rw [show decide (((0 : Nat) : Int) < ((([x, y] : List (List Typ)).length : Nat) : Int)) = true from rfl, cond_true, show ([x, y] : List (List Typ))[0]? = some x from rfl, Option.bind_some, w1, decide_eq_false (by omega : ¬ (((x.length : Nat) : Int) < 0)), cond_false, zd8]
  simp only [z66]
  rw [show decide (((0 + 1 : Nat) : Int) < ((([x, y] : List (List Typ)).length : Nat) : Int)) = true from rfl, cond_true, show ([x, y] : List (List Typ))[0 + 1]? = some y from rfl, Option.bind_some, w2, decide_eq_false (by omega : ¬ (((x.length + y.length : Nat) : Int) < 0)), cond_false, zd8]
  simp only [z66]
  have hg : zse ((x.length + y.length : Nat) : Int) = some (x.length + y.length) := by
    unfold zse; rw [decide_eq_true (by omega : (1 : Int) ≤ ((x.length + y.length : Nat) : Int)), decide_eq_true (by omega : ((x.length + y.length : Nat) : Int) ≤ 1099511627)]; rfl
  rw [show decide (((0 + 1 + 1 : Nat) : Int) < ((([x, y] : List (List Typ)).length : Nat) : Int)) = false from rfl, cond_false, hg, Option.bind_some, l2]
theorem zub {t : Typ} (h : VT t) : 1 ≤ (z8k t).length := by
  unfold z8k
  by_cases hk : t.kind = 7
  · rw [if_pos hk]
    rcases h.cases with h | ⟨_, h, _⟩
    · simp [z2v, hk] at h
    · simp [zc3, hk] at h; omega
  · rw [if_neg hk]; simp
theorem zra (t : Typ) : bkTys (z8k t) ≤ bkTy t := by
  unfold z8k
  have := zgm t
  by_cases hk : t.kind = 7
  · rw [if_pos hk]; omega
  · rw [if_neg hk]; simp only [bkTys]; omega
theorem zr9 {t : Typ} {v : V} (h : isB t v = true) : ∃ u, u ∈ z8k t ∧ isB u v = true := by
  unfold z8k
  by_cases hk : t.kind = 7
  · rw [if_pos hk]; rw [z9x hk] at h; exact zth h
  · rw [if_neg hk]; exact ⟨t, by simp, h⟩
theorem ziu {a b : Typ} (va : z24 a = true) (vb : z24 b = true) (ha : bkTy a ≤ 134217700) (hb : bkTy b ≤ 134217700) :
    ∃ u ok, znr a b = some (u, ok) ∧ (ok = true → z24 u = true) ∧ (∀ v, Can v → isB a v = true ∨ isB b v = true → isB u v = true) ∧ bkTy u ≤ bkTy a + bkTy b + 30 := by
  obtain ⟨r1, h1, s1⟩ := zlf _ a b (Nat.le_refl _) (z3z va) (z3z vb) (by omega) (by omega)
  obtain ⟨r2, h2, s2⟩ := zlf _ b a (Nat.le_refl _) (z3z vb) (z3z va) (by omega) (by omega)
  unfold znr
  simp only [Typ.eta, h1, h2, Option.bind_some]
  cases r1 with
  | true => exact ⟨b, true, rfl, fun _ => vb, fun v hv h => h.elim (s1 rfl v hv) (fun h => h), by omega⟩
  | false =>
    cases r2 with
    | true => exact ⟨a, true, rfl, fun _ => va, fun v hv h => h.elim (fun h => h) (s2 rfl v hv), by omega⟩
    | false =>
      have la := za9 (z8k a)
      have lb := za9 (z8k b)
      have ba := zra a
      have bb := zra b
      have na := zub (z3z va)
      have hU : bkTy (Typ.mk 7 0 T00 (z8k a ++ z8k b) [] [] false []) ≤ bkTy a + bkTy b + 30 := by
        simp only [bkTy, zzn, zdx, List.map_nil, List.sum_nil, List.length_nil]; omega
      simp only [cond_false, zyo, Option.bind_some, zsx (z8k a) (z8k b) (by omega) (by omega), zd0 (Typ.mk 7 0 T00 (z8k a ++ z8k b) [] [] false []) (by omega)]
      refine ⟨_, _, rfl, fun h => h, fun v hv h => ?_, hU⟩
      rw [z9x rfl]
      rcases h with h | h
      · obtain ⟨u, hu, hi⟩ := zr9 h
        exact zgn 0 hi (List.mem_append_left _ hu)
      · obtain ⟨u, hu, hi⟩ := zr9 h
        exact zgn 0 hi (List.mem_append_right _ hu)
theorem zm6 (t : Typ) (h : bkTy t ≤ 268435456) : znp t = some (if z24 t then t else Z35) := by
  unfold znp
  simp only [Typ.eta, zd0 t h, Option.bind_some]
  cases z24 t <;> rfl
/-! ### a value's type -/
structure TyOk (v : V) (t : Typ) : Prop where
  run : zi6 v = some t
  valid : z24 t = true
  is : isB t v = true
  bk : (bkTy t : Int) ≤ 400 * cnt v - 100
noncomputable def tyL (v : V) (i : Nat) (T : Typ) : Option Typ :=
  zev zi6 v i T.kind T.of T.only.kind T.only.bool T.only.int T.only.float T.only.text T.only.bytes T.only.ref T.only.list T.only.fields T.only.cls T.only.ver T.parts T.names T.lacks T.opn T.cls
theorem Z6r (T : Typ) : Typ.mk T.kind T.of (Term.mk T.only.kind T.only.bool T.only.int T.only.float T.only.text T.only.bytes T.only.ref T.only.list T.only.fields T.only.cls T.only.ver) T.parts T.names T.lacks T.opn T.cls = T := by
  cases T with | mk k o y p n l q c => cases y; rfl
theorem zcf : ∀ (a b : List V), cntL (a ++ b) = cntL a + cntL b
  | [], b => by simp [cntL]
  | x :: r, b => by simp only [List.cons_append, cntL, zcf r b]; omega
theorem zsz (l : List V) (i : Nat) : cntL (l.take i) ≤ cntL l := by
  have h := zcf (l.take i) (l.drop i)
  rw [List.take_append_drop] at h
  have := z7i (l.drop i)
  omega
theorem tl_l (l : List V) (hl : ∀ x, x ∈ l → ∃ t, TyOk x t) (hc : ∀ x, x ∈ l → Can x) (hcn : cntL l ≤ 16384) : ∀ k i T, k + i = l.length → z24 T = true → (∀ x, x ∈ l.take i → isB T x = true) → (bkTy T : Int) ≤ 400 * cntL (l.take i) + 100 →
    ∃ t, tyL (.list l) i T = some t ∧ z24 t = true ∧ isB t (.list l) = true ∧ (bkTy t : Int) ≤ 400 * cntL l + 300
  | 0, i, T, h, hv, hi, hb => by
    rw [List.take_of_length_le (by omega)] at hi hb
    unfold tyL
    rw [zhf]
    simp only [z5y, V.asList, z7n (by omega : ¬ i < l.length), cond_false, Z6r]
    have hU : bkTy (Typ.mk 5 0 T00 [T] [] [] false []) = bkTy T + 20 := by simp only [bkTy, zzn, bkTys, List.map_nil, List.sum_nil, List.length_nil]; omega
    rw [zm6 (Typ.mk 5 0 T00 [T] [] [] false []) (by omega), Option.bind_some]
    cases hvu : z24 (Typ.mk 5 0 T00 [T] [] [] false []) with
    | true => exact ⟨_, rfl, hvu, by rw [zdr rfl rfl]; exact zg8 1 hi, by rw [if_pos rfl, hU]; omega⟩
    | false =>
      have := z7i l
      exact ⟨_, rfl, zdz, z9y rfl _, by rw [if_neg (by simp), zt9]; omega⟩
  | k + 1, i, T, h, hv, hi, hb => by
    obtain ⟨x, hx, _⟩ := dropc (by omega : i < l.length)
    have hxm := List.mem_of_getElem? hx
    obtain ⟨t, ht⟩ := hl x hxm
    have htk : l.take (i + 1) = l.take i ++ [x] := by rw [List.take_add_one, hx]; rfl
    have hct : cntL (l.take (i + 1)) = cntL (l.take i) + cnt x := by rw [htk, zcf]; simp [cntL]
    have h1 := zsz l (i + 1)
    have hcp := z7i (l.take i)
    have hbt := ht.bk
    have next : ∀ (u : Typ), z24 u = true → (∀ y, y ∈ l.take (i + 1) → isB u y = true) → (bkTy u : Int) ≤ 400 * cntL (l.take (i + 1)) + 100 → ∃ t, tyL (.list l) (i + 1) u = some t ∧ z24 t = true ∧ isB t (.list l) = true ∧ (bkTy t : Int) ≤ 400 * cntL l + 300 :=
      fun u h2 h3 h4 => tl_l l hl hc hcn k (i + 1) u (by omega) h2 h3 h4
    unfold tyL
    rw [zhf]
    simp only [z5y, V.asList, z7o (by omega : i < l.length), cond_true, hx, Option.bind_some, ht.run, Z6r]
    by_cases h0 : i = 0
    · subst h0
      rw [show decide (((0 : Nat) : Int) > 0) = false from rfl, cond_false]
      simp only [z9e, z9d, Bool.not_true, cond_false]
      refine next t ht.valid (fun y hy => ?_) (by omega)
      rw [htk] at hy
      simp at hy
      subst hy; exact ht.is
    · rw [decide_eq_true (by omega : ((i : Nat) : Int) > 0), cond_true]
      obtain ⟨u, ok, he, e1, e2, e3⟩ := ziu hv ht.valid (by omega) (by omega)
      simp only [he, Option.bind_some, z9e, z9d]
      cases ok with
      | true =>
        simp only [Bool.not_true, cond_false]
        refine next u (e1 rfl) (fun y hy => ?_) (by omega)
        rw [htk] at hy
        have hyl : y ∈ l := List.mem_of_mem_take (i := i + 1) (by rw [htk]; exact hy)
        rcases List.mem_append.1 hy with hy | hy
        · exact e2 y (hc y hyl) (.inl (hi y hy))
        · simp at hy; subst hy; exact e2 y (hc y hyl) (.inr ht.is)
      | false =>
        simp only [Bool.not_false, cond_true]
        have hp1 := (z4i x).1
        exact next Z35 zdz (fun y _ => z9y rfl y) (by rw [zt9]; omega)
theorem ztr {α : Type} (f : α → Nat) (l : List α) (i : Nat) (x : α) (h : l[i]? = some x) : ((l.take (i + 1)).map f).sum = ((l.take i).map f).sum + f x := by
  rw [List.take_add_one, h]; simp
theorem td_l (d : List (Str × V)) (hd : d.length ≤ 4096) (hl : ∀ x, x ∈ d → ∃ t, TyOk x.2 t) (hr : risen none (d.map (·.1)) = true) (hcn : zog d ≤ 16384) : ∀ k i (ts : List Typ), k + i = d.length → ts.length = i →
    (∀ j, j < i → ∃ p t, d[j]? = some p ∧ ts[j]? = some t ∧ isB t p.2 = true) → ((bkTys ts + ((d.take i).map (fun p => p.1.length + 1)).sum + i : Nat) : Int) ≤ 400 * cntL ((d.take i).map (·.2)) →
    ∃ t, zeu zi6 (.dict d) i ts ((d.take i).map (·.1)) (List.replicate i false) = some t ∧ z24 t = true ∧ isB t (.dict d) = true ∧ (bkTy t : Int) ≤ 400 * zog d + 300
  | 0, i, ts, h, hts, hi, hb => by
    have hid : i = d.length := by omega
    subst hid
    rw [List.take_length] at hb ⊢
    rw [← za5] at hb
    rw [zhe]
    simp only [z5x, V.asDict, z7n (by omega : ¬ d.length < d.length), cond_false]
    have hU : bkTy (Typ.mk 6 0 T00 ts (d.map (·.1)) (List.replicate d.length false) false []) = bkTys ts + (d.map (fun p => p.1.length + 1)).sum + d.length + 20 := by
      simp only [bkTy, zzn, List.map_map, List.length_replicate, List.length_nil]
      have : ((fun s : Str => s.length + 1) ∘ fun p : Str × V => p.1) = fun p => p.1.length + 1 := rfl
      rw [this]; omega
    rw [zm6 (Typ.mk 6 0 T00 ts (d.map (·.1)) (List.replicate d.length false) false []) (by omega), Option.bind_some]
    have hpos : 0 ≤ zog d := by rw [za5]; exact z7i _
    cases hvu : z24 (Typ.mk 6 0 T00 ts (d.map (·.1)) (List.replicate d.length false) false []) with
    | false => exact ⟨_, rfl, zdz, z9y rfl _, by rw [if_neg (by simp), zt9]; omega⟩
    | true =>
      refine ⟨_, rfl, hvu, ?_, by rw [if_pos rfl, hU]; omega⟩
      rw [if_pos rfl, zgb rfl]
      have hs := (zgs hr).1
      have D : DT (Typ.mk 6 0 T00 ts (d.map (·.1)) (List.replicate d.length false) false []) := ⟨by rw [tkN, List.length_map]; exact hd, by rw [tkP, tkN, List.length_map]; exact hts, by rw [tkL, tkN, List.length_map, List.length_replicate]⟩
      have hW : zww (tz (Typ.mk 6 0 T00 ts (d.map (·.1)) (List.replicate d.length false) false [])) := zfx hs _
      refine zix false 0 _ _ d 1 (Nat.le_refl _) hW hs (fun p hp => ?_) (zls _ _ _ (Nat.le_refl _) hW hs (fun z hz _ => zjc hz))
      obtain ⟨j, hj, rfl⟩ := List.mem_iff_getElem.1 hp
      obtain ⟨p', t, h1, h2, h3⟩ := hi j hj
      obtain ⟨s, lb, u, h4, h5, h6, h7⟩ := tz_at D (j := j) (by rw [tkN, List.length_map]; exact hj)
      rw [List.getElem?_eq_getElem hj] at h1
      injection h1 with h1
      rw [tkN, List.getElem?_map, List.getElem?_eq_getElem hj] at h4
      injection h4 with h4
      rw [tkP, h2] at h6
      injection h6 with h6
      subst h6
      have h4' : (d[j]).1 = s := h4
      rw [h4', z7h hW h7]
      show isB t d[j].2 = true
      rw [h1]; exact h3
  | k + 1, i, ts, h, hts, hi, hb => by
    obtain ⟨p, hp, _⟩ := dropc (by omega : i < d.length)
    obtain ⟨t, ht⟩ := hl p (List.mem_of_getElem? hp)
    have hn : p.1.length ≤ 32 := by
      have := zef hr p.1 (List.mem_map_of_mem (List.mem_of_getElem? hp))
      simp only [z3c, Bool.and_eq_true, Nat.ble_eq] at this
      omega
    rw [zhe]
    simp only [z5x, V.asDict, z7o (by omega : i < d.length), cond_true, hp, Option.bind_some, ht.run, zto (b := 16) (by omega) (show ((d.take i).map (·.1)).length ≤ 1073741824 by simp; omega),
      zto (b := 1) (by omega) (show (List.replicate i false).length ≤ 1073741824 by simp; omega), zto (b := 264) (by omega) (show ts.length ≤ 1073741824 by omega)]
    rw [show (d.take i).map (·.1) ++ [p.1] = (d.take (i + 1)).map (·.1) from z4m (f := fun q : Str × V => q.1) hp, ← List.replicate_succ']
    refine td_l d hd hl hr hcn k (i + 1) (ts ++ [t]) (by omega) (by simp [hts]) (fun j hj => ?_) ?_
    · by_cases hji : j < i
      · obtain ⟨p', t', h1, h2, h3⟩ := hi j hji
        exact ⟨p', t', h1, by rw [List.getElem?_append_left (by omega)]; exact h2, h3⟩
      · have : j = i := by omega
        subst this
        exact ⟨p, t, hp, by rw [List.getElem?_append_right (by omega), hts]; simp, ht.is⟩
    · have hbt := ht.bk
      have e1 := ztr (fun p : Str × V => p.1.length + 1) d i p hp
      have e2 : cntL ((d.take (i + 1)).map (·.2)) = cntL ((d.take i).map (·.2)) + cnt p.2 := by
        rw [List.take_add_one, hp]; simp [zcf, cntL]
      rw [e1, e2, zdx]
      simp only [bkTys]
      omega
theorem Z4e {o : Int} (h1 : 1 ≤ o) (h2 : o ≤ 10) : z2v (Typ.mk 3 o T00 [] [] [] false []) = true := by
  show ((false || false || (true && decide (1 ≤ o) && decide (o ≤ 10))) || (false && _) || (false && _)) = true
  rw [decide_eq_true h1, decide_eq_true h2]
  rfl
theorem zoq (v : V) : Can v → ∃ t, TyOk v t := by
  induction v using V.byParts with
  | _ v ih =>
  intro hc
  have hn := hc.1.own
  have hcn := hc.2.1
  have hp : ∀ y, y ∈ v.parts → ∃ t, TyOk y t := fun y hy => ih y hy (hc.part hy)
  have leaf : v.isList = false → v.isDict = false → v.isRec = false → 1 ≤ z1m v → z1m v ≤ 10 → ∃ t, TyOk v t := fun h1 h2 h3 h4 h5 => by
    refine ⟨Typ.mk 3 (z1m v) T00 [] [] [] false [], ?_, ?_, ?_, ?_⟩
    · rw [zss, zdy, h1, h2, h3, cond_false, cond_false, cond_false, zpc]; rfl
    · unfold z24; rw [z59, if_neg (by omega), if_pos (Z4e h4 h5)]
    · rw [z6q rfl]; simp [tkO]
    · have := (z4i v).1
      simp only [bkTy, zzn, bkTys, List.map_nil, List.sum_nil, List.length_nil]; omega
  cases v with
  | list l =>
    simp only [cnt] at hcn
    obtain ⟨t, h1, h2, h3, h4⟩ := tl_l l (fun x hx => hp x hx) (fun x hx => hc.part hx) (by omega) l.length 0 (Typ.mk 2 0 T00 [] [] [] false []) (by omega) (by unfold z24; rw [z59, if_neg (by omega), if_pos (by simp [z2v, tkK])]) (fun x hx => by simp at hx) (by
      simp only [bkTy, zzn, bkTys, List.map_nil, List.sum_nil, List.length_nil, List.take_zero, cntL]; omega)
    refine ⟨t, ?_, h2, h3, by simp only [cnt]; omega⟩
    rw [zss, zdy]
    exact h1
  | dict d =>
    simp only [cnt] at hcn
    obtain ⟨t, h1, h2, h3, h4⟩ := td_l d (zdn hn) (fun x hx => hp x.2 (List.mem_map_of_mem hx)) (zfa hn) (by omega) d.length 0 [] (by omega) rfl (fun j hj => by omega) (by simp [bkTys, cntL])
    refine ⟨t, ?_, h2, h3, by simp only [cnt]; omega⟩
    rw [zss, zdy]
    exact h1
  | record c w l =>
    have hname : z3c c = true := by
      cases h : z3c c with
      | true => rfl
      | false => simp [z3e, h] at hn
    have hlen : c.length ≤ 32 := by
      simp only [z3c, Bool.and_eq_true, Nat.ble_eq] at hname
      omega
    refine ⟨Typ.mk 8 0 T00 [] [] [] false c, ?_, ?_, ?_, ?_⟩
    · rw [zss, zdy]; rfl
    · unfold z24; rw [z59, if_neg (by omega), if_pos (by simp [z2v, tkK, tkC, hname])]
    · rw [z9w rfl]; simp [zn6, tkC]
    · have := (z4i (.record c w l)).1
      simp only [bkTy, zzn, bkTys, List.map_nil, List.sum_nil, List.length_nil]; omega
  | nothing => simp [z3e] at hn
  | alien a => simp [z3e] at hn
  | _ => exact leaf rfl rfl rfl (by simp [z1m]) (by simp [z1m])
end Go.Proofs.Ytiapdjdhaclmnaa

namespace Go.Proofs.Ytiapdjdhaclmnaa
open Go Aw
set_option linter.unusedVariables false
set_option linter.unusedSimpArgs false
set_option maxRecDepth 8000
theorem zoc (v : V) (t : Typ) : (isA v t).1 = (decide ((z21 v).2 = 0) && (z24 t && isB t v)) := by
  unfold isA
  by_cases h : (z21 v).2 = 0
  · rw [if_neg (by simp [h])]
    cases hv : z24 t <;> simp [h, hv, isB]
  · rw [if_pos h]; simp [h]
theorem Z4f (v : V) (t : Typ) : (isA v t).2.2 = if (z21 v).2 ≠ 0 then (z21 v).2 else if z24 t then 0 else 70 := by
  unfold isA; split
  · rfl
  · split <;> rfl
theorem zma (v : V) (t : Typ) : (isA v t).2.2 = 0 ↔ (z21 v).2 = 0 ∧ z24 t = true := by
  rw [Z4f]
  by_cases h : (z21 v).2 = 0
  · rw [if_neg (by simp [h])]
    cases hv : z24 t <;> simp [h]
  · rw [if_pos h]; simp [h]
theorem zx4 (a b : Typ) (ha : bkTy a ≤ 268435456) (hb : bkTy b ≤ 268435456) :
    ∃ r : Bool × Int, znj a b = some r ∧ (r.2 = 0 → z24 a = true ∧ z24 b = true ∧ z43 a b = some r.1) ∧ (z24 a = true → z24 b = true → r.2 = 0) := by
  simp only [znj, zem, Typ.eta, zd0 a ha, zd0 b hb, Option.bind_some]
  cases h1 : z24 a with
  | false => exact ⟨(false, 70), rfl, fun h => (by cases h), fun h => by cases h⟩
  | true =>
    cases h2 : z24 b with
    | false => exact ⟨(false, 70), rfl, fun h => (by cases h), fun _ h => by cases h⟩
    | true =>
      obtain ⟨r, hr, _⟩ := zlf _ a b (Nat.le_refl _) (z3z h1) (z3z h2) ha hb
      exact ⟨(r, 0), by simp [hr], fun _ => ⟨rfl, rfl, hr⟩, fun _ _ => rfl⟩
theorem zx2 {a b : Typ} {v : V} (ha : bkTy a ≤ 268435456) (hb : bkTy b ≤ 268435456) (va : z24 a = true) (vb : z24 b = true) (h : z43 a b = some true) (hc : Can v) (hi : isB a v = true) : isB b v = true := by
  obtain ⟨r, h1, h2⟩ := zlf _ a b (Nat.le_refl _) (z3z va) (z3z vb) ha hb
  rw [h] at h1
  injection h1 with h1
  exact h2 h1.symm v hc hi
theorem ClOk.valid {t : Typ} (h : ClOk t) : z24 (clT t) = z24 t := by unfold z24; rw [h.fit]
theorem ClOk.isB {t : Typ} (h : ClOk t) (v : V) : isB (clT t) v = isB t v := by unfold Go.Proofs.Ytiapdjdhaclmnaa.isB; rw [h.is]
theorem ztl (a b : Typ) (ha : bkTy a ≤ 1048576) (hb : bkTy b ≤ 1048576) : ∃ u e, zqw a b = some (u, e) ∧ (e = 0 → z24 a = true ∧ z24 b = true ∧ z24 u = true ∧ bkTy u ≤ 268435456 ∧ ∀ v, Can v → isB a v = true ∨ isB b v = true → isB u v = true) := by
  simp only [zqw, zew, Typ.eta, zd0 a (by omega), zd0 b (by omega), Option.bind_some]
  cases h1 : z24 a with
  | false => exact ⟨_, _, rfl, fun h => by cases h⟩
  | true =>
    cases h2 : z24 b with
    | false => exact ⟨_, _, rfl, fun h => by cases h⟩
    | true =>
      obtain ⟨u, ok, h3, h4, h5, h6⟩ := ziu h1 h2 (by omega) (by omega)
      simp only [h3, Option.bind_some, Bool.not_true, cond_false]
      cases ok with
      | false => exact ⟨_, _, rfl, fun h => by cases h⟩
      | true =>
        have hv := h4 rfl
        have hk := zmm u (z3z hv) (by omega)
        simp only [Bool.not_true, cond_false, Typ.eta, hk.run, Option.bind_some]
        have := hk.bk
        exact ⟨clT u, 0, rfl, fun _ => ⟨trivial, trivial, by rw [hk.valid]; exact hv, by omega, fun v hc h => by rw [hk.isB]; exact h5 v hc h⟩⟩
theorem zok {v : V} (hc : Can v) : ∃ t, ze6 v = some (t, 0) ∧ z24 t = true ∧ bkTy t ≤ 268435456 ∧ isB t v = true := by
  obtain ⟨t, ht⟩ := zoq v hc
  have hbk := ht.bk
  have hcn := hc.2.1
  have hk := zmm t (z3z ht.valid) (by omega)
  have := hk.bk
  refine ⟨clT t, ?_, by rw [hk.valid]; exact ht.valid, by omega, by rw [hk.isB]; exact ht.is⟩
  simp only [ze6, zh5, z82 hc, Option.bind_some, bne_self_eq_false, cond_false, ht.run, Typ.eta, hk.run]
theorem zoj {v : V} (hc : ¬ Can v) : ∃ t, ze6 v = some (t, (z21 v).2) := by
  simp only [ze6, zh5, Option.bind_some, Z36 (z81 hc), cond_true]
  exact ⟨_, rfl⟩
theorem Z1b : ∃ t : Typ, ze6 (.bool true) = some (t, 0) ∧ t.kind = 3 ∧ t.of = 2 := by
  have hc : Can (.bool true) := ⟨.mk rfl (fun y hy => by cases hy), by decide, by decide⟩
  have h1 : zi6 (.bool true) = some (Typ.mk 3 2 T00 [] [] [] false []) := by
    rw [zss, zdy]
    simp only [V.isList, V.isDict, V.isRec, cond_false, zpc]; rfl
  have h2 : z8t (Typ.mk 3 2 T00 [] [] [] false []) = some (Typ.mk 3 2 T00 [] [] [] false []) := by
    rw [Z2o]; rfl
  refine ⟨Typ.mk 3 2 T00 [] [] [] false [], ?_, rfl, rfl⟩
  simp only [ze6, zh5, z82 hc, Option.bind_some, bne_self_eq_false, cond_false, h1, Typ.eta, h2]
theorem Z2r (a0 : S_arr3_Typ) (x : V) (hc : bkTy a0.f_2 ≤ 1048576) (s : Bool) (hs : s = true → (isA x a0.f_2).1 = true ∧ (isA x a0.f_2).2.2 = 0) : z7v a0 x s = some true := by
  unfold z7v
  cases s with
  | false =>
    obtain ⟨t, h1, h2, h3⟩ := Z1b
    rw [cond_false, h1, Option.bind_some]
    simp only [h2, h3]
    rfl
  | true =>
    obtain ⟨h1, h2⟩ := hs rfl
    rw [cond_true, zh0 x a0.f_2 (by omega), Option.bind_some, h1, cond_true, h2]
    rfl
theorem Z2s (a0 : S_arr3_Typ) (x : V) (h0 : bkTy a0.f_0 ≤ 1048576) (h1 : bkTy a0.f_1 ≤ 1048576) (h2 : bkTy a0.f_2 ≤ 1048576) : zd5 a0 x (isA x a0.f_0) = some true := by
  obtain ⟨r, e1, e2, _⟩ := zx4 a0.f_0 a0.f_1 (by omega) (by omega)
  obtain ⟨q, e3, e4, _⟩ := zx4 a0.f_1 a0.f_2 (by omega) (by omega)
  unfold zd5
  rw [e1, Option.bind_some, e3, Option.bind_some]
  have no : z7v a0 x false = some true := Z2r a0 x h2 false (fun h => by cases h)
  by_cases hr : r.2 = 0
  · rw [zbf hr, cond_true]
    by_cases hq : q.2 = 0
    · rw [zbf hq, cond_true]
      obtain ⟨v0, v1, s0⟩ := e2 hr
      obtain ⟨_, v2, s1⟩ := e4 hq
      cases hr1 : r.1 with
      | false => exact no
      | true =>
        cases hq1 : q.1 with
        | false => exact no
        | true =>
          rw [cond_true, cond_true]
          refine Z2r a0 x h2 _ (fun h => ?_)
          rw [zoc] at h
          simp only [Bool.and_eq_true, decide_eq_true_eq] at h
          obtain ⟨hx, _, hi⟩ := h
          have hc := za7 hx
          have h3 := zx2 (by omega) (by omega) v0 v1 (by rw [s0, hr1]) hc hi
          have h4 := zx2 (by omega) (by omega) v1 v2 (by rw [s1, hq1]) hc h3
          exact ⟨by rw [zoc]; simp [hx, v2, h4], (zma x a0.f_2).2 ⟨hx, v2⟩⟩
    · rw [z1v hq, cond_false]; exact no
  · rw [z1v hr, cond_false]; exact no
theorem zzk (a0 : S_arr3_Typ) (x : V) (h0 : bkTy a0.f_0 ≤ 1048576) (h1 : bkTy a0.f_1 ≤ 1048576) (h2 : bkTy a0.f_2 ≤ 1048576) (u : Typ) (e : Int) (s : Bool) (hs : s = true → (isA x u).1 = true ∧ (isA x u).2.2 = 0 ∧ bkTy u ≤ 268435456) :
    z7u a0 x (u, e) (isA x a0.f_0) s = some true := by
  unfold z7u
  cases s with
  | false => exact Z2s a0 x h0 h1 h2
  | true =>
    obtain ⟨h3, h4, h5⟩ := hs rfl
    rw [cond_true, zh0 x u h5, Option.bind_some, h3, h4]
    exact Z2s a0 x h0 h1 h2
theorem Z5x (a0 : S_arr3_Typ) (x : V) (h0 : bkTy a0.f_0 ≤ 1048576) (h1 : bkTy a0.f_1 ≤ 1048576) (h2 : bkTy a0.f_2 ≤ 1048576) : zd6 a0 x = some true := by
  obtain ⟨u, e, e1, e2⟩ := ztl a0.f_0 a0.f_1 h0 h1
  unfold zd6
  rw [e1, Option.bind_some, zh0 x a0.f_0 (by omega), Option.bind_some, zh0 x a0.f_1 (by omega), Option.bind_some]
  have no : z7u a0 x (u, e) (isA x a0.f_0) false = some true := zzk a0 x h0 h1 h2 u e false (fun h => by cases h)
  simp only
  by_cases he : e = 0
  · rw [zbf he, cond_true]
    obtain ⟨v0, v1, vu, hbu, hu⟩ := e2 he
    by_cases ha : (isA x a0.f_0).2.2 = 0
    · rw [zbf ha, cond_true]
      by_cases hb : (isA x a0.f_1).2.2 = 0
      · rw [zbf hb, cond_true]
        have hx := ((zma x a0.f_0).1 ha).1
        have hc := za7 hx
        have yes : (isB a0.f_0 x = true ∨ isB a0.f_1 x = true) → (isA x u).1 = true ∧ (isA x u).2.2 = 0 ∧ bkTy u ≤ 268435456 := fun h =>
          ⟨by rw [zoc]; simp [hx, vu, hu x hc h], (zma x u).2 ⟨hx, vu⟩, hbu⟩
        cases hp : (isA x a0.f_0).1 with
        | true =>
          rw [cond_true]
          refine zzk a0 x h0 h1 h2 u e true (fun _ => yes (.inl ?_))
          rw [zoc] at hp; simp only [Bool.and_eq_true] at hp; exact hp.2.2
        | false =>
          rw [cond_false]
          refine zzk a0 x h0 h1 h2 u e _ (fun h => yes (.inr ?_))
          rw [zoc] at h; simp only [Bool.and_eq_true] at h; exact h.2.2
      · rw [z1v hb, cond_false]; exact no
    · rw [z1v ha, cond_false]; exact no
  · rw [z1v he, cond_false]; exact no
theorem zoe (a0 : S_arr3_Typ) (a1 : Term) (h0 : bkTy a0.f_0 ≤ 1048576) (h1 : bkTy a0.f_1 ≤ 1048576) (h2 : bkTy a0.f_2 ≤ 1048576) (h3 : bkT a1 ≤ 268435456) : zr0 a0 a1 = some true := by
  unfold zr0
  rw [Z0w a1 h3, Option.bind_some]
  have hj := Z5x a0 (bu a1) h0 h1 h2
  by_cases hc : Can (bu a1)
  · obtain ⟨t, e1, e2, e3, e4⟩ := zok hc
    have hx : (z21 (bu a1)).2 = 0 := by rw [z82 hc]
    have i1 : (isA (bu a1) t).1 = true := by rw [zoc]; simp [hx, e2, e4]
    have i2 : (isA (bu a1) t).2.2 = 0 := (zma _ t).2 ⟨hx, e2⟩
    rw [e1, Option.bind_some, zx8 a1 h3, Option.bind_some, hx]
    simp only [bne_self_eq_false, cond_false, beq_self_eq_true, cond_true]
    rw [zh0 _ t e3, Option.bind_some, i1, i2]
    exact hj
  · obtain ⟨t, e1⟩ := zoj hc
    have he := z81 hc
    rw [e1, Option.bind_some, zx8 a1 h3, Option.bind_some]
    simp only [bne_self_eq_false, cond_false]
    rw [z1v he, cond_false]
    exact hj
theorem zb8 {p q : Prop} (a0 : S_arr3_Typ) (a1 : Term) (h : bkTy a0.f_0 + (bkTy a0.f_1 + bkTy a0.f_2) + bkT a1 ≤ 1048576) (ok0 : p) (ok1 : q) : zr0 a0 a1 = some true :=
  zoe a0 a1 (by omega) (by omega) (by omega) (by omega)
end Go.Proofs.Ytiapdjdhaclmnaa

