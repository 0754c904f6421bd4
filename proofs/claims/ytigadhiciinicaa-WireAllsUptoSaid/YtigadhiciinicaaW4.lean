/- Values as bytes: what is read of a shorter beginning. -/
import Derived.Test.YtigadhiciinicaaW3
namespace Go.Proofs.Ytigadhiciinicaa
open Go Aw
set_option linter.unusedVariables false
set_option linter.unusedSimpArgs false
set_option maxRecDepth 8000
/-- g on a beginning of what f reads: it reads the same, or is short. -/
def St {α : Type} (f g : Str → Rs α) : Prop := ∀ (p q : Str) (x : α) (r' : Str), f (p ++ q) = .ok x r' → (∃ r'', r' = r'' ++ q ∧ g p = .ok x r'') ∨ (r'.length < q.length ∧ g p = .bad 0 4)
/-- What is left is no longer. -/
def Le {α : Type} (f : Str → Rs α) : Prop := ∀ (r : Str) (x : α) (r' : Str), f r = .ok x r' → r'.length ≤ r.length
theorem st_bind {α β : Type} {f1 g1 : Str → Rs α} {f2 g2 : α → Str → Rs β} (h1 : St f1 g1) (h2 : ∀ x, St (f2 x) (g2 x)) (h3 : ∀ x, Le (f2 x)) : St (fun r => (f1 r).bind f2) (fun r => (g1 r).bind g2) := by
  intro p q x r' h
  obtain ⟨y, r1, e1, e2⟩ := bind_ok h
  rcases h1 p q y r1 e1 with ⟨r2, rfl, e3⟩ | ⟨e3, e4⟩
  · rcases h2 y r2 q x r' e2 with ⟨r3, rfl, e4⟩ | ⟨e4, e5⟩
    · exact .inl ⟨r3, rfl, by show (g1 p).bind g2 = _; rw [e3]; exact e4⟩
    · exact .inr ⟨e4, by show (g1 p).bind g2 = _; rw [e3]; exact e5⟩
  · exact .inr ⟨Nat.lt_of_le_of_lt (h3 y _ _ _ e2) e3, by show (g1 p).bind g2 = _; rw [e4]; rfl⟩
theorem le_bind {α β : Type} {f1 : Str → Rs α} {f2 : α → Str → Rs β} (h1 : Le f1) (h2 : ∀ x, Le (f2 x)) : Le (fun r => (f1 r).bind f2) := by
  intro r x r' h
  obtain ⟨y, r1, e1, e2⟩ := bind_ok h
  exact Nat.le_trans (h2 y _ _ _ e2) (h1 _ _ _ e1)
theorem st_ok {α : Type} {y : α} : St (fun r => .ok y r) (fun r => .ok y r) := by
  intro p q x r' h
  injection h with h1 h2
  subst h1; subst h2
  exact .inl ⟨p, rfl, rfl⟩
theorem le_ok {α : Type} {y : α} : Le (fun r => .ok y r) := by
  intro r x r' h
  injection h with h1 h2
  subst h2; exact Nat.le_refl _
theorem st_if {α : Type} {c : Prop} [Decidable c] {a a' w : Nat} {v v' : Int} {f g : Str → Rs α} (h : St f g) : St (fun r => if c then .bad a v else f r) (fun r => if c then .bad a' v' else g r) := by
  intro p q x r' e
  by_cases hc : c
  · simp only [if_pos hc] at e; cases e
  · simp only [if_neg hc] at e ⊢; exact h p q x r' e
theorem le_if {α : Type} {c : Prop} [Decidable c] {a : Nat} {v : Int} {f : Str → Rs α} (h : Le f) : Le (fun r => if c then .bad a v else f r) := by
  intro r x r' e
  by_cases hc : c
  · simp only [if_pos hc] at e; cases e
  · simp only [if_neg hc] at e; exact h r x r' e
theorem numS_st (fr fr' : Nat) : ∀ (k i acc : Nat), k + i = 10 → St (numS fr k i acc) (numS fr' k i acc)
  | 0, i, acc, _, p, q, x, r', h => by cases h
  | k + 1, i, acc, hk, [], q, x, r', h => by
    obtain ⟨n, h1, _⟩ := numS_inv fr (k + 1) i acc q r' x hk (by simpa using h)
    refine .inr ⟨?_, rfl⟩
    have : 1 ≤ (num n).length := by rw [num]; split <;> simp
    rw [h1, List.length_append]; omega
  | k + 1, i, acc, hk, c :: p, q, x, r', h => by
    rw [List.cons_append, numS] at h
    rw [numS]
    split at h
    · cases h
    · rename_i hno
      rw [if_neg hno]
      split at h
      · rename_i hlt
        rw [if_pos hlt]
        injection h with h1 h2
        subst h1; subst h2
        exact .inl ⟨p, rfl, rfl⟩
      · rename_i hge
        rw [if_neg hge]
        exact numS_st fr fr' k (i + 1) _ (by omega) p q x r' h
theorem numS_le (fr : Nat) (k i acc : Nat) (hk : k + i = 10) : Le (numS fr k i acc) := by
  intro r x r' h
  obtain ⟨n, h1, _⟩ := numS_inv fr k i acc r r' x hk h
  rw [h1, List.length_append]; omega
theorem nmS_st : St nmS nmS := fun p q x r' h => numS_st (p ++ q).length p.length 10 0 0 rfl p q x r' h
theorem nmS_le : Le nmS := fun r x r' h => numS_le r.length 10 0 0 rfl r x r' h
theorem takeS_st (n : Nat) : St (takeS n) (takeS n) := by
  intro p q x r' h
  obtain ⟨e1, e2⟩ := takeS_inv h
  unfold takeS at h ⊢
  rcases Nat.lt_or_ge p.length n with hn | hn
  · refine .inr ⟨?_, if_pos hn⟩
    have := congrArg List.length e1
    simp only [List.length_append] at this
    omega
  · rw [if_neg (by omega)]
    split at h
    · cases h
    · injection h with h1 h2
      rw [List.take_append_of_le_length hn] at h1
      rw [List.drop_append_of_le_length hn] at h2
      exact .inl ⟨p.drop n, h2.symm, by rw [h1]⟩
theorem takeS_le (n : Nat) : Le (takeS n) := fun r x r' h => by
  obtain ⟨e1, _⟩ := takeS_inv h
  rw [e1, List.length_append]; omega
theorem mostS_st (a a' lim : Nat) : St (mostS a lim) (mostS a' lim) := st_bind nmS_st (fun x => st_if (w := 0) st_ok) (fun x => le_if le_ok)
theorem mostS_le (a lim : Nat) : Le (mostS a lim) := le_bind nmS_le (fun x => le_if le_ok)
theorem nameS_st (a a' : Nat) : St (nameS a) (nameS a') := by
  refine st_bind nmS_st (fun m => st_if (w := 0) (st_bind (takeS_st m) (fun s => ?_) (fun s => ?_))) (fun m => le_if (le_bind (takeS_le m) (fun s => ?_)))
  · intro p q x r' h
    by_cases hc : nameOk s
    · simp only [if_pos hc] at h ⊢
      injection h with h1 h2
      subst h1; subst h2
      exact .inl ⟨p, rfl, rfl⟩
    · simp only [if_neg hc] at h; cases h
  · intro r x r' h
    by_cases hc : nameOk s
    · simp only [if_pos hc] at h
      injection h with h1 h2
      subst h2; exact Nat.le_refl _
    · simp only [if_neg hc] at h; cases h
  · intro r x r' h
    by_cases hc : nameOk s
    · simp only [if_pos hc] at h
      injection h with h1 h2
      subst h2; exact Nat.le_refl _
    · simp only [if_neg hc] at h; cases h
theorem nameS_le (a : Nat) : Le (nameS a) := fun r x r' h => by
  obtain ⟨e1, _⟩ := nameS_inv h
  rw [e1]; simp only [List.length_append]; omega
theorem items_le {f : Nat → Str → Rs (V × Nat)} (hf : ∀ n, Le (f n)) : ∀ k n, Le (itemsS f k n)
  | 0, n => le_ok
  | k + 1, n => le_bind (hf n) (fun x => le_bind (items_le hf k x.2) (fun y => le_ok))
theorem items_st {f : Nat → Str → Rs (V × Nat)} (hf : ∀ n, St (f n) (f n)) (hl : ∀ n, Le (f n)) : ∀ k n, St (itemsS f k n) (itemsS f k n)
  | 0, n => st_ok
  | k + 1, n => st_bind (hf n) (fun x => st_bind (items_st hf hl k x.2) (fun y => st_ok) (fun y => le_ok)) (fun x => le_bind (items_le hl k x.2) (fun y => le_ok))
theorem flds_le {f : Nat → Str → Rs (V × Nat)} (hf : ∀ n, Le (f n)) (a : Nat) : ∀ k last n, Le (fldsS f a k last n)
  | 0, last, n => le_ok
  | k + 1, last, n => le_bind (nameS_le a) (fun s => le_if (le_bind (hf n) (fun x => le_bind (flds_le hf a k s x.2) (fun y => le_ok))))
theorem flds_st {f : Nat → Str → Rs (V × Nat)} (hf : ∀ n, St (f n) (f n)) (hl : ∀ n, Le (f n)) (a a' : Nat) : ∀ k last n, St (fldsS f a k last n) (fldsS f a' k last n)
  | 0, last, n => st_ok
  | k + 1, last, n => st_bind (nameS_st a a') (fun s => st_if (w := 0) (st_bind (hf n) (fun x => st_bind (flds_st hf hl a a' k s x.2) (fun y => st_ok) (fun y => le_ok)) (fun x => le_bind (flds_le hl a k s x.2) (fun y => le_ok))))
      (fun s => le_if (le_bind (hl n) (fun x => le_bind (flds_le hl a k s x.2) (fun y => le_ok))))
theorem boolS_st (n : Nat) : St (boolS n) (boolS n) := by
  intro p q x r' h
  cases p with
  | nil =>
    cases q with
    | nil => cases h
    | cons c q =>
      obtain ⟨b, _, _, e⟩ := boolS_inv (v := x.1) (n' := x.2) h
      injection e with e1 e2
      exact .inr ⟨by rw [e2]; simp, rfl⟩
  | cons c p =>
    rw [List.cons_append, boolS] at h
    rw [boolS]
    split at h
    · cases h
    · rename_i hc
      rw [if_neg hc]
      injection h with h1 h2
      subst h1; subst h2
      exact .inl ⟨p, rfl, rfl⟩
theorem boolS_le (n : Nat) : Le (boolS n) := by
  intro r x r' h
  obtain ⟨b, _, _, e⟩ := boolS_inv (v := x.1) (n' := x.2) h
  rw [e]; simp
theorem st_ite {α : Type} {c : Prop} [Decidable c] {f g f' g' : Str → Rs α} (h1 : St f f') (h2 : St g g') : St (fun r => if c then f r else g r) (fun r => if c then f' r else g' r) := by
  intro p q x r' e
  by_cases hc : c
  · simp only [if_pos hc] at e ⊢; exact h1 p q x r' e
  · simp only [if_neg hc] at e ⊢; exact h2 p q x r' e
theorem le_ite {α : Type} {c : Prop} [Decidable c] {f g : Str → Rs α} (h1 : Le f) (h2 : Le g) : Le (fun r => if c then f r else g r) := by
  intro r x r' e
  by_cases hc : c
  · simp only [if_pos hc] at e; exact h1 r x r' e
  · simp only [if_neg hc] at e; exact h2 r x r' e
theorem bodyS_le {f : Nat → Str → Rs (V × Nat)} (hl : ∀ n, Le (f n)) (tag a n : Nat) : Le (bodyS f tag a n) := by
  unfold bodyS
  refine le_ite (boolS_le n) (le_ite (le_bind nmS_le fun m => le_ok) (le_ite (le_bind (takeS_le 8) fun m => le_ok) (le_ite (le_bind (mostS_le _ _) fun m => le_bind (takeS_le m) fun s => le_ok) (le_ite (le_bind (mostS_le _ _) fun m => le_bind (takeS_le m) fun s => le_ok)
    (le_ite (le_bind nmS_le fun m => le_ok) (le_ite (le_bind (mostS_le _ _) fun m => le_bind (items_le hl m n) fun s => le_ok) (le_ite (le_bind (mostS_le _ _) fun m => le_bind (flds_le hl _ m _ n) fun s => le_ok)
    (le_ite (le_bind (nameS_le _) fun s => le_bind nmS_le fun v => le_if (le_bind (mostS_le _ _) fun m => le_bind (flds_le hl _ m _ n) fun s => le_ok)) le_ok))))))))
theorem bodyS_st {f : Nat → Str → Rs (V × Nat)} (hf : ∀ n, St (f n) (f n)) (hl : ∀ n, Le (f n)) (tag a a' n : Nat) : St (bodyS f tag a n) (bodyS f tag a' n) := by
  unfold bodyS
  refine st_ite (boolS_st n) (st_ite (st_bind nmS_st (fun m => st_ok) (fun m => le_ok)) (st_ite (st_bind (takeS_st 8) (fun m => st_ok) (fun m => le_ok)) (st_ite (st_bind (mostS_st _ _ _) (fun m => st_bind (takeS_st m) (fun s => st_ok) (fun s => le_ok)) (fun m => le_bind (takeS_le m) fun s => le_ok))
    (st_ite (st_bind (mostS_st _ _ _) (fun m => st_bind (takeS_st m) (fun s => st_ok) (fun s => le_ok)) (fun m => le_bind (takeS_le m) fun s => le_ok))
    (st_ite (st_bind nmS_st (fun m => st_ok) (fun m => le_ok)) (st_ite (st_bind (mostS_st _ _ _) (fun m => st_bind (items_st hf hl m n) (fun s => st_ok) (fun s => le_ok)) (fun m => le_bind (items_le hl m n) fun s => le_ok))
    (st_ite (st_bind (mostS_st _ _ _) (fun m => st_bind (flds_st hf hl _ _ m _ n) (fun s => st_ok) (fun s => le_ok)) (fun m => le_bind (flds_le hl _ m _ n) fun s => le_ok))
    (st_ite (st_bind (nameS_st _ _) (fun s => st_bind nmS_st (fun v => st_if (w := 0) (st_bind (mostS_st _ _ _) (fun m => st_bind (flds_st hf hl _ _ m _ n) (fun s => st_ok) (fun s => le_ok)) (fun m => le_bind (flds_le hl _ m _ n) fun s => le_ok))) (fun v => le_if (le_bind (mostS_le _ _) fun m => le_bind (flds_le hl _ m _ n) fun s => le_ok)))
      (fun s => le_bind nmS_le fun v => le_if (le_bind (mostS_le _ _) fun m => le_bind (flds_le hl _ m _ n) fun s => le_ok))) st_ok))))))))
theorem valS_le : ∀ (d n : Nat), Le (valS d n) := fun d n r x r' h => by
  have D := valS_inv d n r x.1 x.2 r' h
  rw [D.eq, List.length_append]; omega
theorem valS_st : ∀ (d n : Nat), St (valS d n) (valS d n)
  | d, n, [], q, x, r', h => by
    have D := valS_inv d n q x.1 x.2 r' (by simpa using h)
    refine .inr ⟨?_, by cases d <;> rfl⟩
    have : 1 ≤ (enc x.1).length := by cases x.1 <;> simp [enc]
    rw [D.eq, List.length_append]; omega
  | 0, n, c :: p, q, x, r', h => by cases h
  | d + 1, n, c :: p, q, x, r', h => by
    rw [List.cons_append, valS] at h
    rw [valS]
    by_cases h1 : 16384 ≤ n
    · rw [if_pos h1] at h; cases h
    · rw [if_neg h1] at h ⊢
      by_cases h2 : c.toNat < 1 ∨ 10 < c.toNat
      · rw [if_pos h2] at h; cases h
      · rw [if_neg h2] at h ⊢
        exact bodyS_st (valS_st d) (valS_le d) c.toNat _ _ (n + 1) p q x r' h
/-- Of a shorter beginning of a value's bytes it is told that it is too short. -/
theorem short {v : V} (hc : Can v) (hok : okV v) {p q : Str} (he : enc v = p ++ q) (hq : q ≠ []) : valS 64 0 p = .bad 0 4 := by
  have h := valS_enc v 64 hc.1 hok hc.2.2 0 [] (by have := hc.2.1; omega)
  rw [List.append_nil, he] at h
  rcases valS_st 64 0 p q _ _ h with ⟨r'', h1, _⟩ | ⟨_, h2⟩
  · exact absurd (List.append_eq_nil_iff.1 h1.symm).2 hq
  · exact h2
end Go.Proofs.Ytigadhiciinicaa
