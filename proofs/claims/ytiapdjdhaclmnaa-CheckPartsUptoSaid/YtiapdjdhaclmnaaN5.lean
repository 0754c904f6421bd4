/- The order of values: that of lists of numbers. -/
import Derived.Test.YtiapdjdhaclmnaaN4
namespace Go.Proofs.Ytiapdjdhaclmnaa
open Go Aw
set_option linter.unusedVariables false
set_option linter.unusedSimpArgs false
set_option maxRecDepth 8000
def c3 (a b : Int) : Int := if a < b then -1 else if a > b then 1 else 0
def th (c d : Int) : Int := if c = 0 then d else c
def lexc : List Int → List Int → Int
  | [], [] => 0
  | [], _ :: _ => -1
  | _ :: _, [] => 1
  | a :: x, b :: y => th (c3 a b) (lexc x y)
theorem c3_rng (a b : Int) : c3 a b = -1 ∨ c3 a b = 0 ∨ c3 a b = 1 := by unfold c3; split; (· exact .inl rfl); split; (· exact .inr (.inr rfl)); exact .inr (.inl rfl)
theorem c3_neg (a b : Int) : c3 b a = - c3 a b := by unfold c3; split <;> split <;> (try split) <;> (try split) <;> omega
theorem c3_zero {a b : Int} : c3 a b = 0 ↔ a = b := by unfold c3; split <;> (try split) <;> omega
theorem c3_self (a : Int) : c3 a a = 0 := c3_zero.2 rfl
theorem c3_lt {a b : Int} : c3 a b = -1 ↔ a < b := by unfold c3; split <;> (try split) <;> omega
theorem c3_shift (a b k : Int) : c3 (a + k) (b + k) = c3 a b := by unfold c3; split <;> split <;> (try split) <;> (try split) <;> omega
theorem th_assoc (a b c : Int) : th (th a b) c = th a (th b c) := by unfold th; by_cases h : a = 0 <;> by_cases h2 : b = 0 <;> simp_all
theorem lexc_rng : ∀ x y, lexc x y = -1 ∨ lexc x y = 0 ∨ lexc x y = 1
  | [], [] => .inr (.inl rfl)
  | [], _ :: _ => .inl rfl
  | _ :: _, [] => .inr (.inr rfl)
  | a :: x, b :: y => by
    rw [lexc]; unfold th; split
    · exact lexc_rng x y
    · exact c3_rng a b
theorem lexc_neg : ∀ x y, lexc y x = - lexc x y
  | [], [] => rfl
  | [], _ :: _ => rfl
  | _ :: _, [] => rfl
  | a :: x, b :: y => by
    have := lexc_neg x y
    have := c3_neg a b
    rw [lexc, lexc]; unfold th; split <;> split <;> omega
/-- Through a third: lexc is that of a total order. -/
theorem lexc_trans : ∀ x y z, lexc x y ≤ 0 → lexc y z ≤ 0 → lexc x z ≤ 0 ∧ (lexc x y < 0 ∨ lexc y z < 0 → lexc x z < 0)
  | [], [], [], _, _ => by simp [lexc]
  | [], [], _ :: _, _, _ => by simp [lexc]
  | [], _ :: _, [], _, h => by simp [lexc] at h
  | [], _ :: _, _ :: _, _, _ => by simp [lexc]
  | _ :: _, [], _, h, _ => by simp [lexc] at h
  | _ :: _, _ :: _, [], _, h => by simp [lexc] at h
  | a :: x, b :: y, c :: z, h1, h2 => by
    have ih := lexc_trans x y z
    have ra := c3_rng a b; have rb := c3_rng b c; have rc := c3_rng a c
    have za := @c3_zero a b; have zb := @c3_zero b c; have zc := @c3_zero a c
    have la := @c3_lt a b; have lb := @c3_lt b c; have lc := @c3_lt a c
    rw [lexc] at h1 h2
    rw [lexc, lexc, lexc]
    unfold th at h1 h2 ⊢
    by_cases e1 : c3 a b = 0
    · rw [if_pos e1] at h1 ⊢
      by_cases e2 : c3 b c = 0
      · rw [if_pos e2] at h2 ⊢
        rw [if_pos (by omega : c3 a c = 0)]
        exact ih h1 h2
      · rw [if_neg e2] at h2 ⊢
        have : c3 a c = -1 := by omega
        rw [if_neg (by omega), this]; omega
    · rw [if_neg e1] at h1 ⊢
      by_cases e2 : c3 b c = 0
      · rw [if_pos e2] at h2 ⊢
        have : c3 a c = -1 := by omega
        rw [if_neg (by omega), this]; omega
      · rw [if_neg e2] at h2 ⊢
        have : c3 a c = -1 := by omega
        rw [if_neg (by omega), this]; omega
theorem c3_cmp (a b : Int) : (bif decide (a < b) then some (-1 : Int) else bif decide (a > b) then some 1 else some 0) = some (c3 a b) := by
  unfold c3
  by_cases h : a < b
  · rw [decide_eq_true h, if_pos h]; rfl
  · rw [decide_eq_false h, if_neg h, cond_false]
    by_cases h2 : a > b
    · rw [decide_eq_true h2, if_pos h2]; rfl
    · rw [decide_eq_false h2, if_neg h2]; rfl
/-! ### texts -/
def cmpS (a b : Str) : Int := if Op.bytesLess a b then -1 else if a == b then 0 else 1
def keyS : Str → List Int
  | [] => [0]
  | c :: r => ((c.toNat : Int) + 1) :: keyS r
theorem bl_nil : ∀ b : UInt8, ∀ y, Op.bytesLess [] (b :: y) = true := fun _ _ => rfl
theorem bl_nil2 : ∀ x, Op.bytesLess x [] = false := fun x => by cases x <;> rfl
theorem bl_cons (a b : UInt8) (x y : Str) : Op.bytesLess (a :: x) (b :: y) = (a < b || (a == b && Op.bytesLess x y)) := rfl
theorem cmpS_cons (a b : UInt8) (x y : Str) : cmpS (a :: x) (b :: y) = th (c3 ((a.toNat : Int) + 1) ((b.toNat : Int) + 1)) (cmpS x y) := by
  unfold cmpS
  rw [bl_cons]
  rcases Nat.lt_trichotomy a.toNat b.toNat with h | h | h
  · have h1 : a < b := UInt8.lt_iff_toNat_lt.2 h
    have : c3 ((a.toNat : Int) + 1) ((b.toNat : Int) + 1) = -1 := c3_lt.2 (by omega)
    rw [this]; simp [h1, th]
  · have h1 : a = b := UInt8.toNat_inj.1 h
    subst h1
    have : c3 ((a.toNat : Int) + 1) ((a.toNat : Int) + 1) = 0 := c3_self _
    rw [this]
    have h2 : ¬ a < a := by rw [UInt8.lt_iff_toNat_lt]; omega
    simp [h2, th]
  · have h1 : ¬ a < b := by rw [UInt8.lt_iff_toNat_lt]; omega
    have h2 : (a == b) = false := by rw [beq_eq_false_iff_ne]; intro e; subst e; omega
    have : c3 ((a.toNat : Int) + 1) ((b.toNat : Int) + 1) = 1 := by unfold c3; rw [if_neg (by omega), if_pos (by omega)]
    have h3 : a ≠ b := by simpa using h2
    rw [this]; simp [h1, h2, th, h3]
theorem keyS_c : ∀ (a b : Str) (r s : List Int), lexc (keyS a ++ r) (keyS b ++ s) = th (cmpS a b) (lexc r s)
  | [], [], r, s => by show th (c3 0 0) _ = _; rfl
  | [], b :: y, r, s => by
    have : c3 0 ((b.toNat : Int) + 1) = -1 := c3_lt.2 (by omega)
    show th (c3 0 ((b.toNat : Int) + 1)) _ = _
    rw [this]; rfl
  | a :: x, [], r, s => by
    have : c3 ((a.toNat : Int) + 1) 0 = 1 := by unfold c3; rw [if_neg (by omega), if_pos (by omega)]
    show th (c3 ((a.toNat : Int) + 1) 0) _ = _
    rw [this]; rfl
  | a :: x, b :: y, r, s => by
    show th (c3 ((a.toNat : Int) + 1) ((b.toNat : Int) + 1)) (lexc (keyS x ++ r) (keyS y ++ s)) = _
    rw [keyS_c x y r s, cmpS_cons, th_assoc]
theorem value_cmp_string_eq (a b : Str) : p_value_cmp_string a b = some (cmpS a b) := by
  simp only [p_value_cmp_string, cmpS]
  cases h : Op.bytesLess a b with
  | true => rfl
  | false => simp only [cond_false, Bool.false_or, Bool.false_eq_true, if_false]; cases a == b <;> rfl
/-! ### values -/
def trI (b : Bool) : Int := if b then 1 else 0
noncomputable def plV (f : Nat) : Int := if shrK .u64 (f : Int) 63 = 1 then notK .u64 f else orK .u64 f 9223372036854775808
mutual
noncomputable def ordF : V → V → Int
  | .bool a, y => match y with | .bool b => c3 (trI a) (trI b) | y => c3 2 (kindOf y)
  | .int a, y => match y with | .int b => c3 a b | y => c3 3 (kindOf y)
  | .float a, y => match y with | .float b => c3 (plV a) (plV b) | y => c3 4 (kindOf y)
  | .text a, y => match y with | .text b => cmpS a b | y => c3 5 (kindOf y)
  | .bytes a, y => match y with | .bytes b => cmpS a b | y => c3 6 (kindOf y)
  | .ref a, y => match y with | .ref b => c3 a b | y => c3 7 (kindOf y)
  | .list a, y => match y with | .list b => ordL a b | y => c3 8 (kindOf y)
  | .dict a, y => match y with | .dict b => ordD a b | y => c3 9 (kindOf y)
  | .record c v a, y => match y with | .record c' v' b => th (cmpS c c') (th (c3 v v') (ordD a b)) | y => c3 10 (kindOf y)
  | .nil, y => c3 1 (kindOf y)
  | .nothing, y => c3 11 (kindOf y)
  | .alien _, y => c3 0 (kindOf y)
noncomputable def ordL : List V → List V → Int
  | [], y => match y with | [] => 0 | _ :: _ => -1
  | a :: x, y => match y with | [] => 1 | b :: y => th (ordF a b) (ordL x y)
noncomputable def ordD : List (Str × V) → List (Str × V) → Int
  | [], y => match y with | [] => 0 | _ :: _ => -1
  | (s, a) :: x, y => match y with | [] => 1 | (t, b) :: y => th (th (cmpS s t) (ordF a b)) (ordD x y)
end
mutual
noncomputable def key : V → List Int
  | .nil => [1]
  | .bool b => [2, trI b]
  | .int i => [3, i]
  | .float f => [4, plV f]
  | .text s => 5 :: keyS s
  | .bytes s => 6 :: keyS s
  | .ref i => [7, i]
  | .list l => 8 :: keyL l
  | .dict l => 9 :: keyD l
  | .record c v l => 10 :: (keyS c ++ (v :: keyD l))
  | .nothing => [11]
  | .alien _ => [0]
noncomputable def keyL : List V → List Int
  | [] => [0]
  | x :: r => 1 :: (key x ++ keyL r)
noncomputable def keyD : List (Str × V) → List Int
  | [] => [0]
  | (s, x) :: r => 1 :: (keyS s ++ (key x ++ keyD r))
end
theorem th_self (a b : Int) : th (c3 a a) b = b := by rw [c3_self]; rfl
theorem th_zero (b : Int) : th b 0 = b := by unfold th; split <;> simp_all
theorem key_head (x : V) : ∃ r, key x = kindOf x :: r := by cases x <;> exact ⟨_, by rw [key]; rfl⟩
theorem key_ne {x y : V} (h : kindOf x ≠ kindOf y) (r s : List Int) : lexc (key x ++ r) (key y ++ s) = th (c3 (kindOf x) (kindOf y)) (lexc r s) := by
  obtain ⟨a, ha⟩ := key_head x
  obtain ⟨b, hb⟩ := key_head y
  rw [ha, hb]
  show th (c3 _ _) _ = _
  have : c3 (kindOf x) (kindOf y) ≠ 0 := fun e => h (c3_zero.1 e)
  unfold th; rw [if_neg this, if_neg this]
mutual
theorem key_c : ∀ (x y : V) (r s : List Int), lexc (key x ++ r) (key y ++ s) = th (ordF x y) (lexc r s)
  | .nil, y, r, s => by
    cases y <;> first | (refine key_ne (x := .nil) ?_ r s; simp [kindOf]; done) | (rw [key]; show th (c3 1 1) _ = _; rw [ordF]; rfl)
  | .nothing, y, r, s => by
    cases y <;> first | (refine key_ne (x := .nothing) ?_ r s; simp [kindOf]; done) | (rw [key]; show th (c3 11 11) _ = _; rw [ordF]; rfl)
  | .alien t, y, r, s => by
    cases y <;> first | (refine key_ne (x := .alien t) ?_ r s; simp [kindOf]; done) | (rw [key, key]; show th (c3 0 0) _ = _; rw [ordF]; rfl)
  | .bool a, y, r, s => by
    cases y <;> first | (refine key_ne (x := .bool a) ?_ r s; simp [kindOf]; done) | (rw [key, key, ordF]; show th (c3 2 2) (th _ _) = _; rw [th_self]; rfl)
  | .int a, y, r, s => by
    cases y <;> first | (refine key_ne (x := .int a) ?_ r s; simp [kindOf]; done) | (rw [key, key, ordF]; show th (c3 3 3) (th _ _) = _; rw [th_self]; rfl)
  | .float a, y, r, s => by
    cases y <;> first | (refine key_ne (x := .float a) ?_ r s; simp [kindOf]; done) | (rw [key, key, ordF]; show th (c3 4 4) (th _ _) = _; rw [th_self]; rfl)
  | .ref a, y, r, s => by
    cases y <;> first | (refine key_ne (x := .ref a) ?_ r s; simp [kindOf]; done) | (rw [key, key, ordF]; show th (c3 7 7) (th _ _) = _; rw [th_self]; rfl)
  | .text a, y, r, s => by
    cases y <;> first | (refine key_ne (x := .text a) ?_ r s; simp [kindOf]; done) | (rw [key, key, ordF]; show th (c3 5 5) (lexc (keyS _ ++ r) (keyS _ ++ s)) = _; rw [th_self, keyS_c])
  | .bytes a, y, r, s => by
    cases y <;> first | (refine key_ne (x := .bytes a) ?_ r s; simp [kindOf]; done) | (rw [key, key, ordF]; show th (c3 6 6) (lexc (keyS _ ++ r) (keyS _ ++ s)) = _; rw [th_self, keyS_c])
  | .list a, y, r, s => by
    cases y <;> first | (refine key_ne (x := .list a) ?_ r s; simp [kindOf]; done) | (rw [key, key, ordF]; show th (c3 8 8) (lexc (keyL _ ++ r) (keyL _ ++ s)) = _; rw [th_self, keyL_c])
  | .dict a, y, r, s => by
    cases y <;> first | (refine key_ne (x := .dict a) ?_ r s; simp [kindOf]; done) | (rw [key, key, ordF]; show th (c3 9 9) (lexc (keyD _ ++ r) (keyD _ ++ s)) = _; rw [th_self, keyD_c])
  | .record c v a, y, r, s => by
    cases y <;> first
      | (refine key_ne (x := .record c v a) ?_ r s; simp [kindOf]; done)
      | (rw [key, key, ordF]
         show th (c3 10 10) (lexc ((keyS _ ++ (_ :: keyD _)) ++ r) ((keyS _ ++ (_ :: keyD _)) ++ s)) = _
         rw [th_self, List.append_assoc, List.append_assoc, keyS_c]
         show th _ (th (c3 _ _) (lexc (keyD _ ++ r) (keyD _ ++ s))) = _
         rw [keyD_c, th_assoc, th_assoc])
theorem keyL_c : ∀ (x y : List V) (r s : List Int), lexc (keyL x ++ r) (keyL y ++ s) = th (ordL x y) (lexc r s)
  | [], [], r, s => by rw [keyL, ordL]; rfl
  | [], b :: y, r, s => by rw [keyL, keyL, ordL]; rfl
  | a :: x, [], r, s => by rw [keyL, keyL, ordL]; rfl
  | a :: x, b :: y, r, s => by
    rw [keyL, keyL, ordL]
    show th (c3 1 1) (lexc ((key a ++ keyL x) ++ r) ((key b ++ keyL y) ++ s)) = _
    rw [th_self, List.append_assoc, List.append_assoc, key_c a b, keyL_c x y r s, th_assoc]
theorem keyD_c : ∀ (x y : List (Str × V)) (r s : List Int), lexc (keyD x ++ r) (keyD y ++ s) = th (ordD x y) (lexc r s)
  | [], [], r, s => by rw [keyD, ordD]; rfl
  | [], (t, b) :: y, r, s => by rw [keyD, keyD, ordD]; rfl
  | (u, a) :: x, [], r, s => by rw [keyD, keyD, ordD]; rfl
  | (u, a) :: x, (t, b) :: y, r, s => by
    rw [keyD, keyD, ordD]
    show th (c3 1 1) (lexc ((keyS u ++ (key a ++ keyD x)) ++ r) ((keyS t ++ (key b ++ keyD y)) ++ s)) = _
    simp only [List.append_assoc]
    rw [th_self, keyS_c, key_c a b, keyD_c x y r s, th_assoc, th_assoc]
end
theorem ord_key (x y : V) : ordF x y = lexc (key x) (key y) := by
  have := key_c x y [] []
  rw [List.append_nil, List.append_nil] at this
  rw [this]; exact (th_zero _).symm
end Go.Proofs.Ytiapdjdhaclmnaa
