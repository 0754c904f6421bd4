/- Plain laws, one behind the other. -/
import Derived.Test.YtiapdjdhaclmnaaM0
namespace Go.Proofs.Ytiapdjdhaclmnaa
open Go Aw
set_option linter.unusedVariables false
set_option linter.unusedSimpArgs false
set_option maxRecDepth 8000
abbrev Tst := V → Int → Bool × Int
def plc (b : Bool) (a : Int) : Bool × Int := if b then (true, 0) else (false, a)
def Z6a : List Tst → V → Int → Bool
 | [], _, _ => false
 | f :: r, v, a => (f v a).1 || Z6a r v a
def zm4 (f : Tst) : List V → Int → Bool × Int
 | [], _ => (true, 0)
 | x :: r, n => if (f x n).1 then zm4 f r (n + cnt x) else (false, (f x n).2)
def z4v (q : Bool) (a : Int) : List (Str × Bool × Tst) → List (Str × V) → Int → Bool × Int
 | [], [], _ => (true, 0)
 | (s, l, f) :: ts, [], n => if l then z4v q a ts [] n else (false, a)
 | [], (m, x) :: r, n => if q then z4v q a [] r (n + cnt x) else (false, a)
 | (s, l, f) :: ts, (m, x) :: r, n =>
  if Op.bytesLess s m then (if l then z4v q a ts ((m, x) :: r) n else (false, a))
  else if s == m then (if (f x n).1 then z4v q a ts r (n + cnt x) else (false, (f x n).2))
  else if q then z4v q a ((s, l, f) :: ts) r (n + cnt x) else (false, a)
termination_by ts fs => ts.length + fs.length
decreasing_by all_goals (simp only [List.length_cons, List.length_nil]; omega)
def zr6 (c : Str) : V → Bool
 | .record c' _ _ => c' == c
 | _ => false
noncomputable def isG (k o : Int) (y : Term) (n : List Str) (l : List Bool) (q : Bool) (c : Str) (fs : List Tst) (v : V) (a : Int) : Bool × Int :=
 if k = 1 then (true, 0) else if k = 3 then plc (z1l v == o) a else if k = 4 then plc (zyr v (bu y)) a else if k = 8 then plc (zr6 c v) a else if k = 7 then plc (Z6a fs v a) a
 else if k = 5 then (match v with | .list x => (match fs with | f :: _ => zm4 f x (a + 1) | [] => (false, a)) | _ => (false, a))
 else if k = 6 then (match v with | .dict d => z4v q a (n.zip (l.zip fs)) d (a + 1) | _ => (false, a))
 else (false, a)
mutual
noncomputable def isF : Typ → Tst
 | .mk k o y p n l q c => isG k o y n l q c (Z8p p)
noncomputable def Z8p : List Typ → List Tst
 | [] => []
 | x :: r => isF x :: Z8p r
end
theorem zq6 : ∀ l, Z8p l = l.map isF
 | [] => by rw [Z8p]; rfl
 | x :: r => by rw [Z8p, zq6 r]; rfl
theorem z4c (t : Typ) (v : V) (a : Int) : isF t v a = isG t.kind t.of t.only t.names t.lacks t.opn t.cls (t.parts.map isF) v a := by cases t; rw [isF, zq6]; rfl
def VT (t : Typ) : Prop := ∃ left d, (z9r t left d).1 = true
theorem zqd {d : Int} : ∀ {l : List Typ} {left : Int}, (fitsF l left d).1 = true → ∀ u, u ∈ l → VT u
 | x :: r, left, h, u, hu => by
  rw [z52] at h
  cases hk : (z9r x left d).1 with
  | false => rw [if_neg (by simp [hk])] at h; cases h
  | true =>
   rw [if_pos hk] at h
   rcases List.mem_cons.1 hu with rfl | hu
   ·exact ⟨left, d, hk⟩
   ·exact zqd h u hu
theorem VT.cases {t : Typ} (h : VT t) : z27 t = true ∨ (z27 t = false ∧ z9i t = true ∧ ∀ u, u ∈ t.parts → VT u) := by
 obtain ⟨left, d, h⟩ := h
 rw [z6s] at h
 split at h
 ·cases h
 ·cases hl : z27 t with
  | true => exact .inl rfl
  | false =>
   rw [if_neg (by simp [hl])] at h
   cases hv : z9i t with
   | false => rw [if_neg (by simp [hv])] at h; cases h
   | true => rw [if_pos hv] at h; exact .inr ⟨rfl, rfl, zqd h⟩
theorem z5i {t : Typ} (h : z4r t = true) : VT t := ⟨_, _, h⟩
inductive VK (t : Typ) : Prop
 | any : t.kind = 1 → VK t
 | none : t.kind = 2 → VK t
 | kind : t.kind = 3 → VK t
 | only : t.kind = 4 → (z29 (bu t.only)).2 = 0 → VK t
 | list : t.kind = 5 → (∃ p, t.parts = [p] ∧ VT p) → VK t
 | dict : t.kind = 6 → t.names.length ≤ 4096 → t.parts.length = t.names.length → t.lacks.length = t.names.length → (∀ u, u ∈ t.parts → VT u) → VK t
 | union : t.kind = 7 → (∀ u, u ∈ t.parts → VT u) → VK t
 | recd : t.kind = 8 → VK t
theorem VT.know {t : Typ} (h : VT t) : VK t := by
 rcases h.cases with hl | ⟨hl, hv, hp⟩
 ·simp only [z27, Bool.or_eq_true, Bool.and_eq_true, beq_iff_eq, decide_eq_true_eq] at hl
  rcases hl with (((h | h) | ⟨⟨h, _⟩, _⟩) | ⟨h, h2⟩) | ⟨h, _⟩
  ·exact .any h
  ·exact .none h
  ·exact .kind h
  ·exact .only h h2
  ·exact .recd h
 ·simp only [z9i, Bool.or_eq_true, Bool.and_eq_true, beq_iff_eq, decide_eq_true_eq] at hv
  rcases hv with (⟨h, h2⟩ | ⟨h, _⟩) | ⟨⟨⟨⟨h, h2⟩, h3⟩, h4⟩, _⟩
  ·obtain ⟨p, hp'⟩ := List.length_eq_one_iff.1 h2
   exact .list h ⟨p, hp', hp p (by rw [hp']; simp)⟩
  ·exact .union h hp
  ·exact .dict h h2 h3 h4 hp
theorem znv : ∀ {l : List V} {y : V}, y ∈ l → cnt y ≤ cntL l ∧ dpt y ≤ dptL l
 | x :: r, y, h => by
  have hp : 0 ≤ cntL r ∧ 0 ≤ dptL r := by
   clear h
   induction r with
   | nil => simp [cntL, dptL]
   | cons z q ih => have := z44 z; simp only [cntL, dptL]; omega
  have hx := z44 x
  simp only [cntL, dptL]
  rcases List.mem_cons.1 h with rfl | h
  ·omega
  ·have := znv h; omega
theorem Can.part {x y : V} (h : Can x) (hy : y ∈ x.parts) : Can y := by
 have h1 := znv hy
 have h2 := zmk x
 have h3 := zmi x
 obtain ⟨a, b, c⟩ := h
 exact ⟨a.part y hy, by omega, by omega⟩
theorem z84 (l : List V) : 0 ≤ cntL l := by
 induction l with
 | nil => simp [cntL]
 | cons z q ih => have := z44 z; simp only [cntL]; omega
theorem Z2u {x : V} (h : Can x) : zrp x = some (cnt x) := by
 simp only [zrp, Z80, zyp h, Option.bind_some]
theorem Z5c (t : Term) : Fine (bu t) → lo t = bu t := by
 induction t using Term.byParts with
 | _ t ih =>
 intro hx
 have hp := hx.own.2
 have hn := hx.own.1
 rw [← z39] at hp
 have hs : ∀ u, u ∈ z1y t → lo u = bu u := fun u hu => ih u hu (hp _ (List.mem_map_of_mem hu))
 have hb := Zag t
 generalize lo t = x at hb
 generalize bu t = y at hb hn
 cases hb with
 | list hk => exact congrArg V.list (List.map_congr_left fun u hu => hs u (by unfold z1y; rw [if_pos hk]; exact hu))
 | dict hk => exact congrArg V.dict (List.map_congr_left fun u hu => congrArg (Prod.mk u.1) (hs _ (by unfold z1y; rw [if_neg (by omega), if_pos (Or.inl hk)]; exact List.mem_map_of_mem hu)))
 | record hk => exact congrArg (V.record t.cls t.ver) (List.map_congr_left fun u hu => congrArg (Prod.mk u.1) (hs _ (by unfold z1y; rw [if_neg (by omega), if_pos (Or.inr hk)]; exact List.mem_map_of_mem hu)))
 | alien => simp [z30] at hn
 | _ => rfl
def Zai (t : Typ) : Prop := ∀ v a, Can v → 0 ≤ a → a + cnt v ≤ 1099511627776 → z9v v t a = some (isF t v a)
theorem zlp (b : Bool) (a : Int) : z6w a b = some (plc b a) := by cases b <;> rfl
theorem Zeh (t : Typ) (v : V) (a : Int) (hv : Can v) (h0 : 0 ≤ a) (h1 : a + cnt v ≤ 1099511627776) (hl : ∀ u, u ∈ t.parts → Zai u) : ∀ k i, k + i = t.parts.length → zgx z9v v t a i = some (plc (Z6a ((t.parts.drop i).map isF) v a) a)
 | 0, i, h => by
  rw [zk5]
  simp only [z5r, z42 (by omega : ¬ i < t.parts.length), cond_false, zlp]
  rw [List.drop_of_length_le (by omega)]; rfl
 | k + 1, i, h => by
  obtain ⟨x, hx, hdr⟩ := dropc (by omega : i < t.parts.length)
  rw [zk5]
  simp only [z5r, z4b (by omega : i < t.parts.length), cond_true, hx, Option.bind_some, Typ.eta, hl x (List.mem_of_getElem? hx) v a hv h0 h1]
  rw [hdr, List.map_cons, Z6a]
  cases (isF x v a).1 with
  | true => rfl
  | false => simp only [cond_false, Bool.false_or]; exact Zeh t v a hv h0 h1 hl k (i + 1) (by omega)
theorem Zed (l : List V) (t : Typ) (ht : Zai t) (hc : ∀ y, y ∈ l → Can y) : ∀ k i n, k + i = l.length → 0 ≤ n → n + cntL (l.drop i) ≤ 1099511627776 → zhk z9v l t n i = some (zm4 (isF t) (l.drop i) n)
 | 0, i, n, h, h0, h1 => by
  rw [zl2]
  simp only [z6b, z42 (by omega : ¬ i < l.length), cond_false]
  rw [List.drop_of_length_le (by omega)]; rfl
 | k + 1, i, n, h, h0, h1 => by
  obtain ⟨x, hx, hdr⟩ := dropc (by omega : i < l.length)
  have hcx := hc x (List.mem_of_getElem? hx)
  have hcp := z44 x
  rw [hdr] at h1 ⊢
  simp only [cntL] at h1
  have hp := z84 (l.drop (i + 1))
  have hw : IntKind.i64.wrap (n + cnt x) = n + cnt x := z2s (by omega) (by omega)
  rw [zl2]
  simp only [z6b, z4b (by omega : i < l.length), cond_true, hx, Option.bind_some, Typ.eta, ht x n hcx h0 (by omega), Z2u hcx, hw]
  rw [zm4]
  cases (isF t x n).1 with
  | false => rfl
  | true => simp only [Bool.not_true, cond_false, if_true]; exact Zed l t ht hc k (i + 1) _ (by omega) (by omega) (by omega)
theorem zp5 {α β γ : Type} {n : List α} {l : List β} {p : List γ} {i : Nat} {x : α} {y : β} {z : γ} (hx : n[i]? = some x) (hy : l[i]? = some y) (hz : p[i]? = some z) : (n.zip (l.zip p)).drop i = (x, y, z) :: (n.zip (l.zip p)).drop (i + 1) := by
 obtain ⟨h1, rfl⟩ := List.getElem?_eq_some_iff.1 hx
 obtain ⟨h2, rfl⟩ := List.getElem?_eq_some_iff.1 hy
 obtain ⟨h3, rfl⟩ := List.getElem?_eq_some_iff.1 hz
 rw [List.drop_eq_getElem_cons (by simp only [List.length_zip]; omega)]
 simp
theorem Z44 {α β γ : Type} {n : List α} {l : List β} {p : List γ} {i : Nat} (h : n.length ≤ i) : (n.zip (l.zip p)).drop i = [] := List.drop_of_length_le (by simp only [List.length_zip]; omega)
structure DT (t : Typ) : Prop where
 n : t.names.length ≤ 4096
 p : t.parts.length = t.names.length
 l : t.lacks.length = t.names.length
noncomputable def zsl (t : Typ) : List (Str × Bool × Tst) := t.names.zip (t.lacks.zip (t.parts.map isF))
theorem DT.at_ {t : Typ} (h : DT t) {i : Nat} (hi : i < t.names.length) : ∃ s b u, t.names[i]? = some s ∧ t.lacks[i]? = some b ∧ t.parts[i]? = some u ∧ (zsl t).drop i = (s, b, isF u) :: (zsl t).drop (i + 1) := by
 have h1 := List.getElem?_eq_getElem hi
 have h2 := List.getElem?_eq_getElem (show i < t.lacks.length by rw [h.l]; exact hi)
 have h3 := List.getElem?_eq_getElem (show i < t.parts.length by rw [h.p]; exact hi)
 exact ⟨_, _, _, h1, h2, h3, zp5 h1 h2 (by rw [List.getElem?_map, h3]; rfl)⟩
theorem z7f {t : Typ} {i : Nat} (h : t.names.length ≤ i) : (zsl t).drop i = [] := Z44 h
theorem Z5l (t : Typ) (D : DT t) (a : Int) : ∀ k i n, k + i = t.names.length → zl7 t a (i : Nat) = some (z4v t.opn a ((zsl t).drop i) [] n)
 | 0, i, n, h => by
  rw [zl6]
  simp only [z7n, z42 (by omega : ¬ i < t.names.length), cond_false]
  rw [z7f (by omega), z4v]
 | k + 1, i, n, h => by
  obtain ⟨s, b, u, h1, h2, h3, h4⟩ := D.at_ (by omega : i < t.names.length)
  have hw : IntKind.i64.wrap ((i : Int) + 1) = ((i + 1 : Nat) : Int) := by rw [z2s (by omega) (by have := D.n; omega)]; omega
  rw [zl6]
  simp only [z7n, z4b (by omega : i < t.names.length), cond_true, z36, h2, Option.bind_some, hw]
  rw [h4, z4v]
  cases b with
  | false => rfl
  | true => simp only [Bool.not_true, cond_false, if_true]; exact Z5l t D a k (i + 1) n (by omega)
theorem Zfu (t : Typ) (D : DT t) (d : List (Str × V)) (hd : d.length ≤ 4096) (a : Int) (hl : ∀ u, u ∈ t.parts → Zai u) (hc : ∀ y, y ∈ d → Can y.2) :
 ∀ m i k n, (t.names.length - i) + (d.length - k) ≤ m → i ≤ t.names.length → k ≤ d.length → 0 ≤ n → n + zql (d.drop k) ≤ 1099511627776 →
  zan z9v d t a (i : Nat) n (k : Nat) = some (z4v t.opn a ((zsl t).drop i) (d.drop k) n) ∧
  ∀ x, d[k]? = some x → zey z9v (zan z9v d t a) t a n (k : Nat) x (i : Nat) = some (z4v t.opn a ((zsl t).drop i) (d.drop k) n) := by
 intro m
 induction m with
 | zero =>
  intro i k n hm hi hk h0 h1
  have hkd : ¬ k < d.length := by omega
  refine ⟨?_, fun x hx => absurd (List.getElem?_eq_some_iff.1 hx).1 hkd⟩
  rw [zez]
  simp only [z55, z42 hkd, cond_false]
  rw [List.drop_of_length_le (by omega : d.length ≤ k)]
  exact Z5l t D a (t.names.length - i) i n (by omega)
 | succ m ih =>
  intro i k n hm hi hk h0 h1
  have L2 : ∀ x, d[k]? = some x → zey z9v (zan z9v d t a) t a n (k : Nat) x (i : Nat) = some (z4v t.opn a ((zsl t).drop i) (d.drop k) n) := by
   intro x hx
   obtain ⟨hkd, hxe⟩ := List.getElem?_eq_some_iff.1 hx
   have hdr : d.drop k = x :: d.drop (k + 1) := by rw [List.drop_eq_getElem_cons hkd, hxe]
   obtain ⟨nm, v⟩ := x
   have hcv : Can v := hc _ (List.mem_of_getElem? hx)
   have hcp := z44 v
   have h1' := h1
   rw [hdr] at h1'
   simp only [zql] at h1'
   have hpp : 0 ≤ zql (d.drop (k + 1)) := by rw [ze7]; exact z84 _
   have hw1 : IntKind.i64.wrap (n + cnt v) = n + cnt v := z2s (by omega) (by omega)
   have hw2 : IntKind.i64.wrap ((k : Int) + 1) = ((k + 1 : Nat) : Int) := by rw [z2s (by omega) (by omega)]; omega
   have hw3 : IntKind.i64.wrap ((i : Int) + 1) = ((i + 1 : Nat) : Int) := by have := D.n; rw [z2s (by omega) (by omega)]; omega
   have j2 : ∀ j : Nat, i ≤ j → j ≤ t.names.length → zap (zan z9v d t a) n (k : Nat) (nm, v) (j : Nat) = some (z4v t.opn a ((zsl t).drop j) (d.drop (k + 1)) (n + cnt v)) := by
    intro j hj hj'
    simp only [zap, Z2u hcv, Option.bind_some, hw1, hw2]
    exact (ih j (k + 1) (n + cnt v) (by omega) hj' (by omega) (by omega) (by omega)).1
   rw [zur, hdr]
   simp only [z7o]
   by_cases hin : i < t.names.length
   ·obtain ⟨s, b, u, e1, e2, e3, e4⟩ := D.at_ hin
    rw [z4b hin, e4, z4v]
    simp only [cond_true, z36, e1, Option.bind_some, zaq]
    cases hls : Op.bytesLess s nm with
    | true =>
     simp only [cond_true, e2, Option.bind_some, hw3, if_true]
     cases b with
     | false => rfl
     | true =>
      simp only [Bool.not_true, cond_false, if_true]
      rw [← hdr]
      exact (ih (i + 1) k n (by omega) (by omega) hk h0 h1).2 _ hx
    | false =>
     have lte : decide (((i : Nat) : Int) < (t.names.length : Int)) = true := z4b hin
     simp only [cond_false, lte, cond_true, e1, Option.bind_some, zao, Bool.false_eq_true, if_false]
     cases heq : s == nm with
     | true =>
      simp only [cond_true, z36, e3, Option.bind_some, hl u (List.mem_of_getElem? e3) v n hcv h0 (by omega), hw3, if_true]
      cases (isF u v n).1 with
      | false => rfl
      | true => simp only [Bool.not_true, cond_false, if_true]; exact j2 (i + 1) (by omega) (by omega)
     | false =>
      simp only [cond_false, Bool.false_eq_true, if_false]
      cases ho : t.opn with
      | false => rfl
      | true =>
       simp only [Bool.not_true, cond_false, if_true]
       rw [← e4, ← ho]; exact j2 i (Nat.le_refl _) hi
   ·rw [z42 hin]
    simp only [cond_false, zaq, z42 hin, zao]
    rw [z7f (by omega), z4v]
    cases ho : t.opn with
    | false => rfl
    | true =>
     simp only [Bool.not_true, cond_false, if_true]
     have := j2 i (Nat.le_refl _) hi
     rw [z7f (by omega), ho] at this; exact this
  refine ⟨?_, L2⟩
  by_cases hkd : k < d.length
  ·obtain ⟨x, hx, _⟩ := dropc hkd
   rw [zez]
   simp only [z55, z4b hkd, cond_true, z36, hx, Option.bind_some]
   exact L2 x hx
  ·rw [zez]
   simp only [z55, z42 hkd, cond_false]
   rw [List.drop_of_length_le (by omega : d.length ≤ k)]
   exact Z5l t D a (t.names.length - i) i n (by omega)
theorem Z7u (t : Typ) : VT t → z3x t ≤ 268435456 → Zai t := by
 induction t using Typ.byParts with
 | _ t ih =>
 intro hv hb v a hc h0 h1
 have B := tb hb
 have hK := hv.know
 have hw : IntKind.i64.wrap (a + 1) = a + 1 := by have := z44 v; exact z2s (by omega) (by omega)
 have hnr := hc.1
 rw [Zcs, zo2, z4c]
 unfold isG
 cases hK with
 | any hk => simp [hk, zlp, plc]
 | none hk => simp [hk, zlp, plc]
 | kind hk => simp [hk, zlp, Z7z]
 | only hk ho =>
  have hf := z2n ho
  have e : (ofF (lo t.only)).1 = bu t.only := by rw [Z5c _ hf.1, ofF, if_neg (by simp [ho])]
  simp [hk, zlp, zpf t.only B.only, Z7y, e]
 | recd hk =>
  cases v with
  | nothing => have := hnr.own; simp [z30] at this
  | _ => simp [hk, zlp, zr6]
 | union hk hp =>
  have := Zeh t v a hc h0 h1 (fun u hu => ih u hu (hp u hu) (B.parts u hu)) t.parts.length 0 (by omega)
  rw [List.drop_zero] at this
  simp [hk, this]
 | list hk hp =>
  obtain ⟨p, hp1, hp2⟩ := hp
  cases v with
  | list l =>
   have hcl : cnt (.list l) = 1 + cntL l := by rw [cnt]
   have hcp := z84 l
   have hL : zrs l p a = some (zm4 (isF p) l (a + 1)) := by
    rw [Zdc, zon, hw]
    have := Zed l p (ih p (by rw [hp1]; simp) hp2 (B.parts p (by rw [hp1]; simp))) (fun y hy => hc.part hy) l.length 0 (a + 1) (by omega) (by omega) (by rw [List.drop_zero]; omega)
    rw [List.drop_zero] at this; exact this
   rw [hk, hp1]
   show Option.bind (zrs l p a) (fun x => some (x.1, x.2)) = _
   rw [hL]; rfl
  | _ => simp [hk, zlp, plc]
 | dict hk hn hpl hll hp =>
  cases v with
  | dict d =>
   have hcl : cnt (.dict d) = 1 + zql d := by rw [cnt]
   have hdl := z78 hnr.own
   have hL : zrw d t a = some (z4v t.opn a (zsl t) d (a + 1)) := by
    rw [Zdg, zor, hw]
    have := (Zfu t ⟨hn, hpl, hll⟩ d hdl a (fun u hu => ih u hu (hp u hu) (B.parts u hu)) (fun y hy => hc.part (List.mem_map_of_mem hy)) _ 0 0 (a + 1) (Nat.le_refl _) (by omega) (by omega) (by omega) (by rw [List.drop_zero]; omega)).1
    rw [List.drop_zero, List.drop_zero] at this; exact this
   have e : (fun x : Typ => x) (Typ.mk t.kind t.of t.only t.parts t.names t.lacks t.opn t.cls) = t := Typ.eta t
   (try rw [Typ.eta]); rw [hk]
   show Option.bind (zrw d t a) (fun x => some (x.1, x.2)) = _
   rw [hL]; rfl
  | _ => simp [hk, zlp, plc]
theorem zy0 {v : V} (h : (z29 v).2 = 0) : Can v := by
 rcases Classical.em (Can v) with hc | hc
 ·exact hc
 ·exact absurd h (zmn hc)
end Go.Proofs.Ytiapdjdhaclmnaa

namespace Go.Proofs.Ytiapdjdhaclmnaa
open Go Aw
set_option linter.unusedVariables false
set_option linter.unusedSimpArgs false
set_option maxRecDepth 8000
def Z42 (t : Typ) : Prop := ∀ left d, 0 ≤ left → left ≤ 16384 → 0 ≤ d → d ≤ 65 → zgl ⟨left⟩ t d = some (⟨(z9r t left d).2⟩, (z9r t left d).1)
theorem Z7q (t : Typ) (d : Int) (n : Nat) (hn : n = t.parts.length) (hn' : n ≤ 268435456) (hl : ∀ u, u ∈ t.parts → Z42 u) (hd : 0 ≤ d) (hd' : d ≤ 64) : ∀ k i left, k + i = n → 0 ≤ left → left ≤ 16384 →
 zhr zgl t d n (i : Nat) left = some (⟨(fitsF (t.parts.drop i) left (d + 1)).2⟩, (fitsF (t.parts.drop i) left (d + 1)).1)
 | 0, i, left, h, h0, h1 => by
  rw [zf2]
  simp only [z6i, z42 (by omega : ¬ i < n), cond_false]
  rw [List.drop_of_length_le (by omega), zg0]
 | k + 1, i, left, h, h0, h1 => by
  obtain ⟨x, hx, hdr⟩ := dropc (by omega : i < t.parts.length)
  have hp := hl x (List.mem_of_getElem? hx) left (d + 1) h0 h1 (by omega) (by omega)
  have hw : IntKind.i64.wrap (d + 1) = d + 1 := z2s (by omega) (by omega)
  have hw2 : IntKind.i64.wrap ((i : Int) + 1) = ((i + 1 : Nat) : Int) := by rw [z2s (by omega) (by omega)]; omega
  have hf := zqf x left (d + 1)
  rw [zf2]
  simp only [z6i, z4b (by omega : i < n), cond_true, z36, hx, Option.bind_some, hw, hw2, hp]
  rw [hdr, z52]
  cases hk : (z9r x left (d + 1)).1 with
  | false => simp
  | true =>
   have h2 := hf.2 hk
   simp only [Bool.not_true, cond_false, if_true]
   exact Z7q t d n hn hn' hl hd hd' k (i + 1) _ (by omega) h2 (by omega)
theorem Z7p (t : Typ) (left d : Int) (r : S_ref07_room × Bool) (hr : z5n zgl ⟨left⟩ t d t.parts.length = some r) (he : t.parts.length = t.names.length) (hb : t.names.length ≤ 268435456) : ∀ k i, k + i = t.names.length →
 zhq zgl ⟨left⟩ t d (i : Nat) = if risen (z3z t.names i) (t.names.drop i) then some r else some (⟨IntKind.i64.wrap (left - 1)⟩, false)
 | 0, i, h => by
  rw [zla]
  simp only [z6h, z42 (by omega : ¬ i < t.parts.length), cond_false, hr]
  rw [List.drop_of_length_le (by omega), za9]; rfl
 | k + 1, i, h => by
  obtain ⟨s, hs, _⟩ := dropc (by omega : i < t.names.length)
  have hw2 : IntKind.i64.wrap ((i : Int) + 1) = ((i + 1 : Nat) : Int) := by rw [z2s (by omega) (by omega)]; omega
  have := zfr t.names i (by omega) hb (no := ((⟨IntKind.i64.wrap (left - 1)⟩ : S_ref07_room), false)) _ s hs (fun b => if b then some r else some (⟨IntKind.i64.wrap (left - 1)⟩, false)) (Z7p t left d r hr he hb k (i + 1) (by omega)) rfl
  rw [zla]
  simp only [z6h, z4b (by omega : i < t.parts.length), cond_true, z36, hs, Option.bind_some, zpg, zas, cond_false, hw2]
  exact this
theorem zj3 (t : Typ) : z3x t ≤ 268435456 → Z42 t := by
 induction t using Typ.byParts with
 | _ t ih =>
 intro hb left d h0 h1 hd hd'
 have B := tb hb
 have hw : IntKind.i64.wrap (left - 1) = left - 1 := z2s (by omega) (by omega)
 rw [Zdj, zou, z6s]
 simp only [hw]
 by_cases hl : left - 1 < 0
 ·rw [decide_eq_true hl, if_pos (Or.inl hl)]; simp only [cond_true, z9q, hw]
 ·rw [decide_eq_false hl, cond_false]
  by_cases hdd : 64 < d
  ·rw [decide_eq_true (show d > 64 from hdd), if_pos (Or.inr hdd)]; simp only [cond_true, z9q, hw]
  ·rw [decide_eq_false (show ¬ d > 64 from hdd), if_neg (by omega)]
   have hall : z5n zgl ⟨left⟩ t d t.parts.length = some (⟨(fitsF t.parts (left - 1) (d + 1)).2⟩, (fitsF t.parts (left - 1) (d + 1)).1) := by
    simp only [z5n, hw]
    exact Z7q t d _ rfl B.np (fun u hu => ih u hu (B.parts u hu)) hd (by omega) t.parts.length 0 (left - 1) (by omega) (by omega) (by omega)
   have h0j : z5n zgl ⟨left⟩ t d 0 = some (⟨left - 1⟩, true) := by
    simp only [z5n, hw]
    rw [zf2]; rfl
   have hnm := fun he => Z7p t left d _ hall he B.nn t.names.length 0 (by omega)
   rw [hw] at hnm
   simp only [cond_false, z9q, zdk, hw]
   generalize hF : fitsF t.parts (left - 1) (d + 1) = F at hall hnm
   rcases kinds t.kind with h | h | h | h | h | h | h | h | h
   ·simp [z27, h, h0j]
   ·simp [z27, h, h0j]
   ·simp only [z27, z9i, h]
    by_cases a : 1 ≤ t.of
    ·by_cases b : t.of ≤ 10
     ·simp [a, b]
     ·simp [a, b]
    ·simp [a]
   ·simp only [z27, z9i, h, Z89 t.only B.only, Option.bind_some]
    cases hc : (z29 (bu t.only)).2 == 0 <;> simp_all
   ·simp only [z27, z9i, h]
    by_cases a : t.parts.length = 1
    ·rw [a] at hall
     simp [a, hall]
    ·have a' : (((t.parts.length : Nat) : Int) != 1) = true := by simp; omega
     simp [a, a']
   ·simp only [z27, z9i, h]
    have e0 : risen (z3z t.names 0) (List.drop 0 t.names) = risen none t.names := rfl
    rw [e0] at hnm
    by_cases b : t.parts.length = t.names.length
    ·have b' : (((t.names.length : Nat) : Int) != ((t.parts.length : Nat) : Int)) = false := by simp [b]
     by_cases c : t.lacks.length = t.names.length
     ·have c' : (((t.lacks.length : Nat) : Int) != ((t.parts.length : Nat) : Int)) = false := by simp [b, c]
      by_cases a : t.names.length ≤ 4096
      ·have a' : decide (((t.parts.length : Nat) : Int) > 4096) = false := decide_eq_false (by omega)
       have hnm := hnm b
       cases hc : risen none t.names with
       | true =>
        rw [hc] at hnm
        simp only [Int.ofNat_zero, if_true] at hnm
        simp [b', c', z72, hnm, a, b, c, show ¬ (4096 < (t.names.length : Int)) by omega]
       | false =>
        rw [hc] at hnm
        simp only [Int.ofNat_zero, Bool.false_eq_true, if_false] at hnm
        simp [b', c', z72, hnm, b, c, show ¬ (4096 < (t.names.length : Int)) by omega]
      ·have a' : decide (((t.parts.length : Nat) : Int) > 4096) = true := decide_eq_true (by omega)
       simp [a', b', c', z72, hw, a]
     ·have c' : (((t.lacks.length : Nat) : Int) != ((t.parts.length : Nat) : Int)) = true := by simp; omega
      simp [b', c', z72, hw, c]
    ·have b' : (((t.names.length : Nat) : Int) != ((t.parts.length : Nat) : Int)) = true := by simp; omega
     simp [b', z72, hw, b]
   ·simp only [z27, z9i, h]
    by_cases a : 1 < t.parts.length
    ·have a' : decide (((t.parts.length : Nat) : Int) < 2) = false := decide_eq_false (by omega)
     simp [a, a', hall]
    ·have a' : decide (((t.parts.length : Nat) : Int) < 2) = true := decide_eq_true (by omega)
     simp [a, a']
   ·simp only [z27, z9i, h, zpg, Option.bind_some]
    cases hc : z3i t.cls <;> simp [hc]
   ·obtain ⟨g1, g2, g3, g4, g5, g6, g7, g8⟩ := h
    simp only [z27, z9i, z0z g1, z0z g2, z0z g3, z0z g4, z0z g5, z0z g6, z0z g7, z0z g8, cond_false, Bool.false_and, Bool.or_self, Bool.false_eq_true, if_false]
theorem zkl (t : Typ) (h : z3x t ≤ 268435456) : zja t = some (z4r t) := by
 simp only [zja, Typ.eta, zj3 t h 16384 1 (by omega) (by omega) (by omega) (by omega), Option.bind_some]; rfl
end Go.Proofs.Ytiapdjdhaclmnaa

namespace Go.Proofs.Ytiapdjdhaclmnaa
open Go Aw
set_option linter.unusedVariables false
set_option linter.unusedSimpArgs false
set_option maxRecDepth 8000
theorem zx5 {t : Term} (h : bkT t ≤ 268435456) : t.fields.length ≤ 268435456 := by have := zi5 t; omega
theorem zg8 {t u : Term} (h : u ∈ z1y t) : bkT u < bkT t := by
 unfold z1y at h
 split at h
 ·exact zy7 h
 ·split at h
  ·obtain ⟨z, hz, rfl⟩ := List.mem_map.1 h; exact zmr hz
  ·cases h
theorem Z7o (l : List Term) (hl : ∀ u, u ∈ l → zgj u = some (cnt (bu u))) : ∀ k i n, k + i = l.length → 0 ≤ n → n + cntL ((l.map bu).drop i) ≤ 1099511627776 → zha zgj l n i = some (n + cntL ((l.map bu).drop i))
 | 0, i, n, h, h0, h1 => by
  rw [zko]
  simp only [z62, z42 (by omega : ¬ i < l.length), cond_false]
  rw [List.drop_of_length_le (by simp; omega), cntL]; simp
 | k + 1, i, n, h, h0, h1 => by
  obtain ⟨x, hx, hdr⟩ := dropc (by omega : i < l.length)
  have hx2 : (l.map bu)[i]? = some (bu x) := by rw [List.getElem?_map, hx]; rfl
  obtain ⟨x', hx', hdr⟩ := dropc (by rw [List.length_map]; omega : i < (l.map bu).length)
  rw [hx2] at hx'; injection hx' with hx'; subst hx'
  rw [hdr] at h1 ⊢
  simp only [cntL] at h1 ⊢
  have hp := z84 ((l.map bu).drop (i + 1))
  have hcp := z44 (bu x)
  have hw : IntKind.i64.wrap (n + cnt (bu x)) = n + cnt (bu x) := z2s (by omega) (by omega)
  rw [zko]
  simp only [z62, z4b (by omega : i < l.length), cond_true, hx, Option.bind_some, hl x (List.mem_of_getElem? hx), hw]
  rw [Z7o l hl k (i + 1) _ (by omega) (by omega) (by omega)]
  congr 1; omega
theorem Z83 (t : Term) : bkT t ≤ 268435456 → cnt (bu t) ≤ 16384 → zgj t = some (cnt (bu t)) := by
 induction t using Term.byParts with
 | _ t ih =>
 intro hb hc
 have he := zmk (bu t)
 rw [← z39] at he
 have hl : ∀ u, u ∈ z1y t → zgj u = some (cnt (bu u)) := fun u hu => by
  have h1 := zg8 hu
  have h2 := (znv (List.mem_map_of_mem (f := bu) hu)).1
  exact ih u hu (by omega) (by omega)
 rw [Zd4, zoe, Z2t t (zx5 hb)]
 simp only [Option.bind_some]
 rw [Z7o (z1y t) hl (z1y t).length 0 1 (by omega) (by omega) (by rw [List.drop_zero]; omega), List.drop_zero]
 congr 1; omega
structure CT (t : Term) : Prop where
 ok : okT t
 can : Can (bu t)
 bk : bkT t ≤ 268435456
theorem CT.ft {t : Term} (h : CT t) : FT t := ⟨h.ok, zqn h.can⟩
theorem CT.list {t : Term} (h : CT t) (hk : t.kind = 8) {u : Term} (hu : u ∈ t.list) : CT u := by
 have hp : u ∈ z1y t := by unfold z1y; rw [if_pos hk]; exact hu
 exact ⟨zb5 ((zm1 t).1 h.ok).2.2.2.2.1 u hu, h.can.part (by rw [← z39]; exact List.mem_map_of_mem hp), by have := zg8 hp; have := h.bk; omega⟩
theorem CT.fields {t : Term} (h : CT t) (hk : t.kind = 9) {u : Str × Term} (hu : u ∈ t.fields) : CT u.2 := by
 have hp : u.2 ∈ z1y t := by unfold z1y; rw [if_neg (by omega), if_pos (Or.inl hk)]; exact List.mem_map_of_mem hu
 exact ⟨zb6 ((zm1 t).1 h.ok).2.2.2.2.2.1 u hu, h.can.part (by rw [← z39]; exact List.mem_map_of_mem hp), by have := zg8 hp; have := h.bk; omega⟩
theorem Z60 {t : Term} (h : t.kind = 8) : bu t = .list (t.list.map bu) := by
 have hb := zy6 t
 generalize bu t = x at hb
 cases hb <;> first | rfl | (exfalso; omega)
theorem Z61 {t : Term} (h : t.kind = 9) : bu t = .dict (t.fields.map buE) := by
 have hb := zy6 t
 generalize bu t = x at hb
 cases hb <;> first | rfl | (exfalso; omega)
theorem CT.pc {t : Term} (h : CT t) : zgj t = some (cnt (bu t)) := Z83 t h.bk h.can.2.1
def IsR (t : Typ) : Prop := ∀ v a, CT v → 0 ≤ a → a + cnt (bu v) ≤ 1099511627776 → zfc v t a = some (isF t (bu v) a)
theorem zj4 (b : Bool) (a : Int) : z6x a b = some (plc b a) := by cases b <;> rfl
theorem Zbj (t : Typ) (v : Term) (a : Int) (hv : CT v) (h0 : 0 ≤ a) (h1 : a + cnt (bu v) ≤ 1099511627776) (hl : ∀ u, u ∈ t.parts → IsR u) : ∀ k i b, k + i = t.parts.length → zgy zfc v t a b i = some (plc (b || Z6a ((t.parts.drop i).map isF) (bu v) a) a)
 | 0, i, b, h => by
  rw [zk6]
  simp only [z5s, z42 (by omega : ¬ i < t.parts.length), cond_false, zj4]
  rw [List.drop_of_length_le (by omega), List.map_nil, Z6a, Bool.or_false]
 | k + 1, i, b, h => by
  obtain ⟨x, hx, hdr⟩ := dropc (by omega : i < t.parts.length)
  rw [zk6]
  simp only [z5s, z4b (by omega : i < t.parts.length), cond_true, hx, Option.bind_some, hl x (List.mem_of_getElem? hx) v a hv h0 h1, zd6]
  rw [Zbj t v a hv h0 h1 hl k (i + 1) _ (by omega), Zbj t v a hv h0 h1 hl k (i + 1) _ (by omega), hdr, List.map_cons, Z6a]
  cases b <;> simp
theorem Ze8 (v : Term) (t p : Typ) (hp : t.parts = [p]) (ht : IsR p) (hc : ∀ y, y ∈ v.list → CT y) : ∀ k i n, k + i = v.list.length → 0 ≤ n → n + cntL ((v.list.map bu).drop i) ≤ 1099511627776 → zh3 zfc v t n i = some (zm4 (isF p) ((v.list.map bu).drop i) n)
 | 0, i, n, h, h0, h1 => by
  rw [zka]
  simp only [z5v, z42 (by omega : ¬ i < v.list.length), cond_false]
  rw [List.drop_of_length_le (by simp; omega)]; rfl
 | k + 1, i, n, h, h0, h1 => by
  obtain ⟨x, hx, _⟩ := dropc (by omega : i < v.list.length)
  have hx2 : (v.list.map bu)[i]? = some (bu x) := by rw [List.getElem?_map, hx]; rfl
  obtain ⟨x', hx', hdr⟩ := dropc (by rw [List.length_map]; omega : i < (v.list.map bu).length)
  rw [hx2] at hx'; injection hx' with hx'; subst hx'
  have hcx := hc x (List.mem_of_getElem? hx)
  have hcp := z44 (bu x)
  rw [hdr] at h1 ⊢
  simp only [cntL] at h1
  have hpp := z84 ((v.list.map bu).drop (i + 1))
  have hw : IntKind.i64.wrap (n + cnt (bu x)) = n + cnt (bu x) := z2s (by omega) (by omega)
  have hp0 : t.parts[0]? = some p := by rw [hp]; rfl
  rw [zka]
  simp only [z5v, z4b (by omega : i < v.list.length), cond_true, hx, hp0, Option.bind_some, ht x n hcx h0 (by omega), hcx.pc, hw]
  rw [zm4]
  cases (isF p (bu x) n).1 with
  | false => rfl
  | true => simp only [Bool.not_true, cond_false, if_true]; exact Ze8 v t p hp ht hc k (i + 1) _ (by omega) (by omega) (by omega)
theorem Zbl (t : Typ) (D : DT t) (v : Term) (hd : v.fields.length ≤ 4096) (a : Int) (hl : ∀ u, u ∈ t.parts → IsR u) (hc : ∀ y, y ∈ v.fields → CT y.2) :
 ∀ m i k n, (t.names.length - i) + (v.fields.length - k) ≤ m → i ≤ t.names.length → k ≤ v.fields.length → 0 ≤ n → n + zql ((v.fields.map buE).drop k) ≤ 1099511627776 →
  zeu zfc v t a n (i : Nat) (k : Nat) = some (z4v t.opn a ((zsl t).drop i) ((v.fields.map buE).drop k) n) := by
 intro m
 induction m with
 | zero =>
  intro i k n hm hi hk h0 h1
  rw [zkh]
  simp only [z60, z42 (by omega : ¬ k < v.fields.length), z42 (by omega : ¬ i < t.names.length), cond_false, z8m]
  rw [List.drop_of_length_le (by simp; omega : (v.fields.map buE).length ≤ k), z7f (by omega), z4v]
 | succ m ih =>
  intro i k n hm hi hk h0 h1
  have hw2 : IntKind.i64.wrap ((k : Int) + 1) = ((k + 1 : Nat) : Int) := by rw [z2s (by omega) (by omega)]; omega
  have hw3 : IntKind.i64.wrap ((i : Int) + 1) = ((i + 1 : Nat) : Int) := by have := D.n; rw [z2s (by omega) (by omega)]; omega
  rw [zkh]
  simp only [z60]
  by_cases hkd : k < v.fields.length
  ·obtain ⟨x, hx, _⟩ := dropc hkd
   have hx2 : (v.fields.map buE)[k]? = some (buE x) := by rw [List.getElem?_map, hx]; rfl
   obtain ⟨x', hx', hdr⟩ := dropc (by rw [List.length_map]; omega : k < (v.fields.map buE).length)
   rw [hx2] at hx'; injection hx' with hx'; subst hx'
   obtain ⟨nm, y⟩ := x
   have hcy : CT y := hc _ (List.mem_of_getElem? hx)
   have hcp := z44 (bu y)
   have h1' := h1
   rw [hdr] at h1'
   have hbe : buE (nm, y) = (nm, bu y) := rfl
   rw [hbe] at h1' hdr
   simp only [zql] at h1'
   have hpp : 0 ≤ zql ((v.fields.map buE).drop (k + 1)) := by rw [ze7]; exact z84 _
   have hw1 : IntKind.i64.wrap (n + cnt (bu y)) = n + cnt (bu y) := z2s (by omega) (by omega)
   have j3 : ∀ j : Nat, i ≤ j → j ≤ t.names.length → zag (zeu zfc v t a) v n (k : Nat) (j : Nat) = some (z4v t.opn a ((zsl t).drop j) ((v.fields.map buE).drop (k + 1)) (n + cnt (bu y))) := by
    intro j hj hj'
    simp only [zag, z36, hx, Option.bind_some, hcy.pc, hw1, hw2]
    exact ih j (k + 1) (n + cnt (bu y)) (by omega) hj' (by omega) (by omega) (by omega)
   have hne : (((k : Nat) : Int) == ((v.fields.length : Nat) : Int)) = false := by simp; omega
   rw [z4b hkd, hdr]
   simp only [cond_true, z8m, hne, cond_false]
   by_cases hin : i < t.names.length
   ·obtain ⟨s, b, u, e1, e2, e3, e4⟩ := D.at_ hin
    have hne2 : (((i : Nat) : Int) == ((t.names.length : Nat) : Int)) = false := by simp; omega
    rw [z4b hin, e4, z4v]
    simp only [cond_true, z36, e1, hx, Option.bind_some, z8l, e2, hw3, hne2, cond_false, zaf, e3]
    cases hls : Op.bytesLess s nm with
    | true =>
     simp only [cond_true, if_true]
     cases b with
     | false => rfl
     | true =>
      simp only [Bool.not_true, cond_false, if_true]
      rw [← hdr]
      exact ih (i + 1) k n (by omega) (by omega) hk h0 h1
    | false =>
     simp only [cond_false, Bool.false_eq_true, if_false, Bool.false_or]
     cases heq : s == nm with
     | true =>
      simp only [Bool.not_true, cond_false, hl u (List.mem_of_getElem? e3) y n hcy h0 (by omega), Option.bind_some, if_true]
      cases (isF u (bu y) n).1 with
      | false => rfl
      | true => simp only [Bool.not_true, cond_false, if_true]; exact j3 (i + 1) (by omega) (by omega)
     | false =>
      simp only [Bool.not_false, cond_true, Bool.false_eq_true, if_false]
      cases ho : t.opn with
      | false => rfl
      | true =>
       simp only [Bool.not_true, cond_false, if_true]
       rw [← e4, ← ho]; exact j3 i (Nat.le_refl _) hi
   ·have hne2 : (((i : Nat) : Int) == ((t.names.length : Nat) : Int)) = true := by simp; omega
    rw [z42 hin]
    simp only [cond_false, z8l, hne2, cond_true, zaf]
    rw [z7f (by omega), z4v]
    cases ho : t.opn with
    | false => rfl
    | true =>
     simp only [Bool.not_true, cond_false, if_true]
     have := j3 i (Nat.le_refl _) hi
     rw [z7f (by omega), ho] at this; exact this
  ·have hne : (((k : Nat) : Int) == ((v.fields.length : Nat) : Int)) = true := by simp; omega
   rw [z42 hkd, List.drop_of_length_le (by simp; omega : (v.fields.map buE).length ≤ k)]
   simp only [cond_false]
   by_cases hin : i < t.names.length
   ·obtain ⟨s, b, u, e1, e2, e3, e4⟩ := D.at_ hin
    rw [z4b hin, e4, z4v]
    simp only [cond_true, z8m, z4b hin, hne, z8l, z36, e2, Option.bind_some, hw3]
    cases b with
    | false => rfl
    | true =>
     simp only [Bool.not_true, cond_false, if_true]
     have := ih (i + 1) k n (by omega) (by omega) hk h0 h1
     rw [List.drop_of_length_le (by simp; omega : (v.fields.map buE).length ≤ k)] at this; exact this
   ·rw [z42 hin]
    simp only [cond_false, z8m]
    rw [z7f (by omega), z4v]
theorem Z7v (t : Typ) : VT t → z3x t ≤ 268435456 → z6u t → IsR t := by
  induction t using Typ.byParts with
  | _ t ih =>
  intro hv hb hok v a hc h0 h1
  have B := tb hb
  have hK := hv.know
  have hokp : okT t.only ∧ ∀ u, u ∈ t.parts → z6u u := by
    cases t with
    | mk k o y p n l q c =>
      rw [z6u] at hok
      refine ⟨hok.2.2.1, fun u hu => ?_⟩
      have : ∀ {l : List Typ}, zfo l → ∀ u, u ∈ l → z6u u := by
        intro l
        induction l with
        | nil => intro _ u hu; cases hu
        | cons x r ih =>
          intro h u hu
          rw [zfo] at h
          rcases List.mem_cons.1 hu with rfl | hu
          · exact h.1
          · exact ih h.2 u hu
      exact this hok.2.2.2 u hu
  have hw : IntKind.i64.wrap (a + 1) = a + 1 := by have := z44 (bu v); exact z2s (by omega) (by omega)
  have hkk := zo1 (zqn hc.can)
  have hnr := hc.can.1
  rw [Zct, zo3, z4c]
  unfold isG
  cases hK with
  | any hk => simp [hk, zj4, plc]
  | none hk => simp [hk, zj4, plc]
  | kind hk => simp [hk, zj4, hkk.1]
  | only hk ho =>
    have hf := z2n ho
    have hcv := zxy hc.can
    simp [hk, zj4, Z2x v t.only hc.ft ⟨hokp.1, hf.1⟩, zyr, ho, hcv]
  | recd hk =>
    have hr : zr6 t.cls (bu v) = (bif v.kind == 10 then v.cls == t.cls else false) := by
      have hb := zy6 v
      generalize bu v = x at hb
      cases hb with
      | record h => simp [zr6, h]
      | alien h => have : (v.kind == 10) = false := by simp; omega
                   simp [zr6, this]
      | _ h => simp [zr6, h]
    rw [hr]
    by_cases h10 : v.kind = 10
    · simp [hk, zj4, h10]
    · have : (v.kind == 10) = false := by simpa using h10
      simp [hk, zj4, this]
  | union hk hp =>
    have := Zbj t v a hc h0 h1 (fun u hu => ih u hu (hp u hu) (B.parts u hu) (hokp.2 u hu)) t.parts.length 0 false (by omega)
    rw [List.drop_zero, Bool.false_or] at this
    simp [hk, this]
  | list hk hp =>
    obtain ⟨p, hp1, hp2⟩ := hp
    by_cases h8 : v.kind = 8
    · have hbl := Z60 h8
      have hcl : cnt (bu v) = 1 + cntL (v.list.map bu) := by rw [hbl, cnt]
      have hcp := z84 (v.list.map bu)
      have hL : zrk v t a = some (zm4 (isF p) (v.list.map bu) (a + 1)) := by
        rw [Zcv, zo5, hw]
        have := Ze8 v t p hp1 (ih p (by rw [hp1]; simp) hp2 (B.parts p (by rw [hp1]; simp)) (hokp.2 p (by rw [hp1]; simp))) (fun y hy => hc.list h8 hy) v.list.length 0 (a + 1) (by omega) (by omega) (by rw [List.drop_zero]; omega)
        rw [List.drop_zero] at this; exact this
      (try rw [Typ.eta]); rw [hbl, hk, h8, hp1]
      show Option.bind (zrk v t a) (fun x => some (x.1, x.2)) = _
      rw [hL]; rfl
    · have h8' : (v.kind == 8) = false := by simpa using h8
      have : ∀ l, bu v ≠ .list l := fun l h => by rw [h] at hkk; simp [z1l] at hkk; omega
      simp only [hk, h8']
      cases hbv : bu v <;> first | (exact absurd hbv (this _)) | simp [zj4, plc]
  | dict hk hn hpl hll hp =>
    by_cases h9 : v.kind = 9
    · have hbl := Z61 h9
      have hcl : cnt (bu v) = 1 + zql (v.fields.map buE) := by rw [hbl, cnt]
      have hdl : v.fields.length ≤ 4096 := by have := z78 (by rw [← hbl]; exact hnr.own); rwa [List.length_map] at this
      have hL : zrl v t a = some (z4v t.opn a (zsl t) (v.fields.map buE) (a + 1)) := by
        rw [Zcy, zo8, hw]
        have := Zbl t ⟨hn, hpl, hll⟩ v hdl a (fun u hu => ih u hu (hp u hu) (B.parts u hu) (hokp.2 u hu)) (fun y hy => hc.fields h9 hy) _ 0 0 (a + 1) (Nat.le_refl _) (by omega) (by omega) (by omega) (by rw [List.drop_zero]; omega)
        rw [List.drop_zero, List.drop_zero] at this; exact this
      (try rw [Typ.eta]); rw [hbl, hk, h9]
      show Option.bind (zrl v t a) (fun x => some (x.1, x.2)) = _
      rw [hL]; rfl
    · have h9' : (v.kind == 9) = false := by simpa using h9
      have : ∀ l, bu v ≠ .dict l := fun l h => by rw [h] at hkk; simp [z1l] at hkk; omega
      simp only [hk, h9']
      cases hbv : bu v <;> first | (exact absurd hbv (this _)) | simp [zj4, plc]
end Go.Proofs.Ytiapdjdhaclmnaa

namespace Go.Proofs.Ytiapdjdhaclmnaa
open Go Aw
set_option linter.unusedVariables false
set_option linter.unusedSimpArgs false
set_option maxRecDepth 8000
noncomputable def isB (t : Typ) (v : V) : Bool := (isF t v 0).1
abbrev Tri := Str × Bool × Typ
section
variable {F : Type}
end
end Go.Proofs.Ytiapdjdhaclmnaa

namespace Go.Proofs.Ytiapdjdhaclmnaa
open Go Aw
set_option linter.unusedVariables false
set_option linter.unusedSimpArgs false
set_option maxRecDepth 8000
def tz (t : Typ) : List Tri := t.names.zip (t.lacks.zip t.parts)
theorem VT.risen {t : Typ} (h : VT t) (hk : t.kind = 6) : risen none t.names = true := by
 rcases h.cases with hl | ⟨_, hv, _⟩
 ·simp [z27, hk] at hl
 ·simp [z9i, hk] at hv; exact hv.2
end Go.Proofs.Ytiapdjdhaclmnaa

namespace Go.Proofs.Ytiapdjdhaclmnaa
open Go Aw
set_option linter.unusedVariables false
set_option linter.unusedSimpArgs false
set_option maxRecDepth 8000
theorem Z3k (c : Typ) (l : List Typ) (h : ∀ x, x ∈ l → ∃ r, z4f x c = some r) : ∀ k i, k + i = l.length → ∃ j : Int, zhx zdt l c i = some j ∧ (j ≥ 0 ↔ ∃ x, x ∈ l.drop i ∧ z4f x c = some false)
 | 0, i, hi => by
  refine ⟨-1, ?_, by rw [List.drop_of_length_le (by omega)]; simp⟩
  rw [zll]
  simp only [z6o, z42 (by omega : ¬ i < l.length), cond_false]
 | k + 1, i, hi => by
  obtain ⟨x, hx, hdr⟩ := dropc (by omega : i < l.length)
  obtain ⟨r, hr⟩ := h x (List.mem_of_getElem? hx)
  have hs : zdt x c = some (!r) := by rw [Zd2, zoc, hr]; rfl
  rw [zll]
  simp only [z6o, z4b (by omega : i < l.length), cond_true, hx, hs, Option.bind_some]
  rw [hdr]
  cases r with
  | false => exact ⟨(i : Int), rfl, ⟨fun _ => ⟨x, by simp, hr⟩, fun _ => by omega⟩⟩
  | true =>
   obtain ⟨j, h1, h2⟩ := Z3k c l h k (i + 1) (by omega)
   refine ⟨j, h1, h2.trans ⟨fun ⟨y, hy, he⟩ => ⟨y, by simp [hy], he⟩, fun ⟨y, hy, he⟩ => ?_⟩⟩
   rcases List.mem_cons.1 hy with rfl | hy
   ·rw [hr] at he; cases he
   ·exact ⟨y, hy, he⟩
theorem has2 (c : Typ) (l : List Typ) (h : ∀ x, x ∈ l → ∃ r, z4f x c = some r) : ∃ b, zfi l c = some b ∧ (b = true ↔ ∃ x, x ∈ l ∧ z4f x c = some false) := by
 obtain ⟨j, h1, h2⟩ := Z3k c l h l.length 0 (by omega)
 rw [List.drop_zero] at h2
 refine ⟨decide (j ≥ 0), ?_, by rw [decide_eq_true_iff]; exact h2⟩
 rw [Zdq, zp1, Zdo, zoz, h1]; rfl
theorem Z3j (c : Typ) (l : List Typ) (h : ∀ x, x ∈ l → ∃ r, z4f c x = some r) : ∀ k i, k + i = l.length → ∃ j : Int, zhw zds l c i = some j ∧ (j ≥ 0 ↔ ∃ x, x ∈ l.drop i ∧ z4f c x = some true)
 | 0, i, hi => by
  refine ⟨-1, ?_, by rw [List.drop_of_length_le (by omega)]; simp⟩
  rw [zlk]
  simp only [z6n, z42 (by omega : ¬ i < l.length), cond_false]
 | k + 1, i, hi => by
  obtain ⟨x, hx, hdr⟩ := dropc (by omega : i < l.length)
  obtain ⟨r, hr⟩ := h x (List.mem_of_getElem? hx)
  have hs : zds x c = some r := by rw [Zd0, zoa, hr]; rfl
  rw [zlk]
  simp only [z6n, z4b (by omega : i < l.length), cond_true, hx, hs, Option.bind_some]
  rw [hdr]
  cases r with
  | true => exact ⟨(i : Int), rfl, ⟨fun _ => ⟨x, by simp, hr⟩, fun _ => by omega⟩⟩
  | false =>
   obtain ⟨j, h1, h2⟩ := Z3j c l h k (i + 1) (by omega)
   refine ⟨j, h1, h2.trans ⟨fun ⟨y, hy, he⟩ => ⟨y, by simp [hy], he⟩, fun ⟨y, hy, he⟩ => ?_⟩⟩
   rcases List.mem_cons.1 hy with rfl | hy
   ·rw [hr] at he; cases he
   ·exact ⟨y, hy, he⟩
theorem has3 (c : Typ) (l : List Typ) (h : ∀ x, x ∈ l → ∃ r, z4f c x = some r) : ∃ b, zfh l c = some b ∧ (b = true ↔ ∃ x, x ∈ l ∧ z4f c x = some true) := by
 obtain ⟨j, h1, h2⟩ := Z3j c l h l.length 0 (by omega)
 rw [List.drop_zero] at h2
 refine ⟨decide (j ≥ 0), ?_, by rw [decide_eq_true_iff]; exact h2⟩
 rw [Zdp, zp0, Zdn, zoy, h1]; rfl
theorem at_l (n : List Str) (m : Str) : ∀ k i, k + i = n.length → ∃ r, zhv n m i = some r ∧
 ((r = -1 ∧ m ∉ n.drop i) ∨ ∃ j : Nat, r = (j : Int) ∧ i ≤ j ∧ n[j]? = some m)
 | 0, i, h => by
  refine ⟨-1, ?_, .inl ⟨rfl, by rw [List.drop_of_length_le (by omega)]; simp⟩⟩
  rw [zau]
  simp only [z56, z42 (by omega : ¬ i < n.length), cond_false]
 | k + 1, i, h => by
  obtain ⟨s, hs, hdr⟩ := dropc (by omega : i < n.length)
  rw [zau]
  simp only [z56, z4b (by omega : i < n.length), cond_true, hs, Option.bind_some]
  cases heq : m == s with
  | true =>
   have := eq_of_beq heq; subst this
   exact ⟨_, rfl, .inr ⟨i, rfl, Nat.le_refl _, hs⟩⟩
  | false =>
   simp only [cond_false]
   obtain ⟨r, h1, h2⟩ := at_l n m k (i + 1) (by omega)
   refine ⟨r, h1, ?_⟩
   rcases h2 with ⟨h3, h4⟩ | ⟨j, h3, h4, h5⟩
   ·refine .inl ⟨h3, ?_⟩
    rw [hdr]
    intro hm
    rcases List.mem_cons.1 hm with rfl | hm
    ·simp at heq
    ·exact h4 hm
   ·exact .inr ⟨j, h3, by omega, h5⟩
theorem at_eq (n : List Str) (m : Str) : ∃ r, zs1 n m = some r ∧ ((r = -1 ∧ m ∉ n) ∨ ∃ j : Nat, r = (j : Int) ∧ n[j]? = some m) := by
 obtain ⟨r, h1, h2⟩ := at_l n m n.length 0 (by omega)
 rw [List.drop_zero] at h2
 refine ⟨r, h1, ?_⟩
 rcases h2 with h | ⟨j, h3, _, h5⟩
 ·exact .inl h
 ·exact .inr ⟨j, h3, h5⟩
theorem Z01 (n : List Str) (m : Str) : ∃ b, zw9 n m = some b ∧ (b = true ↔ m ∈ n) := by
 obtain ⟨r, h1, h2⟩ := at_eq n m
 refine ⟨decide (r ≥ 0), by simp only [zw9, h1, Option.bind_some], ?_⟩
 rw [decide_eq_true_iff]
 rcases h2 with ⟨rfl, h3⟩ | ⟨j, rfl, h3⟩
 ·exact ⟨fun h => by omega, fun h => absurd h h3⟩
 ·exact ⟨fun _ => List.mem_of_getElem? h3, fun _ => by omega⟩
theorem Z36 (n : List Str) (t : Typ) : ∀ k i, k + i = n.length → ∃ j : Int, zlj n t i = some j ∧ (j ≥ 0 ↔ ∃ s, s ∈ n.drop i ∧ s ∉ t.names)
 | 0, i, hi => by
  refine ⟨-1, ?_, by rw [List.drop_of_length_le (by omega)]; simp⟩
  rw [zli]
  simp only [z7r, z42 (by omega : ¬ i < n.length), cond_false]
 | k + 1, i, hi => by
  obtain ⟨x, hx, hdr⟩ := dropc (by omega : i < n.length)
  obtain ⟨b, hb, hm⟩ := Z01 t.names x
  have hs : zw5 x t = some (!b) := by simp only [zw5, hb, Option.bind_some]
  rw [zli]
  simp only [z7r, z4b (by omega : i < n.length), cond_true, hx, hs, Option.bind_some]
  rw [hdr]
  cases b with
  | false => exact ⟨(i : Int), rfl, ⟨fun _ => ⟨x, by simp, fun h => by have := hm.2 h; cases this⟩, fun _ => by omega⟩⟩
  | true =>
   obtain ⟨j, h1, h2⟩ := Z36 n t k (i + 1) (by omega)
   refine ⟨j, h1, h2.trans ⟨fun ⟨y, hy, he⟩ => ⟨y, by simp [hy], he⟩, fun ⟨y, hy, he⟩ => ?_⟩⟩
   rcases List.mem_cons.1 hy with rfl | hy
   ·exact absurd (hm.1 rfl) he
   ·exact ⟨y, hy, he⟩
theorem Z5a (n : List Str) (t : Typ) : ∃ b, zwb n t = some b ∧ (b = true ↔ ∃ s, s ∈ n ∧ s ∉ t.names) := by
 obtain ⟨j, h1, h2⟩ := Z36 n t n.length 0 (by omega)
 rw [List.drop_zero] at h2
 refine ⟨decide (j ≥ 0), ?_, by rw [decide_eq_true_iff]; exact h2⟩
 simp only [zwb, zzc, h1, Option.bind_some]
end Go.Proofs.Ytiapdjdhaclmnaa

namespace Go.Proofs.Ytiapdjdhaclmnaa
open Go Aw
set_option linter.unusedVariables false
set_option linter.unusedSimpArgs false
set_option maxRecDepth 8000
theorem tz_at {t : Typ} (D : DT t) {j : Nat} (hj : j < t.names.length) : ∃ s l u, t.names[j]? = some s ∧ t.lacks[j]? = some l ∧ t.parts[j]? = some u ∧ (s, l, u) ∈ tz t := by
 have h1 := List.getElem?_eq_getElem hj
 have h2 := List.getElem?_eq_getElem (show j < t.lacks.length by rw [D.l]; exact hj)
 have h3 := List.getElem?_eq_getElem (show j < t.parts.length by rw [D.p]; exact hj)
 refine ⟨_, _, _, h1, h2, h3, ?_⟩
 have h4 : (tz t).drop j = _ := zp5 h1 h2 h3
 exact List.mem_of_mem_drop (i := j) (by rw [h4]; exact List.mem_cons_self)
end Go.Proofs.Ytiapdjdhaclmnaa

namespace Go.Proofs.Ytiapdjdhaclmnaa
open Go Aw
set_option linter.unusedVariables false
set_option linter.unusedSimpArgs false
set_option maxRecDepth 8000
abbrev T00 : Term := Term.mk 0 false 0 0 [] [] 0 [] [] [] 0
theorem zy5 (x : V) : Fine x → bu (cl x) = x := by
 induction x using V.byParts with
 | _ x ih =>
 intro hx
 have hp := hx.own.2
 have hn := hx.own.1
 have hm : ∀ l : List V, (∀ u, u ∈ l → bu (cl u) = u) → (l.map cl).map bu = l := fun l h => by
  rw [List.map_map]
  conv => rhs; rw [← List.map_id l]
  exact List.map_congr_left fun u hu => h u hu
 have hd : ∀ l : List (Str × V), (∀ u, u ∈ l → bu (cl u.2) = u.2) → (l.map clE).map buE = l := fun l h => by
  rw [List.map_map]
  conv => rhs; rw [← List.map_id l]
  exact List.map_congr_left fun u hu => by obtain ⟨s, x⟩ := u; exact congrArg (Prod.mk s) (h _ hu)
 cases x with
 | nothing => simp [z30] at hn
 | alien t => simp [z30] at hn
 | list l => rw [cl, zd2, bu, ze9, hm l (fun u hu => ih u hu (hp u hu))]; rfl
 | dict l => rw [cl, z5b, bu, zbk, hd l (fun u hu => ih u.2 (List.mem_map_of_mem hu) (hp _ (List.mem_map_of_mem hu)))]; rfl
 | record c v l => rw [cl, z5b, bu, zbk, hd l (fun u hu => ih u.2 (List.mem_map_of_mem hu) (hp _ (List.mem_map_of_mem hu)))]; rfl
 | _ => rw [cl, bu]; rfl
theorem zy8 : ∀ {l : List Term}, (∀ u, u ∈ l → bkT (cl (bu u)) ≤ bkT u) → zge ((l.map bu).map cl) ≤ zge l
 | [], _ => Nat.le_refl _
 | x :: r, h => by
  have h1 := h x (by simp)
  have h2 := zy8 (l := r) (fun u hu => h u (by simp [hu]))
  simp only [List.map_cons, zge] at h2 ⊢
  omega
theorem zy9 : ∀ {l : List (Str × Term)}, (∀ u, u ∈ l → bkT (cl (bu u.2)) ≤ bkT u.2) → bkEs ((l.map buE).map clE) ≤ bkEs l
 | [], _ => Nat.le_refl _
 | (s, x) :: r, h => by
  have h1 := h (s, x) (by simp)
  have h2 := zy9 (l := r) (fun u hu => h u (by simp [hu]))
  simp only [List.map_cons, bkEs, buE, clE] at h1 h2 ⊢
  omega
theorem Za8 (t : Term) : bkT (cl (bu t)) ≤ bkT t := by
 induction t using Term.byParts with
 | _ t ih =>
 have hb := zy6 t
 have h0 := zdn t
 have hl : t.kind = 8 → zge ((t.list.map bu).map cl) ≤ zge t.list := fun hk => zy8 fun u hu => ih u (by unfold z1y; rw [if_pos hk]; exact hu)
 have hd : (t.kind = 9 ∨ t.kind = 10) → bkEs ((t.fields.map buE).map clE) ≤ bkEs t.fields := fun hk => zy9 fun u hu => ih u.2 (by unfold z1y; rw [if_neg (by omega), if_pos hk]; exact List.mem_map_of_mem hu)
 generalize bu t = y at hb
 cases hb with
 | list hk => have := hl hk; rw [cl, zd2]; simp only [bkT, List.length_nil, bkEs]; omega
 | dict hk => have := hd (.inl hk); rw [cl, z5b]; simp only [bkT, List.length_nil, zge]; omega
 | record hk => have := hd (.inr hk); rw [cl, z5b]; simp only [bkT, List.length_nil, zge]; omega
 | _ hk => rw [cl]; simp only [bkT, List.length_nil, zge, bkEs]; omega
noncomputable def clT (t : Typ) : Typ := (zcw t).getD t
inductive CF (t : Typ) : Typ → Prop
 | any : t.kind = 1 → CF t (Typ.mk 1 0 T00 [] [] [] false [])
 | none : t.kind = 2 → CF t (Typ.mk 2 0 T00 [] [] [] false [])
 | kind : t.kind = 3 → CF t (Typ.mk 3 t.of T00 [] [] [] false [])
 | only : t.kind = 4 → CF t (Typ.mk 4 0 (cl (bu t.only)) [] [] [] false [])
 | list : t.kind = 5 → CF t (Typ.mk 5 0 T00 (t.parts.map clT) [] [] false [])
 | dict : t.kind = 6 → CF t (Typ.mk 6 0 T00 (t.parts.map clT) t.names t.lacks t.opn [])
 | union : t.kind = 7 → CF t (Typ.mk 7 0 T00 (t.parts.map clT) [] [] false [])
 | recd : t.kind = 8 → CF t (Typ.mk 8 0 T00 [] [] [] false t.cls)
structure ClOk (t : Typ) : Prop where
 form : CF t (clT t)
 run : zcw t = some (clT t)
 fit : ∀ left d, z9r (clT t) left d = z9r t left d
 is : ∀ v a, isF (clT t) v a = isF t v a
 bk : z3x (clT t) ≤ z3x t
theorem zjo {t c : Typ} (h : zcw t = some c) (h1 : ∀ left d, z9r c left d = z9r t left d) (h2 : ∀ v a, isF c v a = isF t v a) (h3 : z3x c ≤ z3x t) (h4 : CF t c) : ClOk t := by
 have e : clT t = c := by unfold clT; rw [h]; rfl
 exact ⟨by rw [e]; exact h4, by rw [e]; exact h, by rw [e]; exact h1, by rw [e]; exact h2, by rw [e]; exact h3⟩
theorem Zfa (t : Typ) (hl : ∀ u, u ∈ t.parts → zcw u = some (clT u)) (hb : t.parts.length ≤ 268435456) (s1 s2 : Int) (s3 : Bool) (s4 : Int) (s5 : Nat) (s6 s7 : Str) (s8 : Int) (s9 : List Term) (s10 : List (Str × Term)) (s11 : Str) (s12 : Int) (s13 : List Str) (s14 : List Bool) (s15 : Bool) (s16 : Str) :
 ∀ k i, k + i = t.parts.length → zhf zcw t s1 s2 s3 s4 s5 s6 s7 s8 s9 s10 s11 s12 s13 s14 s15 s16 i ((t.parts.take i).map clT) = z8n t s1 s2 s3 s4 s5 s6 s7 s8 s9 s10 s11 s12 s13 s14 s15 s16 (t.parts.map clT)
 | 0, i, h => by
  rw [zkt]
  simp only [z67, z42 (by omega : ¬ i < t.parts.length), cond_false]
  rw [List.take_of_length_le (by omega)]
 | k + 1, i, h => by
  obtain ⟨x, hx, _⟩ := dropc (by omega : i < t.parts.length)
  rw [zkt]
  simp only [z67, z4b (by omega : i < t.parts.length), cond_true, hx, Option.bind_some, Typ.eta, hl x (List.mem_of_getElem? hx), Z3z (b := 264) (by omega) (show ((t.parts.take i).map clT).length ≤ 1073741824 by simp; omega)]
  rw [show (t.parts.take i).map clT ++ [clT x] = (t.parts.take (i + 1)).map clT from z4k (f := clT) hx]
  exact Zfa t hl hb s1 s2 s3 s4 s5 s6 s7 s8 s9 s10 s11 s12 s13 s14 s15 s16 k (i + 1) (by omega)
theorem Zdt (t : Typ) (hl : ∀ u, u ∈ t.parts → zcw u = some (clT u)) (hb : t.parts.length ≤ 268435456) (s1 s2 : Int) (s3 : Bool) (s4 : Int) (s5 : Nat) (s6 s7 : Str) (s8 : Int) (s9 : List Term) (s10 : List (Str × Term)) (s11 : Str) (s12 : Int) (s13 : List Str) (s14 : List Bool) (s15 : Bool) (s16 : Str) :
 z5m zcw t s1 s2 s3 s4 s5 s6 s7 s8 s9 s10 s11 s12 s13 s14 s15 s16 = z8n t s1 s2 s3 s4 s5 s6 s7 s8 s9 s10 s11 s12 s13 s14 s15 s16 (if t.kind = 5 ∨ t.kind = 6 ∨ t.kind = 7 then t.parts.map clT else []) := by
 have h := Zfa t hl hb s1 s2 s3 s4 s5 s6 s7 s8 s9 s10 s11 s12 s13 s14 s15 s16 t.parts.length 0 (by omega)
 rw [List.take_zero, List.map_nil] at h
 unfold z5m z9l
 by_cases h5 : t.kind = 5
 ·rw [z7d h5, cond_true, cond_true, if_pos (.inl h5), h]
 ·rw [z0z h5, cond_false]
  by_cases h6 : t.kind = 6
  ·rw [z7d h6, cond_true, cond_true, if_pos (.inr (.inl h6)), h]
  ·rw [z0z h6, cond_false]
   by_cases h7 : t.kind = 7
   ·rw [z7d h7, cond_true, if_pos (.inr (.inr h7)), h]
   ·rw [z0z h7, cond_false, if_neg (by omega)]
theorem zfz {d : Int} : ∀ {l : List Typ}, (∀ u, u ∈ l → ∀ left d, z9r (clT u) left d = z9r u left d) → ∀ left, fitsF (l.map clT) left d = fitsF l left d
 | [], _, left => rfl
 | x :: r, h, left => by
  rw [List.map_cons, z52, z52, h x (by simp)]
  rw [zfz (l := r) (fun u hu => h u (by simp [hu]))]
theorem zqe {c t : Typ} (hl : z27 c = z27 t) (hv : z9i c = z9i t) (hp : z27 t = false → z9i t = true → ∀ left d, fitsF c.parts left d = fitsF t.parts left d) (left d : Int) : z9r c left d = z9r t left d := by
 rw [z6s, z6s, hl, hv]
 cases h1 : z27 t with
 | true => rfl
 | false =>
  cases h2 : z9i t with
  | false => rfl
  | true => rw [hp h1 h2]
theorem zbl : ∀ {l : List Typ}, (∀ u, u ∈ l → z3x (clT u) ≤ z3x u) → z5c (l.map clT) ≤ z5c l
 | [], _ => Nat.le_refl _
 | x :: r, h => by
  have h1 := h x (by simp)
  have h2 := zbl (l := r) (fun u hu => h u (by simp [hu]))
  simp only [List.map_cons, z5c] at h2 ⊢
  omega
theorem Zaa (t : Term) : bkT T00 ≤ bkT t := by
 have := zdn t
 simp only [T00, bkT, List.length_nil, zge, bkEs]; omega
theorem tkK {k o : Int} {y : Term} {p : List Typ} {n : List Str} {l : List Bool} {q : Bool} {c : Str} : (Typ.mk k o y p n l q c).kind = k := rfl
theorem tkO {k o : Int} {y : Term} {p : List Typ} {n : List Str} {l : List Bool} {q : Bool} {c : Str} : (Typ.mk k o y p n l q c).of = o := rfl
theorem tkY {k o : Int} {y : Term} {p : List Typ} {n : List Str} {l : List Bool} {q : Bool} {c : Str} : (Typ.mk k o y p n l q c).only = y := rfl
theorem tkP {k o : Int} {y : Term} {p : List Typ} {n : List Str} {l : List Bool} {q : Bool} {c : Str} : (Typ.mk k o y p n l q c).parts = p := rfl
theorem tkN {k o : Int} {y : Term} {p : List Typ} {n : List Str} {l : List Bool} {q : Bool} {c : Str} : (Typ.mk k o y p n l q c).names = n := rfl
theorem tkL {k o : Int} {y : Term} {p : List Typ} {n : List Str} {l : List Bool} {q : Bool} {c : Str} : (Typ.mk k o y p n l q c).lacks = l := rfl
theorem tkQ {k o : Int} {y : Term} {p : List Typ} {n : List Str} {l : List Bool} {q : Bool} {c : Str} : (Typ.mk k o y p n l q c).opn = q := rfl
theorem tkC {k o : Int} {y : Term} {p : List Typ} {n : List Str} {l : List Bool} {q : Bool} {c : Str} : (Typ.mk k o y p n l q c).cls = c := rfl
theorem z46 (t : Typ) : VT t → z3x t ≤ 268435456 → ClOk t := by
 induction t using Typ.byParts with
 | _ t ih =>
 intro hv hb
 have B := tb hb
 have h00 := Zaa t.only
 have hbk := zjq t
 have hP : (∀ u, u ∈ t.parts → VT u) → (∀ u, u ∈ t.parts → ClOk u) := fun h u hu => ih u hu (h u hu) (B.parts u hu)
 -- kinds without parts
 have leaf : ∀ {k o : Int} {y : Term} {c : Str}, t.kind = k → ¬ (t.kind = 5 ∨ t.kind = 6 ∨ t.kind = 7) → zcw t = some (Typ.mk k o y [] [] [] false c) → z27 (Typ.mk k o y [] [] [] false c) = z27 t → z27 t = true →
  (∀ v a, isF (Typ.mk k o y [] [] [] false c) v a = isF t v a) → bkT y ≤ bkT t.only → c.length ≤ t.cls.length → CF t (Typ.mk k o y [] [] [] false c) → ClOk t := fun ek hk hr hl ht hi hy hc hF => by
  refine zjo hr (fun left d => ?_) hi (by simp only [z3x, z5c, List.map_nil, List.sum_nil, List.length_nil]; omega) hF
  rw [z6s, z6s, hl, ht]; rfl
 have noP : ¬ (t.kind = 5 ∨ t.kind = 6 ∨ t.kind = 7) → ∀ (s1 s2 : Int) (s3 : Bool) (s4 : Int) (s5 : Nat) (s6 s7 : Str) (s8 : Int) (s9 : List Term) (s10 : List (Str × Term)) (s11 : Str) (s12 : Int) (s13 : List Str) (s14 : List Bool) (s15 : Bool) (s16 : Str),
  z5m zcw t s1 s2 s3 s4 s5 s6 s7 s8 s9 s10 s11 s12 s13 s14 s15 s16 = some (Typ.mk t.kind s1 (Term.mk s2 s3 s4 s5 s6 s7 s8 s9 s10 s11 s12) [] s13 s14 s15 s16) := fun hk s1 s2 s3 s4 s5 s6 s7 s8 s9 s10 s11 s12 s13 s14 s15 s16 => by
  unfold z5m z9l z8n
  rw [z0z (fun h => hk (.inl h)), z0z (fun h => hk (.inr (.inl h))), z0z (fun h => hk (.inr (.inr h)))]
  rfl
 have run := Zd8 t
 rw [zoj] at run
 rcases hv.know with hk | hk | hk | ⟨hk, ho⟩ | ⟨hk, p, hp, hvp⟩ | ⟨hk, n1, n2, n3, hp⟩ | ⟨hk, hp⟩ | hk
 ·refine leaf (k := 1) (o := 0) (y := T00) (c := []) hk (by omega) ?_ ?_ ?_ (fun v a => ?_) h00 (Nat.zero_le _) (.any hk)
  ·rw [run, z0z (by omega), cond_false, z0z (by omega), cond_false, z0z (by omega), cond_false, z0z (by omega), cond_false, noP (by omega), hk]
  ·simp [z27, tkK, hk]
  ·simp [z27, hk]
  ·rw [z4c, z4c, hk]; simp only [tkK, tkO, tkY, tkP, tkN, tkL, tkQ, tkC]; unfold isG; rfl
 ·refine leaf (k := 2) (o := 0) (y := T00) (c := []) hk (by omega) ?_ ?_ ?_ (fun v a => ?_) h00 (Nat.zero_le _) (.none hk)
  ·rw [run, z0z (by omega), cond_false, z0z (by omega), cond_false, z0z (by omega), cond_false, z0z (by omega), cond_false, noP (by omega), hk]
  ·simp [z27, tkK, hk]
  ·simp [z27, hk]
  ·rw [z4c, z4c, hk]; simp only [tkK, tkO, tkY, tkP, tkN, tkL, tkQ, tkC]; unfold isG; rfl
 ·have ht : z27 t = true := by
   rcases hv.cases with h | ⟨_, h, _⟩
   ·exact h
   ·simp [z9i, hk] at h
  have hl : z27 (Typ.mk 3 t.of T00 [] [] [] false []) = z27 t := by
   simp only [z27, tkK, tkO, tkY, tkP, tkN, tkL, tkQ, tkC, hk]; rfl
  refine leaf (k := 3) (o := t.of) (y := T00) (c := []) hk (by omega) ?_ hl ht (fun v a => ?_) h00 (Nat.zero_le _) (.kind hk)
  ·rw [run, z7d hk, cond_true, noP (by omega), hk]
  ·rw [z4c, z4c, hk]; simp only [tkK, tkO, tkY, tkP, tkN, tkL, tkQ, tkC]; unfold isG; rfl
 ·have hf := (z2n ho).1
  have hbc := zy5 _ hf
  have ht : z27 t = true := by
   rcases hv.cases with h | ⟨_, h, _⟩
   ·exact h
   ·simp [z9i, hk] at h
  have hl : z27 (Typ.mk 4 0 (cl (bu t.only)) [] [] [] false []) = z27 t := by
   simp [z27, tkK, tkO, tkY, tkP, tkN, tkL, tkQ, tkC, hk, hbc]
  refine leaf (k := 4) (o := 0) (y := cl (bu t.only)) (c := []) hk (by omega) ?_ hl ht (fun v a => ?_) (Za8 _) (Nat.zero_le _) (.only hk)
  ·have hof : zgh t.only = some (bu t.only, 0) := by
    rw [zpf t.only B.only]
    unfold ofF
    rw [zq0, if_neg (by rw [ho]; simp), Z5c _ hf]
   have hpl : zvy (bu t.only) = some (cl (bu t.only), 0) := by
    simp only [zvy, zpi, (z2n ho).2, Option.bind_some, Z84 _ hf]; rfl
   rw [run, z0z (by omega), cond_false, z7d hk, cond_true]
   have et : Term.mk t.only.kind t.only.bool t.only.int t.only.float t.only.text t.only.bytes t.only.ref t.only.list t.only.fields t.only.cls t.only.ver = t.only := by cases t.only; rfl
   simp only [et, hof, Option.bind_some, hpl, noP (show ¬ (t.kind = 5 ∨ t.kind = 6 ∨ t.kind = 7) by omega), hk]
   congr 2
   cases cl (bu t.only); rfl
  ·rw [z4c, z4c, hk]; simp only [tkK, tkO, tkY, tkP, tkN, tkL, tkQ, tkC]; unfold isG; rw [hbc]; rfl
 ·have hC := hP (fun u hu => by rw [hp] at hu; simp at hu; subst hu; exact hvp)
  have hj := Zdt t (fun u hu => (hC u hu).run) B.np
  refine zjo (c := Typ.mk 5 0 T00 (t.parts.map clT) [] [] false []) ?_ (zqe ?_ ?_ ?_) (fun v a => ?_) ?_ (.list hk)
  ·rw [run, z0z (by omega), cond_false, z0z (by omega), cond_false, z0z (by omega), cond_false, z0z (by omega), cond_false, hj, if_pos (.inl hk)]; unfold z8n; rw [hk]
  ·simp only [z27, tkK, tkO, tkY, tkP, tkN, tkL, tkQ, tkC, hk]; rfl
  ·simp [z9i, tkK, tkO, tkY, tkP, tkN, tkL, tkQ, tkC, hk]
  ·intro _ _ left d; exact zfz (fun u hu => (hC u hu).fit) left
  ·rw [z4c, z4c, hk]; simp only [tkK, tkO, tkY, tkP, tkN, tkL, tkQ, tkC]; unfold isG
   rw [List.map_map, List.map_congr_left (g := isF) (fun u hu => by funext v a; exact (hC u hu).is v a)]
   rfl
  ·have := zbl (fun u hu => (hC u hu).bk)
   simp only [z3x, List.map_nil, List.sum_nil, List.length_nil]; omega
 ·have hC := hP hp
  have hj := Zdt t (fun u hu => (hC u hu).run) B.np
  refine zjo (c := Typ.mk 6 0 T00 (t.parts.map clT) t.names t.lacks t.opn []) ?_ (zqe ?_ ?_ ?_) (fun v a => ?_) ?_ (.dict hk)
  ·have hn : zw8 t.names = some t.names := by
    unfold zw8; rw [Z29 (by omega) (by have := B.nn; omega)]; rfl
   have hlk : zw7 t.lacks = some t.lacks := by
    unfold zw7; rw [Z29 (by omega) (by have := B.nl; omega)]; rfl
   rw [run, z0z (by omega), cond_false, z0z (by omega), cond_false, z0z (by omega), cond_false, z7d hk, cond_true, hn, Option.bind_some, hlk, Option.bind_some, hj, if_pos (.inr (.inl hk))]; unfold z8n; rw [hk]
  ·simp only [z27, tkK, tkO, tkY, tkP, tkN, tkL, tkQ, tkC, hk]; rfl
  ·simp only [z9i, tkK, tkO, tkY, tkP, tkN, tkL, tkQ, tkC, hk, List.length_map]; rfl
  ·intro _ _ left d; exact zfz (fun u hu => (hC u hu).fit) left
  ·rw [z4c, z4c, hk]; simp only [tkK, tkO, tkY, tkP, tkN, tkL, tkQ, tkC]; unfold isG
   rw [List.map_map, List.map_congr_left (g := isF) (fun u hu => by funext v a; exact (hC u hu).is v a)]
   rfl
  ·have := zbl (fun u hu => (hC u hu).bk)
   simp only [z3x, List.length_nil]; omega
 ·have hC := hP hp
  have hj := Zdt t (fun u hu => (hC u hu).run) B.np
  refine zjo (c := Typ.mk 7 0 T00 (t.parts.map clT) [] [] false []) ?_ (zqe ?_ ?_ ?_) (fun v a => ?_) ?_ (.union hk)
  ·rw [run, z0z (by omega), cond_false, z0z (by omega), cond_false, z0z (by omega), cond_false, z0z (by omega), cond_false, hj, if_pos (.inr (.inr hk))]; unfold z8n; rw [hk]
  ·simp only [z27, tkK, tkO, tkY, tkP, tkN, tkL, tkQ, tkC, hk]; rfl
  ·simp [z9i, tkK, tkO, tkY, tkP, tkN, tkL, tkQ, tkC, hk]
  ·intro _ _ left d; exact zfz (fun u hu => (hC u hu).fit) left
  ·rw [z4c, z4c, hk]; simp only [tkK, tkO, tkY, tkP, tkN, tkL, tkQ, tkC]; unfold isG
   rw [List.map_map, List.map_congr_left (g := isF) (fun u hu => by funext v a; exact (hC u hu).is v a)]
   rfl
  ·have := zbl (fun u hu => (hC u hu).bk)
   simp only [z3x, List.map_nil, List.sum_nil, List.length_nil]; omega
 ·have ht : z27 t = true := by
   rcases hv.cases with h | ⟨_, h, _⟩
   ·exact h
   ·simp [z9i, hk] at h
  have hl : z27 (Typ.mk 8 0 T00 [] [] [] false t.cls) = z27 t := by
   simp only [z27, tkK, tkO, tkY, tkP, tkN, tkL, tkQ, tkC, hk]; rfl
  refine leaf (k := 8) (o := 0) (y := T00) (c := t.cls) hk (by omega) ?_ hl ht (fun v a => ?_) h00 (Nat.le_refl _) (.recd hk)
  ·rw [run, z0z (by omega), cond_false, z0z (by omega), cond_false, z7d hk, cond_true, noP (by omega), hk]
  ·rw [z4c, z4c, hk]; simp only [tkK, tkO, tkY, tkP, tkN, tkL, tkQ, tkC]; unfold isG; rfl
end Go.Proofs.Ytiapdjdhaclmnaa

namespace Go.Proofs.Ytiapdjdhaclmnaa
open Go Aw
set_option linter.unusedVariables false
set_option linter.unusedSimpArgs false
set_option maxRecDepth 8000
abbrev Ze3 : Typ := Typ.mk 1 0 T00 [] [] [] false []
theorem Zah : bkT T00 = 12 := by simp [T00, bkT, zge, bkEs]
theorem zbn : ∀ (a b : List Typ), z5c (a ++ b) = z5c a + z5c b
 | [], b => by simp [z5c]
 | x :: r, b => by simp only [List.cons_append, z5c, zbn r b]; omega
theorem zyh : z4r Ze3 = true := by
 unfold z4r; rw [z6s]
 rw [if_neg (by omega), if_pos (by simp [z27, tkK])]
theorem Za9 : z3x Ze3 = 20 := by simp only [z3x, Zah, z5c, List.map_nil, List.sum_nil, List.length_nil]; rfl
def optsT (t : Typ) : List Typ := if t.kind = 7 then t.parts else [t]
theorem Z4w (t : Typ) : zru t = some (optsT t) := by
 unfold zru optsT
 by_cases h : t.kind = 7
 ·rw [z7d h, cond_true, if_pos h]
 ·rw [z0z h, cond_false, if_neg h]
theorem zxw (x y : List Typ) (h1 : 1 ≤ x.length + y.length) (h2 : x.length + y.length ≤ 536870912) : zwa [x, y] = some (x ++ y) := by
 have l2 : zlh [x, y] ([] : List Typ) 0 = some (x ++ y) := by
  rw [zf4]
  simp only [z7q]
  rw [show decide (((0 : Nat) : Int) < ((([x, y] : List (List Typ)).length : Nat) : Int)) = true from rfl, cond_true, show ([x, y] : List (List Typ))[0]? = some x from rfl, Option.bind_some, Z29 (by omega) (by omega), Option.bind_some, zf4]
  simp only [z7q]
  have ha : z9f 264 x y = some (x ++ y) := by unfold z9f; rw [Nat.ble_eq_true_of_le (by omega)]; rfl
  rw [show decide (((0 + 1 : Nat) : Int) < ((([x, y] : List (List Typ)).length : Nat) : Int)) = true from rfl, cond_true, show ([x, y] : List (List Typ))[0 + 1]? = some y from rfl, Option.bind_some, ha, Option.bind_some, zf4]
  rfl
 unfold zwa
 rw [zf5]
 simp only [z6m]
 have w1 : IntKind.i64.wrap (0 + ((x.length : Nat) : Int)) = ((x.length : Nat) : Int) := by rw [z2s (by omega) (by omega)]; omega
 have w2 : IntKind.i64.wrap (((x.length : Nat) : Int) + ((y.length : Nat) : Int)) = ((x.length + y.length : Nat) : Int) := by rw [z2s (by omega) (by omega)]; omega
 rw [show decide (((0 : Nat) : Int) < ((([x, y] : List (List Typ)).length : Nat) : Int)) = true from rfl, cond_true, show ([x, y] : List (List Typ))[0]? = some x from rfl, Option.bind_some, w1, decide_eq_false (by omega : ¬ (((x.length : Nat) : Int) < 0)), cond_false, zf5]
 simp only [z6m]
 rw [show decide (((0 + 1 : Nat) : Int) < ((([x, y] : List (List Typ)).length : Nat) : Int)) = true from rfl, cond_true, show ([x, y] : List (List Typ))[0 + 1]? = some y from rfl, Option.bind_some, w2, decide_eq_false (by omega : ¬ (((x.length + y.length : Nat) : Int) < 0)), cond_false, zf5]
 simp only [z6m]
 have hg : zxh ((x.length + y.length : Nat) : Int) = some (x.length + y.length) := by
  unfold zxh; rw [decide_eq_true (by omega : (1 : Int) ≤ ((x.length + y.length : Nat) : Int)), decide_eq_true (by omega : ((x.length + y.length : Nat) : Int) ≤ 1099511627)]; rfl
 rw [show decide (((0 + 1 + 1 : Nat) : Int) < ((([x, y] : List (List Typ)).length : Nat) : Int)) = false from rfl, cond_false, hg, Option.bind_some, l2]
theorem zzd {t : Typ} (h : VT t) : 1 ≤ (optsT t).length := by
 unfold optsT
 by_cases hk : t.kind = 7
 ·rw [if_pos hk]
  rcases h.cases with h | ⟨_, h, _⟩
  ·simp [z27, hk] at h
  ·simp [z9i, hk] at h; omega
 ·rw [if_neg hk]; simp
theorem zwg (t : Typ) : z5c (optsT t) ≤ z3x t := by
 unfold optsT
 have := zjq t
 by_cases hk : t.kind = 7
 ·rw [if_pos hk]; omega
 ·rw [if_neg hk]; simp only [z5c]; omega
end Go.Proofs.Ytiapdjdhaclmnaa

namespace Go.Proofs.Ytiapdjdhaclmnaa
open Go Aw
set_option linter.unusedVariables false
set_option linter.unusedSimpArgs false
set_option maxRecDepth 8000
theorem Z7t (t : Typ) (hl : ∀ u, u ∈ t.parts → z9w u = some (clT u)) (hb : t.parts.length ≤ 268435456) (s1 s2 : Int) (s3 : Bool) (s4 : Int) (s5 : Nat) (s6 s7 : Str) (s8 : Int) (s9 : List Term) (s10 : List (Str × Term)) (s11 : Str) (s12 : Int) (s13 : List Str) (s14 : List Bool) (s15 : Bool) (s16 : Str) :
 ∀ k i, k + i = t.parts.length → zhb z9w t s1 s2 s3 s4 s5 s6 s7 s8 s9 s10 s11 s12 s13 s14 s15 s16 i ((t.parts.take i).map clT) = zhc t s1 s2 s3 s4 s5 s6 s7 s8 s9 s10 s11 s12 s13 s14 s15 s16 (t.parts.map clT)
 | 0, i, h => by
  rw [zkp]
  simp only [z63, z42 (by omega : ¬ i < t.parts.length), cond_false]
  rw [List.take_of_length_le (by omega)]
 | k + 1, i, h => by
  obtain ⟨x, hx, _⟩ := dropc (by omega : i < t.parts.length)
  rw [zkp]
  simp only [z63, z4b (by omega : i < t.parts.length), cond_true, hx, Option.bind_some, Typ.eta, hl x (List.mem_of_getElem? hx), Z3z (b := 264) (by omega) (show ((t.parts.take i).map clT).length ≤ 1073741824 by simp; omega)]
  rw [show (t.parts.take i).map clT ++ [clT x] = (t.parts.take (i + 1)).map clT from z4k (f := clT) hx]
  exact Z7t t hl hb s1 s2 s3 s4 s5 s6 s7 s8 s9 s10 s11 s12 s13 s14 s15 s16 k (i + 1) (by omega)
theorem Zbm (t : Typ) (hl : (t.kind = 5 ∨ t.kind = 6 ∨ t.kind = 7) → ∀ u, u ∈ t.parts → z9w u = some (clT u)) (hb : t.parts.length ≤ 268435456) (s1 s2 : Int) (s3 : Bool) (s4 : Int) (s5 : Nat) (s6 s7 : Str) (s8 : Int) (s9 : List Term) (s10 : List (Str × Term)) (s11 : Str) (s12 : Int) (s13 : List Str) (s14 : List Bool) (s15 : Bool) (s16 : Str) :
 z89 z9w t s1 s2 s3 s4 s5 s6 s7 s8 s9 s10 s11 s12 s13 s14 s15 s16 = some (Typ.mk t.kind s1 (Term.mk s2 s3 s4 s5 s6 s7 s8 s9 s10 s11 s12) (if t.kind = 5 ∨ t.kind = 6 ∨ t.kind = 7 then t.parts.map clT else []) s13 s14 s15 s16) := by
 have h : (t.kind = 5 ∨ t.kind = 6 ∨ t.kind = 7) → _ := fun hk => Z7t t (hl hk) hb s1 s2 s3 s4 s5 s6 s7 s8 s9 s10 s11 s12 s13 s14 s15 s16 t.parts.length 0 (by omega)
 simp only [List.take_zero, List.map_nil] at h
 unfold z89 zah
 by_cases h5 : t.kind = 5
 ·rw [z7d h5, cond_true, cond_true, if_pos (.inl h5), h (.inl h5)]; rfl
 ·rw [z0z h5, cond_false]
  by_cases h7 : t.kind = 7
  ·rw [z7d h7, cond_true, cond_true, if_pos (.inr (.inr h7)), h (.inr (.inr h7))]; rfl
  ·rw [z0z h7, cond_false]
   by_cases h6 : t.kind = 6
   ·rw [z7d h6, cond_true, if_pos (.inr (.inl h6)), h (.inr (.inl h6))]; rfl
   ·rw [z0z h6, cond_false, if_neg (by omega)]; rfl
theorem z8h (t : Typ) : VT t → z3x t ≤ 268435456 → z9w t = some (clT t) := by
 induction t using Typ.byParts with
 | _ t ih =>
 intro hv hb
 have B := tb hb
 have F := (z46 t hv hb).form
 have hP : (t.kind = 5 ∨ t.kind = 6 ∨ t.kind = 7) → ∀ u, u ∈ t.parts → z9w u = some (clT u) := fun hk u hu => ih u hu (by
  rcases hv.know with h | h | h | ⟨h, _⟩ | ⟨h, p, hp, hvp⟩ | ⟨h, _, _, _, hp⟩ | ⟨h, hp⟩ | h <;> first
   | (exfalso; omega)
   | exact hp u hu
   | (rw [hp] at hu; simp at hu; subst hu; exact hvp)) (B.parts u hu)
 have J := Zbm t hP B.np
 have run := Zd5 t
 rw [zof] at run
 generalize clT t = c at F
 cases F with
 | any hk => rw [run, z0z (by omega), cond_false, z0z (by omega), cond_false, z0z (by omega), cond_false, z0z (by omega), cond_false, J, if_neg (by omega), hk]
 | none hk => rw [run, z0z (by omega), cond_false, z0z (by omega), cond_false, z0z (by omega), cond_false, z0z (by omega), cond_false, J, if_neg (by omega), hk]
 | kind hk => rw [run, z7d hk, cond_true, J, if_neg (by omega), hk]
 | only hk =>
  have ho : (z29 (bu t.only)).2 = 0 := by rcases hv.know with h | h | h | ⟨h, q⟩ | ⟨h, _⟩ | ⟨h, _⟩ | ⟨h, _⟩ | h <;> first | (exfalso; omega) | exact q
  have et : Term.mk t.only.kind t.only.bool t.only.int t.only.float t.only.text t.only.bytes t.only.ref t.only.list t.only.fields t.only.cls t.only.ver = t.only := by cases t.only; rfl
  rw [run, z0z (by omega), cond_false, z7d hk, cond_true]
  simp only [et, Z0y t.only (z2n ho).1, Option.bind_some, J, hk]
  rw [if_neg (by omega)]
  congr 2
  cases cl (bu t.only); rfl
 | list hk => rw [run, z0z (by omega), cond_false, z0z (by omega), cond_false, z0z (by omega), cond_false, z0z (by omega), cond_false, J, if_pos (by omega), hk]
 | dict hk =>
  rw [run, z0z (by omega), cond_false, z0z (by omega), cond_false, z0z (by omega), cond_false, z7d hk, cond_true]
  rw [Z29 (b := 16) (by omega) (by have := B.nn; omega), Option.bind_some, Z29 (b := 1) (by omega) (by have := B.nl; omega), Option.bind_some, J, if_pos (by omega), hk]
 | union hk => rw [run, z0z (by omega), cond_false, z0z (by omega), cond_false, z0z (by omega), cond_false, z0z (by omega), cond_false, J, if_pos (by omega), hk]
 | recd hk => rw [run, z0z (by omega), cond_false, z0z (by omega), cond_false, z7d hk, cond_true, J, if_neg (by omega), hk]
theorem ClOk.vt {t : Typ} (h : ClOk t) (hv : VT t) : VT (clT t) := by
 obtain ⟨l, d, hd⟩ := hv
 exact ⟨l, d, by rw [h.fit]; exact hd⟩
theorem zb4 {t : Typ} (hv : VT t) (hk : t.kind = 4) : (z29 (bu t.only)).2 = 0 := by
 rcases hv.know with h | h | h | ⟨h, q⟩ | ⟨h, _⟩ | ⟨h, _⟩ | ⟨h, _⟩ | h <;> first | (exfalso; omega) | exact q
theorem VT.ps {t : Typ} (hv : VT t) (hk : t.kind = 5 ∨ t.kind = 6 ∨ t.kind = 7) : ∀ u, u ∈ t.parts → VT u := fun u hu => by
 rcases hv.know with h | h | h | ⟨h, _⟩ | ⟨h, p, hp, hvp⟩ | ⟨h, _, _, _, hp⟩ | ⟨h, hp⟩ | h <;> first
  | (exfalso; omega)
  | exact hp u hu
  | (rw [hp] at hu; simp at hu; subst hu; exact hvp)
theorem Z5v (t : Typ) : VT t → z3x t ≤ 268435456 → clT (clT t) = clT t := by
 induction t using Typ.byParts with
 | _ t ih =>
 intro hv hb
 have B := tb hb
 have C := z46 t hv hb
 have F := C.form
 have F2 := (z46 (clT t) (C.vt hv) (by have := C.bk; omega)).form
 have hm : (t.kind = 5 ∨ t.kind = 6 ∨ t.kind = 7) → (t.parts.map clT).map clT = t.parts.map clT := fun hk => by
  rw [List.map_map]
  exact List.map_congr_left fun u hu => ih u hu (hv.ps hk u hu) (B.parts u hu)
 generalize hc : clT t = c at F F2 ⊢
 generalize clT c = d at F2
 cases F with
 | any hk => cases F2 <;> first | rfl | (rename_i h; cases h)
 | none hk => cases F2 <;> first | rfl | (rename_i h; cases h)
 | kind hk => cases F2 <;> first | rfl | (rename_i h; cases h)
 | only hk =>
  cases F2 <;> first | (rename_i h; simp only [tkK] at h; exfalso; omega) | skip
  simp only [tkY, zy5 _ (z2n (zb4 hv hk)).1]
 | list hk =>
  cases F2 <;> first | (rename_i h; simp only [tkK] at h; exfalso; omega) | skip
  simp only [tkP, hm (by omega)]
 | dict hk =>
  cases F2 <;> first | (rename_i h; simp only [tkK] at h; exfalso; omega) | skip
  simp only [tkP, tkN, tkL, tkQ, hm (by omega)]
 | union hk =>
  cases F2 <;> first | (rename_i h; simp only [tkK] at h; exfalso; omega) | skip
  simp only [tkP, hm (by omega)]
 | recd hk => cases F2 <;> first | rfl | (rename_i h; cases h)
theorem zjj {i : Int} (h : -9223372036854775808 ≤ i ∧ i ≤ 9223372036854775807) : inI .i64 i := h
theorem Z6t {i : Int} (h : 0 ≤ i ∧ i ≤ 18446744073709551615) : inI .u64 i := h
theorem Z33 (t : Term) : okT t → Fine (bu t) → okT (cl (bu t)) := by
 induction t using Term.byParts with
 | _ t ih =>
 intro ho hf
 have hp := hf.own.2
 have hn := hf.own.1
 rw [← z39] at hp
 have hq := (zm1 t).1 ho
 have hm : ∀ u, u ∈ z1y t → okT u → okT (cl (bu u)) := fun u hu h => ih u hu h (hp _ (List.mem_map_of_mem hu))
 have z : inI .i64 0 := zjj (by decide)
 have hL : t.kind = 8 → ∀ u, u ∈ (t.list.map bu).map cl → okT u := fun hk u hu => by
  rw [List.map_map] at hu
  obtain ⟨x, hx, rfl⟩ := List.mem_map.1 hu
  exact hm x (by unfold z1y; rw [if_pos hk]; exact hx) (zb5 hq.2.2.2.2.1 x hx)
 have hE : (t.kind = 9 ∨ t.kind = 10) → ∀ u, u ∈ (t.fields.map buE).map clE → okT u.2 := fun hk u hu => by
  rw [List.map_map] at hu
  obtain ⟨x, hx, rfl⟩ := List.mem_map.1 hu
  exact hm x.2 (by unfold z1y; rw [if_neg (by omega), if_pos hk]; exact List.mem_map_of_mem hx) (zb6 hq.2.2.2.2.2.1 x hx)
 have hb := zy6 t
 generalize bu t = y at hb hn
 cases hb with
 | nothing hk => simp [z30] at hn
 | alien hk => simp [z30] at hn
 | list hk => rw [cl, zd2, okT]; exact ⟨zjj (by decide), z, by decide, Z6t (by decide), znj (hL hk), trivial, z⟩
 | dict hk => rw [cl, z5b, okT]; exact ⟨zjj (by decide), z, by decide, Z6t (by decide), trivial, zjg (hE (.inl hk)), z⟩
 | record hk => rw [cl, z5b, okT]; exact ⟨zjj (by decide), z, by decide, Z6t (by decide), trivial, zjg (hE (.inr hk)), hq.2.2.2.2.2.2⟩
 | _ hk => rw [cl, okT]; exact ⟨zjj (by decide), by first | exact z | exact hq.2.1, by first | exact hq.2.2.1 | decide, by first | exact hq.2.2.2.1 | exact Z6t (by decide), trivial, trivial, z⟩
end Go.Proofs.Ytiapdjdhaclmnaa

namespace Go.Proofs.Ytiapdjdhaclmnaa
open Go Aw
set_option linter.unusedVariables false
set_option linter.unusedSimpArgs false
set_option maxRecDepth 8000
theorem za0 (t : Typ) : z6u t ↔ (inI .i64 t.kind ∧ inI .i64 t.of ∧ okT t.only ∧ zfo t.parts) := by cases t; rw [z6u]; rfl
theorem z3s : ∀ {l : List Typ}, zfo l → ∀ t, t ∈ l → z6u t
 | x :: r, h, t, ht => by
  rw [zfo] at h
  rcases List.mem_cons.1 ht with rfl | ht
  ·exact h.1
  ·exact z3s h.2 t ht
theorem z8s : okT T00 := by rw [T00, okT]; exact ⟨zjj (by decide), zjj (by decide), by decide, Z6t (by decide), trivial, trivial, zjj (by decide)⟩
noncomputable def cf : Bool → Typ → Typ
 | true, t => clT t
 | false, t => t
structure SF (f : Typ → Typ) (t a : Typ) : Prop where
 kind : a.kind = t.kind
 of : t.kind = 3 → a.of = t.of
 only : t.kind = 4 → bu a.only = bu t.only ∧ okT a.only ∧ bkT a.only ≤ bkT t.only
 cls : t.kind = 8 → a.cls = t.cls
 dict : t.kind = 6 → a.names = t.names ∧ a.lacks = t.lacks ∧ a.opn = t.opn
 parts : (t.kind = 5 ∨ t.kind = 6 ∨ t.kind = 7) → a.parts = t.parts.map f
theorem Z8l (l : List Typ) : l.map (cf false) = l := by
 rw [show cf false = id from rfl, List.map_id]
theorem Z0z (t : Typ) (hv : VT t) (hb : z3x t ≤ 268435456) (ok : z6u t) : SF clT t (clT t) := by
 have F := (z46 t hv hb).form
 have o1 := ((za0 t).1 ok).2.2.1
 generalize clT t = c at F
 cases F with
 | any hk => exact ⟨hk.symm, fun h => by omega, fun h => by omega, fun h => by omega, fun h => by omega, fun h => by omega⟩
 | none hk => exact ⟨hk.symm, fun h => by omega, fun h => by omega, fun h => by omega, fun h => by omega, fun h => by omega⟩
 | kind hk => exact ⟨hk.symm, fun h => rfl, fun h => by omega, fun h => by omega, fun h => by omega, fun h => by omega⟩
 | only hk => exact ⟨hk.symm, fun h => by omega, fun h => ⟨zy5 _ (z2n (zb4 hv hk)).1, Z33 _ o1 (z2n (zb4 hv hk)).1, Za8 _⟩, fun h => by omega, fun h => by omega, fun h => by omega⟩
 | list hk => exact ⟨hk.symm, fun h => by omega, fun h => by omega, fun h => by omega, fun h => by omega, fun h => rfl⟩
 | dict hk => exact ⟨hk.symm, fun h => by omega, fun h => by omega, fun h => by omega, fun h => ⟨rfl, rfl, rfl⟩, fun h => rfl⟩
 | union hk => exact ⟨hk.symm, fun h => by omega, fun h => by omega, fun h => by omega, fun h => by omega, fun h => rfl⟩
 | recd hk => exact ⟨hk.symm, fun h => by omega, fun h => by omega, fun h => rfl, fun h => by omega, fun h => by omega⟩
theorem Z5w (b : Bool) (t : Typ) (hv : VT t) (hb : z3x t ≤ 268435456) (ok : z6u t) : SF (cf b) t (cf b t) := by
 cases b with
 | true => exact Z0z t hv hb ok
 | false => exact ⟨rfl, fun _ => rfl, fun _ => ⟨rfl, ((za0 t).1 ok).2.2.1, Nat.le_refl _⟩, fun _ => rfl, fun _ => ⟨rfl, rfl, rfl⟩, fun _ => (Z8l _).symm⟩
theorem Z56 (t : Typ) : VT t → z3x t ≤ 268435456 → z6u t → z6u (clT t) := by
 induction t using Typ.byParts with
 | _ t ih =>
 intro hv hb ok
 have B := tb hb
 have F := (z46 t hv hb).form
 have o := (za0 t).1 ok
 have z : inI .i64 0 := zjj (by decide)
 have hm : (t.kind = 5 ∨ t.kind = 6 ∨ t.kind = 7) → zfo (t.parts.map clT) := fun hk => zdy fun u hu => by
  obtain ⟨x, hx, rfl⟩ := List.mem_map.1 hu
  exact ih x hx (hv.ps hk x hx) (B.parts x hx) (z3s o.2.2.2 x hx)
 generalize clT t = c at F
 cases F with
 | any hk => rw [z6u]; exact ⟨zjj (by decide), z, z8s, trivial⟩
 | none hk => rw [z6u]; exact ⟨zjj (by decide), z, z8s, trivial⟩
 | kind hk => rw [z6u]; exact ⟨zjj (by decide), o.2.1, z8s, trivial⟩
 | only hk => rw [z6u]; exact ⟨zjj (by decide), z, Z33 _ o.2.2.1 (z2n (zb4 hv hk)).1, trivial⟩
 | list hk => rw [z6u]; exact ⟨zjj (by decide), z, z8s, hm (by omega)⟩
 | dict hk => rw [z6u]; exact ⟨zjj (by decide), z, z8s, hm (by omega)⟩
 | union hk => rw [z6u]; exact ⟨zjj (by decide), z, z8s, hm (by omega)⟩
 | recd hk => rw [z6u]; exact ⟨zjj (by decide), z, z8s, trivial⟩
theorem Za2 (b : Bool) (t : Typ) (hv : VT t) (hb : z3x t ≤ 268435456) (ok : z6u t) : VT (cf b t) ∧ z3x (cf b t) ≤ z3x t ∧ z6u (cf b t) ∧ ∀ v a, isF (cf b t) v a = isF t v a := by
 cases b with
 | true => have C := z46 t hv hb; exact ⟨C.vt hv, C.bk, Z56 t hv hb ok, C.is⟩
 | false => exact ⟨hv, Nat.le_refl _, ok, fun _ _ => rfl⟩
theorem Z3x (c : Typ) (hl : ∀ u, u ∈ c.parts → zj7 u = some true) : ∀ k i, k + i = c.parts.length → zh5 zj7 c i = some true
 | 0, i, h => by
  rw [zke]
  simp only [z5y, z42 (by omega : ¬ i < c.parts.length), cond_false]
 | k + 1, i, h => by
  obtain ⟨x, hx, _⟩ := dropc (by omega : i < c.parts.length)
  rw [zke]
  simp only [z5y, z4b (by omega : i < c.parts.length), cond_true, hx, Option.bind_some, Typ.eta, hl x (List.mem_of_getElem? hx), Bool.not_true, cond_false]
  exact Z3x c hl k (i + 1) (by omega)
theorem Z64 (t : Typ) : VT t → z3x t ≤ 268435456 → zj7 (clT t) = some true := by
 induction t using Typ.byParts with
 | _ t ih =>
 intro hv hb
 have B := tb hb
 have C := z46 t hv hb
 have hc : z9w (clT t) = some (clT t) := by rw [z8h (clT t) (C.vt hv) (by have := C.bk; omega), Z5v t hv hb]
 have F := C.form
 have hm : (t.kind = 5 ∨ t.kind = 6 ∨ t.kind = 7) → ∀ u, u ∈ t.parts.map clT → zj7 u = some true := fun hk u hu => by
  obtain ⟨x, hx, rfl⟩ := List.mem_map.1 hu
  exact ih x hx (hv.ps hk x hx) (B.parts x hx)
 have hp : (∀ u, u ∈ (clT t).parts → zj7 u = some true) ∧ ((clT t).kind = 4 ∨ (clT t).only.kind = 0) := by
  generalize clT t = c at F ⊢
  cases F with
  | any hk => exact ⟨(fun u hu => by cases hu), .inr rfl⟩
  | none hk => exact ⟨(fun u hu => by cases hu), .inr rfl⟩
  | kind hk => exact ⟨(fun u hu => by cases hu), .inr rfl⟩
  | only hk => exact ⟨(fun u hu => by cases hu), .inl rfl⟩
  | list hk => exact ⟨hm (by omega), .inr rfl⟩
  | dict hk => exact ⟨hm (by omega), .inr rfl⟩
  | union hk => exact ⟨hm (by omega), .inr rfl⟩
  | recd hk => exact ⟨(fun u hu => by cases hu), .inr rfl⟩
 have hl := Z3x (clT t) hp.1 (clT t).parts.length 0 (by omega)
 rw [Zcx, zo7]
 simp only [Typ.eta, hc, Option.bind_some, bne_self_eq_false, beq_self_eq_true, Bool.not_true, cond_false, z5k, hl]
 rcases hp.2 with h | h
 ·simp [h]
 ·simp [h]
theorem zt0 (a c : Typ) (hn : a.parts.length = c.parts.length) (hl : ∀ (j : Nat) u w, a.parts[j]? = some u → c.parts[j]? = some w → z7t u w = some true) : ∀ k i, k + i = a.parts.length → zes z7t a c i = some true
 | 0, i, h => by
  rw [zkc]
  simp only [z5x, z42 (by omega : ¬ i < a.parts.length), cond_false]
 | k + 1, i, h => by
  obtain ⟨x, hx, _⟩ := dropc (by omega : i < a.parts.length)
  obtain ⟨y, hy, _⟩ := dropc (by omega : i < c.parts.length)
  rw [zkc]
  simp only [z5x, z4b (by omega : i < a.parts.length), cond_true, hx, hy, Option.bind_some, Typ.eta, hl i x y hx hy, Bool.not_true, cond_false]
  exact zt0 a c hn hl k (i + 1) (by omega)
theorem nek {a b : Int} (h : ¬ a = b) : (a != b) = true := by simpa using h
theorem Z4f (a c : Typ) (h : (a.kind = 5 ∨ a.kind = 6 ∨ a.kind = 7) → a.parts.length = c.parts.length ∧ zes z7t a c 0 = some true) : z8j z7t a c = some true := by
 unfold z8j zae
 by_cases h5 : a.kind = 5
 ·obtain ⟨h1, h2⟩ := h (.inl h5)
  rw [zb8 h5, cond_false, cond_false, zb8 (show ((a.parts.length : Nat) : Int) = (c.parts.length : Nat) by omega), cond_false, h2]
 ·rw [nek h5, cond_true]
  by_cases h7 : a.kind = 7
  ·obtain ⟨h1, h2⟩ := h (.inr (.inr h7))
   rw [zb8 h7, cond_false, cond_false, zb8 (show ((a.parts.length : Nat) : Int) = (c.parts.length : Nat) by omega), cond_false, h2]
  ·rw [nek h7, cond_true]
   by_cases h6 : a.kind = 6
   ·obtain ⟨h1, h2⟩ := h (.inr (.inl h6))
    rw [zb8 h6, cond_false, zb8 (show ((a.parts.length : Nat) : Int) = (c.parts.length : Nat) by omega), cond_false, h2]
   ·rw [nek h6, cond_true]
theorem zsz (a c : Typ) (h1 : a.names = c.names) (h2 : a.lacks = c.lacks) (hj : z8j z7t a c = some true) : ∀ k i, k + i = a.names.length → zh4 z7t a c i = some true
 | 0, i, h => by
  rw [zkb]
  simp only [z5w, z42 (by omega : ¬ i < a.names.length), cond_false, hj]
 | k + 1, i, h => by
  obtain ⟨x, hx, _⟩ := dropc (by omega : i < a.names.length)
  have ih := zsz a c h1 h2 hj k (i + 1) (by omega)
  rw [zkb]
  simp only [z5w, z4b (by omega : i < a.names.length), cond_true, ← h1, ← h2, hx, Option.bind_some, beq_self_eq_true, Bool.not_true, cond_false, zac, ih]
  by_cases hq : i < a.lacks.length
  ·obtain ⟨y, hy, _⟩ := dropc hq
   rw [z4b hq, cond_true, hy]
   simp only [Option.bind_some, beq_self_eq_true, Bool.not_true, cond_false]
  ·rw [z42 hq, cond_false]
theorem zn1 (t : Typ) : VT t → z3x t ≤ 268435456 → z6u t → ∀ b, z7t (cf b t) (clT t) = some true := by
 induction t using Typ.byParts with
 | _ t ih =>
 intro hv hb ok b
 have B := tb hb
 have A := Z5w b t hv hb ok
 have C := Z0z t hv hb ok
 have J : z8j z7t (cf b t) (clT t) = some true := Z4f _ _ (fun hk => by
  rw [A.kind] at hk
  have e1 := A.parts hk
  have e2 := C.parts hk
  have hn : (cf b t).parts.length = (clT t).parts.length := by rw [e1, e2]; simp
  refine ⟨hn, zt0 _ _ hn (fun j u w hu hw => ?_) (cf b t).parts.length 0 (by omega)⟩
  rw [e1, List.getElem?_map, Option.map_eq_some_iff] at hu
  rw [e2, List.getElem?_map, Option.map_eq_some_iff] at hw
  obtain ⟨x, h1, rfl⟩ := hu
  obtain ⟨y, h2, rfl⟩ := hw
  rw [h1] at h2; injection h2 with h2; subst h2
  have hx := List.mem_of_getElem? h1
  exact ih x hx (hv.ps hk x hx) (B.parts x hx) (z3s ((za0 t).1 ok).2.2.2 x hx) b)
 rw [Zcw, zo6]
 rw [A.kind, C.kind, zb8 rfl, cond_false]
 by_cases h3 : t.kind = 3
 ·rw [z7d h3, cond_true, A.of h3, C.of h3, beq_self_eq_true]
 rw [z0z h3, cond_false]
 by_cases h4 : t.kind = 4
 ·obtain ⟨a1, a2, _⟩ := A.only h4
  obtain ⟨c1, c2, _⟩ := C.only h4
  have hf := (z2n (zb4 hv h4)).1
  have e := Z2x (cf b t).only (clT t).only ⟨a2, by rw [a1]; exact hf⟩ ⟨c2, by rw [c1]; exact hf⟩
  have hs : ∀ x : V, z4o x x = 0 := fun x => by
   have h := zq3 (key x) (key x)
   rw [zwc]; omega
  rw [z7d h4, cond_true]
  have et : ∀ y : Term, Term.mk y.kind y.bool y.int y.float y.text y.bytes y.ref y.list y.fields y.cls y.ver = y := fun y => by cases y; rfl
  simp only [et, e, Option.bind_some, a1, c1, hs]
  rfl
 rw [z0z h4, cond_false]
 by_cases h8 : t.kind = 8
 ·rw [z7d h8, cond_true, A.cls h8, C.cls h8, beq_self_eq_true]
 rw [z0z h8, cond_false]
 by_cases h6 : t.kind = 6
 ·obtain ⟨a1, a2, a3⟩ := A.dict h6
  obtain ⟨c1, c2, c3⟩ := C.dict h6
  have hl := zsz (cf b t) (clT t) (a1.trans c1.symm) (a2.trans c2.symm) J (cf b t).names.length 0 (by omega)
  rw [z7d h6, cond_true]
  simp only [a3, c3, beq_self_eq_true, Bool.not_true, cond_false, a1, c1, a2, c2, bne_self_eq_false, zad, hl]
 ·rw [z0z h6, cond_false, J]
end Go.Proofs.Ytiapdjdhaclmnaa

namespace Go.Proofs.Ytiapdjdhaclmnaa
open Go Aw
set_option linter.unusedVariables false
set_option linter.unusedSimpArgs false
set_option maxRecDepth 8000
theorem zvh (n : List Str) (m : Str) : ∀ k i, k + i = n.length → zkk n m i = zhv n m i
 | 0, i, h => by
  rw [zkj, zau]
  simp only [z7j, z56, z42 (by omega : ¬ i < n.length), cond_false]
 | k + 1, i, h => by
  obtain ⟨x, hx, _⟩ := dropc (by omega : i < n.length)
  rw [zkj, zau]
  simp only [z7j, z56, z4b (by omega : i < n.length), cond_true, hx, Option.bind_some, zvh n m k (i + 1) (by omega)]
  rw [show (x == m) = (m == x) from Bool.eq_iff_iff.2 (by rw [beq_iff_eq, beq_iff_eq]; exact eq_comm)]
theorem zpm (n : List Str) (m : Str) : zvx n m = zs1 n m := zvh n m n.length 0 (by omega)
theorem miss2 (a b : Typ) : ∀ k i, k + i = a.names.length → ∃ c : Bool, zhh a b i = some (bif c then false else !a.opn) ∧ (c = true ↔ ∃ s, s ∈ a.names.drop i ∧ s ∉ b.names)
 | 0, i, h => by
  refine ⟨false, ?_, ?_⟩
  ·rw [zkx]
   simp only [z7l, z42 (by omega : ¬ i < a.names.length), cond_false]
  ·rw [List.drop_of_length_le (by omega)]; simp
 | k + 1, i, h => by
  obtain ⟨s, hs, hd⟩ := dropc (by omega : i < a.names.length)
  obtain ⟨x, hx, hcase⟩ := at_eq b.names s
  obtain ⟨c, hc, hm⟩ := miss2 a b k (i + 1) (by omega)
  rw [zkx]
  simp only [z7l, z4b (by omega : i < a.names.length), cond_true, hs, Option.bind_some, zpm, hx, hc]
  rcases hcase with ⟨rfl, hno⟩ | ⟨m, rfl, hm2⟩
  ·refine ⟨true, rfl, fun _ => ⟨s, by rw [hd]; simp, hno⟩, fun _ => rfl⟩
  ·have e : decide ((m : Int) < 0) = false := decide_eq_false (by omega)
   refine ⟨c, by rw [e]; rfl, ?_⟩
   rw [hm, hd]
   have hin := List.mem_of_getElem? hm2
   constructor
   ·rintro ⟨q, h1, h2⟩; exact ⟨q, List.mem_cons_of_mem _ h1, h2⟩
   ·rintro ⟨q, h1, h2⟩
    rcases List.mem_cons.1 h1 with rfl | h1
    ·exact absurd hin h2
    ·exact ⟨q, h1, h2⟩
structure DS (f : Typ → Typ) (t a : Typ) : Prop where
 n : a.names = t.names
 l : a.lacks = t.lacks
 o : a.opn = t.opn
 p : a.parts = t.parts.map f
theorem dd2 (f : Typ → Typ) (a b a' b' : Typ) (A : DT a) (B : DT b) (SA : DS f a a') (SB : DS f b b') (hs : ∀ u, u ∈ a.parts → ∀ w, w ∈ b.parts → ∃ r, z4f u w = some r ∧ z74 (f u) (f w) = some r) : ∀ k i, k + i = b.names.length →
 ∃ r : Bool, zhg z4f a b i = some r ∧ zhi z74 a' b' i = bif r then (bif b.opn then some true else zhh a' b' 0) else some false
 | 0, i, h => by
  refine ⟨true, ?_, ?_⟩
  ·rw [zku]
   simp only [z68, z42 (by omega : ¬ i < b.names.length), cond_false]
  ·rw [zky]
   simp only [z69, SB.n, z42 (by omega : ¬ i < b.names.length), cond_false, SB.o, cond_true]
 | k + 1, i, h => by
  obtain ⟨s, lb, ub, e1, e2, e3, _⟩ := tz_at B (by omega : i < b.names.length)
  obtain ⟨r, hr, hr2⟩ := dd2 f a b a' b' A B SA SB hs k (i + 1) (by omega)
  obtain ⟨x, hx, hcase⟩ := at_eq a.names s
  have e3' : b'.parts[i]? = some (f ub) := by rw [SB.p, List.getElem?_map, e3]; rfl
  rw [zku, zky]
  simp only [z68, z4b (by omega : i < b.names.length), cond_true, e1, hx, Option.bind_some, e2, e3, zdg, zai, zdh, hr, z69, SB.n, SB.l, SA.n, SA.o, zpm, e3', zaj, z9m, hr2]
  rcases hcase with ⟨rfl, hno⟩ | ⟨m, rfl, hm⟩
  ·have e : decide ((-1 : Int) < 0) = true := rfl
   have e' : decide ((-1 : Int) ≥ 0) = false := rfl
   simp only [e, e', cond_true, cond_false]
   cases lb with
   | false => exact ⟨false, rfl, rfl⟩
   | true =>
    simp only [Bool.not_true, cond_false]
    cases ho : a.opn with
    | true => exact ⟨false, rfl, rfl⟩
    | false => exact ⟨r, rfl, rfl⟩
  ·have e : decide ((m : Int) < 0) = false := decide_eq_false (by omega)
   have e' : decide ((m : Int) ≥ 0) = true := decide_eq_true (by omega)
   obtain ⟨s', la, ua, f1, f2, f3, f4⟩ := tz_at A (List.getElem?_eq_some_iff.1 hm).1
   obtain ⟨q, hq, hq2⟩ := hs ua (List.mem_of_getElem? f3) ub (List.mem_of_getElem? e3)
   have f3' : a'.parts[m]? = some (f ua) := by rw [SA.p, List.getElem?_map, f3]; rfl
   simp only [e, e', cond_false, cond_true, z36, f3, f2, f3', SA.l, Option.bind_some, Typ.eta, hq, hq2]
   cases q with
   | false => exact ⟨false, rfl, rfl⟩
   | true =>
    simp only [Bool.not_true, cond_false]
    cases la with
    | false => exact ⟨r, rfl, rfl⟩
    | true =>
     simp only [cond_true]
     cases lb with
     | false => exact ⟨false, rfl, rfl⟩
     | true => exact ⟨r, rfl, rfl⟩
theorem Za0 (f : Typ → Typ) (a b a' b' : Typ) (A : DT a) (B : DT b) (SA : DS f a a') (SB : DS f b b') (hs : ∀ u, u ∈ a.parts → ∀ w, w ∈ b.parts → ∃ r, z4f u w = some r ∧ z74 (f u) (f w) = some r) :
 ∃ r, zfe a b = some r ∧ zz4 a' b' = some r := by
 obtain ⟨r, hr, hr2⟩ := dd2 f a b a' b' A B SA SB hs b.names.length 0 (by omega)
 obtain ⟨c2, hc2, hm2⟩ := miss2 a' b' a'.names.length 0 (by omega)
 rw [List.drop_zero, SA.n, SB.n] at hm2
 rw [SA.o] at hc2
 rw [Zd9, zok, Zda, zol, hr2, hc2]
 simp only [zdi, zdf, hr]
 cases hb : b.opn with
 | true => cases r <;> exact ⟨_, rfl, rfl⟩
 | false =>
  simp only [Bool.not_false, cond_true, cond_false]
  cases ha : a.opn with
  | true => cases r <;> cases c2 <;> exact ⟨false, rfl, rfl⟩
  | false =>
   obtain ⟨c, hc, hm⟩ := Z5a a.names b
   have : c = c2 := by rw [Bool.eq_iff_iff, hm, hm2]
   subst this
   simp only [cond_false, hc, Option.bind_some]
   cases c <;> cases r <;> exact ⟨_, rfl, rfl⟩
theorem ra_l (f : Typ → Typ) (a' b' : Typ) (l : List Typ) (hp : a'.parts = l.map f) (h : ∀ x, x ∈ l → ∃ r, z74 (f x) b' = some r) : ∀ k i, k + i = l.length → ∃ r, zh2 z74 a' b' i = some r ∧ (r = true ↔ ∀ x, x ∈ l.drop i → z74 (f x) b' = some true)
 | 0, i, hk => by
  refine ⟨true, ?_, ?_⟩
  ·rw [zk9]
   simp only [z5u, hp, List.length_map, z42 (by omega : ¬ i < l.length), cond_false]
  ·rw [List.drop_of_length_le (by omega)]; simp
 | k + 1, i, hk => by
  obtain ⟨x, hx, hd⟩ := dropc (by omega : i < l.length)
  obtain ⟨r, hr⟩ := h x (List.mem_of_getElem? hx)
  obtain ⟨q, hq, hm⟩ := ra_l f a' b' l hp h k (i + 1) (by omega)
  have hx' : (l.map f)[i]? = some (f x) := by rw [List.getElem?_map, hx]; rfl
  rw [zk9]
  simp only [z5u, hp, List.length_map, z4b (by omega : i < l.length), cond_true, hx', Option.bind_some, Typ.eta, hr, hq]
  cases r with
  | false => exact ⟨false, rfl, fun h => (by cases h), fun h => (by have := h x (by rw [hd]; simp); rw [hr] at this; cases this)⟩
  | true =>
   refine ⟨q, rfl, ?_⟩
   rw [hm, hd]
   exact ⟨fun h y hy => (List.mem_cons.1 hy).elim (fun e => by subst e; exact hr) (fun hy => h y hy), fun h y hy => h y (List.mem_cons_of_mem _ hy)⟩
theorem rb_l (f : Typ → Typ) (a' b' : Typ) (l : List Typ) (hp : b'.parts = l.map f) (h : ∀ x, x ∈ l → ∃ r, z74 a' (f x) = some r) : ∀ k i, k + i = l.length → ∃ r, zh1 z74 a' b' i = some r ∧ (r = true ↔ ∃ x, x ∈ l.drop i ∧ z74 a' (f x) = some true)
 | 0, i, hk => by
  refine ⟨false, ?_, ?_⟩
  ·rw [zk8]
   simp only [z5t, hp, List.length_map, z42 (by omega : ¬ i < l.length), cond_false]
  ·rw [List.drop_of_length_le (by omega)]; simp
 | k + 1, i, hk => by
  obtain ⟨x, hx, hd⟩ := dropc (by omega : i < l.length)
  obtain ⟨r, hr⟩ := h x (List.mem_of_getElem? hx)
  obtain ⟨q, hq, hm⟩ := rb_l f a' b' l hp h k (i + 1) (by omega)
  have hx' : (l.map f)[i]? = some (f x) := by rw [List.getElem?_map, hx]; rfl
  rw [zk8]
  simp only [z5t, hp, List.length_map, z4b (by omega : i < l.length), cond_true, hx', Option.bind_some, Typ.eta, hr, hq]
  cases r with
  | true => exact ⟨true, rfl, fun _ => ⟨x, by rw [hd]; simp, hr⟩, fun _ => rfl⟩
  | false =>
   refine ⟨q, rfl, ?_⟩
   rw [hm, hd]
   constructor
   ·rintro ⟨y, h1, h2⟩; exact ⟨y, List.mem_cons_of_mem _ h1, h2⟩
   ·rintro ⟨y, h1, h2⟩
    rcases List.mem_cons.1 h1 with rfl | h1
    ·rw [hr] at h2; cases h2
    ·exact ⟨y, h1, h2⟩
def SS (c : Bool) (a b : Typ) : Prop := ∃ r, z4f a b = some r ∧ z74 (cf c a) (cf c b) = some r
theorem ziz (c : Bool) : ∀ (n : Nat) (a b : Typ), SizeOf.sizeOf a + SizeOf.sizeOf b ≤ n → VT a → VT b → z3x a ≤ 268435456 → z3x b ≤ 268435456 → z6u a → z6u b → SS c a b := by
  intro n
  induction n with
  | zero => intro a b h; have : 0 < SizeOf.sizeOf a := by cases a; simp; omega
            omega
  | succ n ih =>
    intro a b hn va vb ba bb oa ob
    have Ba := tb ba
    have Bb := tb bb
    have Ka := va.know
    have Kb := vb.know
    have A := Z5w c a va ba oa
    have B := Z5w c b vb bb ob
    have pa := ((za0 a).1 oa).2.2.2
    have pb := ((za0 b).1 ob).2.2.2
    unfold SS
    rw [Z9y, zms, Zcu, zo4]
    simp only [zdb, zd8, A.kind, B.kind]
    by_cases hb1 : b.kind = 1
    · exact ⟨true, by simp [hb1], by simp [hb1]⟩
    by_cases ha2 : a.kind = 2
    · exact ⟨true, by simp [hb1, ha2], by simp [hb1, ha2]⟩
    by_cases ha7 : a.kind = 7
    · have hp : ∀ u, u ∈ a.parts → VT u := va.ps (by omega)
      have hx : ∀ u, u ∈ a.parts → SS c u b := fun u hu => ih u b (by have := zee hu; omega) (hp u hu) vb (Ba.parts u hu) bb (z3s pa u hu) ob
      obtain ⟨q, hc, hm⟩ := has2 b a.parts (fun u hu => let ⟨r, h, _⟩ := hx u hu; ⟨r, h⟩)
      obtain ⟨r, hr, hm2⟩ := ra_l (cf c) (cf c a) (cf c b) a.parts (A.parts (by omega)) (fun u hu => let ⟨r, _, h⟩ := hx u hu; ⟨r, h⟩) a.parts.length 0 (by omega)
      rw [List.drop_zero] at hm2
      have : r = !q := by
        rw [Bool.eq_iff_iff, hm2]
        constructor
        · intro h
          cases q with
          | false => rfl
          | true =>
            obtain ⟨u, hu, h1⟩ := hm.1 rfl
            obtain ⟨z, z1, z2⟩ := hx u hu
            rw [h1] at z1; rw [h u hu] at z2; injection z1 with z1; injection z2 with z2; rw [← z1] at z2; cases z2
        · intro h u hu
          obtain ⟨z, z1, z2⟩ := hx u hu
          cases z with
          | true => exact z2
          | false => have := hm.2 ⟨u, hu, z1⟩; subst this; cases h
      exact ⟨!q, by simp [z0z hb1, ha7, hc], by simp [z0z hb1, ha7, hr, this]⟩
    by_cases hb7 : b.kind = 7
    · have hp : ∀ u, u ∈ b.parts → VT u := vb.ps (by omega)
      have hx : ∀ u, u ∈ b.parts → SS c a u := fun u hu => ih a u (by have := zee hu; omega) va (hp u hu) ba (Bb.parts u hu) oa (z3s pb u hu)
      obtain ⟨q, hc, hm⟩ := has3 a b.parts (fun u hu => let ⟨r, h, _⟩ := hx u hu; ⟨r, h⟩)
      obtain ⟨r, hr, hm2⟩ := rb_l (cf c) (cf c a) (cf c b) b.parts (B.parts (by omega)) (fun u hu => let ⟨r, _, h⟩ := hx u hu; ⟨r, h⟩) b.parts.length 0 (by omega)
      rw [List.drop_zero] at hm2
      have : r = q := by
        rw [Bool.eq_iff_iff, hm2, hm]
        constructor
        · rintro ⟨u, hu, h1⟩
          obtain ⟨z, z1, z2⟩ := hx u hu
          rw [h1] at z2; injection z2 with z2; exact ⟨u, hu, by rw [z1, z2]⟩
        · rintro ⟨u, hu, h1⟩
          obtain ⟨z, z1, z2⟩ := hx u hu
          rw [h1] at z1; injection z1 with z1; exact ⟨u, hu, by rw [z2, z1]⟩
      exact ⟨q, by simp [z0z ha2, z0z ha7, hb7, hc], by simp [z0z ha2, z0z ha7, hb7, hr, this]⟩
    by_cases hb2 : b.kind = 2
    · exact ⟨false, by simp [z0z ha2, z0z ha7, hb2], by simp [z0z ha2, z0z ha7, hb2]⟩
    cases Ka with
    | none h => exact absurd h ha2
    | union h _ => exact absurd h ha7
    | any h => exact ⟨false, by simp [z0z hb1, z0z hb7, z0z hb2, h], by simp [z0z hb1, z0z hb7, z0z hb2, h]⟩
    | only h ho =>
      have hf := z2n ho
      have hc := zy0 ho
      have e : (ofF (lo a.only)).1 = bu a.only := by rw [Z5c _ hf.1, ofF, if_neg (by simp [ho])]
      have hi := Z7u b vb bb (bu a.only) 0 hc (by omega) (by have := hc.2.1; omega)
      obtain ⟨o1, o2, o3⟩ := A.only h
      obtain ⟨v1, v2, v3, v4⟩ := Za2 c b vb bb ob
      have hk := tb ba
      have hi2 := Z7v (cf c b) v1 (by omega) v3 (cf c a).only 0 ⟨o2, by rw [o1]; exact hc, by have := hk.only; omega⟩ (by omega) (by rw [o1]; have := hc.2.1; omega)
      rw [o1, v4] at hi2
      have et : ∀ y : Term, Term.mk y.kind y.bool y.int y.float y.text y.bytes y.ref y.list y.fields y.cls y.ver = y := fun y => by cases y; rfl
      refine ⟨isB b (bu a.only), ?_, ?_⟩
      · simp only [h, z0z hb1, z0z hb7, z0z hb2, zpf a.only Ba.only, e, Option.bind_some, hi]; rfl
      · simp only [h, z0z hb1, z0z hb7, z0z hb2, et, hi2, Option.bind_some]; rfl
    | kind h =>
      by_cases hb3 : b.kind = 3
      · exact ⟨a.of == b.of, by simp [h, hb3], by simp [h, hb3, A.of h, B.of hb3]⟩
      · exact ⟨false, by simp [z0z hb1, z0z hb7, z0z hb2, h, z0z hb3], by simp [z0z hb1, z0z hb7, z0z hb2, h, z0z hb3]⟩
    | recd h =>
      by_cases hb3 : b.kind = 3
      · have e := B.of hb3
        by_cases ho : b.of = 10
        · exact ⟨true, by simp [h, hb3, ho], by simp [h, hb3, e, ho]⟩
        · exact ⟨false, by simp [h, hb3, z0z ho], by simp [h, hb3, e, z0z ho]⟩
      · by_cases hb8 : b.kind = 8
        · exact ⟨a.cls == b.cls, by simp [h, hb8], by simp [h, hb8, A.cls h, B.cls hb8]⟩
        · exact ⟨false, by simp [z0z hb1, z0z hb7, z0z hb2, h, z0z hb3, z0z hb8], by simp [z0z hb1, z0z hb7, z0z hb2, h, z0z hb3, z0z hb8]⟩
    | list h hp =>
      obtain ⟨p, hp1, hp2⟩ := hp
      by_cases hb3 : b.kind = 3
      · have e := B.of hb3
        by_cases ho : b.of = 8
        · exact ⟨true, by simp [h, hb3, ho], by simp [h, hb3, e, ho]⟩
        · exact ⟨false, by simp [h, hb3, z0z ho], by simp [h, hb3, e, z0z ho]⟩
      · by_cases hb5 : b.kind = 5
        · obtain ⟨q, hq1, hq2⟩ : ∃ q, b.parts = [q] ∧ VT q := by cases Kb <;> first | assumption | (exfalso; omega)
          have hpm : p ∈ a.parts := by rw [hp1]; simp
          have hqm : q ∈ b.parts := by rw [hq1]; simp
          obtain ⟨r, h1, h2⟩ := ih p q (by have := zee hpm; have := zee hqm; omega) hp2 hq2 (Ba.parts p hpm) (Bb.parts q hqm) (z3s pa p hpm) (z3s pb q hqm)
          have h11 : zff p q = some r := by rw [Zde, zop, h1]; rfl
          have h1s : zro q = some q := by simp only [zro, Typ.eta]
          have x1 := A.parts (by omega)
          have x2 := B.parts (by omega)
          rw [hp1] at x1; rw [hq1] at x2
          exact ⟨r, by simp [h, hb5, hp1, hq1, h11, h1s], by simp [h, hb5, x1, x2, Typ.eta, h2]⟩
        · exact ⟨false, by simp [z0z hb1, z0z hb7, z0z hb2, h, z0z hb3, z0z hb5], by simp [z0z hb1, z0z hb7, z0z hb2, h, z0z hb3, z0z hb5]⟩
    | dict h hn1 hn2 hn3 hp =>
      by_cases hb3 : b.kind = 3
      · have e := B.of hb3
        by_cases ho : b.of = 9
        · exact ⟨true, by simp [h, hb3, ho], by simp [h, hb3, e, ho]⟩
        · exact ⟨false, by simp [h, hb3, z0z ho], by simp [h, hb3, e, z0z ho]⟩
      · by_cases hb6 : b.kind = 6
        · have D : DT a := ⟨hn1, hn2, hn3⟩
          obtain ⟨E, hq⟩ : DT b ∧ ∀ u, u ∈ b.parts → VT u := by
            cases Kb with
            | dict _ x1 x2 x3 x4 => exact ⟨⟨x1, x2, x3⟩, x4⟩
            | _ => exfalso; omega
          have hx : ∀ u, u ∈ a.parts → ∀ w, w ∈ b.parts → SS c u w := fun u hu w hw => ih u w (by have := zee hu; have := zee hw; omega) (hp u hu) (hq w hw) (Ba.parts u hu) (Bb.parts w hw) (z3s pa u hu) (z3s pb w hw)
          obtain ⟨y1, y2, y3⟩ := A.dict h
          obtain ⟨z1, z2, z3⟩ := B.dict hb6
          obtain ⟨r, h1, h2⟩ := Za0 (cf c) a b (cf c a) (cf c b) D E ⟨y1, y2, y3, A.parts (by omega)⟩ ⟨z1, z2, z3, B.parts (by omega)⟩ hx
          exact ⟨r, by simp [h, hb6, h1, Typ.eta], by simp [h, hb6, h2, Typ.eta]⟩
        · exact ⟨false, by simp [z0z hb1, z0z hb7, z0z hb2, h, z0z hb3, z0z hb6], by simp [z0z hb1, z0z hb7, z0z hb2, h, z0z hb3, z0z hb6]⟩
end Go.Proofs.Ytiapdjdhaclmnaa

namespace Go.Proofs.Ytiapdjdhaclmnaa
open Go Aw
set_option linter.unusedVariables false
set_option linter.unusedSimpArgs false
set_option maxRecDepth 8000
abbrev TZ0 : Typ := Typ.mk 0 0 T00 [] [] [] false []
theorem zyw (t : Typ) : zrx t = some (optsT t) := by
 unfold zrx optsT
 by_cases h : t.kind = 7
 ·rw [z7d h, cond_true, if_pos h]
 ·rw [z0z h, cond_false, if_neg h]
theorem zwf {t : Typ} (A : SF clT t (clT t)) : optsT (clT t) = (optsT t).map clT := by
 unfold optsT
 rw [A.kind]
 by_cases h : t.kind = 7
 ·rw [if_pos h, if_pos h, A.parts (by omega)]
 ·rw [if_neg h, if_neg h]; rfl
theorem zwe {t : Typ} (h : VT t) : ∀ u, u ∈ optsT t → VT u := fun u hu => by
 unfold optsT at hu
 by_cases hk : t.kind = 7
 ·rw [if_pos hk] at hu; exact h.ps (by omega) u hu
 ·rw [if_neg hk] at hu; simp only [List.mem_singleton] at hu; subst hu; exact h
theorem zlv {t : Typ} (h : z6u t) : ∀ u, u ∈ optsT t → z6u u := fun u hu => by
 unfold optsT at hu
 by_cases hk : t.kind = 7
 ·rw [if_pos hk] at hu; exact z3s ((za0 t).1 h).2.2.2 u hu
 ·rw [if_neg hk] at hu; simp only [List.mem_singleton] at hu; subst hu; exact h
theorem znt {a b : Typ} (va : VT a) (vb : VT b) (ha : z3x a ≤ 1048576) (hb : z3x b ≤ 1048576) (oa : z6u a) (ob : z6u b) :
 ∃ u ok, zw3 a b = some (u, ok) ∧ (ok = true → VT u ∧ z3x u ≤ 4194304 ∧ z6u u) ∧
  z9n a b false = some (bif ok then (clT u, 0) else (TZ0, 70)) := by
 obtain ⟨r1, h1, s1⟩ := ziz true _ a b (Nat.le_refl _) va vb (by omega) (by omega) oa ob
 obtain ⟨r2, h2, s2⟩ := ziz true _ b a (Nat.le_refl _) vb va (by omega) (by omega) ob oa
 have A := Z0z a va (by omega) oa
 have B := Z0z b vb (by omega) ob
 have la := zbm (optsT a)
 have lb := zbm (optsT b)
 have ba := zwg a
 have bb := zwg b
 have na := zzd va
 have hU : z3x (Typ.mk 7 0 T00 (optsT a ++ optsT b) [] [] false []) ≤ z3x a + z3x b + 30 := by
  simp only [z3x, Zah, zbn, List.map_nil, List.sum_nil, List.length_nil]; omega
 have hF : ∀ u, u ∈ optsT a ++ optsT b → VT u ∧ z3x u ≤ 268435456 ∧ z6u u := fun u hu => by
  have hk := zg9 hu
  rw [zbn] at hk
  rcases List.mem_append.1 hu with h | h
  ·exact ⟨zwe va u h, by omega, zlv oa u h⟩
  ·exact ⟨zwe vb u h, by omega, zlv ob u h⟩
 have hC := zbl (l := optsT a ++ optsT b) (fun u hu => (z46 u (hF u hu).1 (hF u hu).2.1).bk)
 have hU2 : z3x (Typ.mk 7 0 T00 ((optsT a ++ optsT b).map clT) [] [] false []) ≤ z3x a + z3x b + 30 := by
  rw [zbn] at hC
  simp only [z3x, Zah, List.map_nil, List.sum_nil, List.length_nil]; omega
 have hV : z4r (Typ.mk 7 0 T00 ((optsT a ++ optsT b).map clT) [] [] false []) = z4r (Typ.mk 7 0 T00 (optsT a ++ optsT b) [] [] false []) := by
  unfold z4r
  rw [zqe (c := Typ.mk 7 0 T00 ((optsT a ++ optsT b).map clT) [] [] false []) (t := Typ.mk 7 0 T00 (optsT a ++ optsT b) [] [] false [])]
  ·simp only [z27, tkK]; rfl
  ·simp [z9i, tkK, tkP]
  ·intro _ _ left d; exact zfz (fun u hu => (z46 u (hF u hu).1 (hF u hu).2.1).fit) left
 have hap : z9f 264 ((optsT a).map clT) ((optsT b).map clT) = some ((optsT a ++ optsT b).map clT) := by
  unfold z9f; rw [Nat.ble_eq_true_of_le (by simp only [List.length_map]; omega)]; simp
 have s1' : z74 (clT a) (clT b) = some r1 := s1
 have s2' : z74 (clT b) (clT a) = some r2 := s2
 have R : z9n a b false = bif r1 then some (clT b, 0) else bif r2 then some (clT a, 0) else bif !z4r (Typ.mk 7 0 T00 (optsT a ++ optsT b) [] [] false []) then some (TZ0, 70) else some (Typ.mk 7 0 T00 ((optsT a ++ optsT b).map clT) [] [] false [], 0) := by
  unfold z9n
  simp only [cond_false, Typ.eta, z8h a va (by omega), z8h b vb (by omega), Option.bind_some, s1', s2', zyw, zwf A, zwf B]
  rw [Z29 (b := 264) (l := (optsT a).map clT) (by omega) (by simp only [List.length_map]; omega)]
  simp only [Option.bind_some, hap, zkl _ (show z3x (Typ.mk 7 0 T00 ((optsT a ++ optsT b).map clT) [] [] false []) ≤ 268435456 by omega), hV]
 rw [R]
 unfold zw3
 simp only [Typ.eta, h1, h2, Option.bind_some]
 cases r1 with
 | true => exact ⟨b, true, rfl, fun _ => ⟨vb, by omega, ob⟩, rfl⟩
 | false =>
  cases r2 with
  | true => exact ⟨a, true, rfl, fun _ => ⟨va, by omega, oa⟩, rfl⟩
  | false =>
   simp only [cond_false, Z4w, Option.bind_some, zxw (optsT a) (optsT b) (by omega) (by omega), zev (Typ.mk 7 0 T00 (optsT a ++ optsT b) [] [] false []) (by omega)]
   refine ⟨_, _, rfl, fun h => ⟨z5i h, Nat.le_trans hU (by omega), by rw [z6u]; exact ⟨zjj (by decide), zjj (by decide), z8s, zdy fun u hu => (hF u hu).2.2⟩⟩, ?_⟩
   cases hv : z4r (Typ.mk 7 0 T00 (optsT a ++ optsT b) [] [] false []) with
   | false => rfl
   | true =>
    have F := (z46 _ (z5i hv) (by omega)).form
    simp only [Bool.not_true, cond_false, cond_true]
    generalize clT (Typ.mk 7 0 T00 (optsT a ++ optsT b) [] [] false []) = c at F
    cases F <;> first | (rename_i h; simp only [tkK] at h; exfalso; omega) | rfl
theorem zp4 {a b : Typ} (ha : z3x a ≤ 1048576) (hb : z3x b ≤ 1048576) (oa : z6u a) (ob : z6u b) :
 ∃ r, zrt a b = some r ∧ zw2 a b = some r ∧ ((r.2 ≠ 0 ∧ r.1 = TZ0) ∨ (r.2 = 0 ∧ VT a ∧ VT b ∧ ∃ u, r.1 = clT u ∧ VT u ∧ z3x u ≤ 4194304 ∧ z6u u)) := by
 simp only [zrt, zw2, zhl, Typ.eta, zev a (by omega), zev b (by omega), zkl a (by omega), zkl b (by omega), Option.bind_some]
 have no : z9n a b true = some (TZ0, 70) := by unfold z9n; rfl
 cases h1 : z4r a with
 | false => exact ⟨(TZ0, 70), rfl, no, .inl ⟨by decide, rfl⟩⟩
 | true =>
  cases h2 : z4r b with
  | false => exact ⟨(TZ0, 70), rfl, no, .inl ⟨by decide, rfl⟩⟩
  | true =>
   obtain ⟨u, ok, e1, e2, e3⟩ := znt (z5i h1) (z5i h2) ha hb oa ob
   simp only [Bool.not_true, cond_false, e1, e3, Option.bind_some]
   cases ok with
   | false => exact ⟨(TZ0, 70), rfl, rfl, .inl ⟨by decide, rfl⟩⟩
   | true =>
    obtain ⟨vu, bu, ou⟩ := e2 rfl
    simp only [Bool.not_true, cond_false, cond_true, Typ.eta, (z46 u vu (by omega)).run, Option.bind_some]
    exact ⟨(clT u, 0), rfl, rfl, .inr ⟨rfl, z5i h1, z5i h2, u, rfl, vu, bu, ou⟩⟩
theorem Z2c {a b : Typ} (ha : z3x a ≤ 1048576) (hb : z3x b ≤ 1048576) (oa : z6u a) (ob : z6u b) :
 ∃ r, zls a b = some r ∧ zvr a b = some r := by
 simp only [zls, zvr, zer, zgz, Typ.eta, zev a (by omega), zev b (by omega), zkl a (by omega), zkl b (by omega), Option.bind_some]
 cases h1 : z4r a with
 | false => exact ⟨_, rfl, rfl⟩
 | true =>
  cases h2 : z4r b with
  | false => exact ⟨_, rfl, rfl⟩
  | true =>
   obtain ⟨r, e1, e2⟩ := ziz false _ a b (Nat.le_refl _) (z5i h1) (z5i h2) (by omega) (by omega) oa ob
   have e2' : z74 a b = some r := e2
   simp only [Bool.not_true, cond_false, e1, e2', Option.bind_some]
   exact ⟨_, rfl, rfl⟩
theorem zzq : z4r (Typ.mk 2 0 T00 [] [] [] false []) = true := by
 unfold z4r; rw [z6s]
 rw [if_neg (by omega), if_pos (by simp [z27, tkK])]
theorem Zdu : z3x (Typ.mk 2 0 T00 [] [] [] false []) = 20 := by simp only [z3x, Zah, z5c, List.map_nil, List.sum_nil, List.length_nil]; rfl
theorem Z6w : zls (Typ.mk 2 0 T00 [] [] [] false []) (Typ.mk 1 0 T00 [] [] [] false []) = some (true, 0) := by
 have h1 := zev (Typ.mk 2 0 T00 [] [] [] false []) (by rw [Zdu]; omega)
 have h2 := zev (Typ.mk 1 0 T00 [] [] [] false []) (by rw [Za9]; omega)
 rw [zzq] at h1
 rw [zyh] at h2
 have h3 : z4f (Typ.mk 2 0 T00 [] [] [] false []) (Typ.mk 1 0 T00 [] [] [] false []) = some true := by
  rw [Z9y, zms]; rfl
 simp only [zls, zer, Typ.eta, h1, h2, h3, Option.bind_some, Bool.not_true, cond_false]
theorem zf6 (a0 a1 : Typ) (h : z3x a0 + z3x a1 ≤ 1048576) (ok0 : z6u a0) (ok1 : z6u a1) : zz8 a0 a1 = some true := by
 obtain ⟨s, h1, h2⟩ := Z2c (a := a0) (b := a1) (by omega) (by omega) ok0 ok1
 obtain ⟨⟨x, e⟩, h3, h4, h5⟩ := zp4 (a := a0) (b := a1) (by omega) (by omega) ok0 ok1
 unfold zz8
 simp only [Typ.eta, h1, h2, h3, h4, Option.bind_some, beq_self_eq_true, Bool.not_true, cond_false, bne_self_eq_false]
 unfold zf1
 rw [cond_false]
 rcases h5 with ⟨h6, h7⟩ | ⟨h6, va, vb, u, h7, vu, bu, ou⟩
 ·simp only at h6 h7
  subst h7
  rw [Zbs h6, cond_true]; rfl
 ·simp only at h6 h7
  subst h6; subst h7
  have e1 : z7t (clT u) (clT u) = some true := zn1 u vu (by omega) ou true
  have e2 : z7t a0 (clT a0) = some true := zn1 a0 va (by omega) ok0 false
  have e3 : z7t a1 (clT a1) = some true := zn1 a1 vb (by omega) ok1 false
  simp only [bne_self_eq_false, cond_false, Typ.eta, e1, Option.bind_some, Bool.not_true, Z64 u vu (by omega), zf0, z8h a0 va (by omega), z8h a1 vb (by omega), zj0, Z6w, e2, e3, cond_true]
  rfl
end Go.Proofs.Ytiapdjdhaclmnaa

