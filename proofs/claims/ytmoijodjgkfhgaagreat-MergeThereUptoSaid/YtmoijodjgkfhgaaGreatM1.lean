/- Plain laws, one behind the other. -/
import Derived.Test.YtmoijodjgkfhgaaGreatM0
import Derived.Test.YtmoijodjgkfhgaaGreatAwI3
namespace Go.Proofs.YtmoijodjgkfhgaaGreat
open Go Aw
set_option linter.unusedVariables false
set_option linter.unusedSimpArgs false
set_option maxRecDepth 8000
theorem zqd {a b : Str} (h1 : a ≠ b) (h2 : ¬ zlt a b) : zlt b a := by
 have e := z5v (za0 a) (za0 b)
 rw [← za2, ← za2] at e
 unfold zlt at h2 ⊢
 have h3 : cmpS a b ≠ 0 := fun h => h1 (by
  unfold cmpS at h
  split at h
  ·cases h
  ·split at h
   ·rename_i h4; simpa using h4
   ·cases h)
 have h4 : cmpS a b = -1 ∨ cmpS a b = 0 ∨ cmpS a b = 1 := by
  unfold cmpS
  split
  ·exact .inl rfl
  ·split
   ·exact .inr (.inl rfl)
   ·exact .inr (.inr rfl)
 omega
theorem Z26 (d : Fds) (n m : Str) (y : V) : fget (z5j d n y) m = if n = m then some y else fget d m := by
 induction d with
 | nil => rw [z5j, z2y]
 | cons f r ih =>
  rw [z5j]
  by_cases h1 : f.1 = n
  ·rw [if_pos h1, z2y, z2y, h1]
   by_cases h : n = m
   ·rw [if_pos h, if_pos h]
   ·rw [if_neg h, if_neg h, if_neg h]
  ·rw [if_neg h1]
   by_cases h2 : Op.bytesLess f.1 n = true
   ·rw [if_pos h2, z2y, ih, z2y]
    by_cases h : f.1 = m
    ·rw [if_pos h, if_pos h, if_neg (fun e => h1 (h.trans e.symm))]
    ·rw [if_neg h, if_neg h]
   ·rw [if_neg h2, z2y]
theorem Z15 (d : Fds) (n : Str) (x y : V) : z5j (z5j d n x) n y = z5j d n y := by
 induction d with
 | nil => simp [z5j]
 | cons f r ih =>
  rw [z5j, z5j]
  by_cases h1 : f.1 = n
  ·rw [if_pos h1, if_pos h1, z5j, if_pos rfl]
  ·rw [if_neg h1, if_neg h1]
   by_cases h2 : Op.bytesLess f.1 n = true
   ·rw [if_pos h2, if_pos h2, z5j, if_neg h1, if_pos h2, ih]
   ·rw [if_neg h2, if_neg h2, z5j, if_pos rfl]
theorem put_get {d : Fds} {n : Str} {x : V} (hs : (d.map (·.1)).Pairwise zlt) (h : fget d n = some x) : z5j d n x = d := by
 induction d with
 | nil => cases h
 | cons f r ih =>
  rw [List.map_cons, List.pairwise_cons] at hs
  rw [z2y] at h
  rw [z5j]
  by_cases h1 : f.1 = n
  ·rw [if_pos h1] at h ⊢; injection h with h; subst h; subst h1; rfl
  ·rw [if_neg h1] at h
   have := bl_lt.2 (hs.1 n (List.mem_map.2 ⟨_, zh6 h, rfl⟩))
   rw [if_neg h1, if_pos this, ih hs.2 h]
theorem Z17 {d : Fds} {n m : Str} {x : V} (h : m ∈ (z5j d n x).map (·.1)) : m = n ∨ m ∈ d.map (·.1) := by
 induction d with
 | nil => simp [z5j] at h; exact .inl h
 | cons f r ih =>
  rw [z5j] at h
  by_cases h1 : f.1 = n
  ·rw [if_pos h1, List.map_cons, List.mem_cons] at h
   rcases h with h | h
   ·exact .inl h
   ·exact .inr (by simp only [List.map_cons, List.mem_cons]; exact .inr h)
  ·rw [if_neg h1] at h
   by_cases h2 : Op.bytesLess f.1 n = true
   ·rw [if_pos h2, List.map_cons, List.mem_cons] at h
    rcases h with h | h
    ·exact .inr (by simp only [List.map_cons, List.mem_cons]; exact .inl h)
    ·rcases ih h with h | h
     ·exact .inl h
     ·exact .inr (by simp only [List.map_cons, List.mem_cons]; exact .inr h)
   ·rw [if_neg h2, List.map_cons, List.mem_cons] at h
    rcases h with h | h
    ·exact .inl h
    ·exact .inr h
theorem zgp {d : Fds} {n : Str} {x : V} (hs : (d.map (·.1)).Pairwise zlt) : ((z5j d n x).map (·.1)).Pairwise zlt := by
 induction d with
 | nil => simp [z5j]
 | cons f r ih =>
  rw [List.map_cons, List.pairwise_cons] at hs
  rw [z5j]
  by_cases h1 : f.1 = n
  ·rw [if_pos h1, List.map_cons, List.pairwise_cons, ← h1]; exact hs
  ·rw [if_neg h1]
   by_cases h2 : Op.bytesLess f.1 n = true
   ·rw [if_pos h2, List.map_cons, List.pairwise_cons]
    refine ⟨fun m hm => ?_, ih hs.2⟩
    rcases Z17 hm with rfl | hm
    ·exact bl_lt.1 h2
    ·exact hs.1 m hm
   ·have hn := zqd h1 (fun h => h2 (bl_lt.2 h))
    rw [if_neg h2, List.map_cons, List.pairwise_cons, List.map_cons, List.pairwise_cons]
    refine ⟨fun m hm => ?_, hs⟩
    rcases List.mem_cons.1 hm with rfl | hm
    ·exact hn
    ·exact z6k hn (hs.1 m hm)
theorem Z18 (d : Fds) (n : Str) (x : V) : (z5j d n x).length ≤ d.length + 1 := by
 induction d with
 | nil => simp [z5j]
 | cons f r ih =>
  rw [z5j]
  split
  ·simp
  ·split
   ·simp only [List.length_cons]; omega
   ·simp
theorem Z14 {d : Fds} {n : Str} {x y : V} (h : y ∈ (z5j d n x).map (·.2)) : y = x ∨ y ∈ d.map (·.2) := by
 induction d with
 | nil => simp [z5j] at h; exact .inl h
 | cons f r ih =>
  rw [z5j] at h
  simp only [List.map_cons, List.mem_cons]
  split at h
  ·rw [List.map_cons, List.mem_cons] at h
   rcases h with h | h
   ·exact .inl h
   ·exact .inr (.inr h)
  ·split at h
   ·rw [List.map_cons, List.mem_cons] at h
    rcases h with h | h
    ·exact .inr (.inl h)
    ·rcases ih h with h | h
     ·exact .inl h
     ·exact .inr (.inr h)
   ·rw [List.map_cons, List.mem_cons, List.map_cons, List.mem_cons] at h
    rcases h with h | h | h
    ·exact .inl h
    ·exact .inr (.inl h)
    ·exact .inr (.inr h)
theorem Z2j (d : Fds) (n : Str) : (zpz d n).Sublist d := by
 induction d with
 | nil => simp [zpz]
 | cons f r ih =>
  rw [zpz]
  split
  ·exact List.sublist_cons_self _ _
  ·exact ih.cons_cons _
theorem zqv {v : V} {d e : Fds} (h : fdF v = some d) : (setFd v e).parts = e.map (·.2) := z9e (z7z h)
theorem zgi {v : V} {d e : Fds} {l : List V} (h : fdF v = some d) : setFd v e ≠ .list l := by cases v <;> first | (cases h; simp [setFd]) | cases h
theorem zqw {v : V} {d e : Fds} (h : fdF v = some d) : setFd v e ≠ .nothing := by cases v <;> first | (cases h; simp [setFd]) | cases h
theorem Wv.mono {N M : Nat} {v : V} (h : Wv N v) (hm : N ≤ M) : Wv M v := ⟨h.nn, fun d hd => ⟨(h.fd d hd).1, Nat.le_trans (h.fd d hd).2 hm⟩, fun l hl => Nat.le_trans (h.li l hl) hm⟩
theorem Wd.mono {N M : Nat} {v : V} (h : Wd N v) (hm : N ≤ M) : Wd M v := by
 induction h with
 | mk h1 _ ih => exact .mk (h1.mono hm) ih
theorem zyz {N M : Nat} {v : V} {d e : Fds} (h : Wd N v) (hd : fdF v = some d) (hs : (e.map (·.1)).Pairwise zlt) (hl : e.length ≤ M) (hp : ∀ y, y ∈ e.map (·.2) → Wd M y) : Wd M (setFd v e) :=
 .mk ⟨zqw hd, fun d' hd' => by rw [z7z hd] at hd'; injection hd' with hd'; subst hd'; exact ⟨hs, hl⟩, fun l hl => absurd hl (zgi hd)⟩ (by rw [zqv hd]; exact hp)
theorem zkf {N : Nat} {v x : V} {s : Stp} (hv : Wd N v) (hx : Wd (N + 1) x) : Wd (N + 1) (z36 v s x) := by
 have flds : ∀ d, fdF v = some d → Wd (N + 1) (z36 v s x) := by
  intro d hd
  rw [z61 hd]
  have h := hv.v.fd d hd
  refine zyz hv hd (zgp h.1) (Nat.le_trans (Z18 _ _ _) (by omega)) (fun y hy => ?_)
  rcases Z14 hy with rfl | hy
  ·exact hx
  ·exact (hv.part y (by rw [z9e hd]; exact hy)).mono (by omega)
 cases v with
 | list l =>
  have hl := hv.v.li l rfl
  simp only [z36]
  have hp : ∀ y, y ∈ l → Wd (N + 1) y := fun y hy => (hv.part y hy).mono (by omega)
  split
  ·refine .mk ⟨by simp, fun d hd => (by cases hd), fun l' h => by injection h with h; subst h; simp; omega⟩ (fun y hy => ?_)
   rcases List.mem_append.1 (show y ∈ l ++ [x] from hy) with hy | hy
   ·exact hp y hy
   ·rw [List.mem_singleton] at hy; subst hy; exact hx
  ·refine .mk ⟨by simp, fun d hd => (by cases hd), fun l' h => by injection h with h; subst h; simp; omega⟩ (fun y hy => ?_)
   rcases List.mem_or_eq_of_mem_set (show y ∈ l.set s.f_Index.toNat x from hy) with hy | rfl
   ·exact hp y hy
   ·exact hx
 | dict d => exact flds d rfl
 | record c k d => exact flds d rfl
 | _ => exact hv.mono (by omega)
theorem zod {N : Nat} {v : V} {s : Stp} (hv : Wd N v) : Wd (N + 1) (z4i v s) := by
 have flds : ∀ d, fdF v = some d → Wd (N + 1) (z4i v s) := by
  intro d hd
  rw [zba hd]
  have h := hv.v.fd d hd
  have hs := Z2j d s.f_Name
  exact zyz hv hd (h.1.sublist (hs.map _)) (Nat.le_trans hs.length_le (by omega)) (fun y hy => (hv.part y (by rw [z9e hd]; exact (hs.map _).subset hy)).mono (by omega))
 cases v with
 | list l =>
  have hl := hv.v.li l rfl
  simp only [z4i]
  refine .mk ⟨by simp, fun d hd => (by cases hd), fun l' h => by injection h with h; subst h; simp; omega⟩ (fun y hy => ?_)
  rcases List.mem_append.1 (show y ∈ l.take _ ++ l.drop _ from hy) with hy | hy
  ·exact (hv.part y (List.mem_of_mem_take hy)).mono (by omega)
  ·exact (hv.part y (List.mem_of_mem_drop hy)).mono (by omega)
 | dict d => exact flds d rfl
 | record c k d => exact flds d rfl
 | _ => exact hv.mono (by omega)
theorem zxv {N : Nat} {room : Bool} {fin : V → Stp → V} (hf : ∀ v s, Wd N v → Wd (N + 1) (fin v s)) : ∀ (w : List Stp) (v y : V), Wd N v → chF room fin v w = (y, 0) → Wd (N + 1) y
 | [], v, y, hv, h => by rw [chF] at h; injection h with h; subst h; exact .mk ⟨by simp, fun d hd => (by cases hd), fun l h => by cases h⟩ (fun y hy => by cases hy)
 | [s], v, y, hv, h => by
  rw [chF] at h
  split at h
  ·injection h with h; subst h; exact hf v s hv
  ·rename_i hr; injection h with h1 h2; exact absurd (by simp [z59, h2]) hr
 | s :: t :: r, v, y, hv, h => by
  rw [chF] at h
  by_cases he : (z1e v s).2 = 0
  ·rw [if_neg (by simp [he])] at h
   by_cases h2 : (chF room fin (z1e v s).1 (t :: r)).2 = 0
   ·rw [if_neg (by simp [h2])] at h
    injection h with h; subst h
    exact zkf hv (zxv hf (t :: r) _ _ (hv.part _ (za8 (Prod.ext rfl he))) (Prod.ext rfl h2))
   ·rw [if_pos h2] at h; injection h with _ h; exact absurd h h2
  ·rw [if_pos he] at h; injection h with _ h; exact absurd h he
theorem Z6g {N : Nat} {v y x : V} {k : Int} {w : List Stp} (hv : Wd N v) (hx : k ≠ 3 → Wd (N + 1) x) (hk : 1 ≤ k ∧ k ≤ 3) (h : apC v k w x = (y, 0)) : Wd (N + 1) y := by
 unfold apC at h
 split at h
 ·split at h
  ·injection h with h; subst h; exact hx (by omega)
  ·injection h with _ h; cases h
 ·split at h
  ·exact zxv (fun v s hv => zkf hv (hx (by omega))) _ _ _ hv h
  ·split at h
   ·rename_i h2; injection h with _ h; exact absurd h h2
   ·split at h
    ·split at h
     ·injection h with _ h; cases h
     ·exact zxv (fun v s hv => zkf hv (hx (by omega))) _ _ _ hv h
    ·split at h
     ·rename_i h2; injection h with _ h; exact absurd h h2
     ·split at h
      ·injection h with _ h; cases h
      ·exact zxv (fun v s hv => zod hv) _ _ _ hv h
structure EOk (e : Ed) : Prop where
 k : 1 ≤ e.f_What ∧ e.f_What ≤ 3
 w : z88 e.f_Way = 0
 x : e.f_What ≠ 3 → Can e.f_Value
def z42 : V → List Ed → V × Int
 | v, [] => (v, 0)
 | v, e :: r => if (apC v e.f_What e.f_Way e.f_Value).2 ≠ 0 then (.nil, (apC v e.f_What e.f_Way e.f_Value).2) else z42 (apC v e.f_What e.f_Way e.f_Value).1 r
theorem zv6 {v : V} {e : Ed} (h : EOk e) : z83 v e = apC v e.f_What e.f_Way e.f_Value := by
 unfold z83
 have hk := h.k
 rw [if_neg (c := e.f_What < 1 ∨ e.f_What > 3) (by omega), if_neg (by simp [h.w]), if_neg (fun h3 => h3.2 (by rw [z2m (h.x h3.1)]))]
noncomputable def zej : V → List Ed → V × Int
 | v, [] => (v, 0)
 | v, e :: r => if (z83 v e).2 ≠ 0 then (.nil, (z83 v e).2) else zej (z83 v e).1 r
theorem zv5 {N : Nat} {v y : V} {e : Ed} (hv : Wd N v) (hN : 4096 ≤ N) (h : z83 v e = (y, 0)) : Wd (N + 1) y := by
 unfold z83 at h
 split at h
 ·injection h with _ h; cases h
 ·split at h
  ·rename_i h2; injection h with _ h; exact absurd h h2
  ·split at h
   ·rename_i h2; injection h with _ h; exact absurd h h2.2
   ·rename_i h1 h2 h3
    exact Z6g hv (fun hk => (Z03 (Z2s (Classical.byContradiction fun hc => h3 ⟨hk, hc⟩))).mono (by omega)) (by omega) h
theorem zv4 (es : List Ed) : ∀ k i v N, k + i = es.length → Wd N v → 4096 ≤ N → N + k ≤ 268435456 → zi4 es v i = if (zej v (es.drop i)).2 ≠ 0 then some (.nil, (zej v (es.drop i)).2) else (ze1 (zej v (es.drop i)).1).bind fun x => some (x.1, x.2)
 | 0, i, v, N, h, hv, h1, h2 => by
  rw [zi3]
  simp only [z7d, zav (by omega : ¬ i < es.length), cond_false]
  rw [List.drop_of_length_le (by omega), zej, if_neg (by simp)]
 | k + 1, i, v, N, h, hv, h1, h2 => by
  obtain ⟨e, he, hd⟩ := dropc (by omega : i < es.length)
  rw [zi3]
  simp only [z7d, z9z (by omega : i < es.length), cond_true, he, Option.bind_some, zyq hv (by omega : N ≤ 268435456)]
  rw [hd, zej]
  by_cases h3 : (z83 v e).2 = 0
  ·rw [zg4 h3, cond_false, if_neg (c := (z83 v e).2 ≠ 0) (by simp [h3])]
   exact zv4 es k (i + 1) _ (N + 1) (by omega) (zv5 hv h1 (Prod.ext rfl h3)) (by omega) (by omega)
  ·rw [zpq h3, cond_true, if_pos (c := (z83 v e).2 ≠ 0) h3, if_pos h3]
theorem zyu {v : V} {es : List Ed} (hc : Can v) (hl : es.length ≤ 134217728) : zky v es = if (zej v es).2 ≠ 0 then some (.nil, (zej v es).2) else (ze1 (zej v es).1).bind fun x => some (x.1, x.2) := by
 unfold zky
 rw [zi9, Option.bind_some, z2m hc, show ((0 : Int) != 0) = false from rfl, cond_false]
 have := zv4 es es.length 0 v 4096 (by omega) (Z03 hc) (by omega) (by omega)
 rw [List.drop_zero] at this; exact this
theorem zu1 : ∀ {es : List Ed} {v : V}, (∀ e, e ∈ es → EOk e) → zej v es = z42 v es
 | [], v, _ => rfl
 | e :: r, v, h => by
  rw [zej, z42, zv6 (h e (by simp))]
  split
  ·rfl
  ·exact zu1 (fun e he => h e (by simp [he]))
theorem zyt {v r : V} {es : List Ed} (hc : Can v) (hl : es.length ≤ 134217728) (he : ∀ e, e ∈ es → EOk e) (ha : z42 v es = (r, 0)) (hr : Can r) : zky v es = some (r, 0) := by
 rw [zyu hc hl, zu1 he, ha, if_neg (by simp), zhd hr]; rfl
theorem zqf {N : Nat} {v x y : V} {s : Stp} (hx : z1e v s = (x, 0)) : z1e (z36 v s y) s = (y, 0) := by
 have flds : ∀ d, fdF v = some d → z1e (z36 v s y) s = (y, 0) := by
  intro d hd
  rw [z8b hd] at hx
  cases ha : s.f_At with
  | true => rw [if_pos ha] at hx; cases hx
  | false => rw [z61 hd, z8b (z7z hd), if_neg (by rw [ha]; simp), Z26, if_pos rfl]
 cases v with
 | list l =>
  simp only [z1e] at hx
  cases ha : s.f_At with
  | false => rw [if_neg (by rw [ha]; simp)] at hx; cases hx
  | true =>
   rw [if_pos ha] at hx
   cases hg : l[s.f_Index.toNat]? with
   | none => rw [hg] at hx; cases hx
   | some z =>
    have hlt := (List.getElem?_eq_some_iff.1 hg).1
    simp only [z36]
    by_cases he : s.f_Index = ((l.length : Nat) : Int)
    ·omega
    ·rw [if_neg he]; simp only [z1e]
     rw [if_pos ha, List.getElem?_set_self hlt]
 | dict d => exact flds d rfl
 | record c k d => exact flds d rfl
 | _ => simp [z1e, fdF] at hx
theorem zqg {N : Nat} {v x : V} {s : Stp} (hv : Wv N v) (hx : z1e v s = (x, 0)) : z36 v s x = v := by
 have flds : ∀ d, fdF v = some d → z36 v s x = v := by
  intro d hd
  rw [z8b hd] at hx
  cases ha : s.f_At with
  | true => rw [if_pos ha] at hx; cases hx
  | false =>
   rw [if_neg (by rw [ha]; simp)] at hx
   cases hg : fget d s.f_Name with
   | none => rw [hg] at hx; cases hx
   | some z =>
    rw [hg] at hx; injection hx with hx; subst hx
    rw [z61 hd, put_get (hv.fd d hd).1 hg, set_same hd]
 cases v with
 | list l =>
  simp only [z1e] at hx
  cases ha : s.f_At with
  | false => rw [if_neg (by rw [ha]; simp)] at hx; cases hx
  | true =>
   rw [if_pos ha] at hx
   cases hg : l[s.f_Index.toNat]? with
   | none => rw [hg] at hx; cases hx
   | some z =>
    rw [hg] at hx; injection hx with hx; subst hx
    obtain ⟨hlt, he2⟩ := List.getElem?_eq_some_iff.1 hg
    simp only [z36]
    by_cases he : s.f_Index = ((l.length : Nat) : Int)
    ·omega
    ·rw [if_neg he, ← he2, List.set_getElem_self]
 | dict d => exact flds d rfl
 | record c k d => exact flds d rfl
 | _ => simp [z1e, fdF] at hx
theorem zqe {v x y z : V} {s : Stp} (hx : z1e v s = (z, 0)) : z36 (z36 v s x) s y = z36 v s y := by
 have flds : ∀ d, fdF v = some d → z36 (z36 v s x) s y = z36 v s y := by
  intro d hd
  rw [z61 hd, z61 (z7z hd), set_set, Z15, z61 hd]
 cases v with
 | list l =>
  simp only [z1e] at hx
  cases ha : s.f_At with
  | false => rw [if_neg (by rw [ha]; simp)] at hx; cases hx
  | true =>
   rw [if_pos ha] at hx
   cases hg : l[s.f_Index.toNat]? with
   | none => rw [hg] at hx; cases hx
   | some z =>
    have hlt := (List.getElem?_eq_some_iff.1 hg).1
    simp only [z36]
    by_cases he : s.f_Index = ((l.length : Nat) : Int)
    ·omega
    ·rw [if_neg he, if_neg he]; simp only [z36]; rw [List.length_set, if_neg he, List.set_set]
 | dict d => exact flds d rfl
 | record c k d => exact flds d rfl
 | _ => simp [z1e, fdF] at hx
def preE (s : Stp) (e : Ed) : Ed := S_api_Edit.mk e.f_What (s :: e.f_Way) e.f_Value
def ENe (e : Ed) : Prop := e.f_Way ≠ [] ∨ e.f_What = 1
theorem Z31 {v x y : V} {s : Stp} {k : Int} {u : List Stp} (hx : z1e v s = (x, 0)) (h : u ≠ [] ∨ k = 1) {z : V} (ha : apC x k u y = (z, 0)) : apC v k (s :: u) y = (z36 v s z, 0) := by
 have he : (z1e v s).2 = 0 := by rw [hx]
 have hs1 : (z1e v s).1 = x := by rw [hx]
 cases u with
 | nil =>
  have hk := h.resolve_left (by simp)
  subst hk
  simp only [apC, List.getLast?_nil, if_true] at ha
  injection ha with ha; subst ha
  simp only [apC, List.getLast?_singleton, if_true, chF]
  rw [if_pos (by simp [z59, he])]
 | cons t r =>
  have hch : ∀ room fin, chF room fin x (t :: r) = (z, 0) → chF room fin v (s :: t :: r) = (z36 v s z, 0) := by
   intro room fin hc
   rw [chF, if_neg (by simp [he]), hs1, hc, if_neg (by simp)]
  have hgf : ∀ q : List Stp, getF v (s :: q) = getF x q := fun q => by rw [getF, if_neg (by simp [he]), hs1]
  have hgl : (s :: t :: r).getLast? = (t :: r).getLast? := by simp [List.getLast?_cons_cons]
  have hdl : (s :: t :: r).dropLast = s :: (t :: r).dropLast := rfl
  unfold apC at ha ⊢
  rw [hgl, hdl, hgf]
  split at ha
  ·rename_i hn; exact absurd (List.getLast?_eq_none_iff.1 hn) (by simp)
  ·rename_i q hq
   try simp only [hq]
   split at ha
   ·rename_i h1; rw [if_pos h1]; exact hch _ _ ha
   ·rename_i h1; rw [if_neg h1]
    split at ha
    ·rename_i h2; injection ha with _ ha; exact absurd ha h2
    ·rename_i h2; rw [if_neg h2]
     split at ha
     ·rename_i h3; rw [if_pos h3]
      split at ha
      ·injection ha with _ ha; cases ha
      ·rename_i h4; rw [if_neg h4]; exact hch _ _ ha
     ·rename_i h3; rw [if_neg h3]
      split at ha
      ·rename_i h4; injection ha with _ ha; exact absurd ha h4
      ·rename_i h4; rw [if_neg h4]
       split at ha
       ·injection ha with _ ha; cases ha
       ·rename_i h5; rw [if_neg h5]; exact hch _ _ ha
theorem zet : ∀ {es fs : List Ed} {v r : V}, z42 v es = (r, 0) → z42 v (es ++ fs) = z42 r fs
 | [], fs, v, r, h => by rw [z42] at h; injection h with h; subst h; rfl
 | e :: es, fs, v, r, h => by
  rw [z42] at h
  rw [List.cons_append, z42]
  split at h
  ·rename_i h2; injection h with _ h; exact absurd h h2
  ·rename_i h2; rw [if_neg h2]; exact zet h
theorem Z0e {N : Nat} {v x y : V} {s : Stp} (hv : Wv N v) (hx : z1e v s = (x, 0)) : Wv N (z36 v s y) := by
 have flds : ∀ d, fdF v = some d → Wv N (z36 v s y) := by
  intro d hd
  rw [z8b hd] at hx
  cases ha : s.f_At with
  | true => rw [if_pos ha] at hx; cases hx
  | false =>
   rw [if_neg (by rw [ha]; simp)] at hx
   cases hg : fget d s.f_Name with
   | none => rw [hg] at hx; cases hx
   | some z =>
    obtain ⟨h1, h2⟩ := hv.fd d hd
    have hlen : ∀ d : Fds, fget d s.f_Name = some z → (d.map (·.1)).Pairwise zlt → (z5j d s.f_Name y).length = d.length := by
     intro d hg hs
     induction d with
     | nil => cases hg
     | cons f r ih =>
      rw [List.map_cons, List.pairwise_cons] at hs
      rw [z2y] at hg
      rw [z5j]
      by_cases h1 : f.1 = s.f_Name
      ·rw [if_pos h1]; rfl
      ·rw [if_neg h1] at hg ⊢
       have := bl_lt.2 (hs.1 _ (List.mem_map.2 ⟨_, zh6 hg, rfl⟩))
       rw [if_pos this, List.length_cons, List.length_cons, ih hg hs.2]
    rw [z61 hd]
    exact ⟨zqw hd, fun e he => by rw [z7z hd] at he; injection he with he; subst he; exact ⟨zgp h1, by rw [hlen d hg h1]; exact h2⟩, fun l hl => absurd hl (zgi hd)⟩
 cases v with
 | list l =>
  simp only [z1e] at hx
  cases ha : s.f_At with
  | false => rw [if_neg (by rw [ha]; simp)] at hx; cases hx
  | true =>
   rw [if_pos ha] at hx
   cases hg : l[s.f_Index.toNat]? with
   | none => rw [hg] at hx; cases hx
   | some z =>
    have hlt := (List.getElem?_eq_some_iff.1 hg).1
    simp only [z36]
    by_cases he : s.f_Index = ((l.length : Nat) : Int)
    ·omega
    ·rw [if_neg he]
     exact ⟨by simp, fun d hd => (by cases hd), fun l' h => by injection h with h; subst h; rw [List.length_set]; exact hv.li l rfl⟩
 | dict d => exact flds d rfl
 | record c k d => exact flds d rfl
 | _ => simp [z1e, fdF] at hx
theorem zes {N : Nat} {s : Stp} : ∀ {es : List Ed} {v x r : V}, Wv N v → z1e v s = (x, 0) → (∀ e, e ∈ es → ENe e) → z42 x es = (r, 0) → z42 v (es.map (preE s)) = (z36 v s r, 0)
 | [], v, x, r, hv, hx, _, h => by
  rw [z42] at h; injection h with h; subst h
  rw [List.map_nil, z42, zqg hv hx]
 | e :: es, v, x, r, hv, hx, he, h => by
  rw [z42] at h
  split at h
  ·rename_i h2; injection h with _ h; exact absurd h h2
  ·rename_i h2
   have h2' : (apC x e.f_What e.f_Way e.f_Value).2 = 0 := by simpa using h2
   have hp := Z31 hx (he e (by simp)) (Prod.ext rfl h2' : apC x e.f_What e.f_Way e.f_Value = ((apC x e.f_What e.f_Way e.f_Value).1, 0))
   have hp' : apC v (preE s e).f_What (preE s e).f_Way (preE s e).f_Value = (z36 v s (apC x e.f_What e.f_Way e.f_Value).1, 0) := hp
   rw [List.map_cons, z42, if_neg (by rw [hp']; simp), hp']
   have := zes (s := s) (Z0e hv hx) (zqf (N := N) hx) (fun e h => he e (by simp [h])) h
   rw [zqe hx] at this
   exact this
end Go.Proofs.YtmoijodjgkfhgaaGreat

namespace Go.Proofs.YtmoijodjgkfhgaaGreat
open Go Aw
set_option linter.unusedVariables false
set_option linter.unusedSimpArgs false
set_option maxRecDepth 8000
noncomputable abbrev pDf := zl5
def zgq (w : List Stp) (e : Ed) : Ed := S_api_Edit.mk e.f_What (w ++ e.f_Way) e.f_Value
structure EG (D : Int) (e : Ed) : Prop where
 k : 1 ≤ e.f_What ∧ e.f_What ≤ 3
 w : ∀ s, s ∈ e.f_Way → za1 s = 0
 l : (e.f_Way.length : Int) + 1 ≤ D
 x : e.f_What ≠ 3 → Can e.f_Value
 ne : ENe e
def mx (a b : Int) : Int := if a < b then b else a
structure DP (way : List Stp) (a b : V) (es : List Ed) (r : V) : Prop where
 run : ∀ l : List Ed, l.length + es.length ≤ 134217728 → pDf way a b l = some (l ++ es.map (zgq way))
 ap : z42 a es = (r, 0)
 eq : z3d r b = 0
 ok : ∀ e, e ∈ es → EG (mx (dpt a) (dpt b)) e
 n : (es.length : Int) ≤ cnt a + cnt b
theorem EG.mono {D E : Int} {e : Ed} (h : EG D e) (hd : D ≤ E) : EG E e := ⟨h.k, h.w, by have := h.l; omega, h.x, h.ne⟩
theorem EG.pre {D : Int} {e : Ed} {s : Stp} (h : EG D e) (hs : za1 s = 0) : EG (D + 1) (preE s e) :=
 ⟨h.k, fun t ht => by rcases List.mem_cons.1 (show t ∈ s :: e.f_Way from ht) with rfl | ht; exact hs; exact h.w t ht, by have := h.l; simp only [preE, List.length_cons]; omega, h.x, .inl (by simp [preE])⟩
theorem zvu (w : List Stp) (s : Stp) (e : Ed) : zgq w (preE s e) = zgq (w ++ [s]) e := by simp [zgq, preE]
theorem zmz (w : List Stp) (s : Stp) (es : List Ed) : (es.map (preE s)).map (zgq w) = es.map (zgq (w ++ [s])) := by
 rw [List.map_map]; exact List.map_congr_left fun e _ => zvu w s e
theorem zog {s : Stp} {w : List Stp} (h : w.length ≤ 1000000) : zew s w = some (w ++ [s]) := by
 unfold zew zj5
 rw [Option.bind_some, zqa (by omega) (by omega)]; rfl
theorem zqu {v : V} (h : Can v) : zsj v = some v := by unfold zsj; rw [zhd h]; rfl
theorem zut : Can .nil := ⟨.mk rfl (fun y hy => by cases hy), by simp [cnt], by simp [dpt]⟩
theorem zdc {k : Int} {w : List Stp} {v : V} {l : List Ed} (hw : w.length ≤ 1000000) (hv : Can v) (hl : l.length ≤ 134217728) : zcm k w v l = some (l ++ [S_api_Edit.mk k w v]) := by
 unfold zcm zpf
 rw [Z05 (by omega) (by omega), Option.bind_some, Option.bind_some, zqu hv, Option.bind_some, zqa (by omega) (by omega)]; rfl
section
variable {way : List Stp}
theorem Z0b {l : List V} (h : l.length ≤ 4096) : Wv 4096 (.list l) := ⟨by simp, fun d hd => (by cases hd), fun l' h' => (by injection h' with h'; subst h'; exact h)⟩
theorem l3 {l m : List V} (hc : ∀ y, y ∈ m → Can y) (hm : m.length ≤ 4096) (hw : way.length ≤ 900000) {D : Int} (hD : ∀ y, y ∈ m → dpt y + 1 ≤ D) : ∀ k i (rs : List V), i + k = m.length → rs.length = i → z44 rs (m.take i) = 0 →
 ∃ es r, (∀ l0 : List Ed, l0.length + es.length ≤ 134217728 → zfi way (.list m) (i : Nat) l0 = some (l0 ++ es.map (zgq way))) ∧ z42 (.list rs) es = (.list r, 0) ∧ z44 r m = 0 ∧ (∀ e, e ∈ es → EG D e) ∧ (es.length : Int) ≤ cntL (m.drop i)
 | 0, i, rs, h, hr, ho => by
  refine ⟨[], rs, fun l0 hl => ?_, rfl, ?_, fun e he => (by cases he), ?_⟩
  ·rw [zdx]
   simp only [z6d, V.asList, zav (by omega : ¬ i < m.length), cond_false, List.map_nil, List.append_nil]
  ·rw [List.take_of_length_le (by omega)] at ho; exact ho
  ·exact z86 _
 | k + 1, i, rs, h, hr, ho => by
  obtain ⟨y, hy, hd⟩ := dropc (by omega : i < m.length)
  have hym := List.mem_of_getElem? hy
  have hcy := hc y hym
  have hlt := (List.getElem?_eq_some_iff.1 hy).1
  have hlen : rs.length = (m.take i).length := by rw [List.length_take]; omega
  obtain ⟨es, r, h1, h2, h3, h4, h5⟩ := l3 (l := l) hc hm hw hD k (i + 1) (rs ++ [y]) (by omega) (by simp [hr]) (by
   rw [← z89 hy]
   have app : ∀ (a b : List V), z44 a b = 0 → z44 (a ++ [y]) (b ++ [y]) = 0 := by
    intro a
    induction a with
    | nil => intro b hb; cases b with
     | nil => simp only [List.nil_append]; rw [z44, zaq]; rfl
     | cons _ _ => simp [z44] at hb
    | cons x q ih => intro b hb; cases b with
     | nil => simp [z44] at hb
     | cons z b =>
      rw [z44] at hb
      obtain ⟨g1, g2⟩ := th0 hb
      rw [List.cons_append, List.cons_append, z44, g1, ih b g2]; rfl
   exact app rs _ ho)
  refine ⟨S_api_Edit.mk 2 [stA i] y :: es, r, fun l0 hl => ?_, ?_, h3, fun e he => ?_, ?_⟩
  ·simp only [List.length_cons] at hl
   rw [zdx]
   simp only [z6d, V.asList, z9z hlt, cond_true]
   rw [show (S_api_Step.mk [] true ((i : Nat) : Int)) = stA i from rfl, zog (by omega), Option.bind_some, z21, hy, Option.bind_some, zdc (by simp; omega) hcy (by omega), Option.bind_some, z3y (by omega) (by omega), show ((i : Nat) : Int) + 1 = ((i + 1 : Nat) : Int) from by omega, h1 _ (by simp; omega)]
   simp [zgq]
  ·have hn : rs[i]? = none := List.getElem?_eq_none (by omega)
   have hs : z1e (.list rs) (stA i) = (.nil, 42) := by rw [zdg, hn]
   have ha : apC (.list rs) 2 [stA i] y = (.list (rs ++ [y]), 0) := by
    simp only [apC, List.getLast?_singleton, List.dropLast_singleton, getF, hs, chF]
    rw [if_neg (by omega), if_neg (by simp), if_pos trivial, if_neg (by omega), if_pos (by unfold z59; rw [hs]; simp [V.isList, V.asList, stA, hr])]
    simp only [z36]
    rw [if_pos (by simp [stA, hr])]
   rw [z42]
   simp only
   rw [ha, if_neg (by simp)]; exact h2
  ·rcases List.mem_cons.1 he with rfl | he
   ·exact ⟨(by show (1 : Int) ≤ 2 ∧ (2 : Int) ≤ 3; omega), fun s hs => by rw [List.mem_singleton] at hs; subst hs; rw [zlq, if_pos (by omega)], by have := hD y hym; have := (z29 y).2; simp; omega, fun _ => hcy, .inl (by simp)⟩
   ·exact h4 e he
  ·rw [hd, cntL, List.length_cons]; have := (z29 y).1; omega
theorem l2 {l m : List V} (hc : ∀ y, y ∈ m → Can y) (hm : m.length ≤ 4096) (hll : l.length ≤ 4096) (hw : way.length ≤ 900000) {D : Int} (hD : ∀ y, y ∈ m → dpt y + 1 ≤ D) (hD2 : ∀ y, y ∈ l → dpt y + 1 ≤ D) (hge : m.length ≤ l.length) : ∀ (t rs : List V), rs.length = m.length → z44 rs m = 0 → (∀ y, y ∈ t → y ∈ l) → t.length ≤ l.length - m.length →
 ∃ es r, (∀ l0 : List Ed, l0.length + es.length ≤ 134217728 → zfj way (.list l) (.list m) (((m.length + t.length : Nat) : Int) - 1) l0 = some (l0 ++ es.map (zgq way))) ∧ z42 (.list (rs ++ t)) es = (.list r, 0) ∧ z44 r m = 0 ∧ (∀ e, e ∈ es → EG D e) ∧ (es.length : Int) ≤ t.length := by
 intro t
 induction h : t.length generalizing t with
 | zero =>
  intro rs hr ho _ _
  have ht : t = [] := List.eq_nil_of_length_eq_zero h
  subst ht
  obtain ⟨es, r, h1, h2, h3, h4, h5⟩ := l3 (way := way) (l := l) hc hm hw hD 0 m.length rs (by omega) hr (by rw [List.take_of_length_le (Nat.le_refl _)]; exact ho)
  rw [List.drop_of_length_le (Nat.le_refl _), cntL] at h5
  have he : es = [] := List.eq_nil_of_length_eq_zero (by omega)
  subst he
  refine ⟨[], r, fun l0 hl => ?_, by rw [List.append_nil]; exact h2, h3, h4, by simp⟩
  rw [zdy]
  simp only [z6e, V.asList]
  rw [decide_eq_false (by omega), cond_false]
  have hx : ∀ j : Nat, m.length ≤ j → zfi way (.list m) (j : Nat) l0 = some l0 := by
   intro j hj
   rw [zdx]
   simp only [z6d, V.asList, zav (by omega : ¬ j < m.length), cond_false]
  rw [hx l.length hge]; simp
 | succ k ih =>
  intro rs hr ho hm2 hk
  have hne : t ≠ [] := by rintro rfl; simp at h
  have hlast : (t.getLast hne) ∈ l := hm2 _ (List.getLast_mem hne)
  obtain ⟨es, r, h1, h2, h3, h4, h5⟩ := ih t.dropLast (by rw [List.length_dropLast]; omega) rs hr ho (fun y hy => hm2 y ((List.dropLast_sublist _).subset hy)) (by omega)
  have hi : m.length + k < l.length := by omega
  refine ⟨S_api_Edit.mk 3 [stA (m.length + k)] .nil :: es, r, fun l0 hl => ?_, ?_, h3, fun e he => ?_, by simp only [List.length_cons]; omega⟩
  ·simp only [List.length_cons] at hl
   rw [zdy]
   simp only [z6e, V.asList]
   have e1 : ((m.length + (k + 1) : Nat) : Int) - 1 = ((m.length + k : Nat) : Int) := by omega
   rw [e1, decide_eq_true (by omega), cond_true, show (S_api_Step.mk [] true ((m.length + k : Nat) : Int)) = stA (m.length + k) from rfl, zog (by omega), Option.bind_some, zdc (by simp; omega) zut (by omega), Option.bind_some, z3y (by omega) (by omega), h1 _ (by simp; omega)]
   simp [zgq]
  ·have hll2 : (rs ++ t).length = m.length + k + 1 := by rw [List.length_append]; omega
   obtain ⟨z, hz⟩ : ∃ z, (rs ++ t)[m.length + k]? = some z := ⟨_, List.getElem?_eq_getElem (by omega)⟩
   have hs : z1e (.list (rs ++ t)) (stA (m.length + k)) = (z, 0) := by rw [zdg, hz]
   have ha : apC (.list (rs ++ t)) 3 [stA (m.length + k)] .nil = (.list (rs ++ t.dropLast), 0) := by
    simp only [apC, List.getLast?_singleton, List.dropLast_singleton, getF, hs, chF]
    rw [if_neg (by omega), if_neg (by simp), if_neg (by omega), if_neg (by simp), if_neg (by simp only [V.asList, stA, hll2]; omega), if_pos (by simp [z59, hs])]
    simp only [z4i, stA, Int.toNat_natCast]
    rw [List.drop_of_length_le (by omega), List.append_nil, List.take_append, List.take_of_length_le (by omega : rs.length ≤ m.length + k), List.dropLast_eq_take, show m.length + k - rs.length = t.length - 1 by omega]
   rw [z42]
   simp only
   rw [ha, if_neg (by simp)]; exact h2
  ·rcases List.mem_cons.1 he with rfl | he
   ·exact ⟨(by show (1 : Int) ≤ 3 ∧ (3 : Int) ≤ 3; omega), fun s hs => by rw [List.mem_singleton] at hs; subst hs; rw [zlq, if_pos (by omega)], by have := hD2 _ hlast; have := (z29 (t.getLast hne)).2; simp; omega, fun hx => absurd rfl hx, .inl (by simp)⟩
   ·exact h4 e he
theorem zj6 {x y : V} : ∀ {a b : List V}, z44 a b = 0 → z3d x y = 0 → z44 (a ++ [x]) (b ++ [y]) = 0
 | [], [], _, h => by simp only [List.nil_append]; rw [z44, h]; simp [z44, th]
 | [], _ :: _, h, _ => by simp [z44] at h
 | _ :: _, [], h, _ => by simp [z44] at h
 | p :: a, q :: b, h, hx => by
  rw [z44] at h
  obtain ⟨g1, g2⟩ := th0 h
  rw [List.cons_append, List.cons_append, z44, g1, zj6 g2 hx]; rfl
theorem zxu (l : List V) : (l.length : Int) ≤ cntL l := by
 induction l with
 | nil => simp [cntL]
 | cons x r ih => rw [cntL, List.length_cons]; have := (z29 x).1; omega
theorem lists {l m : List V} (hcl : ∀ y, y ∈ l → Can y) (hcm : ∀ y, y ∈ m → Can y) (hl : l.length ≤ 4096) (hm : m.length ≤ 4096) (hw : way.length ≤ 900000) {D : Int} (hD : ∀ y, y ∈ m → dpt y + 1 ≤ D) (hD2 : ∀ y, y ∈ l → dpt y + 1 ≤ D)
 (ih : ∀ x y (w : List Stp), x ∈ l → y ∈ m → w.length ≤ way.length + 1 → ∃ es r, DP w x y es r) : ∀ k i (rs : List V), i + k = min l.length m.length → rs.length = i → z44 rs (m.take i) = 0 →
 ∃ es r, (∀ l0 : List Ed, l0.length + es.length ≤ 134217728 → zdz pDf way (.list l) (.list m) (i : Nat) l0 = some (l0 ++ es.map (zgq way))) ∧ z42 (.list (rs ++ l.drop i)) es = (.list r, 0) ∧ z44 r m = 0 ∧ (∀ e, e ∈ es → EG D e) ∧ (es.length : Int) ≤ cntL (l.drop i) + cntL (m.drop i)
 | 0, i, rs, h, hr, ho => by
  have hmin : (if ((m.length : Nat) : Int) < ((l.length : Nat) : Int) then ((m.length : Nat) : Int) else ((l.length : Nat) : Int)) = ((min l.length m.length : Nat) : Int) := by split <;> omega
  have hstep : ∀ l0 : List Ed, zdz pDf way (.list l) (.list m) (i : Nat) l0 = zfj way (.list l) (.list m) (((l.length : Nat) : Int) - 1) l0 := by
   intro l0
   rw [zil]
   simp only [z6f, V.asList]
   rw [hmin, decide_eq_false (by omega), cond_false, z3y (by omega) (by omega)]
  rcases Nat.le_total m.length l.length with hge | hle
  ·have him : i = m.length := by omega
   subst him
   obtain ⟨es, r, h1, h2, h3, h4, h5⟩ := l2 (way := way) hcm hm hl hw hD hD2 hge (l.drop m.length) rs hr (by rwa [List.take_of_length_le (Nat.le_refl _)] at ho) (fun y hy => List.mem_of_mem_drop hy) (by rw [List.length_drop]; omega)
   refine ⟨es, r, fun l0 hl0 => ?_, h2, h3, h4, ?_⟩
   ·rw [hstep, show ((l.length : Nat) : Int) - 1 = ((m.length + (l.drop m.length).length : Nat) : Int) - 1 by rw [List.length_drop]; omega]
    exact h1 l0 hl0
   ·have := zxu (l.drop m.length); have := z86 (m.drop m.length); omega
  ·have him : i = l.length := by omega
   subst him
   obtain ⟨es, r, h1, h2, h3, h4, h5⟩ := l3 (way := way) (l := l) hcm hm hw hD (m.length - l.length) l.length rs (by omega) hr ho
   refine ⟨es, r, fun l0 hl0 => ?_, by rw [List.drop_of_length_le (Nat.le_refl _), List.append_nil]; exact h2, h3, h4, by have := z86 (l.drop l.length); omega⟩
   rw [hstep, zdy]
   simp only [z6e, V.asList]
   rw [decide_eq_false (by omega), cond_false]
   exact h1 l0 hl0
 | k + 1, i, rs, h, hr, ho => by
  obtain ⟨x, hx, hdx⟩ := dropc (by omega : i < l.length)
  obtain ⟨y, hy, hdy⟩ := dropc (by omega : i < m.length)
  have hxm := List.mem_of_getElem? hx
  have hym := List.mem_of_getElem? hy
  obtain ⟨es1, r1, d⟩ := ih x y (way ++ [stA i]) hxm hym (by simp)
  obtain ⟨es, r, h1, h2, h3, h4, h5⟩ := lists hcl hcm hl hm hw hD hD2 ih k (i + 1) (rs ++ [r1]) (by omega) (by simp [hr]) (by rw [← z89 hy]; exact zj6 ho d.eq)
  have hmin : (if ((m.length : Nat) : Int) < ((l.length : Nat) : Int) then ((m.length : Nat) : Int) else ((l.length : Nat) : Int)) = ((min l.length m.length : Nat) : Int) := by split <;> omega
  refine ⟨es1.map (preE (stA i)) ++ es, r, fun l0 hl0 => ?_, ?_, h3, fun e he => ?_, ?_⟩
  ·rw [List.length_append, List.length_map] at hl0
   rw [zil]
   simp only [z6f, V.asList]
   rw [hmin, decide_eq_true (by omega), cond_true, show (S_api_Step.mk [] true ((i : Nat) : Int)) = stA i from rfl, zog (by omega), Option.bind_some, z21, hx, Option.bind_some, z21, hy, Option.bind_some, d.run l0 (by omega), Option.bind_some, z3y (by omega) (by omega), show ((i : Nat) : Int) + 1 = ((i + 1 : Nat) : Int) from by omega, h1 _ (by rw [List.length_append, List.length_map]; omega), List.map_append, zmz, List.append_assoc]
  ·have hlen : (rs ++ l.drop i).length = l.length := by rw [List.length_append, List.length_drop]; omega
   have hat : (rs ++ l.drop i)[i]? = some x := by rw [List.getElem?_append_right (by omega), hr, Nat.sub_self, hdx]; rfl
   have hs : z1e (.list (rs ++ l.drop i)) (stA i) = (x, 0) := by rw [zdg, hat]
   have := zes (Z0b (by omega)) hs (fun e he => (d.ok e he).ne) d.ap
   have hwf : z36 (.list (rs ++ l.drop i)) (stA i) r1 = .list ((rs ++ [r1]) ++ l.drop (i + 1)) := by
    simp only [z36]
    rw [if_neg (by simp only [stA, hlen]; omega)]
    simp only [stA, Int.toNat_natCast]
    rw [hdx, List.set_append_right _ _ (by omega), hr, Nat.sub_self, List.set_cons_zero, List.append_assoc]; rfl
   rw [hwf] at this
   rw [zet this]; exact h2
  ·rcases List.mem_append.1 he with he | he
   ·obtain ⟨e', he', rfl⟩ := List.mem_map.1 he
    refine ((d.ok e' he').pre (s := stA i) (by rw [zlq, if_pos (by omega)])).mono ?_
    have := hD2 x hxm; have := hD y hym
    unfold mx; split <;> omega
   ·exact h4 e he
  ·rw [List.length_append, List.length_map, hdx, hdy, cntL, cntL]; have := d.n; omega
end
end Go.Proofs.YtmoijodjgkfhgaaGreat

namespace Go.Proofs.YtmoijodjgkfhgaaGreat
open Go Aw
set_option linter.unusedVariables false
set_option linter.unusedSimpArgs false
set_option maxRecDepth 8000
theorem zu0 {p q : Fds} {n : Str} {v : V} (h : ∀ y, y ∈ p.map (·.1) → y ≠ n) : fget (p ++ (n, v) :: q) n = some v := by
 induction p with
 | nil => rw [List.nil_append, z2y, if_pos rfl]
 | cons f r ih => rw [List.cons_append, z2y, if_neg (h f.1 (by simp)), ih (fun y hy => h y (by simp at hy ⊢; exact .inr hy))]
theorem Z16 {p q : Fds} {n : Str} {v x : V} (h : ∀ y, y ∈ p.map (·.1) → zlt y n) : z5j (p ++ (n, v) :: q) n x = p ++ (n, x) :: q := by
 induction p with
 | nil => rw [List.nil_append, List.nil_append, z5j, if_pos rfl]
 | cons f r ih =>
  have hf := h f.1 (by simp)
  rw [List.cons_append, List.cons_append, z5j, if_neg (fun e => z57 _ (by rw [e] at hf; exact hf)), if_pos (bl_lt.2 hf), ih (fun y hy => h y (by simp at hy ⊢; exact .inr hy))]
theorem Z19 {p q : Fds} {n : Str} {x : V} (h : ∀ y, y ∈ p.map (·.1) → zlt y n) (hq : ∀ f, q.head? = some f → zlt n f.1) : z5j (p ++ q) n x = p ++ (n, x) :: q := by
 induction p with
 | nil =>
  rw [List.nil_append, List.nil_append]
  cases q with
  | nil => rfl
  | cons f r =>
   have := hq f rfl
   rw [z5j, if_neg (fun e => z57 _ (by rw [e] at this; exact this)), if_neg (fun h2 => z57 _ (z6k this (bl_lt.1 h2)))]
 | cons f r ih =>
  have hf := h f.1 (by simp)
  rw [List.cons_append, List.cons_append, z5j, if_neg (fun e => z57 _ (by rw [e] at hf; exact hf)), if_pos (bl_lt.2 hf), ih (fun y hy => h y (by simp at hy ⊢; exact .inr hy))]
theorem Z2k {p q : Fds} {n : Str} {v : V} (h : ∀ y, y ∈ p.map (·.1) → y ≠ n) : zpz (p ++ (n, v) :: q) n = p ++ q := by
 induction p with
 | nil => rw [List.nil_append, List.nil_append, zpz, if_pos rfl]
 | cons f r ih => rw [List.cons_append, List.cons_append, zpz, if_neg (h f.1 (by simp)), ih (fun y hy => h y (by simp at hy ⊢; exact .inr hy))]
theorem Z27 {d : Fds} {n : Str} (h : n ∉ d.map (·.1)) : fget d n = none := fget_none.2 h
theorem ze3 {n : Str} {x y : V} : ∀ {a b : Fds}, z81 a b = 0 → z3d x y = 0 → z81 (a ++ [(n, x)]) (b ++ [(n, y)]) = 0
 | [], [], _, h => by simp only [List.nil_append]; rw [z81, zb4, h]; simp [z81, th]
 | [], _ :: _, h, _ => by simp [z81] at h
 | _ :: _, [], h, _ => by simp [z81] at h
 | (s, p) :: a, (t, q) :: b, h, hx => by
  rw [z81] at h
  obtain ⟨g1, g2⟩ := th0 h
  rw [List.cons_append, List.cons_append, z81, g1, ze3 g2 hx]; rfl
section
variable {way : List Stp} {a : V} {d f : Fds}
theorem zc0 {d : Fds} {y : Str × V} (h : y ∈ d) : y.2 ∈ d.map (·.2) := List.mem_map.2 ⟨y, h, rfl⟩
theorem dicts (ha : fdF a = some d) (hcd : ∀ y, y ∈ d → Can y.2) (hcf : ∀ y, y ∈ f → Can y.2) (hnd : ∀ y, y ∈ d → z3z y.1 = true) (hnf : ∀ y, y ∈ f → z3z y.1 = true) (hsf : (f.map (·.1)).Pairwise zlt) (hdl : d.length ≤ 4096) (hfl : f.length ≤ 4096) (hw : way.length ≤ 900000)
 {D : Int} (hD : ∀ y, y ∈ f → dpt y.2 + 1 ≤ D) (hD2 : ∀ y, y ∈ d → dpt y.2 + 1 ≤ D) (ih : ∀ x y (w : List Stp), x ∈ d.map (·.2) → y ∈ f.map (·.2) → w.length ≤ way.length + 1 → ∃ es r, DP w x y es r) : ∀ q i k (dn : Fds), (d.length - i) + (f.length - k) ≤ q → i ≤ d.length → k ≤ f.length →
 dn.map (·.1) = (f.take k).map (·.1) → z81 dn (f.take k) = 0 → ((dn ++ d.drop i).map (·.1)).Pairwise zlt →
 ∃ es r, (∀ l0 : List Ed, l0.length + es.length ≤ 134217728 → z3l pDf way (d, f, true) (i : Nat) (k : Nat) l0 = some (l0 ++ es.map (zgq way))) ∧ z42 (setFd a (dn ++ d.drop i)) es = (setFd a r, 0) ∧ z81 r f = 0 ∧ (∀ e, e ∈ es → EG D e) ∧ (es.length : Int) ≤ cntL ((d.drop i).map (·.2)) + cntL ((f.drop k).map (·.2)) := by
 intro q
 induction q with
 | zero =>
  intro i k dn hq hi hk hn ho hs
  have e1 : i = d.length := by omega
  have e2 : k = f.length := by omega
  subst e1; subst e2
  refine ⟨[], dn, fun l0 hl => ?_, by rw [List.drop_of_length_le (Nat.le_refl _), List.append_nil]; rfl, by rwa [List.take_of_length_le (Nat.le_refl _)] at ho, fun e he => (by cases he), ?_⟩
  ·rw [zik]
   simp only [z4c]
   rw [decide_eq_false (by omega), cond_false, decide_eq_false (by omega)]
   simp [z8g]
  ·have := z86 ((d.drop d.length).map (·.2)); have := z86 ((f.drop f.length).map (·.2)); simp only [List.length_nil]; omega
 | succ q ihq =>
  intro i k dn hq hi hk hn ho hs
  -- names of what is done stand below those of the rest of f
  have below : ∀ y, f[k]? = some y → ∀ n, n ∈ dn.map (·.1) → zlt n y.1 := by
   intro y hy n hnm
   rw [hn] at hnm
   obtain ⟨z, hz, rfl⟩ := List.mem_map.1 hnm
   obtain ⟨j, hj⟩ := List.getElem?_of_mem hz
   rw [List.getElem?_take] at hj
   split at hj
   ·rename_i hjk
    have h1 := (List.getElem?_eq_some_iff.1 hj); have h2 := (List.getElem?_eq_some_iff.1 hy)
    have := List.pairwise_iff_getElem.1 hsf j k (by simp [h1.1]) (by simp [h2.1]) hjk
    simp only [List.getElem_map] at this
    rwa [h1.2, h2.2] at this
   ·cases hj
  have belowd : ∀ x r, d.drop i = x :: r → ∀ n, n ∈ dn.map (·.1) → zlt n x.1 := by
   intro x r hx n hnm
   rw [hx, List.map_append, List.pairwise_append] at hs
   exact hs.2.2 n hnm x.1 (by simp)
  have hwv : ∀ e : Fds, (e.map (·.1)).Pairwise zlt → e.length ≤ 8192 → Wv 8192 (setFd a e) := fun e he hl => ⟨zqw ha, fun d' hd' => by rw [z7z ha] at hd'; injection hd' with hd'; subst hd'; exact ⟨he, hl⟩, fun l hl => absurd hl (zgi ha)⟩
  have hdnl : dn.length = k := by have := congrArg List.length hn; rw [List.length_map, List.length_map, List.length_take] at this; omega
  -- a field is dropped
  have drop_ : ∀ x r, d.drop i = x :: r → i < d.length →
   (∃ es r', (∀ l0 : List Ed, l0.length + es.length ≤ 134217728 → z3l pDf way (d, f, true) ((i + 1 : Nat) : Int) (k : Nat) l0 = some (l0 ++ es.map (zgq way))) ∧ z42 (setFd a (dn ++ d.drop (i + 1))) es = (setFd a r', 0) ∧ z81 r' f = 0 ∧ (∀ e, e ∈ es → EG D e) ∧ (es.length : Int) ≤ cntL ((d.drop (i + 1)).map (·.2)) + cntL ((f.drop k).map (·.2))) →
   (∀ l0 : List Ed, z3l pDf way (d, f, true) (i : Nat) (k : Nat) l0 = z6s pDf (fun s26 s27 s28 => z3l pDf way (d, f, true) s26 s27 s28) way (d, f, true) (i : Nat) (k : Nat) l0 true) →
   ∃ es r', (∀ l0 : List Ed, l0.length + es.length ≤ 134217728 → z3l pDf way (d, f, true) (i : Nat) (k : Nat) l0 = some (l0 ++ es.map (zgq way))) ∧ z42 (setFd a (dn ++ d.drop i)) es = (setFd a r', 0) ∧ z81 r' f = 0 ∧ (∀ e, e ∈ es → EG D e) ∧ (es.length : Int) ≤ cntL ((d.drop i).map (·.2)) + cntL ((f.drop k).map (·.2)) := by
   rintro x r hx hil ⟨es, r', h1, h2, h3, h4, h5⟩ hcode
   have hxm : x ∈ d := List.mem_of_mem_drop (by rw [hx]; simp : x ∈ d.drop i)
   have hxi : d[i]? = some x := by have := congrArg (fun l => l[0]?) hx; simpa using this
   have hxr : d.drop (i + 1) = r := by rw [← List.drop_drop, hx]; rfl
   refine ⟨S_api_Edit.mk 3 [stN x.1] .nil :: es, r', fun l0 hl => ?_, ?_, h3, fun e he => ?_, ?_⟩
   ·simp only [List.length_cons] at hl
    rw [hcode]
    unfold z6s
    simp only [cond_true]
    rw [z21, hxi, Option.bind_some, show (S_api_Step.mk x.1 false 0) = stN x.1 from rfl, zog (by omega), Option.bind_some, zdc (by simp; omega) zut (by omega), Option.bind_some, z3y (by omega) (by omega), show ((i : Nat) : Int) + 1 = ((i + 1 : Nat) : Int) from by omega, h1 _ (by simp; omega)]
    simp [zgq]
   ·have hb := belowd x r hx
    have hne : ∀ n, n ∈ dn.map (·.1) → n ≠ x.1 := fun n hn e => z57 _ (by have := hb n hn; rw [e] at this; exact this)
    have hs1 : z1e (setFd a (dn ++ x :: r)) (stN x.1) = (x.2, 0) := by rw [zkk (z7z ha), show x = (x.1, x.2) from rfl, zu0 hne]
    have hap : apC (setFd a (dn ++ d.drop i)) 3 [stN x.1] .nil = (setFd a (dn ++ d.drop (i + 1)), 0) := by
     rw [hx, hxr]
     simp only [apC, List.getLast?_singleton, List.dropLast_singleton, getF, hs1, chF]
     rw [if_neg (by omega), if_neg (by simp), if_neg (by omega), if_neg (by simp), if_neg (fun h => ?_), if_pos (by unfold z59; rw [hs1]; rfl), zba (z7z ha), set_set, show (stN x.1).f_Name = x.1 from rfl, show x = (x.1, x.2) from rfl, Z2k hne]
     have := h.1
     generalize hq : setFd a (dn ++ x :: r) = z at this
     cases z with
     | list l => exact zgi ha hq
     | _ => cases this
    rw [z42]
    simp only
    rw [hap, if_neg (by simp)]; exact h2
   ·rcases List.mem_cons.1 he with rfl | he
    ·exact ⟨(by show (1 : Int) ≤ 3 ∧ (3 : Int) ≤ 3; omega), fun s hs => by rw [List.mem_singleton] at hs; subst hs; rw [zlp, if_pos (hnd x hxm)], by have := hD2 x hxm; have := (z29 x.2).2; simp; omega, fun h => absurd rfl h, .inl (by simp)⟩
    ·exact h4 e he
   ·rw [hx, List.map_cons, cntL, List.length_cons]; rw [hxr] at h5; have := (z29 x.2).1; omega
  -- a field is added
  have add_ : ∀ y, f[k]? = some y → (∀ x r, d.drop i = x :: r → zlt y.1 x.1) → 
   (∀ l0 : List Ed, z3l pDf way (d, f, true) (i : Nat) (k : Nat) l0 = z8f pDf (fun s26 s27 s28 => z3l pDf way (d, f, true) s26 s27 s28) way (d, f, true) (i : Nat) (k : Nat) l0 true) →
   ∃ es r', (∀ l0 : List Ed, l0.length + es.length ≤ 134217728 → z3l pDf way (d, f, true) (i : Nat) (k : Nat) l0 = some (l0 ++ es.map (zgq way))) ∧ z42 (setFd a (dn ++ d.drop i)) es = (setFd a r', 0) ∧ z81 r' f = 0 ∧ (∀ e, e ∈ es → EG D e) ∧ (es.length : Int) ≤ cntL ((d.drop i).map (·.2)) + cntL ((f.drop k).map (·.2)) := by
   intro y hy hyd hcode
   have hym := List.mem_of_getElem? hy
   have hkl := (List.getElem?_eq_some_iff.1 hy).1
   have hfd : f.drop k = y :: f.drop (k + 1) := by obtain ⟨z, hz, h⟩ := dropc hkl; rw [hy] at hz; injection hz with hz; subst hz; exact h
   have hb := below y hy
   have hpa : z5j (dn ++ d.drop i) y.1 y.2 = dn ++ (y.1, y.2) :: d.drop i := Z19 hb (fun g hg => by
    cases hdi : d.drop i with
    | nil => rw [hdi] at hg; cases hg
    | cons x r => rw [hdi] at hg; injection hg with hg; subst hg; exact hyd x r hdi)
   obtain ⟨es, r', h1, h2, h3, h4, h5⟩ := ihq i (k + 1) (dn ++ [(y.1, y.2)]) (by omega) hi (by omega) (by rw [List.map_append, hn, ← z89 hy, List.map_append]; try rfl) (by rw [← z89 hy]; exact ze3 ho (zaq y.2)) (by rw [List.append_assoc]; show ((dn ++ (y.1, y.2) :: d.drop i).map (·.1)).Pairwise zlt; rw [← hpa]; exact zgp hs)
   rw [List.append_assoc] at h2
   refine ⟨S_api_Edit.mk 2 [stN y.1] y.2 :: es, r', fun l0 hl => ?_, ?_, h3, fun e he => ?_, ?_⟩
   ·simp only [List.length_cons] at hl
    rw [hcode]
    unfold z8f
    simp only [cond_true]
    rw [z21, hy, Option.bind_some, show (S_api_Step.mk y.1 false 0) = stN y.1 from rfl, zog (by omega), Option.bind_some, Option.bind_some, zdc (by simp; omega) (hcf y hym) (by omega), Option.bind_some, z3y (by omega) (by omega), show ((k : Nat) : Int) + 1 = ((k + 1 : Nat) : Int) from by omega, h1 _ (by simp; omega)]
    simp [zgq]
   ·have hout : y.1 ∉ (dn ++ d.drop i).map (·.1) := by
     intro hm
     rw [List.map_append, List.mem_append] at hm
     rcases hm with hm | hm
     ·exact z57 _ (hb _ hm)
     ·cases hdi : d.drop i with
      | nil => rw [hdi] at hm; simp at hm
      | cons x r =>
       rw [hdi, List.map_cons, List.mem_cons] at hm
       have hyx := hyd x r hdi
       rcases hm with hm | hm
       ·rw [hm] at hyx; exact z57 _ hyx
       ·rw [hdi, List.map_append, List.pairwise_append, List.map_cons, List.pairwise_cons] at hs
        exact z57 _ (z6k hyx (hs.2.1.1 _ hm))
    have hs1 : z1e (setFd a (dn ++ d.drop i)) (stN y.1) = (.nil, 40) := by rw [zkk (z7z ha), Z27 hout]
    have hap : apC (setFd a (dn ++ d.drop i)) 2 [stN y.1] y.2 = (setFd a (dn ++ ([(y.1, y.2)] ++ d.drop i)), 0) := by
     simp only [apC, List.getLast?_singleton, List.dropLast_singleton, getF, hs1, chF]
     rw [if_neg (by omega), if_neg (by simp), if_pos trivial, if_neg (by omega), if_pos (by unfold z59; rw [hs1]; rfl), z61 (z7z ha), set_set, show (stN y.1).f_Name = y.1 from rfl, hpa]; rfl
    rw [z42]
    simp only
    rw [hap, if_neg (by simp)]; exact h2
   ·rcases List.mem_cons.1 he with rfl | he
    ·exact ⟨(by show (1 : Int) ≤ 2 ∧ (2 : Int) ≤ 3; omega), fun s hs => by rw [List.mem_singleton] at hs; subst hs; rw [zlp, if_pos (hnf y hym)], by have := hD y hym; have := (z29 y.2).2; simp; omega, fun _ => hcf y hym, .inl (by simp)⟩
    ·exact h4 e he
   ·rw [hfd, List.map_cons, cntL, List.length_cons]; have := (z29 y.2).1; omega
  have l4 : ∀ l0 : List Ed, z3l pDf way (d, f, true) (i : Nat) (k : Nat) l0 = z4c pDf way (d, f, true) (fun s26 s27 s28 => z3l pDf way (d, f, true) s26 s27 s28) (i : Nat) (k : Nat) l0 := fun l0 => by rw [zik]
  by_cases hid : i < d.length
  ·obtain ⟨x, hx, hdx⟩ := dropc hid
   have hsd : ((dn ++ d.drop (i + 1)).map (·.1)).Pairwise zlt := hs.sublist (by
    rw [hdx, List.map_append, List.map_append, List.map_cons]
    exact (List.Sublist.refl _).append (List.sublist_cons_self _ _))
   by_cases hkf : k < f.length
   ·obtain ⟨y, hy, hdy⟩ := dropc hkf
    have base : ∀ l0 : List Ed, z3l pDf way (d, f, true) (i : Nat) (k : Nat) l0 = z6s pDf (fun s26 s27 s28 => z3l pDf way (d, f, true) s26 s27 s28) way (d, f, true) (i : Nat) (k : Nat) l0 (Op.bytesLess x.1 y.1) := by
     intro l0
     rw [l4]
     unfold z4c
     rw [z9z hid, cond_true]
     unfold z8g
     simp only [cond_true]
     rw [zcj (by omega : ¬ ((k : Nat) : Int) = ((f.length : Nat) : Int)), cond_false, z9z hid, cond_true, z21, hx, Option.bind_some, z21, hy, Option.bind_some]
    cases hb1 : Op.bytesLess x.1 y.1 with
    | true => exact drop_ x _ hdx hid (ihq (i + 1) k dn (by omega) (by omega) hk hn ho hsd) (fun l0 => by rw [base, hb1])
    | false =>
     have base2 : ∀ l0 : List Ed, z3l pDf way (d, f, true) (i : Nat) (k : Nat) l0 = z8f pDf (fun s26 s27 s28 => z3l pDf way (d, f, true) s26 s27 s28) way (d, f, true) (i : Nat) (k : Nat) l0 (Op.bytesLess y.1 x.1) := by
      intro l0
      rw [base, hb1]
      unfold z6s
      simp only [cond_false]
      rw [zcj (by omega : ¬ ((i : Nat) : Int) = ((d.length : Nat) : Int)), cond_false, z21, hy, Option.bind_some, z21, hx, Option.bind_some]
     cases hb2 : Op.bytesLess y.1 x.1 with
     | true => exact add_ y hy (fun x' r hx' => by rw [hdx] at hx'; injection hx' with hx' _; subst hx'; exact bl_lt.1 hb2) (fun l0 => by rw [base2, hb2])
     | false =>
      have hxy : x.1 = y.1 := Classical.byContradiction fun hne => by
       have := zqd hne (fun h => by rw [bl_lt.2 h] at hb1; cases hb1)
       rw [bl_lt.2 this] at hb2; cases hb2
      have hxm := List.mem_of_getElem? hx
      have hym := List.mem_of_getElem? hy
      obtain ⟨es1, r1, dp⟩ := ih x.2 y.2 (way ++ [stN y.1]) (zc0 hxm) (zc0 hym) (by simp)
      have hb := below y hy
      have hne : ∀ n, n ∈ dn.map (·.1) → n ≠ y.1 := fun n hn e => z57 _ (by have := hb n hn; rw [e] at this; exact this)
      have hxe : x = (y.1, x.2) := Prod.ext hxy rfl
      have hpm : z5j (dn ++ d.drop i) y.1 r1 = dn ++ (y.1, r1) :: d.drop (i + 1) := by rw [hdx, hxe, Z16 hb]
      obtain ⟨es, r', h1, h2, h3, h4, h5⟩ := ihq (i + 1) (k + 1) (dn ++ [(y.1, r1)]) (by omega) (by omega) (by omega) (by rw [List.map_append, hn, ← z89 hy, List.map_append]; try rfl) (by rw [← z89 hy]; exact ze3 ho dp.eq) (by rw [List.append_assoc]; show ((dn ++ (y.1, r1) :: d.drop (i + 1)).map (·.1)).Pairwise zlt; rw [← hpm]; exact zgp hs)
      rw [List.append_assoc] at h2
      refine ⟨es1.map (preE (stN y.1)) ++ es, r', fun l0 hl0 => ?_, ?_, h3, fun e he => ?_, ?_⟩
      ·rw [List.length_append, List.length_map] at hl0
       rw [base2, hb2]
       unfold z8f
       simp only [cond_false]
       rw [z21, hy, Option.bind_some, show (S_api_Step.mk y.1 false 0) = stN y.1 from rfl, zog (by omega), Option.bind_some, z21, hx, Option.bind_some, Option.bind_some, dp.run l0 (by omega), Option.bind_some, z3y (by omega) (by omega), z3y (by omega) (by omega), show ((i : Nat) : Int) + 1 = ((i + 1 : Nat) : Int) from by omega, show ((k : Nat) : Int) + 1 = ((k + 1 : Nat) : Int) from by omega, h1 _ (by rw [List.length_append, List.length_map]; omega), List.map_append, zmz, List.append_assoc]
      ·have hs1 : z1e (setFd a (dn ++ d.drop i)) (stN y.1) = (x.2, 0) := by rw [zkk (z7z ha), hdx, hxe, zu0 hne]
       have := zes (hwv _ hs (by rw [List.length_append, List.length_drop]; omega)) hs1 (fun e he => (dp.ok e he).ne) dp.ap
       have hwf : z36 (setFd a (dn ++ d.drop i)) (stN y.1) r1 = setFd a (dn ++ ([(y.1, r1)] ++ d.drop (i + 1))) := by
        rw [z61 (z7z ha), set_set, show (stN y.1).f_Name = y.1 from rfl, hpm]; rfl
       rw [hwf] at this
       rw [zet this]; exact h2
      ·rcases List.mem_append.1 he with he | he
       ·obtain ⟨e', he', rfl⟩ := List.mem_map.1 he
        refine ((dp.ok e' he').pre (s := stN y.1) (by rw [zlp, if_pos (hnf y hym)])).mono ?_
        have := hD2 x hxm; have := hD y hym
        unfold mx; split <;> omega
       ·exact h4 e he
      ·rw [List.length_append, List.length_map, hdx, hdy, List.map_cons, List.map_cons, cntL, cntL]; have := dp.n; omega
   ·have hkl : k = f.length := by omega
    refine drop_ x _ hdx hid (ihq (i + 1) k dn (by omega) (by omega) hk hn ho hsd) (fun l0 => ?_)
    rw [l4]
    unfold z4c
    rw [z9z hid, cond_true]
    unfold z8g
    simp only [cond_true]
    rw [zhj (by omega : ((k : Nat) : Int) = ((f.length : Nat) : Int)), cond_true]
  ·have hil : i = d.length := by omega
   by_cases hkf : k < f.length
   ·obtain ⟨y, hy, hdy⟩ := dropc hkf
    refine add_ y hy (fun x r hx => by rw [hil, List.drop_of_length_le (Nat.le_refl _)] at hx; cases hx) (fun l0 => ?_)
    rw [l4]
    unfold z4c
    rw [zav hid, cond_false, z9z hkf]
    unfold z8g
    simp only [cond_true]
    rw [zcj (by omega : ¬ ((k : Nat) : Int) = ((f.length : Nat) : Int)), cond_false, zav hid, cond_false]
    unfold z6s
    simp only [cond_false]
    rw [zhj (by omega : ((i : Nat) : Int) = ((d.length : Nat) : Int)), cond_true]
   ·exact ihq i k dn (by omega) hi hk hn ho hs
end
end Go.Proofs.YtmoijodjgkfhgaaGreat

namespace Go.Proofs.YtmoijodjgkfhgaaGreat
open Go Aw
set_option linter.unusedVariables false
set_option linter.unusedSimpArgs false
set_option maxRecDepth 8000
theorem Z4t (a b : Int) : a ≤ mx a b ∧ b ≤ mx a b := by unfold mx; split <;> omega
theorem z94 {v x : V} (hc : Can v) (h : x ∈ v.parts) : Can x := z87 hc h
theorem zxq {way : List Stp} {a b : V} (hb : Can b) (hw : way.length ≤ 900000) (hr : ∀ l : List Ed, pDf way a b l = Option.bind (zcm 1 way b l) fun x25 => some x25) : DP way a b [S_api_Edit.mk 1 [] b] b := by
 refine ⟨fun l hl => ?_, ?_, zaq b, fun e he => ?_, ?_⟩
 ·rw [hr, zdc (by omega) hb (by simp at hl; omega)]; simp [zgq]
 ·simp only [z42, apC, List.getLast?_nil, if_true]; rfl
 ·rw [List.mem_singleton] at he; subst he
  exact ⟨(by show (1 : Int) ≤ 1 ∧ (1 : Int) ≤ 3; omega), fun s hs => (by cases hs), by have := (Z4t (dpt a) (dpt b)).1; have := (z29 a).2; simp; omega, fun _ => hb, .inr rfl⟩
 ·have := (z29 a).1; have := (z29 b).1; simp; omega
theorem znx {way : List Stp} {a b : V} {d f : Fds} (hca : Can a) (hcb : Can b) (ha : fdF a = some d) (hb : fdF b = some f) (ho : ∀ r, z81 r f = 0 → z3d (setFd a r) b = 0) (hw : way.length ≤ 900000)
 (ih : ∀ x y (w : List Stp), x ∈ a.parts → y ∈ b.parts → w.length ≤ way.length + 1 → ∃ es r, DP w x y es r) (hr : ∀ l : List Ed, pDf way a b l = z3l pDf way (d, f, true) 0 0 l) : ∃ es r, DP way a b es r := by
 have na := zu4 hca ha
 have nb := zu4 hcb hb
 have pa := z9e ha
 have pb := z9e hb
 have hda : dpt a = 1 + dptL (d.map (·.2)) := by rw [z8v, pa]
 have hdb : dpt b = 1 + dptL (f.map (·.2)) := by rw [z8v, pb]
 obtain ⟨es, r, h1, h2, h3, h4, h5⟩ := dicts (way := way) (D := mx (dpt a) (dpt b)) ha (fun y hy => z94 hca (by rw [pa]; exact zc0 hy)) (fun y hy => z94 hcb (by rw [pb]; exact zc0 hy)) (fun y hy => zjw na _ (List.mem_map.2 ⟨y, hy, rfl⟩)) (fun y hy => zjw nb _ (List.mem_map.2 ⟨y, hy, rfl⟩)) (zc3 nb)
  (by have := zc4 na; rwa [List.length_map] at this) (by have := zc4 nb; rwa [List.length_map] at this) hw (fun y hy => by have := (z4y (zc0 hy)).2; have := (Z4t (dpt a) (dpt b)).2; omega) (fun y hy => by have := (z4y (zc0 hy)).2; have := (Z4t (dpt a) (dpt b)).1; omega)
  (fun x y w hx hy hw => ih x y w (by rw [pa]; exact hx) (by rw [pb]; exact hy) hw) (d.length + f.length) 0 0 [] (by omega) (by omega) (by omega) rfl (by simp [z81]) (by rw [List.nil_append, List.drop_zero]; exact zc3 na)
 refine ⟨es, setFd a r, fun l hl => by rw [hr]; exact h1 l hl, by rw [List.nil_append, List.drop_zero, set_same ha] at h2; exact h2, ho r h3, h4, ?_⟩
 rw [List.drop_zero, List.drop_zero] at h5
 rw [z5y a, z5y b, pa, pb]; omega
theorem zug : ∀ (N : Nat) (a b : V) (way : List Stp), Can a → Can b → cnt a ≤ N → way.length + N ≤ 900000 → ∃ es r, DP way a b es r := by
 intro N
 induction N with
 | zero => intro a b way _ _ h _; have := (z29 a).1; omega
 | succ N ihN =>
  intro a b way ha hb hN hw
  have step : ∀ l : List Ed, pDf way a b l = Option.bind (zgr a b) fun x1 => bif x1 then some l else bif a.isList then z5s pDf way a b l b.isList else z5s pDf way a b l false := fun l => by
   show zl5 way a b l = _
   rw [Z65]; rfl
  cases hs : z9t a b with
  | true =>
   obtain ⟨_, _, h0⟩ := zcr hs
   exact ⟨[], a, fun l _ => by rw [step, zf9, hs]; simp, rfl, h0, fun e he => (by cases he), by have := (z29 a).1; have := (z29 b).1; simp; omega⟩
  | false =>
   have ih : ∀ x y (w : List Stp), x ∈ a.parts → y ∈ b.parts → w.length ≤ way.length + 1 → ∃ es r, DP w x y es r := fun x y w hx hy hl => by
    have := (z4y hx).1; have := z5y a
    exact ihN x y w (z94 ha hx) (z94 hb hy) (by omega) (by omega)
   have step2 : ∀ l : List Ed, pDf way a b l = bif a.isList then z5s pDf way a b l b.isList else z5s pDf way a b l false := fun l => by
    rw [step, zf9, hs]; rfl
   have pairs : (a.isList && b.isList) = false → ∀ q, zj0 a b = some q → ∀ l : List Ed, pDf way a b l = bif !q.2.2 then Option.bind (zcm 1 way b l) fun x25 => some x25 else z3l pDf way q 0 0 l := by
    intro hl q hq l
    have hj : z5s pDf way a b l false = bif !q.2.2 then Option.bind (zcm 1 way b l) fun x25 => some x25 else z3l pDf way q 0 0 l := by
     unfold z5s
     rw [cond_false, hq]; rfl
    rw [step2]
    cases h1 : a.isList with
    | false => exact hj
    | true =>
     rw [h1, Bool.true_and] at hl
     rw [cond_true, hl]; exact hj
   have other : (a.isList && b.isList) = false → (∃ q, zj0 a b = some q ∧ q.2.2 = false) → ∃ es r, DP way a b es r := fun hl ⟨q, h1, h2⟩ =>
    ⟨_, _, zxq hb (by omega) (fun l => by rw [pairs hl q h1, h2]; rfl)⟩
   cases a with
   | list l =>
    cases b with
    | list m =>
     have hll := z8o ha.1.own
     have hlm := z8o hb.1.own
     have hda : dpt (.list l) = 1 + dptL l := z8v _
     have hdb : dpt (.list m) = 1 + dptL m := z8v _
     obtain ⟨es, r, h1, h2, h3, h4, h5⟩ := lists (way := way) (l := l) (m := m) (D := mx (dpt (.list l)) (dpt (.list m))) (fun y hy => z94 ha hy) (fun y hy => z94 hb hy) hll hlm (by omega)
      (fun y hy => by have := (z4y hy).2; have := (Z4t (dpt (.list l)) (dpt (.list m))).2; omega) (fun y hy => by have := (z4y hy).2; have := (Z4t (dpt (.list l)) (dpt (.list m))).1; omega) ih (min l.length m.length) 0 [] (by omega) rfl (by simp [z44])
     refine ⟨es, .list r, fun l0 hl0 => ?_, by rw [List.nil_append, List.drop_zero] at h2; exact h2, by rw [z3d]; exact h3, h4, ?_⟩
     ·rw [step2]
      simp only [V.isList, cond_true]
      unfold z5s
      rw [cond_true]; exact h1 l0 hl0
     ·rw [List.drop_zero, List.drop_zero] at h5
      have e1 : cnt (.list l) = 1 + cntL l := z5y _
      have e2 : cnt (.list m) = 1 + cntL m := z5y _
      omega
    | _ => exact other rfl ⟨_, rfl, rfl⟩
   | dict d =>
    cases b with
    | dict f => exact znx ha hb rfl rfl (fun r hr => by simp only [setFd]; rw [z3d]; exact hr) (by omega) ih (fun l => by rw [pairs rfl (d, f, true) rfl]; rfl)
    | _ => exact other rfl ⟨_, rfl, rfl⟩
   | record c k d =>
    cases b with
    | record c' k' f =>
     by_cases hc : c = c'
     ·by_cases hk : k = k'
      ·subst hc; subst hk
       refine znx ha hb rfl rfl (fun r hr => by simp only [setFd]; rw [z3d, zb4, zhg, hr]; rfl) (by omega) ih (fun l => ?_)
       rw [pairs rfl (d, f, true) ?_]; · rfl
       unfold zj0 zae
       simp only [V.isDict, V.isRec, V.asRec, cond_true, cond_false, Option.bind_some, beq_self_eq_true]
      ·refine other rfl ⟨([], [], false), ?_, rfl⟩
       subst hc
       unfold zj0 zae zdr
       simp only [V.isDict, V.isRec, V.asRec, cond_true, cond_false, Option.bind_some, beq_self_eq_true, zcj hk]
     ·refine other rfl ⟨([], [], false), ?_, rfl⟩
      unfold zj0 zae zdr
      simp only [V.isDict, V.isRec, V.asRec, cond_true, cond_false, Option.bind_some, show (c == c') = false from by simpa using hc]
    | nothing => exact absurd rfl (Z04 hb)
    | _ => exact other rfl ⟨_, rfl, rfl⟩
   | nothing => exact absurd rfl (Z04 ha)
   | _ => exact other rfl ⟨_, rfl, rfl⟩
theorem zvv (es : List Ed) : es.map (zgq []) = es := by
 conv => rhs; rw [← List.map_id es]
 exact List.map_congr_left fun e _ => rfl
theorem EG.eok {D : Int} {e : Ed} (h : EG D e) (hd : D ≤ 65) : EOk e := ⟨h.k, by
 have := h.l
 unfold z88; rw [if_neg (by omega)]; exact steps_zero.2 h.w, h.x⟩
theorem there {a b : V} (ha : Can a) (hb : Can b) : ∃ es r, zse a b = some (es, 0) ∧ zky a es = some (r, 0) ∧ Can r ∧ z3d r b = 0 ∧ (∀ e, e ∈ es → EOk e) ∧ (es = [] ↔ z3d a b = 0) := by
 have hca := ha.2.1; have hcb := hb.2.1; have hda := ha.2.2; have hdb := hb.2.2
 obtain ⟨es, r, d⟩ := zug (cnt a).toNat a b [] ha hb (by have := (z29 a).1; omega) (by simp; omega)
 have hn := d.n
 have hok : ∀ e, e ∈ es → EOk e := fun e he => (d.ok e he).eok (by unfold mx; split <;> omega)
 have hcr := Z2r d.eq hb
 have hrun := d.run [] (by simp; omega)
 rw [zvv, List.nil_append] at hrun
 refine ⟨es, r, ?_, zyt ha (by omega) hok d.ap hcr, hcr, d.eq, hok, fun he => ?_, fun h0 => ?_⟩
 ·unfold zse
  rw [zi9, Option.bind_some, z2m ha, show ((0 : Int) != 0) = false from rfl, cond_false, zi9, Option.bind_some, z2m hb, show ((0 : Int) != 0) = false from rfl, cond_false]
  show Option.bind (pDf [] a b []) _ = _
  rw [hrun]; rfl
 ·subst he
  have h1 := d.ap
  rw [z42] at h1; injection h1 with h1; rw [h1]; exact d.eq
 ·have : pDf [] a b [] = some [] := by
   show zl5 [] a b [] = _
   rw [Z65]
   unfold zm5
   rw [zf9, zkp ha hb h0]; rfl
  rw [this] at hrun
  injection hrun with hrun; exact hrun.symm
end Go.Proofs.YtmoijodjgkfhgaaGreat

namespace Go.Proofs.YtmoijodjgkfhgaaGreat
open Go Aw
set_option linter.unusedVariables false
set_option linter.unusedSimpArgs false
set_option maxRecDepth 8000
theorem zr1 (a b c : Str) (h1 : a ≤ b) (h2 : b ≤ c) : a ≤ c := List.le_trans h1 h2
theorem zr2 (a b : Str) : a ≤ b ∨ b ≤ a := List.le_total a b
theorem Z4d {a b : Str} (h1 : a ≤ b) (h2 : b ≤ a) : a = b := List.le_antisymm h1 h2
theorem Z9i {a b : Str} (h1 : a ≤ b) (h2 : a ≠ b) : a < b := by
 rcases Classical.em (a < b) with h | h
 ·exact h
 ·exact absurd (Z4d h1 (List.not_lt.1 h)) h2
theorem Z9j {a b : Str} (h : a < b) : a ≤ b := by
 rcases zr2 a b with h1 | h1
 ·exact h1
 ·exact absurd h (List.not_lt.2 h1)
theorem zvl (a : Str) : ¬ a < a := List.lt_irrefl a
theorem zr6 {a b c : Str} (h1 : a ≤ b) (h2 : b < c) : a < c := by
 refine Z9i (zr1 _ _ _ h1 (Z9j h2)) (fun e => ?_)
 subst e
 exact absurd h2 (List.not_lt.2 h1)
theorem Z4c {a b : Str} (h1 : a < b) (h2 : b < a) : False := zvl a (zr6 (Z9j h1) h2)
theorem Z0g (l : List Str) : (sortS l).Pairwise (· ≤ ·) := by
 have := List.pairwise_mergeSort (le := fun x y : Str => decide (x ≤ y)) (fun a b c h1 h2 => by simp only [decide_eq_true_eq] at *; exact zr1 a b c h1 h2) (fun a b => by
  rcases zr2 a b with h | h <;> simp [h]) l
 exact this.imp (fun h => by simpa using h)
theorem zvf {l : List Str} {x : Str} : x ∈ sortS l ↔ x ∈ l := List.mem_mergeSort
theorem zb6 {l : List Str} {i : Nat} (h : i < l.length) : l.toArray[i]! = l[i] := by
 rw [getElem!_pos l.toArray i (by simpa using h)]; simp
theorem Z2p {l : List Str} (h : l.Pairwise (· ≤ ·)) : (compS l).Pairwise (· < ·) := by
 unfold compS Lib.compact Lib.compactUpTo
 rw [List.pairwise_map]
 have hr : ((List.range l.length).filter (Lib.keeps l.toArray)).Pairwise (fun i j => i < j ∧ j < l.length ∧ Lib.keeps l.toArray j = true) := by
  rw [List.pairwise_filter]
  refine (List.pairwise_lt_range (n := l.length)).imp_of_mem (fun {i j} hi hj hij _ hk => ⟨hij, by simpa using hj, hk⟩)
 refine hr.imp (fun {i j} ⟨h1, h2, h3⟩ => ?_)
 unfold Lib.keeps at h3
 simp only [decide_eq_true_eq] at h3
 rw [zb6 (by omega), zb6 h2]
 rw [zb6 h2, zb6 (by omega)] at h3
 rw [List.pairwise_iff_getElem] at h
 have hn : l[j] ≠ l[j - 1] := h3.resolve_left (by omega)
 have hle : l[j - 1] ≤ l[j] := h (j - 1) j (by omega) h2 (by omega)
 have hlt := Z9i hle (fun e => hn e.symm)
 rcases Nat.lt_or_ge i (j - 1) with hi | hi
 ·exact zr6 (h i (j - 1) (by omega) (by omega) hi) hlt
 ·have : i = j - 1 := by omega
  subst this; exact hlt
theorem comp_mem {l : List Str} {x : Str} : x ∈ compS l ↔ x ∈ l := by
 unfold compS Lib.compact Lib.compactUpTo
 simp only [List.mem_map, List.mem_filter, List.mem_range]
 constructor
 ·rintro ⟨i, ⟨h1, _⟩, rfl⟩
  rw [zb6 h1]; exact List.getElem_mem h1
 ·intro hx
  obtain ⟨i, hi, rfl⟩ := List.getElem_of_mem hx
  have key : ∀ i, ∀ hi : i < l.length, ∃ k, (k < l.length ∧ Lib.keeps l.toArray k = true) ∧ l.toArray[k]! = l[i] := by
   intro i
   induction i with
   | zero => intro hi; exact ⟨0, ⟨hi, by simp [Lib.keeps]⟩, zb6 hi⟩
   | succ i ih =>
    intro hi
    by_cases he : l[i + 1] = l[i]
    ·obtain ⟨k, h1, h2⟩ := ih (by omega)
     exact ⟨k, h1, by rw [h2, he]⟩
    ·refine ⟨i + 1, ⟨hi, ?_⟩, zb6 hi⟩
     unfold Lib.keeps
     simp only [decide_eq_true_eq]
     right
     rw [zb6 hi, Nat.add_sub_cancel, zb6 (by omega)]
     exact he
  exact key i hi
theorem z9u : ∀ {a b : List Str}, a.Pairwise (· < ·) → b.Pairwise (· < ·) → (∀ x, x ∈ a ↔ x ∈ b) → a = b
 | [], [], _, _, _ => rfl
 | [], y :: s, _, _, h => by have := (h y).2 (by simp); simp at this
 | x :: r, [], _, _, h => by have := (h x).1 (by simp); simp at this
 | x :: r, y :: s, ha, hb, h => by
  rw [List.pairwise_cons] at ha hb
  have hxy : x = y := by
   have h1 := (h x).1 (by simp)
   have h2 := (h y).2 (by simp)
   rw [List.mem_cons] at h1 h2
   rcases h1 with h1 | h1
   ·exact h1
   ·rcases h2 with h2 | h2
    ·exact h2.symm
    ·exact (Z4c (ha.1 y h2) (hb.1 x h1)).elim
  subst hxy
  rw [z9u ha.2 hb.2 (fun z => ?_)]
  constructor
  ·intro hz
   have := (h z).1 (by simp [hz])
   rw [List.mem_cons] at this
   rcases this with e | h1
   ·subst e; exact (zvl _ (ha.1 _ hz)).elim
   ·exact h1
  ·intro hz
   have := (h z).2 (by simp [hz])
   rw [List.mem_cons] at this
   rcases this with e | h1
   ·subst e; exact (zvl _ (hb.1 _ hz)).elim
   ·exact h1
def z4x (l : List Str) : List Str := compS (sortS l)
theorem zcx (l : List Str) : (z4x l).Pairwise (· < ·) := Z2p (Z0g l)
theorem zef {l : List Str} {x : Str} : x ∈ z4x l ↔ x ∈ l := comp_mem.trans zvf
theorem zx5 {l m : List Str} (h : ∀ x, x ∈ l ↔ x ∈ m) : z4x l = z4x m := z9u (zcx l) (zcx m) (fun x => by rw [zef, zef]; exact h x)
theorem znc {l m : List Str} (hm : m.Pairwise (· < ·)) (h : ∀ x, x ∈ l ↔ x ∈ m) : z4x l = m := z9u (zcx l) hm (fun x => by rw [zef]; exact h x)
end Go.Proofs.YtmoijodjgkfhgaaGreat

namespace Go.Proofs.YtmoijodjgkfhgaaGreat
open Go Aw
set_option linter.unusedVariables false
set_option linter.unusedSimpArgs false
set_option maxRecDepth 8000
abbrev z6j := S_merge_side
abbrev z9q := S_api_Conflict
abbrev mS (v : V) (h : Bool) : z6j := S_merge_side.mk v h
abbrev mM (cs : List z9q) : S_merge_merger := S_merge_merger.mk () cs
noncomputable def z5c (a b : z6j) : Bool := (a.f_has == b.f_has) && (!a.f_has || z9t a.f_v b.f_v)
theorem z8m (a b : z6j) : zkv a b = some (z5c a b) := by
 unfold zkv z5c
 cases a.f_has == b.f_has with
 | false => rfl
 | true =>
  cases a.f_has with
  | false => rfl
  | true => simp only [Bool.not_true, cond_true, cond_false, zf9, Option.bind_some, Bool.true_and, Bool.false_or]
theorem z7q (a b : z6j) : z5c a b = z5c b a := by
 unfold z5c
 have h : (a.f_has == b.f_has) = (b.f_has == a.f_has) := by cases a.f_has <;> cases b.f_has <;> rfl
 rw [h, zqz a.f_v]
 cases ha : a.f_has <;> cases hb : b.f_has <;> simp
theorem zjc {a b c : z6j} (h1 : z5c a b = true) (h2 : z5c b c = true) : z5c a c = true := by
 unfold z5c at *
 simp only [Bool.and_eq_true, Bool.or_eq_true, beq_iff_eq, Bool.not_eq_true'] at *
 refine ⟨h1.1.trans h2.1, ?_⟩
 rcases h1.2 with h | h
 ·exact .inl h
 ·rcases h2.2 with h3 | h3
  ·exact .inl (by rw [h1.1]; exact h3)
  ·obtain ⟨c1, c2, c3⟩ := zcr h
   obtain ⟨d1, d2, d3⟩ := zcr h3
   exact .inr (zkp c1 d2 (zpj c3 d3))
def SOk (s : z6j) : Prop := s.f_has = true → Can s.f_v
theorem z4j {m : S_merge_merger} {w : List Stp} {b o t : z6j} (h : z5c o t = true ∨ z5c t b = true) : z5b m w b o t = some (o, m) := by
 rw [zxo, zez, z8m, Option.bind_some]
 cases h1 : z5c o t with
 | true => rfl
 | false =>
  have h2 : z5c t b = true := h.resolve_left (by rw [h1]; simp)
  rw [cond_false, z8m, h2]; rfl
theorem z54 {m : S_merge_merger} {w : List Stp} {b o t : z6j} (h1 : z5c o t = false) (h2 : z5c t b = false) (h3 : z5c o b = true) : z5b m w b o t = some (t, m) := by
 rw [zxo, zez, z8m, Option.bind_some, h1, cond_false, z8m, h2, Option.bind_some]
 unfold z9p
 rw [cond_false, z8m, h3]; rfl
noncomputable def zpy : List V → Int
 | [] => 0
 | x :: r => if (z2a x).2 ≠ 0 then (z2a x).2 else zpy r
theorem Z68 (l : List V) : ∀ k i, k + i = l.length → zi8 l i = some (zpy (l.drop i))
 | 0, i, h => by
  rw [zi7]
  simp only [z7e, zav (by omega : ¬ i < l.length), cond_false]
  rw [List.drop_of_length_le (by omega), zpy]
 | k + 1, i, h => by
  obtain ⟨x, hx, hd⟩ := dropc (by omega : i < l.length)
  rw [zi7]
  simp only [z7e, z9z (by omega : i < l.length), cond_true, hx, Option.bind_some, zi9, Z68 l k (i + 1) (by omega)]
  rw [hd, zpy]
  by_cases he : (z2a x).2 = 0
  ·rw [if_neg (by simp [he]), he]; rfl
  ·rw [if_pos he, zpq he, cond_true]
theorem zk4 (l : List V) : zsk l = some (zpy l) := by
 have := Z68 l l.length 0 (by omega)
 rw [List.drop_zero] at this
 exact this
theorem zh7 {l : List V} (h : ∀ x, x ∈ l → Can x) : zpy l = 0 := by
 induction l with
 | nil => rfl
 | cons x r ih => rw [zpy, if_neg (by rw [z2m (h x (by simp))]; simp), ih (fun y hy => h y (by simp [hy]))]
theorem zen {l : List V} (h : zpy l = 0) : ∀ x, x ∈ l → Can x := by
 induction l with
 | nil => intro x hx; cases hx
 | cons y r ih =>
  rw [zpy] at h
  by_cases he : (z2a y).2 = 0
  ·rw [if_neg (by simp [he])] at h
   intro x hx
   rcases List.mem_cons.1 hx with rfl | hx
   ·exact zus he
   ·exact ih h x hx
  ·rw [if_pos he] at h; exact absurd h he
open Classical in
noncomputable def cpF (v : V) : V := if Can v then v else .nil
theorem znz (v : V) : zj2 v = some (cpF v) := by
 unfold zj2 cpF
 by_cases h : Can v
 ·rw [zhd h, if_pos h]; rfl
 ·rw [zxr h, if_neg h]; rfl
theorem zqn {a b c : V} (h : zpy [a, b, c] ≠ 0) : z9i a b c = some (.nil, [], zpy [a, b, c]) := by
 unfold z9i zgt
 rw [zk4, Option.bind_some, zpq h, cond_true]; rfl
theorem zgb {a b c : V} (ha : Can a) (hb : Can b) (hc : Can c) {s : z6j} {E : List z9q} (hp : z5b (mM []) [] (mS a true) (mS b true) (mS c true) = some (s, mM E)) (hs : Can s.f_v) : z9i a b c = some (s.f_v, E, 0) := by
 unfold z9i zgt
 rw [zk4, Option.bind_some, zh7 (l := [a, b, c]) (by intro x hx; simp at hx; rcases hx with rfl | rfl | rfl <;> assumption)]
 rw [show ((0 : Int) != 0) = false from rfl, cond_false, hp, Option.bind_some]
 simp only [zk4, Option.bind_some]
 rw [zh7 (l := [s.f_v]) (by intro x hx; simp at hx; subst hx; exact hs)]
 rw [show ((0 : Int) != 0) = false from rfl, cond_false, znz, cpF, if_pos hs]; rfl
theorem zqm {a b c : V} (ha : Can a) (hb : Can b) (hc : Can c) {s : z6j} {E : List z9q} (hp : z5b (mM []) [] (mS a true) (mS b true) (mS c true) = some (s, mM E)) (hs : ¬ Can s.f_v) : ∃ e, e ≠ 0 ∧ z9i a b c = some (.nil, E, e) := by
 have he := z60 hs
 refine ⟨(z2a s.f_v).2, he, ?_⟩
 unfold z9i zgt
 rw [zk4, Option.bind_some, zh7 (l := [a, b, c]) (by intro x hx; simp at hx; rcases hx with rfl | rfl | rfl <;> assumption)]
 rw [show ((0 : Int) != 0) = false from rfl, cond_false, hp, Option.bind_some]
 simp only [zk4, Option.bind_some]
 rw [zpy, if_pos he, zpq he, cond_true]; rfl
end Go.Proofs.YtmoijodjgkfhgaaGreat

namespace Go.Proofs.YtmoijodjgkfhgaaGreat
open Go Aw
set_option linter.unusedVariables false
set_option linter.unusedSimpArgs false
set_option maxRecDepth 8000
theorem sok {v : V} (h : Can v) (b : Bool) : SOk (mS v b) := fun _ => h
end Go.Proofs.YtmoijodjgkfhgaaGreat

namespace Go.Proofs.YtmoijodjgkfhgaaGreat
open Go Aw
set_option linter.unusedVariables false
set_option linter.unusedSimpArgs false
set_option maxRecDepth 8000
def undF : List (Str × V) → Str → z6j
 | [], _ => mS .nil false
 | f :: r, n => if f.1 = n then mS f.2 true else undF r n
theorem und_l (d : List (Str × V)) (n : Str) : ∀ k i, k + i = d.length → ∃ r : Int, zis d n i = some r ∧ ((r = -1 ∧ undF (d.drop i) n = mS .nil false) ∨ ∃ (j : Nat) (x : Str × V), r = (j : Int) ∧ d[j]? = some x ∧ undF (d.drop i) n = mS x.2 true)
 | 0, i, h => by
  refine ⟨-1, ?_, .inl ⟨rfl, ?_⟩⟩
  ·rw [zir]
   simp only [z7h, zav (by omega : ¬ i < d.length), cond_false]
  ·rw [List.drop_of_length_le (by omega)]; rfl
 | k + 1, i, h => by
  obtain ⟨x, hx, hd⟩ := dropc (by omega : i < d.length)
  rw [zir]
  simp only [z7h, z9z (by omega : i < d.length), cond_true, hx, Option.bind_some, zw2]
  rw [hd, undF]
  by_cases he : x.1 = n
  ·refine ⟨(i : Int), ?_, .inr ⟨i, x, rfl, hx, by rw [if_pos he]⟩⟩
   rw [show (x.1 == n) = true from by simpa using he]; rfl
  ·obtain ⟨r, h1, h2⟩ := und_l d n k (i + 1) (by omega)
   refine ⟨r, ?_, by rw [if_neg he]; exact h2⟩
   rw [show (x.1 == n) = false from by simpa using he, cond_false]; exact h1
theorem Z3n (d : List (Str × V)) (n : Str) : zl0 d n = some (undF d n) := by
 obtain ⟨r, h1, h2⟩ := und_l d n d.length 0 (by omega)
 rw [List.drop_zero] at h2
 unfold zl0 zwc
 rw [h1, Option.bind_some]
 rcases h2 with ⟨rfl, h2⟩ | ⟨j, x, rfl, hx, h2⟩
 ·rw [show decide ((-1 : Int) < 0) = true from rfl, cond_true, h2]
 ·rw [decide_eq_false (by omega : ¬ ((j : Int) < 0)), cond_false, z21, hx, Option.bind_some, h2]
theorem zve {d : List (Str × V)} {n : Str} (h : (undF d n).f_has = true) : ∃ v, (n, v) ∈ d ∧ undF d n = mS v true := by
 induction d with
 | nil => cases h
 | cons f r ih =>
  rw [undF] at h ⊢
  by_cases he : f.1 = n
  ·rw [if_pos he]; exact ⟨f.2, by rw [← he]; simp, rfl⟩
  ·rw [if_neg he] at h ⊢
   obtain ⟨v, h1, h2⟩ := ih h
   exact ⟨v, by simp [h1], h2⟩
def zex : V → Option (List (Str × V) × Str × Int)
 | .dict d => some (d, [], 0)
 | .record c k d => some (d, c, k)
 | _ => none
theorem z4g {v : V} (h : v ≠ .nothing) : zp8 v = some (match zex v with | some (d, c, k) => (d, c, k, true) | none => ([], [], 0, false)) := by
 cases v with
 | nothing => exact absurd rfl h
 | _ => rfl
theorem z2z {v : V} (h : Can v) : v ≠ .nothing := by
 rintro rfl
 have := z2m h
 simp [z2a, z30, zcn, nearE] at this
def mkF (c : Str) (k : Int) (d : List (Str × V)) : V := if c = [] then .dict d else .record c k d
theorem zee {m : S_merge_merger} {w : List Stp} {b o t : V} (hb : b ≠ .nothing) (ho : o ≠ .nothing) (ht : t ≠ .nothing) (h : ¬ ∃ x y z c k, zex b = some (x, c, k) ∧ zex o = some (y, c, k) ∧ zex t = some (z, c, k)) : z9j m w b o t = some (mS .nil false, false, m) := by
 rw [Z64, zk9, z4g hb, z4g ho, z4g ht]
 simp only [Option.bind_some]
 cases h1 : zex b with
 | none => rfl
 | some p =>
  cases h2 : zex o with
  | none => rfl
  | some q =>
   cases h3 : zex t with
   | none => rfl
   | some r =>
    obtain ⟨x, c, k⟩ := p
    obtain ⟨y, c2, k2⟩ := q
    obtain ⟨z, c3, k3⟩ := r
    simp only [Bool.not_true, cond_false]
    by_cases e1 : c = c2
    ·subst e1
     by_cases e2 : c = c3
     ·subst e2
      by_cases e3 : k = k2
      ·subst e3
       by_cases e4 : k = k3
       ·subst e4; exact absurd ⟨x, y, z, c, k, h1, h2, h3⟩ h
       ·have e : (k != k3) = true := by simpa using e4
        simp only [beq_self_eq_true, Bool.not_true, cond_false, bne_self_eq_false, e]; rfl
      ·have e : (k != k2) = true := by simpa using e3
       simp only [beq_self_eq_true, Bool.not_true, cond_false, e, cond_true]; rfl
     ·have e : (c == c3) = false := by simpa using e2
      simp only [beq_self_eq_true, Bool.not_true, cond_false, e, Bool.not_false, cond_true]; rfl
    ·have e : (c == c2) = false := by simpa using e1
     simp only [e, Bool.not_false, cond_true]; rfl
theorem Z6o (g : List Str → Int → Option (z6j × Bool × S_merge_merger)) (s7 : Int) (x : List (Str × V)) : ∀ k i (acc : List Str), k + i = x.length → acc.length + k ≤ 1073741824 → zfh g s7 x acc i = g (acc ++ (x.drop i).map (·.1)) (IntKind.i64.wrap (s7 + 1))
 | 0, i, acc, h, hb => by
  rw [zii]
  simp only [z6c, zav (by omega : ¬ i < x.length), cond_false]
  rw [List.drop_of_length_le (by omega)]; simp
 | k + 1, i, acc, h, hb => by
  obtain ⟨f, hf, hd⟩ := dropc (by omega : i < x.length)
  rw [zii]
  simp only [z6c, z9z (by omega : i < x.length), cond_true, hf, Option.bind_some, zqa (b := 16) (acc := acc) (x := f.1) (by omega) (by omega)]
  rw [Z6o g s7 x k (i + 1) (acc ++ [f.1]) (by omega) (by simp; omega), hd]
  simp
def zys (w : List Stp) (x y z : List (Str × V)) (s : Str → z6j) (E : Str → List z9q) (L : List Str) : Prop :=
 ∀ n, n ∈ L → ∀ cs : List z9q, cs.length + (E n).length ≤ 1073741824 → z5b (mM cs) (w ++ [stN n]) (undF x n) (undF y n) (undF z n) = some (s n, mM (cs ++ E n))
def ztz (s : Str → z6j) (L : List Str) : List (Str × V) := L.filterMap fun n => if (s n).f_has = true then some (n, (s n).f_v) else none
theorem Z9t {w : List Stp} {x y z : List (Str × V)} {c : Str} {k0 : Int} {names : List Str} {s : Str → z6j} {E : Str → List z9q} (hw : w.length ≤ 1073741824) (hP : zys w x y z s E (compS names)) (hn : (compS names).length ≤ 268435456) :
 ∀ k i (acc : List (Str × V)) (cs : List z9q), k + i = (compS names).length → acc.length + k ≤ 1073741824 → cs.length + (((compS names).drop i).flatMap E).length ≤ 1073741824 →
  zfg z5b w (x, c, k0, true) (y, c, k0, true) (z, c, k0, true) names acc (i : Nat) () cs = some (mS (mkF c k0 (acc ++ ztz s ((compS names).drop i))) true, true, mM (cs ++ ((compS names).drop i).flatMap E))
 | 0, i, acc, cs, h, _, _ => by
  rw [zih]
  simp only [z6b, zav (by omega : ¬ i < (compS names).length), cond_false]
  rw [List.drop_of_length_le (by omega)]
  unfold mkF ztz
  by_cases hc : c = []
  ·subst hc; simp
  ·rw [show (c == ([] : Str)) = false from by simpa using hc, cond_false, if_neg hc]; simp
 | k + 1, i, acc, cs, h, hb, hE => by
  obtain ⟨n, hx, hd⟩ := dropc (by omega : i < (compS names).length)
  have hmem := List.mem_of_getElem? hx
  rw [hd, List.flatMap_cons, List.length_append] at hE
  have hp := hP n hmem cs (by omega)
  have hw2 : IntKind.i64.wrap ((i : Int) + 1) = ((i + 1 : Nat) : Int) := by rw [z3y (by omega) (by omega)]; omega
  rw [zih]
  simp only [z6b, z9z (by omega : i < (compS names).length), cond_true, z21, hx, Option.bind_some, zj5, zqa (b := 32) (acc := w) (x := S_api_Step.mk n false 0) (by omega) hw, Z3n]
  rw [show (S_api_Step.mk n false 0 : Stp) = stN n from rfl, hp]
  simp only [Option.bind_some]
  have ih : ∀ acc' : List (Str × V), acc'.length + k ≤ 1073741824 → _ := fun acc' ha => Z9t (c := c) (k0 := k0) hw hP hn k (i + 1) acc' (cs ++ E n) (by omega) ha (by rw [List.length_append]; omega)
  cases hs : (s n).f_has with
  | true =>
   rw [cond_true, zqa (b := 32) (by omega) (by omega), Option.bind_some]
   simp only [zah, hw2]
   rw [ih (acc ++ [(n, (s n).f_v)]) (by simp; omega), hd]
   simp only [ztz, List.filterMap_cons, hs, if_true, List.flatMap_cons, List.append_assoc, List.singleton_append]
  | false =>
   rw [cond_false]
   simp only [zah, hw2]
   rw [ih acc (by omega), hd]
   simp only [ztz, List.filterMap_cons, hs, Bool.false_eq_true, if_false, List.flatMap_cons, List.append_assoc]
theorem z8z {w : List Stp} {b o t : V} {x y z : List (Str × V)} {c : Str} {k0 : Int} (hb : zex b = some (x, c, k0)) (ho : zex o = some (y, c, k0)) (ht : zex t = some (z, c, k0)) (lx : x.length ≤ 4096) (ly : y.length ≤ 4096) (lz : z.length ≤ 4096) {s : Str → z6j} {E : Str → List z9q}
 (hw : w.length ≤ 1073741824) (hP : zys w x y z s E (z4x (x.map (·.1) ++ y.map (·.1) ++ z.map (·.1)))) {cs : List z9q} (hE : cs.length + ((z4x (x.map (·.1) ++ y.map (·.1) ++ z.map (·.1))).flatMap E).length ≤ 1073741824) :
 z9j (mM cs) w b o t = some (mS (mkF c k0 (ztz s (z4x (x.map (·.1) ++ y.map (·.1) ++ z.map (·.1))))) true, true, mM (cs ++ (z4x (x.map (·.1) ++ y.map (·.1) ++ z.map (·.1))).flatMap E)) := by
 have nn : ∀ {v : V} {q : List (Str × V) × Str × Int}, zex v = some q → v ≠ .nothing := by rintro v q h rfl; cases h
 rw [Z64, zk9, z4g (nn hb), z4g (nn ho), z4g (nn ht), hb, ho, ht]
 simp only [Option.bind_some, Bool.not_true, cond_false, beq_self_eq_true, bne_self_eq_false, z6r]
 have w1 : IntKind.i64.wrap ((0 : Int) + 1) = 1 := rfl
 have w2 : IntKind.i64.wrap ((1 : Int) + 1) = 2 := rfl
 have w3 : IntKind.i64.wrap ((2 : Int) + 1) = 3 := rfl
 rw [zag]
 simp only [z4r]
 rw [show decide ((0 : Int) < (((([x, y, z] : List (List (Str × V)))).length : Nat) : Int)) = true from rfl, cond_true, show z82 ([x, y, z] : List (List (Str × V))) 0 = some x from rfl, Option.bind_some, Z6o _ _ x x.length 0 [] (by omega) (by simp; omega), w1, zag]
 simp only [z4r]
 rw [show decide ((1 : Int) < (((([x, y, z] : List (List (Str × V)))).length : Nat) : Int)) = true from rfl, cond_true, show z82 ([x, y, z] : List (List (Str × V))) 1 = some y from rfl, Option.bind_some, Z6o _ _ y y.length 0 _ (by omega) (by simp; omega), w2, zag]
 simp only [z4r]
 rw [show decide ((2 : Int) < (((([x, y, z] : List (List (Str × V)))).length : Nat) : Int)) = true from rfl, cond_true, show z82 ([x, y, z] : List (List (Str × V))) 2 = some z from rfl, Option.bind_some, Z6o _ _ z z.length 0 _ (by omega) (by simp; omega), w3, zag]
 simp only [z4r]
 rw [show decide ((3 : Int) < (((([x, y, z] : List (List (Str × V)))).length : Nat) : Int)) = false from rfl, cond_false]
 simp only [List.drop_zero, List.nil_append]
 have hlen : (x.map (·.1) ++ y.map (·.1) ++ z.map (·.1)).length ≤ 12288 := by simp; omega
 have hs : zkm (x.map (·.1) ++ y.map (·.1) ++ z.map (·.1)) = some (sortS (x.map (·.1) ++ y.map (·.1) ++ z.map (·.1))) := by
  unfold zkm; rw [show Nat.blt _ _ = true from Nat.ble_eq_true_of_le (by omega)]; rfl
 rw [hs, Option.bind_some]
 have hc := zk2 (sortS (x.map (·.1) ++ y.map (·.1) ++ z.map (·.1)))
 rw [za9] at hc
 have := Z9t (c := c) (k0 := k0) (names := sortS (x.map (·.1) ++ y.map (·.1) ++ z.map (·.1))) hw hP (by omega) _ 0 [] cs rfl (by rw [List.length_nil]; omega) (by rw [List.drop_zero]; exact hE)
 rw [List.drop_zero, List.nil_append] at this
 exact this
def zqc : V → Option (List V)
 | .list l => some l
 | _ => none
theorem zlb {m : S_merge_merger} {w : List Stp} {b o t : V} (h : ¬ ∃ x y z, zqc b = some x ∧ zqc o = some y ∧ zqc t = some z ∧ x.length = y.length ∧ x.length = z.length) : zbt m w b o t = some (mS .nil false, false, m) := by
 rw [Z63, zk8]
 have j : z80 z5b m w b o t true = some (mS .nil false, false, m) := rfl
 cases h1 : zqc b with
 | none => rw [show b.isList = false from by cases b <;> first | rfl | cases h1]; exact j
 | some x =>
  have e1 : b = .list x := by cases b <;> first | (cases h1; rfl) | cases h1
  subst e1
  cases h2 : zqc o with
  | none => rw [show o.isList = false from by cases o <;> first | rfl | cases h2]; exact j
  | some y =>
   have e2 : o = .list y := by cases o <;> first | (cases h2; rfl) | cases h2
   subst e2
   cases h3 : zqc t with
   | none => rw [show t.isList = false from by cases t <;> first | rfl | cases h3]; exact j
   | some z =>
    have e3 : t = .list z := by cases t <;> first | (cases h3; rfl) | cases h3
    subst e3
    simp only [V.isList, V.asList, Bool.not_true, cond_false]
    by_cases e4 : x.length = y.length
    ·have e5 : ¬ x.length = z.length := fun e => h ⟨x, y, z, rfl, rfl, rfl, e4, e⟩
     rw [show (((x.length : Nat) : Int) != ((y.length : Nat) : Int)) = false from by simp [e4], cond_false, show (((x.length : Nat) : Int) != ((z.length : Nat) : Int)) = true from by simp; omega]; exact j
    ·rw [show (((x.length : Nat) : Int) != ((y.length : Nat) : Int)) = true from by simp; omega, cond_true]; exact j
def Z6m (w : List Stp) (x y z : List V) (s : Nat → z6j) (E : Nat → List z9q) (N : Nat) : Prop :=
 ∀ i p q r, i < N → x[i]? = some p → y[i]? = some q → z[i]? = some r → ∀ cs : List z9q, cs.length + (E i).length ≤ 1073741824 → z5b (mM cs) (w ++ [stA i]) (mS p true) (mS q true) (mS r true) = some (s i, mM (cs ++ E i))
def rng (i k : Nat) : List Nat := List.range' i k
theorem Z9l {w : List Stp} {x y z : List V} {s : Nat → z6j} {E : Nat → List z9q} (hw : w.length ≤ 1073741824) (hy : x.length = y.length) (hz : x.length = z.length) (hP : Z6m w x y z s E x.length) (hn : x.length ≤ 268435456) :
 ∀ k i (acc : List V) (cs : List z9q), k + i = x.length → acc.length + k ≤ 1073741824 → cs.length + ((rng i k).flatMap E).length ≤ 1073741824 →
  zff z5b w (.list x) (.list y) (.list z) acc i () cs = some (mS (.list (acc ++ (rng i k).map fun j => (s j).f_v)) true, true, mM (cs ++ (rng i k).flatMap E))
 | 0, i, acc, cs, h, _, _ => by
  rw [zig]
  simp only [z6a, V.asList, zav (by omega : ¬ i < x.length), cond_false]
  simp [rng]
 | k + 1, i, acc, cs, h, hb, hE => by
  obtain ⟨p, hp, _⟩ := dropc (by omega : i < x.length)
  obtain ⟨q, hq, _⟩ := dropc (by omega : i < y.length)
  obtain ⟨r, hr, _⟩ := dropc (by omega : i < z.length)
  have hrg : rng i (k + 1) = i :: rng (i + 1) k := by simp [rng, List.range'_succ]
  rw [hrg, List.flatMap_cons, List.length_append] at hE
  have hput := hP i p q r (by omega) hp hq hr cs (by omega)
  rw [zig]
  simp only [z6a, V.asList, z9z (by omega : i < x.length), cond_true, zj5, Option.bind_some, zqa (b := 32) (acc := w) (x := S_api_Step.mk [] true ((i : Nat) : Int)) (by omega) hw, hp, hq, hr]
  rw [show (S_api_Step.mk [] true ((i : Nat) : Int) : Stp) = stA i from rfl, hput]
  simp only [Option.bind_some]
  rw [zqa (b := 16) (by omega) (by omega), Option.bind_some]
  have ih := Z9l hw hy hz hP hn k (i + 1) (acc ++ [(s i).f_v]) (cs ++ E i) (by omega) (by simp; omega) (by rw [List.length_append]; omega)
  rw [ih, hrg]
  simp only [List.map_cons, List.flatMap_cons, List.append_assoc, List.singleton_append]
theorem zmb {w : List Stp} {x y z : List V} {s : Nat → z6j} {E : Nat → List z9q} (hw : w.length ≤ 1073741824) (hy : x.length = y.length) (hz : x.length = z.length) (hP : Z6m w x y z s E x.length) (hn : x.length ≤ 268435456) {cs : List z9q} (hE : cs.length + ((rng 0 x.length).flatMap E).length ≤ 1073741824) :
 zbt (mM cs) w (.list x) (.list y) (.list z) = some (mS (.list ((rng 0 x.length).map fun j => (s j).f_v)) true, true, mM (cs ++ (rng 0 x.length).flatMap E)) := by
 rw [Z63, zk8]
 simp only [V.isList, V.asList, Bool.not_true, cond_false]
 rw [show (((x.length : Nat) : Int) != ((y.length : Nat) : Int)) = false from by simp [hy], cond_false, show (((x.length : Nat) : Int) != ((z.length : Nat) : Int)) = false from by simp [hz]]
 unfold z80
 rw [cond_false]
 have := Z9l hw hy hz hP hn x.length 0 [] cs (by omega) (by simp; omega) hE
 rw [List.nil_append] at this
 exact this
noncomputable def zuq (w : List Stp) (b o t : z6j) : z9q := S_api_Conflict.mk w (cpF b.f_v) (cpF o.f_v) (cpF t.f_v) b.f_has o.f_has t.f_has
theorem Z4y {w : List Stp} {b o t : z6j} {cs : List z9q} (hw : w.length ≤ 1073741824) (hc : cs.length ≤ 1073741824) : zdw w b o t () cs = some (o, mM (cs ++ [zuq w b o t])) := by
 unfold zdw zw9 zwa zpf
 rw [Z05 (b := 32) (by omega) hw]
 simp only [Option.bind_some, znz]
 rw [zqa (b := 80) (by omega) hc]; rfl
theorem zcu {w : List Stp} {b o t : z6j} {cs : List z9q} (hw : w.length ≤ 1073741824) (hc : cs.length ≤ 1073741824) (h1 : z5c o t = false) (h2 : z5c t b = false) (h3 : z5c o b = false) (hn : ¬ (b.f_has = true ∧ o.f_has = true ∧ t.f_has = true)) : z5b (mM cs) w b o t = some (o, mM (cs ++ [zuq w b o t])) := by
 rw [zxo, zez, z8m, Option.bind_some, h1, cond_false, z8m, h2, Option.bind_some]
 unfold z9p
 rw [cond_false, z8m, h3, Option.bind_some, cond_false]
 have j : z4w zbt z9j (mM cs) w b o t false = some (o, mM (cs ++ [zuq w b o t])) := Z4y hw hc
 cases hb : b.f_has with
 | false => exact j
 | true =>
  cases ho : o.f_has with
  | false => exact j
  | true =>
   cases ht : t.f_has with
   | false => exact j
   | true => exact absurd ⟨hb, ho, ht⟩ hn
theorem z4z {w : List Stp} {b o t : V} {cs : List z9q} (h1 : z5c (mS o true) (mS t true) = false) (h2 : z5c (mS t true) (mS b true) = false) (h3 : z5c (mS o true) (mS b true) = false) : z5b (mM cs) w (mS b true) (mS o true) (mS t true) = z4w zbt z9j (mM cs) w (mS b true) (mS o true) (mS t true) true := by
 rw [zxo, zez, z8m, Option.bind_some, h1, cond_false, z8m, h2, Option.bind_some]
 unfold z9p
 rw [cond_false, z8m, h3, Option.bind_some, cond_false]; rfl
theorem zny {w : List Stp} {b o t : V} {cs cs' : List z9q} {s : z6j} (hf : z9j (mM cs) w b o t = some (s, true, mM cs')) : z4w zbt z9j (mM cs) w (mS b true) (mS o true) (mS t true) true = some (s, mM cs') := by
 unfold z4w
 rw [cond_true, hf]; rfl
theorem Z01 {w : List Stp} {b o t : V} {cs cs' : List z9q} {s s0 : z6j} (hf : z9j (mM cs) w b o t = some (s0, false, mM cs)) (hl : zbt (mM cs) w b o t = some (s, true, mM cs')) : z4w zbt z9j (mM cs) w (mS b true) (mS o true) (mS t true) true = some (s, mM cs') := by
 unfold z4w
 rw [cond_true, hf]
 simp only [Option.bind_some, cond_false]
 rw [hl]; rfl
theorem zuj {w : List Stp} {b o t : V} {cs : List z9q} {s0 s1 : z6j} (hw : w.length ≤ 1073741824) (hc : cs.length ≤ 1073741824) (hf : z9j (mM cs) w b o t = some (s0, false, mM cs)) (hl : zbt (mM cs) w b o t = some (s1, false, mM cs)) : z4w zbt z9j (mM cs) w (mS b true) (mS o true) (mS t true) true = some (mS o true, mM (cs ++ [zuq w (mS b true) (mS o true) (mS t true)])) := by
 unfold z4w
 rw [cond_true, hf]
 simp only [Option.bind_some, cond_false]
 rw [hl]
 simp only [Option.bind_some, cond_false]
 exact Z4y hw hc
end Go.Proofs.YtmoijodjgkfhgaaGreat

namespace Go.Proofs.YtmoijodjgkfhgaaGreat
open Go Aw
set_option linter.unusedVariables false
set_option linter.unusedSimpArgs false
set_option maxRecDepth 8000
abbrev na : Str := [97]
abbrev nb : Str := [98]
abbrev nc : Str := [99]
abbrev lB : List (Str × V) := [(na, .int 1), (nb, .int 1)]
abbrev lO : List (Str × V) := [(na, .int 2), (nb, .int 1)]
abbrev lT : List (Str × V) := [(na, .int 1), (nc, .int 3)]
abbrev lU : List (Str × V) := [(na, .int 3), (nb, .int 1)]
abbrev lR : List (Str × V) := [(na, .int 2), (nc, .int 3)]
theorem zlr (i : Int) : Can (.int i) := ⟨.mk rfl (fun y hy => by cases hy), by simp [cnt], by simp [dpt]⟩
theorem z8w {n m : Str} {i j : Int} (h : nearE (.dict [(n, .int i), (m, .int j)]) = 0) : Can (.dict [(n, .int i), (m, .int j)]) :=
 ⟨.mk h (fun y hy => by
  simp only [V.parts, List.map_cons, List.map_nil, List.mem_cons, List.not_mem_nil, or_false] at hy
  rcases hy with rfl | rfl <;> exact (zlr _).1), by simp [cnt, cntD], by simp only [dpt, dptD]; omega⟩
theorem zbv (i j : Int) : z5c (mS (.int i) true) (mS (.int j) true) = decide (i = j) := by
 unfold z5c z9t
 rw [z2m (zlr i), z2m (zlr j), z3d]
 unfold c3
 by_cases h : i = j
 ·subst h; simp
 ·by_cases h1 : i < j
  ·simp [h, h1]
  ·have : i > j := by omega
   simp [h, h1, this]
theorem Z4n (n m n' m' : Str) (i j i' j' : Int) : z3d (.dict [(n, .int i), (m, .int j)]) (.dict [(n', .int i'), (m', .int j')]) = th (th (cmpS n n') (c3 i i')) (th (th (cmpS m m') (c3 j j')) 0) := by
 simp only [z3d, z81]
theorem zfo {n m n' m' : Str} {i j i' j' : Int} (h1 : nearE (.dict [(n, .int i), (m, .int j)]) = 0) (h2 : nearE (.dict [(n', .int i'), (m', .int j')]) = 0) :
 z5c (mS (.dict [(n, .int i), (m, .int j)]) true) (mS (.dict [(n', .int i'), (m', .int j')]) true) = (th (th (cmpS n n') (c3 i i')) (th (th (cmpS m m') (c3 j j')) 0) == 0) := by
 unfold z5c z9t
 rw [z2m (z8w h1), z2m (z8w h2), Z4n]
 rfl
theorem nB : nearE (.dict lB) = 0 := by decide
theorem nO : nearE (.dict lO) = 0 := by decide
theorem nT : nearE (.dict lT) = 0 := by decide
theorem nU : nearE (.dict lU) = 0 := by decide
theorem nR : nearE (.dict lR) = 0 := by decide
theorem zna (v : V) : z5c (mS v true) (mS .nil false) = false := rfl
theorem zjd (v : V) : z5c (mS .nil false) (mS v true) = false := rfl
theorem zx2 : z5c (mS .nil false) (mS .nil false) = true := rfl
theorem zxf : z9i (.dict lB) (.dict lO) (.dict lT) = some (.dict lR, [], 0) := by
 have hL : z4x (lB.map (·.1) ++ lO.map (·.1) ++ lT.map (·.1)) = [na, nb, nc] := znc (by decide) (by
  intro x; simp only [List.map_cons, List.map_nil, List.cons_append, List.nil_append, List.mem_cons, List.not_mem_nil, or_false]
  constructor
  ·rintro (h | h | h | h | h | h) <;> simp [h]
  ·rintro (h | h | h) <;> simp [h])
 have hP : zys [] lB lO lT (fun n => if n = na then mS (.int 2) true else if n = nb then mS .nil false else mS (.int 3) true) (fun _ => []) (z4x (lB.map (·.1) ++ lO.map (·.1) ++ lT.map (·.1))) := by
  intro n hn cs hcs
  rw [hL] at hn
  simp only [List.mem_cons, List.not_mem_nil, or_false] at hn
  rw [List.append_nil]
  rcases hn with rfl | rfl | rfl
  ·exact z4j (.inr (by show z5c (mS (.int 1) true) (mS (.int 1) true) = true; rw [zbv]; rfl))
  ·exact z54 (zna (.int 1)) (zjd (.int 1)) (by show z5c (mS (.int 1) true) (mS (.int 1) true) = true; rw [zbv]; rfl)
  ·exact z54 (zjd (.int 3)) (zna (.int 3)) zx2
 have hf := z8z (b := .dict lB) (o := .dict lO) (t := .dict lT) rfl rfl rfl (by decide) (by decide) (by decide) (by decide) hP (cs := []) (by rw [hL]; decide)
 have hp : z5b (mM []) [] (mS (.dict lB) true) (mS (.dict lO) true) (mS (.dict lT) true) = some (mS (.dict lR) true, mM []) := by
  rw [z4z (by rw [zfo nO nT]; decide) (by rw [zfo nT nB]; decide) (by rw [zfo nO nB]; decide)]
  rw [zny hf, hL]; rfl
 exact zgb (z8w nB) (z8w nO) (z8w nT) hp (z8w nR)
theorem zqx : ∃ c : z9q, c.f_Way = [stN na] ∧ z9i (.dict lB) (.dict lO) (.dict lU) = some (.dict lO, [c], 0) := by
 have hL : z4x (lB.map (·.1) ++ lO.map (·.1) ++ lU.map (·.1)) = [na, nb] := znc (by decide) (by
  intro x; simp only [List.map_cons, List.map_nil, List.cons_append, List.nil_append, List.mem_cons, List.not_mem_nil, or_false]
  constructor
  ·rintro (h | h | h | h | h | h) <;> simp [h]
  ·rintro (h | h) <;> simp [h])
 refine ⟨zuq [stN na] (mS (.int 1) true) (mS (.int 2) true) (mS (.int 3) true), rfl, ?_⟩
 have hP : zys [] lB lO lU (fun n => if n = na then mS (.int 2) true else mS (.int 1) true) (fun n => if n = na then [zuq [stN na] (mS (.int 1) true) (mS (.int 2) true) (mS (.int 3) true)] else []) (z4x (lB.map (·.1) ++ lO.map (·.1) ++ lU.map (·.1))) := by
  intro n hn cs hcs
  rw [hL] at hn
  simp only [List.mem_cons, List.not_mem_nil, or_false] at hn
  rcases hn with rfl | rfl
  ·have hcs' : cs.length ≤ 1073741824 := by omega
   show z5b (mM cs) [stN na] (mS (.int 1) true) (mS (.int 2) true) (mS (.int 3) true) = _
   rw [z4z (by rw [zbv]; rfl) (by rw [zbv]; rfl) (by rw [zbv]; rfl)]
   exact zuj (by decide) hcs' (zee (by simp) (by simp) (by simp) (by rintro ⟨x, y, z, c, k, h, _⟩; cases h)) (zlb (by rintro ⟨x, y, z, h, _⟩; cases h))
  ·show z5b (mM cs) [stN nb] (mS (.int 1) true) (mS (.int 1) true) (mS (.int 1) true) = some (mS (.int 1) true, mM (cs ++ []))
   rw [List.append_nil]
   exact z4j (.inl (by rw [zbv]; rfl))
 have hf := z8z (b := .dict lB) (o := .dict lO) (t := .dict lU) rfl rfl rfl (by decide) (by decide) (by decide) (by decide) hP (cs := []) (by rw [hL]; decide)
 have hp : z5b (mM []) [] (mS (.dict lB) true) (mS (.dict lO) true) (mS (.dict lU) true) = some (mS (.dict lO) true, mM [zuq [stN na] (mS (.int 1) true) (mS (.int 2) true) (mS (.int 3) true)]) := by
  rw [z4z (by rw [zfo nO nU]; decide) (by rw [zfo nU nB]; decide) (by rw [zfo nO nB]; decide)]
  rw [zny hf, hL]; rfl
 exact zgb (z8w nB) (z8w nO) (z8w nU) hp (z8w nO)
theorem Z4x : zp4 = some true := by
 obtain ⟨c, hw, h2⟩ := zqx
 unfold zp4
 rw [zxf, Option.bind_some, h2, Option.bind_some]
 simp only [zf9, zr0 (z8w nR), Option.bind_some, List.getElem?_cons_zero, hw]
 rfl
end Go.Proofs.YtmoijodjgkfhgaaGreat

namespace Go.Proofs.YtmoijodjgkfhgaaGreat
open Go Aw
set_option linter.unusedVariables false
set_option linter.unusedSimpArgs false
set_option maxRecDepth 8000
def W (s : z6j) : Int := if s.f_has = true then cnt s.f_v else 0
theorem z9l (s : z6j) : 0 ≤ W s := by
 unfold W; split
 ·have := z29 s.f_v; omega
 ·omega
theorem W_t (v : V) : W (mS v true) = cnt v := if_pos rfl
theorem zjt {v : V} {x : List (Str × V)} {c : Str} {k : Int} (h : zex v = some (x, c, k)) : v.parts = x.map (·.2) := by
 cases v <;> first | (cases h; rfl) | cases h
theorem zli {v : V} {x : List (Str × V)} {c : Str} {k : Int} (h : zex v = some (x, c, k)) : cnt v = 1 + cntD x := by
 rw [z5y, zjt h, zhf]
theorem zlh {v : V} {x : List (Str × V)} {c : Str} {k : Int} (hc : Can v) (h : zex v = some (x, c, k)) : x.length ≤ 4096 := by
 have hn := hc.1.own
 cases v with
 | dict d => cases h; exact zje hn
 | record c' v' d => cases h; exact (znb hn).2
 | _ => cases h
theorem zqj {v : V} {x : List (Str × V)} {c : Str} {k : Int} (hc : Can v) (h : zex v = some (x, c, k)) (n : Str) : SOk (undF x n) ∧ ((undF x n).f_has = true → cnt (undF x n).f_v < cnt v) := by
 have key : (undF x n).f_has = true → Can (undF x n).f_v ∧ cnt (undF x n).f_v < cnt v := fun hh => by
  obtain ⟨u, h1, h2⟩ := zve hh
  rw [h2]
  have hm : u ∈ v.parts := by rw [zjt h]; exact List.mem_map.2 ⟨_, h1, rfl⟩
  have := z4y hm
  have e := z5y v
  exact ⟨z87 hc hm, by show cnt u < _; omega⟩
 exact ⟨fun hh => (key hh).1, fun hh => (key hh).2⟩
theorem zml : ∀ (L : List Str), (L.map fun n => W (undF [] n)).sum = 0
 | [] => rfl
 | n :: r => by rw [List.map_cons, List.sum_cons, zml r]; rfl
theorem zmn {x : List (Str × V)} {f : Str × V} : ∀ (L : List Str), f.1 ∉ L → (L.map fun n => W (undF (f :: x) n)).sum = (L.map fun n => W (undF x n)).sum
 | [], _ => rfl
 | n :: r, h => by
  simp only [List.mem_cons, not_or] at h
  rw [List.map_cons, List.map_cons, List.sum_cons, List.sum_cons, zmn r h.2, undF, if_neg h.1]
theorem zmm {x : List (Str × V)} {f : Str × V} : ∀ (L : List Str), L.Nodup → (L.map fun n => W (undF (f :: x) n)).sum ≤ cnt f.2 + (L.map fun n => W (undF x n)).sum
 | [], _ => by have := z29 f.2; simp; omega
 | n :: r, h => by
  rw [List.nodup_cons] at h
  rw [List.map_cons, List.map_cons, List.sum_cons, List.sum_cons]
  by_cases he : f.1 = n
  ·have := zmn (x := x) (f := f) r (by rw [he]; exact h.1)
   have hw := z9l (undF x n)
   rw [undF, if_pos he, W_t, this]; omega
  ·have := zmm (x := x) (f := f) r h.2
   rw [undF, if_neg he]; omega
theorem zge : ∀ (x : List (Str × V)) (L : List Str), L.Nodup → (L.map fun n => W (undF x n)).sum ≤ cntD x
 | [], L, _ => by rw [zml]; simp [cntD]
 | f :: r, L, h => by
  have h1 := zmm (x := r) (f := f) L h
  have h2 := zge r L h
  obtain ⟨s, v⟩ := f
  have h3 : cnt (s, v).2 = cnt v := rfl
  simp only [cntD]
  omega
theorem zx7 {L : List Str} (h : L.Pairwise (· < ·)) : L.Nodup := h.imp (fun h e => by subst e; exact zvl _ h)
def swp (c : z9q) : z9q := S_api_Conflict.mk c.f_Way c.f_Base c.f_Theirs c.f_Ours c.f_Had c.f_TheyHave c.f_WeHave
structure COk (c : z9q) : Prop where
 b : Can c.f_Base
 o : Can c.f_Ours
 t : Can c.f_Theirs
theorem Z2t : Can .nil := ⟨.mk rfl (fun y hy => by cases hy), by decide, by decide⟩
theorem zuv (v : V) : Can (cpF v) := by
 unfold cpF; split
 ·assumption
 ·exact Z2t
def rEq (s s' : z6j) : Prop := s.f_has = s'.f_has ∧ (s.f_has = true → z3d s.f_v s'.f_v = 0)
theorem zct (s : z6j) : rEq s s := ⟨rfl, fun _ => zaq _⟩
theorem zrd {a b : z6j} (h : z5c a b = true) : rEq a b := by
 unfold z5c at h
 simp only [Bool.and_eq_true, Bool.or_eq_true, beq_iff_eq, Bool.not_eq_true'] at h
 refine ⟨h.1, fun hh => ?_⟩
 rcases h.2 with h2 | h2
 ·rw [hh] at h2; cases h2
 ·exact (zcr h2).2.2
theorem zn4 {s s' : Str → z6j} : ∀ (L : List Str), (∀ n, n ∈ L → rEq (s n) (s' n)) → z81 (ztz s L) (ztz s' L) = 0
 | [], _ => by simp [ztz, z81]
 | n :: r, h => by
  have ih := zn4 r (fun m hm => h m (by simp [hm]))
  obtain ⟨h1, h2⟩ := h n (by simp)
  unfold ztz at ih ⊢
  rw [List.filterMap_cons, List.filterMap_cons, ← h1]
  cases hs : (s n).f_has with
  | false => simpa using ih
  | true =>
   simp only [if_true]
   rw [z81, zb4, h2 hs, ih]; rfl
theorem Z1b {c : Str} {k : Int} {d d' : List (Str × V)} (h : z81 d d' = 0) : z3d (mkF c k d) (mkF c k d') = 0 := by
 unfold mkF
 by_cases hc : c = []
 ·rw [if_pos hc, if_pos hc, z3d]; exact h
 ·rw [if_neg hc, if_neg hc, z3d]
  simp only [zb4, h, c3]
  simp [th]
theorem zn3 {s s' : Nat → z6j} : ∀ (L : List Nat), (∀ i, i ∈ L → z3d (s i).f_v (s' i).f_v = 0) → z44 (L.map fun i => (s i).f_v) (L.map fun i => (s' i).f_v) = 0
 | [], _ => by simp [z44]
 | i :: r, h => by
  rw [List.map_cons, List.map_cons, z44, h i (by simp), zn3 r (fun m hm => h m (by simp [hm]))]; rfl
structure TP (w : List Stp) (b o t s s' : z6j) (E : List z9q) : Prop where
 r : ∀ cs : List z9q, cs.length + E.length ≤ 1073741824 → z5b (mM cs) w b o t = some (s, mM (cs ++ E))
 r' : ∀ cs : List z9q, cs.length + E.length ≤ 1073741824 → z5b (mM cs) w b t o = some (s', mM (cs ++ E.map swp))
 n : (E.length : Int) ≤ W b + W o + W t
 c : ∀ c, c ∈ E → COk c
 e : E = [] → rEq s s'
 h : o.f_has = true → t.f_has = true → s.f_has = true ∧ s'.f_has = true
theorem zgf {α : Type} (E : α → List z9q) (f : α → Int) : ∀ (L : List α), (∀ n, n ∈ L → ((E n).length : Int) ≤ f n) → ((L.flatMap E).length : Int) ≤ (L.map f).sum
 | [], _ => by simp
 | n :: r, h => by
  have h1 := h n (by simp)
  have h2 := zgf E f r (fun m hm => h m (by simp [hm]))
  rw [List.flatMap_cons, List.length_append, List.map_cons, List.sum_cons]
  omega
theorem zgg {α : Type} (f g h : α → Int) : ∀ (L : List α), (L.map fun n => f n + g n + h n).sum = (L.map f).sum + (L.map g).sum + (L.map h).sum
 | [] => rfl
 | n :: r => by simp only [List.map_cons, List.sum_cons, zgg f g h r]; omega
theorem zz2 : ∀ (x : List V) (i : Nat) (pre : List V), pre.length = i → ((List.range' i x.length).map fun j => cnt ((pre ++ x).getD j .nil)).sum = cntL x
 | [], i, pre, _ => by simp [cntL]
 | a :: r, i, pre, h => by
  rw [List.length_cons, List.range'_succ, List.map_cons, List.sum_cons]
  have h1 : (pre ++ a :: r).getD i .nil = a := by simp [List.getD_eq_getElem?_getD, ← h]
  have h2 := zz2 r (i + 1) (pre ++ [a]) (by simp [h])
  rw [List.append_assoc, List.singleton_append] at h2
  rw [h1, h2]; simp only [cntL]
theorem zkj (x : List V) : ((rng 0 x.length).map fun j => cnt (x.getD j .nil)).sum = cntL x := by
 have := zz2 x 0 [] rfl
 rw [List.nil_append] at this
 exact this
theorem z9a {l : List V} {u : V} {i : Nat} (h : l[i]? = some u) : u ∈ (V.list l).parts := List.mem_of_getElem? h
theorem z5i {s : z6j} (h : s.f_has = true) : s = mS s.f_v true := by
 obtain ⟨v, b⟩ := s
 simp only at h
 subst h; rfl
theorem zxs {b o t : z6j} (h : z5c o t = false) : o.f_has = true ∨ t.f_has = true := by
 unfold z5c at h
 cases ho : o.f_has with
 | true => exact .inl rfl
 | false =>
  cases ht : t.f_has with
  | true => exact .inr rfl
  | false => rw [ho, ht] at h; simp at h
theorem zup {b o t : z6j} (h : z5c o t = false) : (1 : Int) ≤ W b + W o + W t := by
 have h1 := z9l b
 have h2 := z9l o
 have h3 := z9l t
 rcases zxs (b := b) h with h4 | h4
 ·have : W o = cnt o.f_v := if_pos h4
  have := z29 o.f_v
  omega
 ·have : W t = cnt t.f_v := if_pos h4
  have := z29 t.f_v
  omega
theorem zln (w : List Stp) (b o t : z6j) : COk (zuq w b o t) := ⟨zuv _, zuv _, zuv _⟩
theorem zz0 : ∀ (N : Nat) (w : List Stp) (b o t : z6j), SOk b → SOk o → SOk t → (b.f_has = true → cnt b.f_v ≤ N) → w.length + N ≤ 1000000 → ∃ s s' E, TP w b o t s s' E := by
 intro N
 induction N with
 | zero =>
  intro w b o t hb ho ht hN hw
  cases h : b.f_has with
  | true => have := z29 b.f_v; have := hN h; omega
  | false =>
   cases h1 : z5c o t with
   | true => exact ⟨o, t, [], fun cs _ => by rw [List.append_nil]; exact z4j (.inl h1), fun cs _ => by rw [List.map_nil, List.append_nil]; exact z4j (.inl (by rw [z7q]; exact h1)), by have := z9l b; have := z9l o; have := z9l t; simp; omega, (fun c hc => by cases hc), fun _ => zrd h1, fun a1 a2 => ⟨a1, a2⟩⟩
   | false =>
    cases h2 : z5c t b with
    | true =>
     have h3 : z5c o b = false := by
      cases h3 : z5c o b with
      | false => rfl
      | true => rw [zjc h3 (by rw [z7q]; exact h2)] at h1; cases h1
     exact ⟨o, o, [], fun cs _ => by rw [List.append_nil]; exact z4j (.inr h2), fun cs _ => by rw [List.map_nil, List.append_nil]; exact z54 (by rw [z7q]; exact h1) h3 h2, by have := z9l b; have := z9l o; have := z9l t; simp; omega, (fun c hc => by cases hc), fun _ => zct _, fun a1 a2 => ⟨a1, a1⟩⟩
    | false =>
     cases h3 : z5c o b with
     | true => exact ⟨t, t, [], fun cs _ => by rw [List.append_nil]; exact z54 h1 h2 h3, fun cs _ => by rw [List.map_nil, List.append_nil]; exact z4j (.inr h3), by have := z9l b; have := z9l o; have := z9l t; simp; omega, (fun c hc => by cases hc), fun _ => zct _, fun a1 a2 => ⟨a2, a2⟩⟩
     | false =>
      refine ⟨o, t, [zuq w b o t], fun cs hc => ?_, fun cs hc => ?_, by have := zup (b := b) h1; simpa using this, fun c hc => ?_, (fun e => by cases e), fun a1 a2 => ⟨a1, a2⟩⟩
      ·exact zcu (by omega) (by simp at hc; omega) h1 h2 h3 (by rw [h]; simp)
      ·exact zcu (by omega) (by simp at hc; omega) (by rw [z7q]; exact h1) h3 h2 (by rw [h]; simp)
      ·simp at hc; subst hc; exact zln w b o t
 | succ N ih =>
  intro w b o t hb ho ht hN hw
  have hWs : (0 : Int) ≤ W b + W o + W t := by have := z9l b; have := z9l o; have := z9l t; omega
  cases h1 : z5c o t with
  | true => exact ⟨o, t, [], fun cs _ => by rw [List.append_nil]; exact z4j (.inl h1), fun cs _ => by rw [List.map_nil, List.append_nil]; exact z4j (.inl (by rw [z7q]; exact h1)), by simpa using hWs, (fun c hc => by cases hc), fun _ => zrd h1, fun a1 a2 => ⟨a1, a2⟩⟩
  | false =>
   have h1' : z5c t o = false := by rw [z7q]; exact h1
   cases h2 : z5c t b with
   | true =>
    have h3 : z5c o b = false := by
     cases h3 : z5c o b with
     | false => rfl
     | true => rw [zjc h3 (by rw [z7q]; exact h2)] at h1; cases h1
    exact ⟨o, o, [], fun cs _ => by rw [List.append_nil]; exact z4j (.inr h2), fun cs _ => by rw [List.map_nil, List.append_nil]; exact z54 h1' h3 h2, by simpa using hWs, (fun c hc => by cases hc), fun _ => zct _, fun a1 a2 => ⟨a1, a1⟩⟩
   | false =>
    cases h3 : z5c o b with
    | true => exact ⟨t, t, [], fun cs _ => by rw [List.append_nil]; exact z54 h1 h2 h3, fun cs _ => by rw [List.map_nil, List.append_nil]; exact z4j (.inr h3), by simpa using hWs, (fun c hc => by cases hc), fun _ => zct _, fun a1 a2 => ⟨a2, a2⟩⟩
    | false =>
     have hwl : w.length ≤ 1073741824 := by omega
     by_cases hall : b.f_has = true ∧ o.f_has = true ∧ t.f_has = true
     ·obtain ⟨eb, eo, et⟩ := hall
      have kb := hb eb
      have ko := ho eo
      have kt := ht et
      have kN := hN eb
      rw [z5i eb, z5i eo, z5i et]
      rw [z5i eo, z5i et] at h1
      rw [z5i et, z5i eo] at h1'
      rw [z5i et, z5i eb] at h2
      rw [z5i eo, z5i eb] at h3
      generalize b.f_v = bv at *
      generalize o.f_v = ov at *
      generalize t.f_v = tv at *
      clear hb ho ht hN hWs eb eo et
      by_cases hF : ∃ x y z c k, zex bv = some (x, c, k) ∧ zex ov = some (y, c, k) ∧ zex tv = some (z, c, k)
      ·obtain ⟨x, y, z, c, k, fx, fy, fz⟩ := hF
       have hall : ∀ n, ∃ q : z6j × z6j × List z9q, TP (w ++ [stN n]) (undF x n) (undF y n) (undF z n) q.1 q.2.1 q.2.2 := fun n => by
        have ux := zqj kb fx n
        obtain ⟨s, s', E, h⟩ := ih (w ++ [stN n]) (undF x n) (undF y n) (undF z n) ux.1 (zqj ko fy n).1 (zqj kt fz n).1 (fun hh => by have := ux.2 hh; omega) (by simp; omega)
        exact ⟨(s, s', E), h⟩
       obtain ⟨q, hq⟩ := Classical.skolem.1 hall
       have hL : z4x (x.map (·.1) ++ z.map (·.1) ++ y.map (·.1)) = z4x (x.map (·.1) ++ y.map (·.1) ++ z.map (·.1)) := zx5 (fun m => by simp only [List.mem_append]; constructor <;> (rintro ((h | h) | h) <;> simp [h]))
       have lx := zlh kb fx
       have ly := zlh ko fy
       have lz := zlh kt fz
       have hnd := zx7 (zcx (x.map (·.1) ++ y.map (·.1) ++ z.map (·.1)))
       generalize hLL : z4x (x.map (·.1) ++ y.map (·.1) ++ z.map (·.1)) = L at *
       have hsum : ((L.flatMap fun n => (q n).2.2).length : Int) ≤ W (mS bv true) + W (mS ov true) + W (mS tv true) := by
        have a := zgf (fun n => (q n).2.2) (fun n => W (undF x n) + W (undF y n) + W (undF z n)) L (fun n _ => (hq n).n)
        rw [zgg] at a
        have a1 := zge x L hnd
        have a2 := zge y L hnd
        have a3 := zge z L hnd
        rw [W_t, W_t, W_t, zli fx, zli fy, zli fz]
        omega
       have hmap : (L.flatMap fun n => (q n).2.2).map swp = L.flatMap fun n => (q n).2.2.map swp := List.map_flatMap
       refine ⟨mS (mkF c k (ztz (fun n => (q n).1) L)) true, mS (mkF c k (ztz (fun n => (q n).2.1) L)) true, L.flatMap fun n => (q n).2.2, fun cs hcs => ?_, fun cs hcs => ?_, hsum, fun e he => ?_, fun e => ?_, fun _ _ => ⟨rfl, rfl⟩⟩
       ·have hf := z8z (b := bv) (o := ov) (t := tv) fx fy fz lx ly lz (s := fun n => (q n).1) (E := fun n => (q n).2.2) hwl (fun n _ cs h => (hq n).r cs h) (cs := cs) (by rw [hLL]; exact hcs)
        rw [hLL] at hf
        rw [z4z h1 h2 h3]; exact zny hf
       ·have hf := z8z (b := bv) (o := tv) (t := ov) fx fz fy lx lz ly (s := fun n => (q n).2.1) (E := fun n => (q n).2.2.map swp) hwl (fun n _ cs h => (hq n).r' cs (by rw [List.length_map] at h; exact h)) (cs := cs) (by rw [hL, ← hmap, List.length_map]; exact hcs)
        rw [hL] at hf
        rw [z4z h1' h3 h2, hmap]; exact zny hf
       ·obtain ⟨n, _, hn⟩ := List.mem_flatMap.1 he
        exact (hq n).c e hn
       ·rw [List.flatMap_eq_nil_iff] at e
        exact ⟨rfl, fun _ => Z1b (zn4 L (fun n hn => (hq n).e (e n hn)))⟩
      ·have hF' : ¬ ∃ x y z c k, zex bv = some (x, c, k) ∧ zex tv = some (y, c, k) ∧ zex ov = some (z, c, k) := fun ⟨x, y, z, c, k, a1, a2, a3⟩ => hF ⟨x, z, y, c, k, a1, a3, a2⟩
       have nf : ∀ cs, z9j (mM cs) w bv ov tv = some (mS .nil false, false, mM cs) := fun cs => zee (z2z kb) (z2z ko) (z2z kt) hF
       have nf' : ∀ cs, z9j (mM cs) w bv tv ov = some (mS .nil false, false, mM cs) := fun cs => zee (z2z kb) (z2z kt) (z2z ko) hF'
       by_cases hA : ∃ x y z, zqc bv = some x ∧ zqc ov = some y ∧ zqc tv = some z ∧ x.length = y.length ∧ x.length = z.length
       ·obtain ⟨x, y, z, fx, fy, fz, ly, lz⟩ := hA
        have eb : bv = .list x := by cases bv <;> first | (cases fx; rfl) | cases fx
        have eo : ov = .list y := by cases ov <;> first | (cases fy; rfl) | cases fy
        have et : tv = .list z := by cases tv <;> first | (cases fz; rfl) | cases fz
        subst eb; subst eo; subst et
        have lx := z8o kb.1.own
        have hall : ∀ i, ∃ q : z6j × z6j × List z9q, i < x.length → TP (w ++ [stA i]) (mS (x.getD i .nil) true) (mS (y.getD i .nil) true) (mS (z.getD i .nil) true) q.1 q.2.1 q.2.2 := fun i => by
         by_cases hi : i < x.length
         ·have gx : x[i]? = some (x.getD i .nil) := by rw [List.getD_eq_getElem?_getD, List.getElem?_eq_getElem hi]; rfl
          have gy : y[i]? = some (y.getD i .nil) := by rw [List.getD_eq_getElem?_getD, List.getElem?_eq_getElem (by omega)]; rfl
          have gz : z[i]? = some (z.getD i .nil) := by rw [List.getD_eq_getElem?_getD, List.getElem?_eq_getElem (by omega)]; rfl
          have m1 := z4y (z9a gx)
          have c1 := z5y (.list x)
          obtain ⟨s, s', E, h⟩ := ih (w ++ [stA i]) (mS (x.getD i .nil) true) (mS (y.getD i .nil) true) (mS (z.getD i .nil) true) (sok (z87 kb (z9a gx)) _) (sok (z87 ko (z9a gy)) _) (sok (z87 kt (z9a gz)) _) (fun _ => by show cnt (x.getD i .nil) ≤ _; omega) (by simp; omega)
          exact ⟨(s, s', E), fun _ => h⟩
         ·exact ⟨(mS .nil false, mS .nil false, []), fun h => absurd h hi⟩
        obtain ⟨q, hq⟩ := Classical.skolem.1 hall
        have hmem : ∀ i, i ∈ rng 0 x.length → i < x.length := fun i hi => by
         have := List.mem_range'_1.1 hi; omega
        have hget : ∀ {l : List V} {i : Nat} {p : V}, l[i]? = some p → l.getD i .nil = p := fun h => by rw [List.getD_eq_getElem?_getD, h]; rfl
        have hsum : (((rng 0 x.length).flatMap fun i => (q i).2.2).length : Int) ≤ W (mS (.list x) true) + W (mS (.list y) true) + W (mS (.list z) true) := by
         have a := zgf (fun i => (q i).2.2) (fun i => cnt (x.getD i .nil) + cnt (y.getD i .nil) + cnt (z.getD i .nil)) (rng 0 x.length) (fun i hi => by
          have := (hq i (hmem i hi)).n
          rw [W_t, W_t, W_t] at this; exact this)
         rw [zgg, zkj x] at a
         have a2 := zkj y
         have a3 := zkj z
         rw [← ly] at a2; rw [← lz] at a3
         rw [a2, a3] at a
         rw [W_t, W_t, W_t]
         simp only [cnt]
         omega
        have hmap : ((rng 0 x.length).flatMap fun i => (q i).2.2).map swp = (rng 0 x.length).flatMap fun i => (q i).2.2.map swp := List.map_flatMap
        refine ⟨mS (.list ((rng 0 x.length).map fun i => (q i).1.f_v)) true, mS (.list ((rng 0 x.length).map fun i => (q i).2.1.f_v)) true, (rng 0 x.length).flatMap fun i => (q i).2.2, fun cs hcs => ?_, fun cs hcs => ?_, hsum, fun e he => ?_, fun e => ?_, fun _ _ => ⟨rfl, rfl⟩⟩
        ·rw [z4z h1 h2 h3]
         exact Z01 (nf cs) (zmb (s := fun i => (q i).1) (E := fun i => (q i).2.2) hwl ly lz (fun i p q' r hi e1 e2 e3 cs h => by
          have := (hq i hi).r cs h
          rw [hget e1, hget e2, hget e3] at this; exact this) (by omega) hcs)
        ·rw [z4z h1' h3 h2, hmap]
         exact Z01 (nf' cs) (zmb (s := fun i => (q i).2.1) (E := fun i => (q i).2.2.map swp) hwl lz ly (fun i p q' r hi e1 e2 e3 cs h => by
          have := (hq i hi).r' cs (by rw [List.length_map] at h; exact h)
          rw [hget e1, hget e2, hget e3] at this; exact this) (by omega) (by rw [← hmap, List.length_map]; exact hcs))
        ·obtain ⟨i, hi, hn⟩ := List.mem_flatMap.1 he
         exact (hq i (hmem i hi)).c e hn
        ·rw [List.flatMap_eq_nil_iff] at e
         refine ⟨rfl, fun _ => ?_⟩
         rw [z3d]
         refine zn3 _ (fun i hi => ?_)
         have hi' := hmem i hi
         exact ((hq i hi').e (e i hi)).2 ((hq i hi').h rfl rfl).1
       ·have hA' : ¬ ∃ x y z, zqc bv = some x ∧ zqc tv = some y ∧ zqc ov = some z ∧ x.length = y.length ∧ x.length = z.length := fun ⟨x, y, z, a1, a2, a3, a4, a5⟩ => hA ⟨x, z, y, a1, a3, a2, a5, a4⟩
        refine ⟨mS ov true, mS tv true, [zuq w (mS bv true) (mS ov true) (mS tv true)], fun cs hc => ?_, fun cs hc => ?_, by have := zup (b := mS bv true) h1; simpa using this, fun c hc => ?_, (fun e => by cases e), fun _ _ => ⟨rfl, rfl⟩⟩
        ·rw [z4z h1 h2 h3]; exact zuj hwl (by simp at hc; omega) (nf cs) (zlb hA)
        ·rw [z4z h1' h3 h2]; exact zuj hwl (by simp at hc; omega) (nf' cs) (zlb hA')
        ·simp at hc; subst hc; exact zln w _ _ _
     ·have hall' : ¬ (b.f_has = true ∧ t.f_has = true ∧ o.f_has = true) := fun ⟨a1, a2, a3⟩ => hall ⟨a1, a3, a2⟩
      refine ⟨o, t, [zuq w b o t], fun cs hc => ?_, fun cs hc => ?_, by have := zup (b := b) h1; simpa using this, fun c hc => ?_, (fun e => by cases e), fun a1 a2 => ⟨a1, a2⟩⟩
      ·exact zcu hwl (by simp at hc; omega) h1 h2 h3 hall
      ·exact zcu hwl (by simp at hc; omega) h1' h3 h2 hall'
      ·simp at hc; subst hc; exact zln w b o t
theorem Z38 {v : V} (h : Can v) : W (mS v true) ≤ 16384 := by rw [W_t]; exact h.2.1
end Go.Proofs.YtmoijodjgkfhgaaGreat

namespace Go.Proofs.YtmoijodjgkfhgaaGreat
open Go Aw
set_option linter.unusedVariables false
set_option linter.unusedSimpArgs false
set_option maxRecDepth 8000
theorem Z6r (a b c : V) : z9i a b c = zgt a b c := by
 unfold z9i
 cases zgt a b c <;> rfl
theorem zqo (hl : zp4 = some true) (a0 a1 a2 : Term) (h0 : bkT a0 ≤ 268435456) (h1 : bkT a1 ≤ 268435456) (h2 : bkT a2 ≤ 268435456) : zso a0 a1 a2 = some true := by
 unfold zso
 rw [hl, Option.bind_some, Bool.not_true, cond_false, zrg a0 h0, Option.bind_some, zrg a1 h1, Option.bind_some, zrg a2 h2, Option.bind_some]
 generalize bu a0 = x
 generalize bu a1 = y
 generalize bu a2 = z
 have key : ∃ p E e, z9i x y z = some (p, E, e) ∧ (e = 0 → Can p ∧ Can z) := by
  by_cases hc : Can x ∧ Can y ∧ Can z
  ·obtain ⟨hx, hy, hz⟩ := hc
   obtain ⟨s, s', E, T⟩ := zz0 16384 [] (mS x true) (mS y true) (mS z true) (sok hx _) (sok hy _) (sok hz _) (fun _ => hx.2.1) (by simp)
   have hn := T.n
   have wx := Z38 hx
   have wy := Z38 hy
   have wz := Z38 hz
   have r1 := T.r [] (by simp; omega)
   rw [List.nil_append] at r1
   by_cases hs : Can s.f_v
   ·exact ⟨_, _, _, zgb hx hy hz r1 hs, fun _ => ⟨hs, hz⟩⟩
   ·obtain ⟨e, g1, g2⟩ := zqm hx hy hz r1 hs
    exact ⟨_, _, _, g2, fun h => absurd h g1⟩
  ·have n1 : zpy [x, y, z] ≠ 0 := fun h => hc ⟨zen h x (by simp), zen h y (by simp), zen h z (by simp)⟩
   exact ⟨_, _, _, zqn n1, fun h => absurd h n1⟩
 obtain ⟨p, E, e, hp, hz⟩ := key
 have hp2 := hp
 rw [Z6r] at hp2
 by_cases he : e = 0
 ·obtain ⟨hcp, hcz⟩ := hz he
  obtain ⟨es, r, g1, g2, g3, g4, _⟩ := there hcz hcp
  have hR : zl3 x y z = some (es, 0) := by
   unfold zl3
   rw [hp2, Option.bind_some]
   simp only
   rw [show (e != 0) = false from by simp [he], cond_false, g1]; rfl
  rw [hp, Option.bind_some, hR, Option.bind_some]
  simp only
  rw [show (e != 0) = false from by simp [he], cond_false, show ((0 : Int) != 0) = false from rfl]
  unfold zdv
  rw [cond_false]
  simp only
  rw [g2, Option.bind_some]
  simp only
  rw [show ((0 : Int) == 0) = true from rfl, cond_true, zf9, Option.bind_some, zkp hcp g3 (by rw [zgu, g4]; rfl)]
 ·have hR : zl3 x y z = some ([], e) := by
   unfold zl3
   rw [hp2, Option.bind_some]
   simp only
   rw [show (e != 0) = true from by simpa using he, cond_true]
  rw [hp, Option.bind_some, hR, Option.bind_some]
  simp only
  rw [show (e != 0) = true from by simpa using he, cond_true]
  unfold zdv
  rw [cond_true]
  simp
theorem zcl {p q r : Prop} (a0 a1 a2 : Term) (h : bkT a0 + (bkT a1 + bkT a2) ≤ 1048576) (ok0 : p) (ok1 : q) (ok2 : r) : zso a0 a1 a2 = some true := zqo Z4x a0 a1 a2 (by omega) (by omega) (by omega)
end Go.Proofs.YtmoijodjgkfhgaaGreat

