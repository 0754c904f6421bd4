/- Plain laws, one behind the other. -/
import Derived.Test.YthidgpcbnieleaaGreatDoorM0
namespace Go.Proofs.YthidgpcbnieleaaGreatDoor
open Go Aw
set_option linter.unusedVariables false
set_option linter.unusedSimpArgs false
set_option maxRecDepth 8000
theorem zvw {a b : Str} (h1 : a ≠ b) (h2 : ¬ zlt a b) : zlt b a := by
 have e := z9f (z8n a) (z8n b)
 rw [← z8o, ← z8o] at e
 unfold zlt at h2 ⊢
 have h3 : cmpS a b ≠ 0 := fun h => h1 (by
  unfold cmpS at h
  split at h
  ·cases h
  ·split at h
   ·rename_i h4; simpa using h4
   ·cases h)
 have h4 : cmpS a b = -1 ∨ cmpS a b = 0 ∨ cmpS a b = 1 := by
  unfold cmpS
  split
  ·exact .inl rfl
  ·split
   ·exact .inr (.inl rfl)
   ·exact .inr (.inr rfl)
 omega
theorem zxm (d : Fds) (n m : Str) (y : V) : fget (z6p d n y) m = if n = m then some y else fget d m := by
 induction d with
 | nil => rw [z6p, z32]
 | cons f r ih =>
  rw [z6p]
  by_cases h1 : f.1 = n
  ·rw [if_pos h1, z32, z32, h1]
   by_cases h : n = m
   ·rw [if_pos h, if_pos h]
   ·rw [if_neg h, if_neg h, if_neg h]
  ·rw [if_neg h1]
   by_cases h2 : Op.bytesLess f.1 n = true
   ·rw [if_pos h2, z32, ih, z32]
    by_cases h : f.1 = m
    ·rw [if_pos h, if_pos h, if_neg (fun e => h1 (h.trans e.symm))]
    ·rw [if_neg h, if_neg h]
   ·rw [if_neg h2, z32]
theorem zwn (d : Fds) (n : Str) (x y : V) : z6p (z6p d n x) n y = z6p d n y := by
 induction d with
 | nil => simp [z6p]
 | cons f r ih =>
  rw [z6p, z6p]
  by_cases h1 : f.1 = n
  ·rw [if_pos h1, if_pos h1, z6p, if_pos rfl]
  ·rw [if_neg h1, if_neg h1]
   by_cases h2 : Op.bytesLess f.1 n = true
   ·rw [if_pos h2, if_pos h2, z6p, if_neg h1, if_pos h2, ih]
   ·rw [if_neg h2, if_neg h2, z6p, if_pos rfl]
theorem zwp {d : Fds} {n : Str} {x : V} (hs : (d.map (·.1)).Pairwise zlt) (h : fget d n = some x) : z6p d n x = d := by
 induction d with
 | nil => cases h
 | cons f r ih =>
  rw [List.map_cons, List.pairwise_cons] at hs
  rw [z32] at h
  rw [z6p]
  by_cases h1 : f.1 = n
  ·rw [if_pos h1] at h ⊢; injection h with h; subst h; subst h1; rfl
  ·rw [if_neg h1] at h
   have := bl_lt.2 (hs.1 n (List.mem_map.2 ⟨_, zb4 h, rfl⟩))
   rw [if_neg h1, if_pos this, ih hs.2 h]
theorem zoq {d : Fds} {n m : Str} {x : V} (h : m ∈ (z6p d n x).map (·.1)) : m = n ∨ m ∈ d.map (·.1) := by
 induction d with
 | nil => simp [z6p] at h; exact .inl h
 | cons f r ih =>
  rw [z6p] at h
  by_cases h1 : f.1 = n
  ·rw [if_pos h1, List.map_cons, List.mem_cons] at h
   rcases h with h | h
   ·exact .inl h
   ·exact .inr (by simp only [List.map_cons, List.mem_cons]; exact .inr h)
  ·rw [if_neg h1] at h
   by_cases h2 : Op.bytesLess f.1 n = true
   ·rw [if_pos h2, List.map_cons, List.mem_cons] at h
    rcases h with h | h
    ·exact .inr (by simp only [List.map_cons, List.mem_cons]; exact .inl h)
    ·rcases ih h with h | h
     ·exact .inl h
     ·exact .inr (by simp only [List.map_cons, List.mem_cons]; exact .inr h)
   ·rw [if_neg h2, List.map_cons, List.mem_cons] at h
    rcases h with h | h
    ·exact .inl h
    ·exact .inr h
theorem zoo {d : Fds} {n : Str} {x : V} (hs : (d.map (·.1)).Pairwise zlt) : ((z6p d n x).map (·.1)).Pairwise zlt := by
 induction d with
 | nil => simp [z6p]
 | cons f r ih =>
  rw [List.map_cons, List.pairwise_cons] at hs
  rw [z6p]
  by_cases h1 : f.1 = n
  ·rw [if_pos h1, List.map_cons, List.pairwise_cons, ← h1]; exact hs
  ·rw [if_neg h1]
   by_cases h2 : Op.bytesLess f.1 n = true
   ·rw [if_pos h2, List.map_cons, List.pairwise_cons]
    refine ⟨fun m hm => ?_, ih hs.2⟩
    rcases zoq hm with rfl | hm
    ·exact bl_lt.1 h2
    ·exact hs.1 m hm
   ·have hn := zvw h1 (fun h => h2 (bl_lt.2 h))
    rw [if_neg h2, List.map_cons, List.pairwise_cons, List.map_cons, List.pairwise_cons]
    refine ⟨fun m hm => ?_, hs⟩
    rcases List.mem_cons.1 hm with rfl | hm
    ·exact hn
    ·exact z6w hn (hs.1 m hm)
theorem zwo (d : Fds) (n : Str) (x : V) : (z6p d n x).length ≤ d.length + 1 := by
 induction d with
 | nil => simp [z6p]
 | cons f r ih =>
  rw [z6p]
  split
  ·simp
  ·split
   ·simp only [List.length_cons]; omega
   ·simp
theorem zon {d : Fds} {n : Str} {x y : V} (h : y ∈ (z6p d n x).map (·.2)) : y = x ∨ y ∈ d.map (·.2) := by
 induction d with
 | nil => simp [z6p] at h; exact .inl h
 | cons f r ih =>
  rw [z6p] at h
  simp only [List.map_cons, List.mem_cons]
  split at h
  ·rw [List.map_cons, List.mem_cons] at h
   rcases h with h | h
   ·exact .inl h
   ·exact .inr (.inr h)
  ·split at h
   ·rw [List.map_cons, List.mem_cons] at h
    rcases h with h | h
    ·exact .inr (.inl h)
    ·rcases ih h with h | h
     ·exact .inl h
     ·exact .inr (.inr h)
   ·rw [List.map_cons, List.mem_cons, List.map_cons, List.mem_cons] at h
    rcases h with h | h | h
    ·exact .inl h
    ·exact .inr (.inl h)
    ·exact .inr (.inr h)
theorem zqp (d : Fds) (n : Str) : (zrg d n).Sublist d := by
 induction d with
 | nil => simp [zrg]
 | cons f r ih =>
  rw [zrg]
  split
  ·exact List.sublist_cons_self _ _
  ·exact ih.cons_cons _
theorem zfr {v : V} {d e : Fds} (h : fdF v = some d) : (z50 v e).parts = e.map (·.2) := z7y (zdd h)
theorem znv {v : V} {d e : Fds} {l : List V} (h : fdF v = some d) : z50 v e ≠ .list l := by cases v <;> first | (cases h; simp [z50]) | cases h
theorem zv1 {v : V} {d e : Fds} (h : fdF v = some d) : z50 v e ≠ .nothing := by cases v <;> first | (cases h; simp [z50]) | cases h
theorem Wv.mono {N M : Nat} {v : V} (h : Wv N v) (hm : N ≤ M) : Wv M v := ⟨h.nn, fun d hd => ⟨(h.fd d hd).1, Nat.le_trans (h.fd d hd).2 hm⟩, fun l hl => Nat.le_trans (h.li l hl) hm⟩
theorem Wd.mono {N M : Nat} {v : V} (h : Wd N v) (hm : N ≤ M) : Wd M v := by
 induction h with
 | mk h1 _ ih => exact .mk (h1.mono hm) ih
theorem zut {N M : Nat} {v : V} {d e : Fds} (h : Wd N v) (hd : fdF v = some d) (hs : (e.map (·.1)).Pairwise zlt) (hl : e.length ≤ M) (hp : ∀ y, y ∈ e.map (·.2) → Wd M y) : Wd M (z50 v e) :=
 .mk ⟨zv1 hd, fun d' hd' => by rw [zdd hd] at hd'; injection hd' with hd'; subst hd'; exact ⟨hs, hl⟩, fun l hl => absurd hl (znv hd)⟩ (by rw [zfr hd]; exact hp)
theorem zi6 {N : Nat} {v x : V} {s : Stp} (hv : Wd N v) (hx : Wd (N + 1) x) : Wd (N + 1) (withF v s x) := by
 have flds : ∀ d, fdF v = some d → Wd (N + 1) (withF v s x) := by
  intro d hd
  rw [z63 hd]
  have h := hv.v.fd d hd
  refine zut hv hd (zoo h.1) (Nat.le_trans (zwo _ _ _) (by omega)) (fun y hy => ?_)
  rcases zon hy with rfl | hy
  ·exact hx
  ·exact (hv.part y (by rw [z7y hd]; exact hy)).mono (by omega)
 cases v with
 | list l =>
  have hl := hv.v.li l rfl
  simp only [withF]
  have hp : ∀ y, y ∈ l → Wd (N + 1) y := fun y hy => (hv.part y hy).mono (by omega)
  split
  ·refine .mk ⟨by simp, fun d hd => (by cases hd), fun l' h => by injection h with h; subst h; simp; omega⟩ (fun y hy => ?_)
   rcases List.mem_append.1 (show y ∈ l ++ [x] from hy) with hy | hy
   ·exact hp y hy
   ·rw [List.mem_singleton] at hy; subst hy; exact hx
  ·refine .mk ⟨by simp, fun d hd => (by cases hd), fun l' h => by injection h with h; subst h; simp; omega⟩ (fun y hy => ?_)
   rcases List.mem_or_eq_of_mem_set (show y ∈ l.set s.f_Index.toNat x from hy) with hy | rfl
   ·exact hp y hy
   ·exact hx
 | dict d => exact flds d rfl
 | record c k d => exact flds d rfl
 | _ => exact hv.mono (by omega)
theorem zlh {N : Nat} {v : V} {s : Stp} (hv : Wd N v) : Wd (N + 1) (z2u v s) := by
 have flds : ∀ d, fdF v = some d → Wd (N + 1) (z2u v s) := by
  intro d hd
  rw [z9u hd]
  have h := hv.v.fd d hd
  have hs := zqp d s.f_Name
  exact zut hv hd (h.1.sublist (hs.map _)) (Nat.le_trans hs.length_le (by omega)) (fun y hy => (hv.part y (by rw [z7y hd]; exact (hs.map _).subset hy)).mono (by omega))
 cases v with
 | list l =>
  have hl := hv.v.li l rfl
  simp only [z2u]
  refine .mk ⟨by simp, fun d hd => (by cases hd), fun l' h => by injection h with h; subst h; simp; omega⟩ (fun y hy => ?_)
  rcases List.mem_append.1 (show y ∈ l.take _ ++ l.drop _ from hy) with hy | hy
  ·exact (hv.part y (List.mem_of_mem_take hy)).mono (by omega)
  ·exact (hv.part y (List.mem_of_mem_drop hy)).mono (by omega)
 | dict d => exact flds d rfl
 | record c k d => exact flds d rfl
 | _ => exact hv.mono (by omega)
theorem ztz {N : Nat} {room : Bool} {fin : V → Stp → V} (hf : ∀ v s, Wd N v → Wd (N + 1) (fin v s)) : ∀ (w : List Stp) (v y : V), Wd N v → chF room fin v w = (y, 0) → Wd (N + 1) y
 | [], v, y, hv, h => by rw [chF] at h; injection h with h; subst h; exact .mk ⟨by simp, fun d hd => (by cases hd), fun l h => by cases h⟩ (fun y hy => by cases hy)
 | [s], v, y, hv, h => by
  rw [chF] at h
  split at h
  ·injection h with h; subst h; exact hf v s hv
  ·rename_i hr; injection h with h1 h2; exact absurd (by simp [z40, h2]) hr
 | s :: t :: r, v, y, hv, h => by
  rw [chF] at h
  by_cases he : (z11 v s).2 = 0
  ·rw [if_neg (by simp [he])] at h
   by_cases h2 : (chF room fin (z11 v s).1 (t :: r)).2 = 0
   ·rw [if_neg (by simp [h2])] at h
    injection h with h; subst h
    exact zi6 hv (ztz hf (t :: r) _ _ (hv.part _ (z3z (Prod.ext rfl he))) (Prod.ext rfl h2))
   ·rw [if_pos h2] at h; injection h with _ h; exact absurd h h2
  ·rw [if_pos he] at h; injection h with _ h; exact absurd h he
theorem Z1i {N : Nat} {v y x : V} {k : Int} {w : List Stp} (hv : Wd N v) (hx : k ≠ 3 → Wd (N + 1) x) (hk : 1 ≤ k ∧ k ≤ 3) (h : apC v k w x = (y, 0)) : Wd (N + 1) y := by
 unfold apC at h
 split at h
 ·split at h
  ·injection h with h; subst h; exact hx (by omega)
  ·injection h with _ h; cases h
 ·split at h
  ·exact ztz (fun v s hv => zi6 hv (hx (by omega))) _ _ _ hv h
  ·split at h
   ·rename_i h2; injection h with _ h; exact absurd h h2
   ·split at h
    ·split at h
     ·injection h with _ h; cases h
     ·exact ztz (fun v s hv => zi6 hv (hx (by omega))) _ _ _ hv h
    ·split at h
     ·rename_i h2; injection h with _ h; exact absurd h h2
     ·split at h
      ·injection h with _ h; cases h
      ·exact ztz (fun v s hv => zlh hv) _ _ _ hv h
structure EOk (e : Ed) : Prop where
 k : 1 ≤ e.f_What ∧ e.f_What ≤ 3
 w : z2z e.f_Way = 0
 x : e.f_What ≠ 3 → Can e.f_Value
def z6q : V → List Ed → V × Int
 | v, [] => (v, 0)
 | v, e :: r => if (apC v e.f_What e.f_Way e.f_Value).2 ≠ 0 then (.nil, (apC v e.f_What e.f_Way e.f_Value).2) else z6q (apC v e.f_What e.f_Way e.f_Value).1 r
noncomputable def foldF : V → List Ed → V × Int
 | v, [] => (v, 0)
 | v, e :: r => if (z4w v e).2 ≠ 0 then (.nil, (z4w v e).2) else foldF (z4w v e).1 r
theorem zhz {N : Nat} {v y : V} {e : Ed} (hv : Wd N v) (hN : 4096 ≤ N) (h : z4w v e = (y, 0)) : Wd (N + 1) y := by
 unfold z4w at h
 split at h
 ·injection h with _ h; cases h
 ·split at h
  ·rename_i h2; injection h with _ h; exact absurd h h2
  ·split at h
   ·rename_i h2; injection h with _ h; exact absurd h h2.2
   ·rename_i h1 h2 h3
    exact Z1i hv (fun hk => (zea (z5q (Classical.byContradiction fun hc => h3 ⟨hk, hc⟩))).mono (by omega)) (by omega) h
theorem zra (es : List Ed) : ∀ k i v N, k + i = es.length → Wd N v → 4096 ≤ N → N + k ≤ 268435456 → zgb es v i = if (foldF v (es.drop i)).2 ≠ 0 then some (.nil, (foldF v (es.drop i)).2) else (z73 (foldF v (es.drop i)).1).bind fun x => some (x.1, x.2)
 | 0, i, v, N, h, hv, h1, h2 => by
  rw [zga]
  simp only [z6a, zco (by omega : ¬ i < es.length), cond_false]
  rw [List.drop_of_length_le (by omega), foldF, if_neg (by simp)]
 | k + 1, i, v, N, h, hv, h1, h2 => by
  obtain ⟨e, he, hd⟩ := dropc (by omega : i < es.length)
  rw [zga]
  simp only [z6a, zd1 (by omega : i < es.length), cond_true, he, Option.bind_some, zuo hv (by omega : N ≤ 268435456)]
  rw [hd, foldF]
  by_cases h3 : (z4w v e).2 = 0
  ·rw [zee h3, cond_false, if_neg (c := (z4w v e).2 ≠ 0) (by simp [h3])]
   exact zra es k (i + 1) _ (N + 1) (by omega) (zhz hv h1 (Prod.ext rfl h3)) (by omega) (by omega)
  ·rw [zh9 h3, cond_true, if_pos (c := (z4w v e).2 ≠ 0) h3, if_pos h3]
theorem zfj {v : V} {es : List Ed} (hc : Can v) (hl : es.length ≤ 134217728) : zay v es = if (foldF v es).2 ≠ 0 then some (.nil, (foldF v es).2) else (z73 (foldF v es).1).bind fun x => some (x.1, x.2) := by
 unfold zay
 rw [zc1, Option.bind_some, z33 hc, show ((0 : Int) != 0) = false from rfl, cond_false]
 have := zra es es.length 0 v 4096 (by omega) (zea hc) (by omega) (by omega)
 rw [List.drop_zero] at this; exact this
theorem znk {N : Nat} {v x y : V} {s : Stp} (hx : z11 v s = (x, 0)) : z11 (withF v s y) s = (y, 0) := by
 have flds : ∀ d, fdF v = some d → z11 (withF v s y) s = (y, 0) := by
  intro d hd
  rw [z65 hd] at hx
  cases ha : s.f_At with
  | true => rw [if_pos ha] at hx; cases hx
  | false => rw [z63 hd, z65 (zdd hd), if_neg (by rw [ha]; simp), zxm, if_pos rfl]
 cases v with
 | list l =>
  simp only [z11] at hx
  cases ha : s.f_At with
  | false => rw [if_neg (by rw [ha]; simp)] at hx; cases hx
  | true =>
   rw [if_pos ha] at hx
   cases hg : l[s.f_Index.toNat]? with
   | none => rw [hg] at hx; cases hx
   | some z =>
    have hlt := (List.getElem?_eq_some_iff.1 hg).1
    simp only [withF]
    by_cases he : s.f_Index = ((l.length : Nat) : Int)
    ·omega
    ·rw [if_neg he]; simp only [z11]
     rw [if_pos ha, List.getElem?_set_self hlt]
 | dict d => exact flds d rfl
 | record c k d => exact flds d rfl
 | _ => simp [z11, fdF] at hx
theorem znl {N : Nat} {v x : V} {s : Stp} (hv : Wv N v) (hx : z11 v s = (x, 0)) : withF v s x = v := by
 have flds : ∀ d, fdF v = some d → withF v s x = v := by
  intro d hd
  rw [z65 hd] at hx
  cases ha : s.f_At with
  | true => rw [if_pos ha] at hx; cases hx
  | false =>
   rw [if_neg (by rw [ha]; simp)] at hx
   cases hg : fget d s.f_Name with
   | none => rw [hg] at hx; cases hx
   | some z =>
    rw [hg] at hx; injection hx with hx; subst hx
    rw [z63 hd, zwp (hv.fd d hd).1 hg, zrm hd]
 cases v with
 | list l =>
  simp only [z11] at hx
  cases ha : s.f_At with
  | false => rw [if_neg (by rw [ha]; simp)] at hx; cases hx
  | true =>
   rw [if_pos ha] at hx
   cases hg : l[s.f_Index.toNat]? with
   | none => rw [hg] at hx; cases hx
   | some z =>
    rw [hg] at hx; injection hx with hx; subst hx
    obtain ⟨hlt, he2⟩ := List.getElem?_eq_some_iff.1 hg
    simp only [withF]
    by_cases he : s.f_Index = ((l.length : Nat) : Int)
    ·omega
    ·rw [if_neg he, ← he2, List.set_getElem_self]
 | dict d => exact flds d rfl
 | record c k d => exact flds d rfl
 | _ => simp [z11, fdF] at hx
theorem znj {v x y z : V} {s : Stp} (hx : z11 v s = (z, 0)) : withF (withF v s x) s y = withF v s y := by
 have flds : ∀ d, fdF v = some d → withF (withF v s x) s y = withF v s y := by
  intro d hd
  rw [z63 hd, z63 (zdd hd), set_set, zwn, z63 hd]
 cases v with
 | list l =>
  simp only [z11] at hx
  cases ha : s.f_At with
  | false => rw [if_neg (by rw [ha]; simp)] at hx; cases hx
  | true =>
   rw [if_pos ha] at hx
   cases hg : l[s.f_Index.toNat]? with
   | none => rw [hg] at hx; cases hx
   | some z =>
    have hlt := (List.getElem?_eq_some_iff.1 hg).1
    simp only [withF]
    by_cases he : s.f_Index = ((l.length : Nat) : Int)
    ·omega
    ·rw [if_neg he, if_neg he]; simp only [withF]; rw [List.length_set, if_neg he, List.set_set]
 | dict d => exact flds d rfl
 | record c k d => exact flds d rfl
 | _ => simp [z11, fdF] at hx
def preE (s : Stp) (e : Ed) : Ed := S_api_Edit.mk e.f_What (s :: e.f_Way) e.f_Value
def ENe (e : Ed) : Prop := e.f_Way ≠ [] ∨ e.f_What = 1
theorem zyf {v x y : V} {s : Stp} {k : Int} {u : List Stp} (hx : z11 v s = (x, 0)) (h : u ≠ [] ∨ k = 1) {z : V} (ha : apC x k u y = (z, 0)) : apC v k (s :: u) y = (withF v s z, 0) := by
 have he : (z11 v s).2 = 0 := by rw [hx]
 have hs1 : (z11 v s).1 = x := by rw [hx]
 cases u with
 | nil =>
  have hk := h.resolve_left (by simp)
  subst hk
  simp only [apC, List.getLast?_nil, if_true] at ha
  injection ha with ha; subst ha
  simp only [apC, List.getLast?_singleton, if_true, chF]
  rw [if_pos (by simp [z40, he])]
 | cons t r =>
  have hch : ∀ room fin, chF room fin x (t :: r) = (z, 0) → chF room fin v (s :: t :: r) = (withF v s z, 0) := by
   intro room fin hc
   rw [chF, if_neg (by simp [he]), hs1, hc, if_neg (by simp)]
  have hgf : ∀ q : List Stp, getF v (s :: q) = getF x q := fun q => by rw [getF, if_neg (by simp [he]), hs1]
  have hgl : (s :: t :: r).getLast? = (t :: r).getLast? := by simp [List.getLast?_cons_cons]
  have hdl : (s :: t :: r).dropLast = s :: (t :: r).dropLast := rfl
  unfold apC at ha ⊢
  rw [hgl, hdl, hgf]
  split at ha
  ·rename_i hn; exact absurd (List.getLast?_eq_none_iff.1 hn) (by simp)
  ·rename_i q hq
   try simp only [hq]
   split at ha
   ·rename_i h1; rw [if_pos h1]; exact hch _ _ ha
   ·rename_i h1; rw [if_neg h1]
    split at ha
    ·rename_i h2; injection ha with _ ha; exact absurd ha h2
    ·rename_i h2; rw [if_neg h2]
     split at ha
     ·rename_i h3; rw [if_pos h3]
      split at ha
      ·injection ha with _ ha; cases ha
      ·rename_i h4; rw [if_neg h4]; exact hch _ _ ha
     ·rename_i h3; rw [if_neg h3]
      split at ha
      ·rename_i h4; injection ha with _ ha; exact absurd ha h4
      ·rename_i h4; rw [if_neg h4]
       split at ha
       ·injection ha with _ ha; cases ha
       ·rename_i h5; rw [if_neg h5]; exact hch _ _ ha
theorem zi2 : ∀ {es fs : List Ed} {v r : V}, z6q v es = (r, 0) → z6q v (es ++ fs) = z6q r fs
 | [], fs, v, r, h => by rw [z6q] at h; injection h with h; subst h; rfl
 | e :: es, fs, v, r, h => by
  rw [z6q] at h
  rw [List.cons_append, z6q]
  split at h
  ·rename_i h2; injection h with _ h; exact absurd h h2
  ·rename_i h2; rw [if_neg h2]; exact zi2 h
theorem zw3 {N : Nat} {v x y : V} {s : Stp} (hv : Wv N v) (hx : z11 v s = (x, 0)) : Wv N (withF v s y) := by
 have flds : ∀ d, fdF v = some d → Wv N (withF v s y) := by
  intro d hd
  rw [z65 hd] at hx
  cases ha : s.f_At with
  | true => rw [if_pos ha] at hx; cases hx
  | false =>
   rw [if_neg (by rw [ha]; simp)] at hx
   cases hg : fget d s.f_Name with
   | none => rw [hg] at hx; cases hx
   | some z =>
    obtain ⟨h1, h2⟩ := hv.fd d hd
    have hlen : ∀ d : Fds, fget d s.f_Name = some z → (d.map (·.1)).Pairwise zlt → (z6p d s.f_Name y).length = d.length := by
     intro d hg hs
     induction d with
     | nil => cases hg
     | cons f r ih =>
      rw [List.map_cons, List.pairwise_cons] at hs
      rw [z32] at hg
      rw [z6p]
      by_cases h1 : f.1 = s.f_Name
      ·rw [if_pos h1]; rfl
      ·rw [if_neg h1] at hg ⊢
       have := bl_lt.2 (hs.1 _ (List.mem_map.2 ⟨_, zb4 hg, rfl⟩))
       rw [if_pos this, List.length_cons, List.length_cons, ih hg hs.2]
    rw [z63 hd]
    exact ⟨zv1 hd, fun e he => by rw [zdd hd] at he; injection he with he; subst he; exact ⟨zoo h1, by rw [hlen d hg h1]; exact h2⟩, fun l hl => absurd hl (znv hd)⟩
 cases v with
 | list l =>
  simp only [z11] at hx
  cases ha : s.f_At with
  | false => rw [if_neg (by rw [ha]; simp)] at hx; cases hx
  | true =>
   rw [if_pos ha] at hx
   cases hg : l[s.f_Index.toNat]? with
   | none => rw [hg] at hx; cases hx
   | some z =>
    have hlt := (List.getElem?_eq_some_iff.1 hg).1
    simp only [withF]
    by_cases he : s.f_Index = ((l.length : Nat) : Int)
    ·omega
    ·rw [if_neg he]
     exact ⟨by simp, fun d hd => (by cases hd), fun l' h => by injection h with h; subst h; rw [List.length_set]; exact hv.li l rfl⟩
 | dict d => exact flds d rfl
 | record c k d => exact flds d rfl
 | _ => simp [z11, fdF] at hx
theorem zi1 {N : Nat} {s : Stp} : ∀ {es : List Ed} {v x r : V}, Wv N v → z11 v s = (x, 0) → (∀ e, e ∈ es → ENe e) → z6q x es = (r, 0) → z6q v (es.map (preE s)) = (withF v s r, 0)
 | [], v, x, r, hv, hx, _, h => by
  rw [z6q] at h; injection h with h; subst h
  rw [List.map_nil, z6q, znl hv hx]
 | e :: es, v, x, r, hv, hx, he, h => by
  rw [z6q] at h
  split at h
  ·rename_i h2; injection h with _ h; exact absurd h h2
  ·rename_i h2
   have h2' : (apC x e.f_What e.f_Way e.f_Value).2 = 0 := by simpa using h2
   have hp := zyf hx (he e (by simp)) (Prod.ext rfl h2' : apC x e.f_What e.f_Way e.f_Value = ((apC x e.f_What e.f_Way e.f_Value).1, 0))
   have hp' : apC v (preE s e).f_What (preE s e).f_Way (preE s e).f_Value = (withF v s (apC x e.f_What e.f_Way e.f_Value).1, 0) := hp
   rw [List.map_cons, z6q, if_neg (by rw [hp']; simp), hp']
   have := zi1 (s := s) (zw3 hv hx) (znk (N := N) hx) (fun e h => he e (by simp [h])) h
   rw [znj hx] at this
   exact this
end Go.Proofs.YthidgpcbnieleaaGreatDoor

namespace Go.Proofs.YthidgpcbnieleaaGreatDoor
open Go Aw
set_option linter.unusedVariables false
set_option linter.unusedSimpArgs false
set_option maxRecDepth 8000
noncomputable abbrev pDf := zaz
def zos (w : List Stp) (e : Ed) : Ed := S_api_Edit.mk e.f_What (w ++ e.f_Way) e.f_Value
structure EG (D : Int) (e : Ed) : Prop where
 k : 1 ≤ e.f_What ∧ e.f_What ≤ 3
 w : ∀ s, s ∈ e.f_Way → z58 s = 0
 l : (e.f_Way.length : Int) + 1 ≤ D
 x : e.f_What ≠ 3 → Can e.f_Value
 ne : ENe e
def mx (a b : Int) : Int := if a < b then b else a
structure DP (way : List Stp) (a b : V) (es : List Ed) (r : V) : Prop where
 run : ∀ l : List Ed, l.length + es.length ≤ 134217728 → pDf way a b l = some (l ++ es.map (zos way))
 ap : z6q a es = (r, 0)
 eq : z4j r b = 0
 ok : ∀ e, e ∈ es → EG (mx (dpt a) (dpt b)) e
 n : (es.length : Int) ≤ cnt a + cnt b
theorem EG.mono {D E : Int} {e : Ed} (h : EG D e) (hd : D ≤ E) : EG E e := ⟨h.k, h.w, by have := h.l; omega, h.x, h.ne⟩
theorem EG.pre {D : Int} {e : Ed} {s : Stp} (h : EG D e) (hs : z58 s = 0) : EG (D + 1) (preE s e) :=
 ⟨h.k, fun t ht => by rcases List.mem_cons.1 (show t ∈ s :: e.f_Way from ht) with rfl | ht; exact hs; exact h.w t ht, by have := h.l; simp only [preE, List.length_cons]; omega, h.x, .inl (by simp [preE])⟩
theorem zs0 (w : List Stp) (s : Stp) (e : Ed) : zos w (preE s e) = zos (w ++ [s]) e := by simp [zos, preE]
theorem zs1 (w : List Stp) (s : Stp) (es : List Ed) : (es.map (preE s)).map (zos w) = es.map (zos (w ++ [s])) := by
 rw [List.map_map]; exact List.map_congr_left fun e _ => zs0 w s e
theorem zll {s : Stp} {w : List Stp} (h : w.length ≤ 1000000) : za9 s w = some (w ++ [s]) := by
 unfold za9 zsf
 rw [Option.bind_some, zrd (by omega) (by omega)]; rfl
theorem znu {v : V} (h : Can v) : zp5 v = some v := by unfold zp5; rw [z80 h]; rfl
theorem zy6 : Can .nil := ⟨.mk rfl (fun y hy => by cases hy), by simp [cnt], by simp [dpt]⟩
theorem zi8 {k : Int} {w : List Stp} {v : V} {l : List Ed} (hw : w.length ≤ 1000000) (hv : Can v) (hl : l.length ≤ 134217728) : zd4 k w v l = some (l ++ [S_api_Edit.mk k w v]) := by
 unfold zd4 zsg
 rw [zvu (by omega) (by omega), Option.bind_some, Option.bind_some, znu hv, Option.bind_some, zrd (by omega) (by omega)]; rfl
section
variable {way : List Stp}
theorem zvz {l : List V} (h : l.length ≤ 4096) : Wv 4096 (.list l) := ⟨by simp, fun d hd => (by cases hd), fun l' h' => (by injection h' with h'; subst h'; exact h)⟩
theorem l3 {l m : List V} (hc : ∀ y, y ∈ m → Can y) (hm : m.length ≤ 4096) (hw : way.length ≤ 900000) {D : Int} (hD : ∀ y, y ∈ m → dpt y + 1 ≤ D) : ∀ k i (rs : List V), i + k = m.length → rs.length = i → z5r rs (m.take i) = 0 →
 ∃ es r, (∀ l0 : List Ed, l0.length + es.length ≤ 134217728 → zc4 way (.list m) (i : Nat) l0 = some (l0 ++ es.map (zos way))) ∧ z6q (.list rs) es = (.list r, 0) ∧ z5r r m = 0 ∧ (∀ e, e ∈ es → EG D e) ∧ (es.length : Int) ≤ cntL (m.drop i)
 | 0, i, rs, h, hr, ho => by
  refine ⟨[], rs, fun l0 hl => ?_, rfl, ?_, fun e he => (by cases he), ?_⟩
  ·rw [z90]
   simp only [z4h, V.asList, zco (by omega : ¬ i < m.length), cond_false, List.map_nil, List.append_nil]
  ·rw [List.take_of_length_le (by omega)] at ho; exact ho
  ·exact zb7 _
 | k + 1, i, rs, h, hr, ho => by
  obtain ⟨y, hy, hd⟩ := dropc (by omega : i < m.length)
  have hym := List.mem_of_getElem? hy
  have hcy := hc y hym
  have hlt := (List.getElem?_eq_some_iff.1 hy).1
  have hlen : rs.length = (m.take i).length := by rw [List.length_take]; omega
  obtain ⟨es, r, h1, h2, h3, h4, h5⟩ := l3 (l := l) hc hm hw hD k (i + 1) (rs ++ [y]) (by omega) (by simp [hr]) (by
   rw [← zen hy]
   have app : ∀ (a b : List V), z5r a b = 0 → z5r (a ++ [y]) (b ++ [y]) = 0 := by
    intro a
    induction a with
    | nil => intro b hb; cases b with
     | nil => simp only [List.nil_append]; rw [z5r, zk9]; rfl
     | cons _ _ => simp [z5r] at hb
    | cons x q ih => intro b hb; cases b with
     | nil => simp [z5r] at hb
     | cons z b =>
      rw [z5r] at hb
      obtain ⟨g1, g2⟩ := th0 hb
      rw [List.cons_append, List.cons_append, z5r, g1, ih b g2]; rfl
   exact app rs _ ho)
  refine ⟨S_api_Edit.mk 2 [stA i] y :: es, r, fun l0 hl => ?_, ?_, h3, fun e he => ?_, ?_⟩
  ·simp only [List.length_cons] at hl
   rw [z90]
   simp only [z4h, V.asList, zd1 hlt, cond_true]
   rw [show (S_api_Step.mk [] true ((i : Nat) : Int)) = stA i from rfl, zll (by omega), Option.bind_some, z3d, hy, Option.bind_some, zi8 (by simp; omega) hcy (by omega), Option.bind_some, z4f (by omega) (by omega), show ((i : Nat) : Int) + 1 = ((i + 1 : Nat) : Int) from by omega, h1 _ (by simp; omega)]
   simp [zos]
  ·have hn : rs[i]? = none := List.getElem?_eq_none (by omega)
   have hs : z11 (.list rs) (stA i) = (.nil, 42) := by rw [zbh, hn]
   have ha : apC (.list rs) 2 [stA i] y = (.list (rs ++ [y]), 0) := by
    simp only [apC, List.getLast?_singleton, List.dropLast_singleton, getF, hs, chF]
    rw [if_neg (by omega), if_neg (by simp), if_pos trivial, if_neg (by omega), if_pos (by unfold z40; rw [hs]; simp [V.isList, V.asList, stA, hr])]
    simp only [withF]
    rw [if_pos (by simp [stA, hr])]
   rw [z6q]
   simp only
   rw [ha, if_neg (by simp)]; exact h2
  ·rcases List.mem_cons.1 he with rfl | he
   ·exact ⟨(by show (1 : Int) ≤ 2 ∧ (2 : Int) ≤ 3; omega), fun s hs => by rw [List.mem_singleton] at hs; subst hs; rw [zfe, if_pos (by omega)], by have := hD y hym; have := (z4s y).2; simp; omega, fun _ => hcy, .inl (by simp)⟩
   ·exact h4 e he
  ·rw [hd, cntL, List.length_cons]; have := (z4s y).1; omega
theorem l2 {l m : List V} (hc : ∀ y, y ∈ m → Can y) (hm : m.length ≤ 4096) (hll : l.length ≤ 4096) (hw : way.length ≤ 900000) {D : Int} (hD : ∀ y, y ∈ m → dpt y + 1 ≤ D) (hD2 : ∀ y, y ∈ l → dpt y + 1 ≤ D) (hge : m.length ≤ l.length) : ∀ (t rs : List V), rs.length = m.length → z5r rs m = 0 → (∀ y, y ∈ t → y ∈ l) → t.length ≤ l.length - m.length →
 ∃ es r, (∀ l0 : List Ed, l0.length + es.length ≤ 134217728 → zc5 way (.list l) (.list m) (((m.length + t.length : Nat) : Int) - 1) l0 = some (l0 ++ es.map (zos way))) ∧ z6q (.list (rs ++ t)) es = (.list r, 0) ∧ z5r r m = 0 ∧ (∀ e, e ∈ es → EG D e) ∧ (es.length : Int) ≤ t.length := by
 intro t
 induction h : t.length generalizing t with
 | zero =>
  intro rs hr ho _ _
  have ht : t = [] := List.eq_nil_of_length_eq_zero h
  subst ht
  obtain ⟨es, r, h1, h2, h3, h4, h5⟩ := l3 (way := way) (l := l) hc hm hw hD 0 m.length rs (by omega) hr (by rw [List.take_of_length_le (Nat.le_refl _)]; exact ho)
  rw [List.drop_of_length_le (Nat.le_refl _), cntL] at h5
  have he : es = [] := List.eq_nil_of_length_eq_zero (by omega)
  subst he
  refine ⟨[], r, fun l0 hl => ?_, by rw [List.append_nil]; exact h2, h3, h4, by simp⟩
  rw [z91]
  simp only [z4i, V.asList]
  rw [decide_eq_false (by omega), cond_false]
  have hx : ∀ j : Nat, m.length ≤ j → zc4 way (.list m) (j : Nat) l0 = some l0 := by
   intro j hj
   rw [z90]
   simp only [z4h, V.asList, zco (by omega : ¬ j < m.length), cond_false]
  rw [hx l.length hge]; simp
 | succ k ih =>
  intro rs hr ho hm2 hk
  have hne : t ≠ [] := by rintro rfl; simp at h
  have hlast : (t.getLast hne) ∈ l := hm2 _ (List.getLast_mem hne)
  obtain ⟨es, r, h1, h2, h3, h4, h5⟩ := ih t.dropLast (by rw [List.length_dropLast]; omega) rs hr ho (fun y hy => hm2 y ((List.dropLast_sublist _).subset hy)) (by omega)
  have hi : m.length + k < l.length := by omega
  refine ⟨S_api_Edit.mk 3 [stA (m.length + k)] .nil :: es, r, fun l0 hl => ?_, ?_, h3, fun e he => ?_, by simp only [List.length_cons]; omega⟩
  ·simp only [List.length_cons] at hl
   rw [z91]
   simp only [z4i, V.asList]
   have e1 : ((m.length + (k + 1) : Nat) : Int) - 1 = ((m.length + k : Nat) : Int) := by omega
   rw [e1, decide_eq_true (by omega), cond_true, show (S_api_Step.mk [] true ((m.length + k : Nat) : Int)) = stA (m.length + k) from rfl, zll (by omega), Option.bind_some, zi8 (by simp; omega) zy6 (by omega), Option.bind_some, z4f (by omega) (by omega), h1 _ (by simp; omega)]
   simp [zos]
  ·have hll2 : (rs ++ t).length = m.length + k + 1 := by rw [List.length_append]; omega
   obtain ⟨z, hz⟩ : ∃ z, (rs ++ t)[m.length + k]? = some z := ⟨_, List.getElem?_eq_getElem (by omega)⟩
   have hs : z11 (.list (rs ++ t)) (stA (m.length + k)) = (z, 0) := by rw [zbh, hz]
   have ha : apC (.list (rs ++ t)) 3 [stA (m.length + k)] .nil = (.list (rs ++ t.dropLast), 0) := by
    simp only [apC, List.getLast?_singleton, List.dropLast_singleton, getF, hs, chF]
    rw [if_neg (by omega), if_neg (by simp), if_neg (by omega), if_neg (by simp), if_neg (by simp only [V.asList, stA, hll2]; omega), if_pos (by simp [z40, hs])]
    simp only [z2u, stA, Int.toNat_natCast]
    rw [List.drop_of_length_le (by omega), List.append_nil, List.take_append, List.take_of_length_le (by omega : rs.length ≤ m.length + k), List.dropLast_eq_take, show m.length + k - rs.length = t.length - 1 by omega]
   rw [z6q]
   simp only
   rw [ha, if_neg (by simp)]; exact h2
  ·rcases List.mem_cons.1 he with rfl | he
   ·exact ⟨(by show (1 : Int) ≤ 3 ∧ (3 : Int) ≤ 3; omega), fun s hs => by rw [List.mem_singleton] at hs; subst hs; rw [zfe, if_pos (by omega)], by have := hD2 _ hlast; have := (z4s (t.getLast hne)).2; simp; omega, fun hx => absurd rfl hx, .inl (by simp)⟩
   ·exact h4 e he
theorem zh1 {x y : V} : ∀ {a b : List V}, z5r a b = 0 → z4j x y = 0 → z5r (a ++ [x]) (b ++ [y]) = 0
 | [], [], _, h => by simp only [List.nil_append]; rw [z5r, h]; simp [z5r, th]
 | [], _ :: _, h, _ => by simp [z5r] at h
 | _ :: _, [], h, _ => by simp [z5r] at h
 | p :: a, q :: b, h, hx => by
  rw [z5r] at h
  obtain ⟨g1, g2⟩ := th0 h
  rw [List.cons_append, List.cons_append, z5r, g1, zh1 g2 hx]; rfl
theorem ztw (l : List V) : (l.length : Int) ≤ cntL l := by
 induction l with
 | nil => simp [cntL]
 | cons x r ih => rw [cntL, List.length_cons]; have := (z4s x).1; omega
theorem lists {l m : List V} (hcl : ∀ y, y ∈ l → Can y) (hcm : ∀ y, y ∈ m → Can y) (hl : l.length ≤ 4096) (hm : m.length ≤ 4096) (hw : way.length ≤ 900000) {D : Int} (hD : ∀ y, y ∈ m → dpt y + 1 ≤ D) (hD2 : ∀ y, y ∈ l → dpt y + 1 ≤ D)
 (ih : ∀ x y (w : List Stp), x ∈ l → y ∈ m → w.length ≤ way.length + 1 → ∃ es r, DP w x y es r) : ∀ k i (rs : List V), i + k = min l.length m.length → rs.length = i → z5r rs (m.take i) = 0 →
 ∃ es r, (∀ l0 : List Ed, l0.length + es.length ≤ 134217728 → zar pDf way (.list l) (.list m) (i : Nat) l0 = some (l0 ++ es.map (zos way))) ∧ z6q (.list (rs ++ l.drop i)) es = (.list r, 0) ∧ z5r r m = 0 ∧ (∀ e, e ∈ es → EG D e) ∧ (es.length : Int) ≤ cntL (l.drop i) + cntL (m.drop i)
 | 0, i, rs, h, hr, ho => by
  have hmin : (if ((m.length : Nat) : Int) < ((l.length : Nat) : Int) then ((m.length : Nat) : Int) else ((l.length : Nat) : Int)) = ((min l.length m.length : Nat) : Int) := by split <;> omega
  have hstep : ∀ l0 : List Ed, zar pDf way (.list l) (.list m) (i : Nat) l0 = zc5 way (.list l) (.list m) (((l.length : Nat) : Int) - 1) l0 := by
   intro l0
   rw [z71]
   simp only [z3s, V.asList]
   rw [hmin, decide_eq_false (by omega), cond_false, z4f (by omega) (by omega)]
  rcases Nat.le_total m.length l.length with hge | hle
  ·have him : i = m.length := by omega
   subst him
   obtain ⟨es, r, h1, h2, h3, h4, h5⟩ := l2 (way := way) hcm hm hl hw hD hD2 hge (l.drop m.length) rs hr (by rwa [List.take_of_length_le (Nat.le_refl _)] at ho) (fun y hy => List.mem_of_mem_drop hy) (by rw [List.length_drop]; omega)
   refine ⟨es, r, fun l0 hl0 => ?_, h2, h3, h4, ?_⟩
   ·rw [hstep, show ((l.length : Nat) : Int) - 1 = ((m.length + (l.drop m.length).length : Nat) : Int) - 1 by rw [List.length_drop]; omega]
    exact h1 l0 hl0
   ·have := ztw (l.drop m.length); have := zb7 (m.drop m.length); omega
  ·have him : i = l.length := by omega
   subst him
   obtain ⟨es, r, h1, h2, h3, h4, h5⟩ := l3 (way := way) (l := l) hcm hm hw hD (m.length - l.length) l.length rs (by omega) hr ho
   refine ⟨es, r, fun l0 hl0 => ?_, by rw [List.drop_of_length_le (Nat.le_refl _), List.append_nil]; exact h2, h3, h4, by have := zb7 (l.drop l.length); omega⟩
   rw [hstep, z91]
   simp only [z4i, V.asList]
   rw [decide_eq_false (by omega), cond_false]
   exact h1 l0 hl0
 | k + 1, i, rs, h, hr, ho => by
  obtain ⟨x, hx, hdx⟩ := dropc (by omega : i < l.length)
  obtain ⟨y, hy, hdy⟩ := dropc (by omega : i < m.length)
  have hxm := List.mem_of_getElem? hx
  have hym := List.mem_of_getElem? hy
  obtain ⟨es1, r1, d⟩ := ih x y (way ++ [stA i]) hxm hym (by simp)
  obtain ⟨es, r, h1, h2, h3, h4, h5⟩ := lists hcl hcm hl hm hw hD hD2 ih k (i + 1) (rs ++ [r1]) (by omega) (by simp [hr]) (by rw [← zen hy]; exact zh1 ho d.eq)
  have hmin : (if ((m.length : Nat) : Int) < ((l.length : Nat) : Int) then ((m.length : Nat) : Int) else ((l.length : Nat) : Int)) = ((min l.length m.length : Nat) : Int) := by split <;> omega
  refine ⟨es1.map (preE (stA i)) ++ es, r, fun l0 hl0 => ?_, ?_, h3, fun e he => ?_, ?_⟩
  ·rw [List.length_append, List.length_map] at hl0
   rw [z71]
   simp only [z3s, V.asList]
   rw [hmin, decide_eq_true (by omega), cond_true, show (S_api_Step.mk [] true ((i : Nat) : Int)) = stA i from rfl, zll (by omega), Option.bind_some, z3d, hx, Option.bind_some, z3d, hy, Option.bind_some, d.run l0 (by omega), Option.bind_some, z4f (by omega) (by omega), show ((i : Nat) : Int) + 1 = ((i + 1 : Nat) : Int) from by omega, h1 _ (by rw [List.length_append, List.length_map]; omega), List.map_append, zs1, List.append_assoc]
  ·have hlen : (rs ++ l.drop i).length = l.length := by rw [List.length_append, List.length_drop]; omega
   have hat : (rs ++ l.drop i)[i]? = some x := by rw [List.getElem?_append_right (by omega), hr, Nat.sub_self, hdx]; rfl
   have hs : z11 (.list (rs ++ l.drop i)) (stA i) = (x, 0) := by rw [zbh, hat]
   have := zi1 (zvz (by omega)) hs (fun e he => (d.ok e he).ne) d.ap
   have hwf : withF (.list (rs ++ l.drop i)) (stA i) r1 = .list ((rs ++ [r1]) ++ l.drop (i + 1)) := by
    simp only [withF]
    rw [if_neg (by simp only [stA, hlen]; omega)]
    simp only [stA, Int.toNat_natCast]
    rw [hdx, List.set_append_right _ _ (by omega), hr, Nat.sub_self, List.set_cons_zero, List.append_assoc]; rfl
   rw [hwf] at this
   rw [zi2 this]; exact h2
  ·rcases List.mem_append.1 he with he | he
   ·obtain ⟨e', he', rfl⟩ := List.mem_map.1 he
    refine ((d.ok e' he').pre (s := stA i) (by rw [zfe, if_pos (by omega)])).mono ?_
    have := hD2 x hxm; have := hD y hym
    unfold mx; split <;> omega
   ·exact h4 e he
  ·rw [List.length_append, List.length_map, hdx, hdy, cntL, cntL]; have := d.n; omega
end
end Go.Proofs.YthidgpcbnieleaaGreatDoor

namespace Go.Proofs.YthidgpcbnieleaaGreatDoor
open Go Aw
set_option linter.unusedVariables false
set_option linter.unusedSimpArgs false
set_option maxRecDepth 8000
theorem zv3 : ∀ {l : List Str} {p : Option Str}, l.Pairwise zlt → (∀ s, s ∈ l → z2f s = true) → (∀ q, p = some q → ∀ s, s ∈ l → zlt q s) → z81 p l = true
 | [], p, _, _, _ => zfx p
 | s :: r, p, hs, hn, hp => by
  have h1 := zv3 (p := some s) (List.pairwise_cons.1 hs).2 (fun t ht => hn t (by simp [ht])) (fun q hq t ht => by injection hq with hq; subst hq; exact (List.pairwise_cons.1 hs).1 t ht)
  have h2 := hn s (by simp)
  cases p with
  | none => simp only [z81, h1, h2, Bool.and_true]
  | some q =>
   have h := hp q rfl s (by simp)
   have h3 : leB s q = false := by
    simp only [leB, Bool.or_eq_false_iff]
    refine ⟨?_, ?_⟩
    ·cases hb : Op.bytesLess s q with
     | false => rfl
     | true => exact absurd (z6w h (bl_lt.1 hb)) (zef q)
    ·cases he : s == q with
     | false => rfl
     | true => have := eq_of_beq he; subst this; exact absurd h (zef _)
   simp only [z81, h1, h2, h3, Bool.and_true, Bool.not_false]
theorem zqf {l : List Str} (hs : l.Pairwise zlt) (hn : ∀ s, s ∈ l → z2f s = true) : z2m l = 0 ∨ z2m l = 2 := by
 unfold z2m
 split
 ·exact .inr rfl
 ·rw [if_pos (zv3 hs hn (fun q hq => by cases hq))]; exact .inl rfl
structure Sv (v : V) : Prop where
 far : zvi v = 2
 nm : ∀ d, fdF v = some d → ∀ n, n ∈ d.map (·.1) → z2f n = true
 rc : ∀ c k l, v = .record c k l → z2f c = true ∧ 1 ≤ k ∧ k ≤ 1000
inductive So : V → Prop
 | mk {v : V} : Sv v → (∀ x, x ∈ v.parts → So x) → So v
theorem So.v {v : V} (h : So v) : Sv v := by cases h; assumption
theorem So.part {v : V} (h : So v) : ∀ x, x ∈ v.parts → So x := by cases h; assumption
theorem if2 (p : Prop) [Decidable p] : (if p then (2 : Int) else 0) = 0 ∨ (if p then (2 : Int) else 0) = 2 := by split <;> simp
theorem zpx {N : Nat} {v : V} (hw : Wv N v) (hs : Sv v) : z3q v = 0 ∨ z3q v = 2 := by
 cases v with
 | text s => exact if2 _
 | bytes s => exact if2 _
 | list l => exact if2 _
 | dict d => exact zqf (hw.fd d rfl).1 (hs.nm d rfl)
 | record c k d =>
  obtain ⟨h1, h2, h3⟩ := hs.rc c k d rfl
  simp only [z3q]
  rw [if_neg (by simp [h1]), if_neg (by omega)]
  exact zqf (hw.fd d rfl).1 (hs.nm d rfl)
 | nothing => exact absurd rfl hw.nn
 | alien a => have := hs.far; simp [zvi] at this
 | _ => exact .inl rfl
theorem zds {d : Int} : ∀ {l : List V}, (∀ y, y ∈ l → ∀ n dp, (z2g y n dp d).ok = true ∨ (z2g y n dp d).why = 2) → ∀ n dp, (z2v l n dp d).ok = true ∨ (z2v l n dp d).why = 2
 | [], _, n, dp => by rw [z3i]; exact .inl rfl
 | x :: r, h, n, dp => by
  rw [z30]
  split
  ·exact zds (fun y hy => h y (by simp [hy])) _ _
  ·exact h x (by simp) n dp
theorem zw4 {N : Nat} {v : V} (hw : Wd N v) : So v → ∀ n dp d, (z2g v n dp d).ok = true ∨ (z2g v n dp d).why = 2 := by
 induction hw with
 | @mk x h1 h2 ih =>
  intro hs n dp d
  rw [z6f]
  by_cases h : zaw x n d = 0
  ·rw [if_pos h]; exact zds (fun y hy n dp => ih y hy (hs.part y hy) n dp _) _ _
  ·rw [if_neg h]
   refine .inr ?_
   show zaw x n d = 2
   unfold zaw at h ⊢
   split
   ·exact hs.v.far
   ·rename_i hc
    rw [if_neg hc] at h
    exact (zpx h1 hs.v).resolve_left h
theorem zrl {N : Nat} {v : V} (hw : Wd N v) (hs : So v) : (z1c v).2 = 0 ∨ (z1c v).2 = 2 := by
 unfold z1c
 split
 ·exact .inl rfl
 ·rename_i h; exact .inr ((zw4 hw hs 0 0 1).resolve_left h)
theorem zx4 {v : V} (h : Near v) : So v := by
 induction h with
 | @mk x h1 h2 ih =>
  refine .mk ⟨?_, fun d hd n hn => ?_, fun c k l e => ?_⟩ ih
  ·cases x <;> first | rfl | cases h1
  ·have hf : z2m (d.map (·.1)) = 0 := by
    cases x with
    | dict y => cases hd; exact h1
    | record c k y =>
     cases hd
     simp only [z3q] at h1
     split at h1
     ·cases h1
     ·split at h1
      ·cases h1
      ·exact h1
    | _ => cases hd
   exact zhs hf n hn
  ·subst e
   simp only [z3q] at h1
   split at h1
   ·cases h1
   ·rename_i h3
    split at h1
    ·cases h1
    ·rename_i h4
     exact ⟨by simpa using h3, by omega, by omega⟩
theorem zvr {v : V} (h : Can v) : So v := zx4 h.1
theorem zv0 {v : V} {d e : Fds} (h : So v) (hd : fdF v = some d) (hn : ∀ n, n ∈ e.map (·.1) → z2f n = true) (hp : ∀ y, y ∈ e.map (·.2) → So y) : So (z50 v e) := by
 refine .mk ⟨?_, fun d' hd' => by rw [zdd hd] at hd'; injection hd' with hd'; subst hd'; exact hn, fun c k l e' => ?_⟩ (by rw [zfr hd]; exact hp)
 ·cases v <;> first | rfl | cases hd
 ·cases v with
  | record c' k' l' => simp only [z50] at e'; injection e' with e1 e2 e3; subst e1; subst e2; exact h.v.rc _ _ _ rfl
  | dict y => simp [z50] at e'
  | _ => cases hd
theorem zic {l : List V} (h : ∀ y, y ∈ l → So y) : So (.list l) := .mk ⟨rfl, fun d hd => (by cases hd), fun c k l e => by cases e⟩ h
theorem zwj {room : Bool} {v : V} {s : Stp} {d : Fds} (hd : fdF v = some d) (hs : z58 s = 0) (h : z40 room v s = true) : z2f s.f_Name = true := by
 cases ha : s.f_At with
 | true =>
  have hz := zjz h
  rw [zrv, z65 hd, if_pos ha] at hz
  rcases hz with hz | ⟨_, hz | hz⟩
  ·cases hz
  ·cases hz
  ·have := hz.1; cases this
 | false => obtain ⟨h1, h2⟩ := Z1b hs ha; rw [h1]; exact h2
theorem zi7 {room : Bool} {v x : V} {s : Stp} (hv : So v) (hx : So x) (hs : z58 s = 0) (hr : z40 room v s = true) : So (withF v s x) := by
 have flds : ∀ d, fdF v = some d → So (withF v s x) := by
  intro d hd
  rw [z63 hd]
  refine zv0 hv hd (fun n hn => ?_) (fun y hy => ?_)
  ·rcases zoq hn with rfl | hn
   ·exact zwj hd hs hr
   ·exact hv.v.nm d hd n hn
  ·rcases zon hy with rfl | hy
   ·exact hx
   ·exact hv.part y (by rw [z7y hd]; exact hy)
 cases v with
 | list l =>
  have hp : ∀ y, y ∈ l → So y := fun y hy => hv.part y hy
  simp only [withF]
  split
  ·refine zic (fun y hy => ?_)
   rcases List.mem_append.1 hy with hy | hy
   ·exact hp y hy
   ·rw [List.mem_singleton] at hy; subst hy; exact hx
  ·refine zic (fun y hy => ?_)
   rcases List.mem_or_eq_of_mem_set hy with hy | rfl
   ·exact hp y hy
   ·exact hx
 | dict d => exact flds d rfl
 | record c k d => exact flds d rfl
 | _ => exact hv
theorem zli {v : V} {s : Stp} (hv : So v) : So (z2u v s) := by
 have flds : ∀ d, fdF v = some d → So (z2u v s) := by
  intro d hd
  rw [z9u hd]
  have hs := zqp d s.f_Name
  exact zv0 hv hd (fun n hn => hv.v.nm d hd n ((hs.map _).subset hn)) (fun y hy => hv.part y (by rw [z7y hd]; exact (hs.map _).subset hy))
 cases v with
 | list l =>
  simp only [z2u]
  refine zic (fun y hy => ?_)
  rcases List.mem_append.1 hy with hy | hy
  ·exact hv.part y (List.mem_of_mem_take hy)
  ·exact hv.part y (List.mem_of_mem_drop hy)
 | dict d => exact flds d rfl
 | record c k d => exact flds d rfl
 | _ => exact hv
theorem zzv : So .nil := .mk ⟨rfl, fun d hd => (by cases hd), fun c k l e => by cases e⟩ (fun y hy => by cases hy)
theorem zu0 {room : Bool} {fin : V → Stp → V} (hf : ∀ v s, z58 s = 0 → z40 room v s = true → So v → So (fin v s)) : ∀ (w : List Stp) (v y : V), (∀ s, s ∈ w → z58 s = 0) → So v → chF room fin v w = (y, 0) → So y
 | [], v, y, hw, hv, h => by rw [chF] at h; injection h with h; subst h; exact zzv
 | [s], v, y, hw, hv, h => by
  rw [chF] at h
  split at h
  ·rename_i hr; injection h with h; subst h; exact hf v s (hw s (by simp)) hr hv
  ·rename_i hr; injection h with h1 h2; exact absurd (by simp [z40, h2]) hr
 | s :: t :: r, v, y, hw, hv, h => by
  rw [chF] at h
  by_cases he : (z11 v s).2 = 0
  ·rw [if_neg (by simp [he])] at h
   by_cases h2 : (chF room fin (z11 v s).1 (t :: r)).2 = 0
   ·rw [if_neg (by simp [h2])] at h
    injection h with h; subst h
    exact zi7 (room := room) hv (zu0 hf (t :: r) _ _ (fun q hq => hw q (List.mem_cons_of_mem _ hq)) (hv.part _ (z3z (Prod.ext rfl he))) (Prod.ext rfl h2)) (hw s (by simp)) (by simp [z40, he])
   ·rw [if_pos h2] at h; injection h with _ h; exact absurd h h2
  ·rw [if_pos he] at h; injection h with _ h; exact absurd h he
theorem Z1j {v y x : V} {k : Int} {w : List Stp} (hw : ∀ s, s ∈ w → z58 s = 0) (hv : So v) (hx : k ≠ 3 → So x) (hk : 1 ≤ k ∧ k ≤ 3) (h : apC v k w x = (y, 0)) : So y := by
 unfold apC at h
 split at h
 ·split at h
  ·injection h with h; subst h; exact hx (by omega)
  ·injection h with _ h; cases h
 ·split at h
  ·exact zu0 (fun v s hs hr hv => zi7 hv (hx (by omega)) hs hr) _ _ _ hw hv h
  ·split at h
   ·rename_i h2; injection h with _ h; exact absurd h h2
   ·split at h
    ·split at h
     ·injection h with _ h; cases h
     ·exact zu0 (fun v s hs hr hv => zi7 hv (hx (by omega)) hs hr) _ _ _ hw hv h
    ·split at h
     ·rename_i h2; injection h with _ h; exact absurd h h2
     ·split at h
      ·injection h with _ h; cases h
      ·exact zu0 (fun v s hs hr hv => zli hv) _ _ _ hw hv h
theorem zrb {v y : V} {e : Ed} (hv : So v) (h : z4w v e = (y, 0)) : So y := by
 unfold z4w at h
 split at h
 ·injection h with _ h; cases h
 ·split at h
  ·rename_i h2; injection h with _ h; exact absurd h h2
  ·split at h
   ·rename_i h2; injection h with _ h; exact absurd h h2.2
   ·rename_i h1 h2 h3
    exact Z1j (z64 (Classical.byContradiction fun hc => h2 hc)).2 hv (fun hk => zvr (z5q (Classical.byContradiction fun hc => h3 ⟨hk, hc⟩))) (by omega) h
theorem zhp : ∀ {es : List Ed} {v m : V} {N : Nat}, Wd N v → 4096 ≤ N → So v → foldF v es = (m, 0) → Wd (N + es.length) m ∧ So m
 | [], v, m, N, hw, hN, hs, h => by rw [foldF] at h; injection h with h; subst h; exact ⟨hw, hs⟩
 | e :: r, v, m, N, hw, hN, hs, h => by
  rw [foldF] at h
  split at h
  ·rename_i h2; injection h with _ h; exact absurd h h2
  ·rename_i h2
   have h0 : z4w v e = ((z4w v e).1, 0) := Prod.ext rfl (Classical.byContradiction fun hc => h2 hc)
   have := zhp (zhz hw hN h0) (by omega) (zrb hs h0) h
   rw [List.length_cons, show N + (r.length + 1) = N + 1 + r.length by omega]
   exact this
theorem zkt : ∀ {es fs : List Ed} {v : V}, foldF v (es ++ fs) = if (foldF v es).2 ≠ 0 then (.nil, (foldF v es).2) else foldF (foldF v es).1 fs
 | [], fs, v => by simp [foldF]
 | e :: r, fs, v => by
  rw [List.cons_append, foldF, foldF]
  by_cases h : (z4w v e).2 = 0
  ·simp only [h, ne_eq, not_true_eq_false, if_false]; exact zkt
  ·simp only [ne_eq, h, not_false_eq_true, if_true]
theorem zi4 {v : V} {es : List Ed} (hc : ¬ Can v) : zay v es = some (.nil, (z1c v).2) := by
 unfold zay
 have h : (z1c v).2 ≠ 0 := fun h => hc (z5q h)
 rw [zc1, Option.bind_some, zh9 h, cond_true]
theorem zts {v : V} {A B : List Ed} (hA : A.length ≤ 33554432) (hB : B.length ≤ 33554432) :
 ∃ x e y f, zay v (A ++ B) = some (x, e) ∧ zay v A = some (y, f) ∧
  ((f ≠ 0 ∧ y = .nil ∧ (e = f ∧ x = .nil ∨ f = 2)) ∨ (f = 0 ∧ ∃ z g, zay y B = some (z, g) ∧ e = g ∧ x = z ∧ (g = 0 → Can z) ∧ (g ≠ 0 → z = .nil))) := by
 by_cases hc : Can v
 ·have cp : ∀ m : V, ∃ z g, (z73 m).bind (fun x => some (x.1, x.2)) = some (z, g) ∧ ((g = 0 ∧ Can m ∧ z = m) ∨ (g ≠ 0 ∧ g = (z1c m).2 ∧ z = .nil ∧ ¬ Can m)) := by
   intro m
   by_cases hm : Can m
   ·exact ⟨m, 0, by rw [z80 hm]; rfl, .inl ⟨rfl, hm, rfl⟩⟩
   ·exact ⟨.nil, _, by rw [zky hm]; rfl, .inr ⟨fun h => hm (z5q h), rfl, rfl, hm⟩⟩
  rw [zfj hc (by rw [List.length_append]; omega), zfj hc (by omega), zkt]
  by_cases h : (foldF v A).2 = 0
  ·have h0 : foldF v A = ((foldF v A).1, 0) := Prod.ext rfl h
   obtain ⟨hw, hs⟩ := zhp (zea hc) (by omega) (zvr hc) h0
   generalize (foldF v A).1 = m at *
   rw [h0]
   simp only [ne_eq, not_true_eq_false, if_false]
   obtain ⟨y, f, hy, hyf⟩ := cp m
   rw [hy]
   rcases hyf with ⟨rfl, hm, rfl⟩ | ⟨hf, hfe, rfl, hm⟩
   ·have hap := zfj (es := B) hm (by omega)
    by_cases h2 : (foldF y B).2 = 0
    ·rw [if_neg (by simp [h2])] at hap ⊢
     obtain ⟨z, g, hz, hzg⟩ := cp (foldF y B).1
     rw [hz] at hap ⊢
     refine ⟨z, g, y, 0, rfl, rfl, .inr ⟨rfl, z, g, hap, rfl, rfl, ?_, ?_⟩⟩
     ·intro hg; rcases hzg with ⟨_, h3, rfl⟩ | ⟨h3, _⟩
      ·exact h3
      ·exact absurd hg h3
     ·intro hg; rcases hzg with ⟨h3, _⟩ | ⟨_, _, h3, _⟩
      ·exact absurd h3 hg
      ·exact h3
    ·rw [if_pos h2] at hap ⊢
     exact ⟨_, _, y, 0, rfl, rfl, .inr ⟨rfl, _, _, hap, rfl, rfl, fun hg => absurd hg h2, fun _ => rfl⟩⟩
   ·have hf2 : f = 2 := by rw [hfe] at hf ⊢; exact (zrl hw hs).resolve_left hf
    by_cases h2 : (foldF m B).2 = 0
    ·rw [if_neg (by simp [h2])]
     obtain ⟨z, g, hz, hzg⟩ := cp (foldF m B).1
     rw [hz]
     exact ⟨z, g, .nil, f, rfl, rfl, .inl ⟨hf, rfl, .inr hf2⟩⟩
    ·rw [if_pos h2]
     exact ⟨_, _, .nil, f, rfl, rfl, .inl ⟨hf, rfl, .inr hf2⟩⟩
  ·have e1 : (if (foldF v A).2 ≠ 0 then ((V.nil : V), (foldF v A).2) else foldF (foldF v A).1 B) = (.nil, (foldF v A).2) := if_pos h
   rw [e1, if_pos h, if_pos h]
   exact ⟨_, _, _, _, rfl, rfl, .inl ⟨h, rfl, .inl ⟨rfl, rfl⟩⟩⟩
 ·have h : (z1c v).2 ≠ 0 := fun h => hc (z5q h)
  rw [zi4 hc, zi4 hc]
  exact ⟨_, _, _, _, rfl, rfl, .inl ⟨h, rfl, .inl ⟨rfl, rfl⟩⟩⟩
end Go.Proofs.YthidgpcbnieleaaGreatDoor

namespace Go.Proofs.YthidgpcbnieleaaGreatDoor
open Go Aw
set_option linter.unusedVariables false
set_option linter.unusedSimpArgs false
set_option maxRecDepth 8000
abbrev lvA : Str := [97]
abbrev lvS : Str := [97, 91, 49, 93]
abbrev lvL : V := .list [.int 1, .int 2]
abbrev lvM : V := .list [.int 1, .bool true]
abbrev lvD : V := .dict [(lvA, lvL)]
abbrev lvY : V := .dict [(lvA, lvM)]
theorem ztc (i : Int) : Near (.int i) := .mk rfl (fun y hy => by cases hy)
theorem Z02 (b : Bool) : Near (.bool b) := .mk rfl (fun y hy => by cases hy)
theorem Z03 {a b : V} (ha : Near a) (hb : Near b) : Near (.list [a, b]) := .mk rfl (fun y hy => by
 rcases List.mem_cons.1 (show y ∈ [a, b] from hy) with rfl | hy
 ·exact ha
 ·rw [List.mem_singleton] at hy; subst hy; exact hb)
theorem Z04 {a : V} (ha : Near a) : Near (.dict [(lvA, a)]) := .mk (show z2m [lvA] = 0 by decide) (fun y hy => by
 have : y ∈ [a] := hy
 rw [List.mem_singleton] at this; subst this; exact ha)
theorem Z34 (i : Int) : Can (.int i) := ⟨ztc i, by simp [cnt], by simp [dpt]⟩
theorem Z07 (b : Bool) : Can (.bool b) := ⟨Z02 b, by simp [cnt], by simp [dpt]⟩
theorem zq4 : Can lvD := ⟨Z04 (Z03 (ztc 1) (ztc 2)), by simp [cnt, ztx, cntL], by simp only [dpt, ztv, dptL]; omega⟩
theorem zx7 : Can lvY := ⟨Z04 (Z03 (ztc 1) (Z02 true)), by simp [cnt, ztx, cntL], by simp only [dpt, ztv, dptL]; omega⟩
theorem Z08 : Can (.dict []) := ⟨.mk (show z2m [] = 0 by decide) (fun y hy => by cases hy), by simp [cnt, ztx], by simp only [dpt, ztv]; omega⟩
theorem Z30 : zev lvS 0 false = some ((stN lvA), 1, 0, 0) := by
 have e1 : zcd lvS 0 nmS = some [97] := (zib (n := 0) (by simp) (by simp)).trans (by decide)
 have h : zev lvS 0 false = Option.bind (zcd lvS 0 nmS) fun x16 => bif (x16 == ([] : Str)) then z8x 0 x16 ((0 : Int) == ((lvS.length : Nat) : Int)) else z8x 0 x16 false := rfl
 rw [h, e1, Option.bind_some]
 have h2 : (bif (([97] : Str) == ([] : Str)) then z8x 0 [97] ((0 : Int) == ((lvS.length : Nat) : Int)) else z8x 0 [97] false) = Option.bind (zis [97]) fun x20 => bif (!x20) then some ((S_api_Step.mk [] false 0), 0, 0, 8) else some ((S_api_Step.mk [97] false 0), (IntKind.i64.wrap (0 + (((([97] : Str)).length : Nat) : Int))), 0, 0) := rfl
 rw [h2, zhk, show z2f [97] = true from by decide]; rfl
theorem Z2z : zev lvS 1 true = some ((stA 1), 4, 0, 0) := by
  have e1 : zcd lvS 2 ([48, 49, 50, 51, 52, 53, 54, 55, 56, 57] : Str) = some [49] := (zib (n := 2) (by simp) (by simp)).trans (by decide)
  have h : zev lvS 1 true = Option.bind (zcd lvS 2 ([48, 49, 50, 51, 52, 53, 54, 55, 56, 57] : Str)) fun x3 =>
    bif ((IntKind.i64.wrap (2 + (((x3).length : Nat) : Int))) == (((lvS).length : Nat) : Int)) then (
     some ((S_api_Step.mk [] false 0), 0, (IntKind.i64.wrap (2 + (((x3).length : Nat) : Int))), 4)
    ) else (
     bif (x3 == ([] : Str)) then (
      z70 1 x3 true
     ) else (
      Option.bind ((x3)[0]?) fun x10 =>
      bif (((x10).toNat : Int) == (((48 : UInt8)).toNat : Int)) then (
       bif (!(x3 == ([48] : Str))) then (
        z70 1 x3 true
       ) else (
        Option.bind (z6n lvS (IntKind.i64.wrap (2 + (((x3).length : Nat) : Int)))) fun x13 =>
        z70 1 x3 (((x13).toNat : Int) != (((93 : UInt8)).toNat : Int))
       )
      ) else (
       Option.bind (z6n lvS (IntKind.i64.wrap (2 + (((x3).length : Nat) : Int)))) fun x14 =>
       z70 1 x3 (((x14).toNat : Int) != (((93 : UInt8)).toNat : Int))
      )
     )
    ) := rfl
  rw [h, e1, Option.bind_some]
  rfl
theorem ztb : zp4 lvS = some ([stN lvA, stA 1], 0, 0) := by
 unfold zp4
 have h0 : ∀ g, z5d lvS g [] 0 = Option.bind (zev lvS 0 false) fun x7 => bif (x7.2.2.2 != 0) then some ([], x7.2.2.1, x7.2.2.2) else Option.bind (z9p 32 [] [x7.1]) fun x10 => g x10 x7.2.1 := fun _ => rfl
 have h1 : ∀ g, z5d lvS g [stN lvA] 1 = Option.bind (zev lvS 1 true) fun x7 => bif (x7.2.2.2 != 0) then some ([], x7.2.2.1, x7.2.2.2) else Option.bind (z9p 32 [stN lvA] [x7.1]) fun x10 => g x10 x7.2.1 := fun _ => rfl
 have h2 : ∀ g, z5d lvS g [stN lvA, stA 1] 4 = some ([stN lvA, stA 1], 0, 0) := fun _ => rfl
 have a0 : z9p 32 [] [stN lvA] = some [stN lvA] := zrd (by omega) (by simp)
 have a1 : z9p 32 [stN lvA] [stA 1] = some [stN lvA, stA 1] := zrd (by omega) (by simp)
 rw [zbz, h0, Z30, Option.bind_some]
 simp only [show ((0 : Int) != 0) = false from rfl, cond_false]
 rw [a0, Option.bind_some, zbz, h1, Z2z, Option.bind_some]
 simp only [show ((0 : Int) != 0) = false from rfl, cond_false]
 rw [a1, Option.bind_some, zbz, h2]
theorem zwm {N : Nat} {v x : V} {w : List Stp} {room : Bool} (hv : Wd N v) (hN : N ≤ 268435456) (hw : ∀ s, s ∈ w → z58 s = 0) (hne : w ≠ []) (hl : w.length ≤ 268435456) : zml v w room x = some (chF room (fun p s => withF p s x) v w) :=
 zqz (f := fun p s => zmc p s x) (F := fun v w room => zml v w room x) hN (fun v w => by rw [Z4b]; rfl) (fun v s hv hs hr => by
  show zmc v s x = _
  unfold zmc
  rw [zek hv hN hs (zjz hr)]; rfl) w v hv hw hne hl
noncomputable def Z4l (v : V) (w : List Stp) (x : V) : V × Int :=
 if (z1c v).2 ≠ 0 then (.nil, (z1c v).2) else if z2z w ≠ 0 then (.nil, z2z w) else if (z1c x).2 ≠ 0 then (.nil, (z1c x).2) else
 if w = [] then (x, 0) else if (chF true (fun p s => withF p s x) v w).2 ≠ 0 then (.nil, (chF true (fun p s => withF p s x) v w).2) else
 if (z1c (chF true (fun p s => withF p s x) v w).1).2 ≠ 0 then (.nil, (z1c (chF true (fun p s => withF p s x) v w).1).2) else ((chF true (fun p s => withF p s x) v w).1, 0)
theorem zy2 (x : V) : z73 x = some (if (z1c x).2 ≠ 0 then (.nil, (z1c x).2) else (x, 0)) := by
 by_cases h : (z1c x).2 = 0
 ·rw [if_neg (by simp [h]), z80 (z5q h)]
 ·rw [if_pos h, zky (fun hc => h (by rw [z33 hc]))]
theorem Z1n (v : V) (w : List Stp) (x : V) : zmb v w x = some (Z4l v w x) := by
 unfold zmb Z4l
 rw [zfi, Option.bind_some]
 by_cases h1 : (z1c v).2 = 0
 ·rw [if_neg (by simp [h1]), if_neg (by simp [h1])]
  by_cases h2 : z2z w = 0
  ·rw [show (z2z w != 0) = false from by simp [h2], cond_false, if_neg (by simp [h2]), zc1, Option.bind_some]
   by_cases h3 : (z1c x).2 = 0
   ·rw [show ((z1c x).2 != 0) = false from by simp [h3], cond_false, if_neg (by simp [h3])]
    by_cases h4 : w = []
    ·rw [if_pos h4, h4, show (((([] : List Stp).length : Nat) : Int) == 0) = true from rfl, cond_true, z80 (z5q h3)]; rfl
    ·have hl : w.length ≠ 0 := fun h => h4 (List.eq_nil_of_length_eq_zero h)
     have h5 : (((w.length : Nat) : Int) == 0) = false := by simpa using h4
     obtain ⟨v1, v2⟩ := z64 h2
     rw [if_neg h4, h5, cond_false, zwm (zea (z5q h1)) (by omega) v2 h4 (by omega), Option.bind_some]
     generalize chF true (fun p s => withF p s x) v w = c
     by_cases h6 : c.2 = 0
     ·rw [show (c.2 != 0) = false from by simp [h6], cond_false, if_neg (by simp [h6]), zy2, Option.bind_some]
     ·rw [zh9 h6, cond_true, if_pos h6]
   ·rw [zh9 h3, cond_true, if_pos h3]
  ·rw [zh9 h2, cond_true, if_pos h2]
 ·rw [if_pos h1, zh9 h1, cond_true, if_pos h1]
theorem Z00 : zmb lvD [stN lvA, stA 1] (.bool true) = some (lvY, 0) := by
 have hv : ∀ s, s ∈ [stN lvA, stA 1] → z58 s = 0 := by
  intro s hs
  rcases List.mem_cons.1 hs with rfl | hs
  ·decide
  ·rw [List.mem_singleton] at hs; subst hs; decide
 have hc : chF true (fun p s => withF p s (.bool true)) lvD [stN lvA, stA 1] = (lvY, 0) := rfl
 rw [Z1n, Z4l, z33 zq4, if_neg (by simp), if_neg (show ¬ z2z [stN lvA, stA 1] ≠ 0 by decide), z33 (Z07 true), if_neg (by simp), if_neg (by simp), hc, if_neg (by simp), z33 zx7, if_neg (by simp)]
theorem Z06 : zp6 lvD [stN lvA] = some (.dict [], 0) := by
 have hw : ∀ s, s ∈ [stN lvA] → z58 s = 0 := by
  intro s hs
  rw [List.mem_singleton] at hs; subst hs; decide
 have hc : chF false z2u lvD [stN lvA] = (.dict [], 0) := rfl
 unfold zp6
 rw [zfi, z33 zq4, if_neg (by simp), show z2z [stN lvA] = 0 from by decide, Option.bind_some, ze9 (zea zq4) (by omega) hw (by simp) (by simp), hc]
 show (Option.bind (z73 (.dict [])) fun x6 => some (x6.1, x6.2)) = _
 rw [z80 Z08]; rfl
theorem Z05 : zim lvD [stN lvA, stA 1] = some (.int 2, 0) := by
 rw [Z1o, zuq zq4 (x := .int 2) (fun s hs => ?_) rfl]
 rcases List.mem_cons.1 hs with rfl | hs
 ·exact .inl ⟨_, rfl⟩
 ·rw [List.mem_singleton] at hs; subst hs; exact .inr ⟨_, rfl⟩
theorem Z2y : z9y (.int 2) (.bool true) = false := by
 cases h : z9y (.int 2) (.bool true) with
 | false => rfl
 | true => have := zxd (zer h).2.2; cases this
theorem Z01 {a b c d : V} (h : z4j (.list [a, b]) (.list [c, d]) = 0) : z4j b d = 0 := by
 have h1 : z5r [a, b] [c, d] = 0 := by simpa only [z4j] using h
 exact (ordL0 h1).2 1 b d rfl rfl
theorem Z2x : z9y lvL lvM = false := by
 cases h : z9y lvL lvM with
 | false => rfl
 | true => have := zxd (Z01 (zer h).2.2); cases this
theorem Z2w : z9y lvD lvY = false := by
 cases h : z9y lvD lvY with
 | false => rfl
 | true =>
  have h0 := (zer h).2.2
  have h1 : zew [(lvA, lvL)] [(lvA, lvM)] = 0 := by simpa only [z4j] using h0
  have := zxd (Z01 ((ordL0 (ordD1 h1).2).2 0 lvL lvM rfl rfl)); cases this
theorem Z33 : zaz [stN lvA, stA 1] (.int 2) (.bool true) [] = some [S_api_Edit.mk 1 [stN lvA, stA 1] (.bool true)] := by
 rw [ztt, zd9, zc0, Option.bind_some, Z2y]
 show Option.bind (zd4 1 [stN lvA, stA 1] (.bool true) []) (fun x25 => some x25) = _
 rw [zi8 (by simp) (Z07 true) (by simp)]; rfl
theorem Z32 : zaz [stN lvA, stA 0] (.int 1) (.int 1) [] = some [] := by
 rw [ztt, zd9, zc0, Option.bind_some, z8t (Z34 1)]; rfl
theorem Z31 : zaz [stN lvA] lvL lvM [] = some [S_api_Edit.mk 1 [stN lvA, stA 1] (.bool true)] := by
 rw [ztt, zd9, zc0, Option.bind_some, Z2x]
 show zar zaz [stN lvA] lvL lvM 0 [] = _
 have h0 : ∀ R g es, z3s R [stN lvA] lvL lvM g 0 es = Option.bind (za9 (stA 0) [stN lvA]) fun x8 => Option.bind (R x8 (.int 1) (.int 1) es) fun x11 => g 1 x11 := fun _ _ _ => rfl
 have h1 : ∀ R g es, z3s R [stN lvA] lvL lvM g 1 es = Option.bind (za9 (stA 1) [stN lvA]) fun x8 => Option.bind (R x8 (.int 2) (.bool true) es) fun x11 => g 2 x11 := fun _ _ _ => rfl
 have h2 : ∀ R g es, z3s R [stN lvA] lvL lvM g 2 es = zc5 [stN lvA] lvL lvM 1 es := fun _ _ _ => rfl
 have h3 : ∀ g es, z4i [stN lvA] lvL lvM g 1 es = zc4 [stN lvA] lvM 2 es := fun _ _ => rfl
 have h4 : ∀ g es, z4h [stN lvA] lvM g 2 es = some es := fun _ _ => rfl
 rw [z71, h0, zll (by simp), Option.bind_some, show [stN lvA] ++ [stA 0] = [stN lvA, stA 0] from rfl, Z32, Option.bind_some]
 rw [z71, h1, zll (by simp), Option.bind_some, show [stN lvA] ++ [stA 1] = [stN lvA, stA 1] from rfl, Z33, Option.bind_some]
 rw [z71, h2, z91, h3, z90, h4]
theorem zx6 : zp1 lvD lvY = some ([S_api_Edit.mk 1 [stN lvA, stA 1] (.bool true)], 0) := by
 unfold zp1
 rw [zc1, Option.bind_some, z33 zq4, zc1, Option.bind_some, z33 zx7]
 show Option.bind (zaz [] lvD lvY []) (fun x5 => some (x5, 0)) = _
 have hd : zaz [] lvD lvY [] = some [S_api_Edit.mk 1 [stN lvA, stA 1] (.bool true)] := by
  rw [ztt, zd9, zc0, Option.bind_some, Z2w]
  show zdp zaz [] ([(lvA, lvL)], [(lvA, lvM)], true) 0 0 [] = _
  have h0 : ∀ R g es, z5i R [] ([(lvA, lvL)], [(lvA, lvM)], true) g 0 0 es = Option.bind (za9 (stN lvA) []) fun x43 => Option.bind (R x43 lvL lvM es) fun x46 => g 1 1 x46 := fun _ _ _ => rfl
  have h1 : ∀ R g es, z5i R [] ([(lvA, lvL)], [(lvA, lvM)], true) g 1 1 es = some es := fun _ _ _ => rfl
  rw [zgl, h0, zll (by simp), Option.bind_some, show ([] : List Stp) ++ [stN lvA] = [stN lvA] from rfl, Z31, Option.bind_some, zgl, h1]
 rw [hd]; rfl
theorem Z35 : zp8 = some true := by
 unfold zp8
 have hc : zah [stN lvA, stA 1] 0 1 = some [stN lvA] := rfl
 rw [ztb, Option.bind_some]
 show Option.bind (zim lvD [stN lvA, stA 1]) _ = _
 rw [Z05, Option.bind_some]
 simp only
 rw [Z00, Option.bind_some]
 simp only
 rw [zx6, Option.bind_some]
 simp only
 rw [hc, Option.bind_some, Z06, Option.bind_some]
 simp only
 rw [zc0, zc0, z8t zx7, z8t Z08]; rfl
end Go.Proofs.YthidgpcbnieleaaGreatDoor

namespace Go.Proofs.YthidgpcbnieleaaGreatDoor
open Go Aw
set_option linter.unusedVariables false
set_option linter.unusedSimpArgs false
set_option maxRecDepth 8000
noncomputable def edB (e : S_ref04_Edit) : Ed := S_api_Edit.mk e.f_What e.f_Way (bu e.f_Term)
theorem zr4 (l : List S_ref04_Edit) (h : ∀ e, e ∈ l → e.f_Way.length ≤ 1048576 ∧ bkT e.f_Term ≤ 268435456) (hl : l.length ≤ 1048576) : ∀ k i, k + i = l.length → zgd l ((l.take i).map edB) i = some (l.map edB ++ [S_api_Edit.mk 77 [] V.nil])
 | 0, i, hk => by
  rw [zgc]
  simp only [z6b, zco (by omega : ¬ i < l.length), cond_false]
  rw [List.take_of_length_le (by omega), zrd (by omega) (by rw [List.length_map]; omega)]; rfl
 | k + 1, i, hk => by
  obtain ⟨x, hx, _⟩ := dropc (by omega : i < l.length)
  obtain ⟨h1, h2⟩ := h x (List.mem_of_getElem? hx)
  rw [zgc]
  simp only [z6b, zd1 (by omega : i < l.length), cond_true, hx, Option.bind_some]
  rw [zvu (by omega) (by omega), Option.bind_some, zv5 _ h2, Option.bind_some, zrd (by omega) (by rw [List.length_map, List.length_take]; omega), Option.bind_some]
  have : (l.take i).map edB ++ [S_api_Edit.mk x.f_What x.f_Way (bu x.f_Term)] = (l.take (i + 1)).map edB := zbe (f := edB) hx
  rw [this]
  exact zr4 l h hl k (i + 1) (by omega)
theorem zqn (v : V) (es : List Ed) (c : Nat) (hc : c ≤ es.length) (hl : es.length ≤ 33554432) : zc3 v es (c : Int) = some true := by
 unfold zc3
 obtain ⟨x, e, y, f, h1, h2, h3⟩ := zts (v := v) (A := es.take c) (B := es.drop c) (by rw [List.length_take]; omega) (by rw [List.length_drop]; omega)
 rw [List.take_append_drop] at h1
 have hz : zah es 0 ((c : Nat) : Int) = some (es.take c) := by
  have := zag (s := es) (a := 0) (b := c) (by omega) hc
  simpa using this
 have hz2 : zah es (c : Int) ((es.length : Nat) : Int) = some (es.drop c) := by
  have := zag (s := es) (a := c) (b := es.length) hc (Nat.le_refl _)
  rw [List.take_length] at this; exact this
 rw [h1, Option.bind_some, hz, Option.bind_some, h2, Option.bind_some]
 simp only
 rcases h3 with ⟨g1, rfl, g2⟩ | ⟨rfl, z, g, g1, rfl, rfl, g2, g3⟩
 ·rw [zh9 g1, cond_true, show V.isNil .nil = true from rfl, cond_true]
  rcases g2 with ⟨rfl, rfl⟩ | rfl
  ·rw [beq_self_eq_true, cond_true]; rfl
  ·cases he : e == 2 with
   | false => rfl
   | true =>
    rw [cond_true]
    cases x.isNil <;> rfl
 ·rw [show ((0 : Int) != 0) = false from rfl, cond_false, hz2, Option.bind_some, g1, Option.bind_some]
  simp only
  rw [beq_self_eq_true, cond_true, zc0, Option.bind_some]
  by_cases he : e = 0
  ·rw [z8t (g2 he)]; rfl
  ·have hx := g3 he
   subst hx
   cases hs : z9y .nil .nil with
   | true => rfl
   | false => rw [cond_false, cond_true, zh9 he]; rfl
theorem zuv {α : Type} {f : α → Nat} : ∀ {l : List α} {a : α}, a ∈ l → f a ≤ (l.map f).sum
 | b :: r, a, h => by
  rw [List.map_cons, List.sum_cons]
  rcases List.mem_cons.1 h with rfl | h
  ·omega
  ·have := zuv (f := f) h; omega
theorem zi9 {α : Type} {f : α → Nat} (hf : ∀ a, 1 ≤ f a) : ∀ l : List α, l.length ≤ (l.map f).sum
 | [] => by simp
 | b :: r => by
  rw [List.map_cons, List.sum_cons, List.length_cons]
  have := zi9 hf r
  have := hf b
  omega
theorem zc9 {p q r : Prop} (a0 : Term) (a1 : List S_ref04_Edit) (a2 : Int)
 (h : bkT a0 + ((a1.map (fun p => 1 + ((p.f_Way.map (fun p => (p.f_Name.length + 1) + 1 + 1)).sum + 1) + bkT p.f_Term)).sum + 1) ≤ 1048576) (ok0 : p) (ok1 : q) (ok2 : r) : zsa a0 a1 a2 = some true := by
 have hl : a1.length ≤ 1048576 := by
  have := zi9 (f := fun (p : S_ref04_Edit) => 1 + ((p.f_Way.map (fun p => (p.f_Name.length + 1) + 1 + 1)).sum + 1) + bkT p.f_Term) (fun a => by show 1 ≤ 1 + _ + _; omega) a1
  omega
 have hb : ∀ e, e ∈ a1 → e.f_Way.length ≤ 1048576 ∧ bkT e.f_Term ≤ 268435456 := by
  intro e he
  have h1 := zuv (f := fun (p : S_ref04_Edit) => 1 + ((p.f_Way.map (fun p => (p.f_Name.length + 1) + 1 + 1)).sum + 1) + bkT p.f_Term) he
  have h2 := zi9 (f := fun (p : S_api_Step) => (p.f_Name.length + 1) + 1 + 1) (fun a => by show 1 ≤ _ + 1 + 1; omega) e.f_Way
  constructor <;> omega
 unfold zsa
 rw [Z35, Option.bind_some, Bool.not_true, cond_false, zv5 a0 (by omega), Option.bind_some]
 have hbt : zs5 a1 = some (a1.map edB ++ [S_api_Edit.mk 77 [] V.nil]) := zr4 a1 hb hl a1.length 0 (by omega)
 have hcut : zah (a1.map edB ++ [S_api_Edit.mk 77 [] V.nil]) 0 ((a1.length : Nat) : Int) = some (a1.map edB) := by
  have := zag (s := a1.map edB ++ [S_api_Edit.mk 77 [] V.nil]) (a := 0) (b := a1.length) (by omega) (by simp)
  rw [List.drop_zero, List.take_left' (by simp)] at this
  exact this
 rw [hbt, Option.bind_some, hcut, Option.bind_some]
 have hlen : (a1.map edB).length = a1.length := List.length_map _
 have hj : ∀ b : Bool, (b = false → 0 ≤ a2 ∧ a2 ≤ a1.length) → zc2 a1 a2 (bu a0) (a1.map edB) b = some true := by
  intro b hb
  unfold zc2
  cases b with
  | true => exact zqn _ _ a1.length (by omega) (by omega)
  | false =>
   obtain ⟨h1, h2⟩ := hb rfl
   obtain ⟨n, rfl⟩ := Int.eq_ofNat_of_zero_le h1
   exact zqn _ _ n (by omega) (by omega)
 by_cases h0 : a2 < 0
 ·rw [decide_eq_true h0, cond_true, hj true (fun h => by cases h)]
 ·rw [decide_eq_false h0, cond_false]
  exact hj _ (fun h => by have := of_decide_eq_false h; omega)
end Go.Proofs.YthidgpcbnieleaaGreatDoor

