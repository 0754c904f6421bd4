/- Plain laws, one behind the other. -/
import Derived.Test.YthidgpcbnieleaaGreatDoorM0
namespace Go.Proofs.YthidgpcbnieleaaGreatDoor
open Go Aw
set_option linter.unusedVariables false
set_option linter.unusedSimpArgs false
set_option maxRecDepth 8000
theorem zuw {a b : Str} (h1 : a ≠ b) (h2 : ¬ zlt a b) : zlt b a := by
 have e := z93 (z88 a) (z88 b)
 rw [← z8a, ← z8a] at e
 unfold zlt at h2 ⊢
 have h3 : cmpS a b ≠ 0 := fun h => h1 (by
  unfold cmpS at h
  split at h
  ·cases h
  ·split at h
   ·rename_i h4; simpa using h4
   ·cases h)
 have h4 : cmpS a b = -1 ∨ cmpS a b = 0 ∨ cmpS a b = 1 := by
  unfold cmpS
  split
  ·exact .inl rfl
  ·split
   ·exact .inr (.inl rfl)
   ·exact .inr (.inr rfl)
 omega
theorem zii (d : Fds) (n m : Str) (y : V) : fget (z34 d n y) m = if n = m then some y else fget d m := by
 induction d with
 | nil => rw [z34, z2l]
 | cons f r ih =>
  rw [z34]
  by_cases h1 : f.1 = n
  ·rw [if_pos h1, z2l, z2l, h1]
   by_cases h : n = m
   ·rw [if_pos h, if_pos h]
   ·rw [if_neg h, if_neg h, if_neg h]
  ·rw [if_neg h1]
   by_cases h2 : Op.bytesLess f.1 n = true
   ·rw [if_pos h2, z2l, ih, z2l]
    by_cases h : f.1 = m
    ·rw [if_pos h, if_pos h, if_neg (fun e => h1 (h.trans e.symm))]
    ·rw [if_neg h, if_neg h]
   ·rw [if_neg h2, z2l]
theorem zvq (d : Fds) (n : Str) (x y : V) : z34 (z34 d n x) n y = z34 d n y := by
 induction d with
 | nil => simp [z34]
 | cons f r ih =>
  rw [z34, z34]
  by_cases h1 : f.1 = n
  ·rw [if_pos h1, if_pos h1, z34, if_pos rfl]
  ·rw [if_neg h1, if_neg h1]
   by_cases h2 : Op.bytesLess f.1 n = true
   ·rw [if_pos h2, if_pos h2, z34, if_neg h1, if_pos h2, ih]
   ·rw [if_neg h2, if_neg h2, z34, if_pos rfl]
theorem zvs {d : Fds} {n : Str} {x : V} (hs : (d.map (·.1)).Pairwise zlt) (h : fget d n = some x) : z34 d n x = d := by
 induction d with
 | nil => cases h
 | cons f r ih =>
  rw [List.map_cons, List.pairwise_cons] at hs
  rw [z2l] at h
  rw [z34]
  by_cases h1 : f.1 = n
  ·rw [if_pos h1] at h ⊢; injection h with h; subst h; subst h1; rfl
  ·rw [if_neg h1] at h
   have := bl_lt.2 (hs.1 n (List.mem_map.2 ⟨_, z98 h, rfl⟩))
   rw [if_neg h1, if_pos this, ih hs.2 h]
theorem zvr {d : Fds} {n m : Str} {x : V} (h : m ∈ (z34 d n x).map (·.1)) : m = n ∨ m ∈ d.map (·.1) := by
 induction d with
 | nil => simp [z34] at h; exact .inl h
 | cons f r ih =>
  rw [z34] at h
  by_cases h1 : f.1 = n
  ·rw [if_pos h1, List.map_cons, List.mem_cons] at h
   rcases h with h | h
   ·exact .inl h
   ·exact .inr (by simp only [List.map_cons, List.mem_cons]; exact .inr h)
  ·rw [if_neg h1] at h
   by_cases h2 : Op.bytesLess f.1 n = true
   ·rw [if_pos h2, List.map_cons, List.mem_cons] at h
    rcases h with h | h
    ·exact .inr (by simp only [List.map_cons, List.mem_cons]; exact .inl h)
    ·rcases ih h with h | h
     ·exact .inl h
     ·exact .inr (by simp only [List.map_cons, List.mem_cons]; exact .inr h)
   ·rw [if_neg h2, List.map_cons, List.mem_cons] at h
    rcases h with h | h
    ·exact .inl h
    ·exact .inr h
theorem zvp {d : Fds} {n : Str} {x : V} (hs : (d.map (·.1)).Pairwise zlt) : ((z34 d n x).map (·.1)).Pairwise zlt := by
 induction d with
 | nil => simp [z34]
 | cons f r ih =>
  rw [List.map_cons, List.pairwise_cons] at hs
  rw [z34]
  by_cases h1 : f.1 = n
  ·rw [if_pos h1, List.map_cons, List.pairwise_cons, ← h1]; exact hs
  ·rw [if_neg h1]
   by_cases h2 : Op.bytesLess f.1 n = true
   ·rw [if_pos h2, List.map_cons, List.pairwise_cons]
    refine ⟨fun m hm => ?_, ih hs.2⟩
    rcases zvr hm with rfl | hm
    ·exact bl_lt.1 h2
    ·exact hs.1 m hm
   ·have hn := zuw h1 (fun h => h2 (bl_lt.2 h))
    rw [if_neg h2, List.map_cons, List.pairwise_cons, List.map_cons, List.pairwise_cons]
    refine ⟨fun m hm => ?_, hs⟩
    rcases List.mem_cons.1 hm with rfl | hm
    ·exact hn
    ·exact z89 hn (hs.1 m hm)
theorem zv7 {v : V} {d e : Fds} {l : List V} (h : fdF v = some d) : z6j v e ≠ .list l := by cases v <;> first | (cases h; simp [z6j]) | cases h
theorem zy6 {v : V} {d e : Fds} (h : fdF v = some d) : z6j v e ≠ .nothing := by cases v <;> first | (cases h; simp [z6j]) | cases h
theorem Wv.mono {N M : Nat} {v : V} (h : Wv N v) (hm : N ≤ M) : Wv M v := ⟨h.nn, fun d hd => ⟨(h.fd d hd).1, Nat.le_trans (h.fd d hd).2 hm⟩, fun l hl => Nat.le_trans (h.li l hl) hm⟩
theorem Wd.mono {N M : Nat} {v : V} (h : Wd N v) (hm : N ≤ M) : Wd M v := by
 induction h with
 | mk h1 _ ih => exact .mk (h1.mono hm) ih
structure EOk (e : Ed) : Prop where
 k : 1 ≤ e.f_What ∧ e.f_What ≤ 3
 w : z2p e.f_Way = 0
 x : e.f_What ≠ 3 → Can e.f_Value
def z6c : V → List Ed → V × Int
 | v, [] => (v, 0)
 | v, e :: r => if (apC v e.f_What e.f_Way e.f_Value).2 ≠ 0 then (.nil, (apC v e.f_What e.f_Way e.f_Value).2) else z6c (apC v e.f_What e.f_Way e.f_Value).1 r
theorem z8b {N : Nat} {v x y : V} {s : Stp} (hx : z0u v s = (x, 0)) : z0u (withF v s y) s = (y, 0) := by
 have flds : ∀ d, fdF v = some d → z0u (withF v s y) s = (y, 0) := by
  intro d hd
  rw [z3w hd] at hx
  cases ha : s.f_At with
  | true => rw [if_pos ha] at hx; cases hx
  | false => rw [z3g hd, z3w (zb3 hd), if_neg (by rw [ha]; simp), zii, if_pos rfl]
 cases v with
 | list l =>
  simp only [z0u] at hx
  cases ha : s.f_At with
  | false => rw [if_neg (by rw [ha]; simp)] at hx; cases hx
  | true =>
   rw [if_pos ha] at hx
   cases hg : l[s.f_Index.toNat]? with
   | none => rw [hg] at hx; cases hx
   | some z =>
    have hlt := (List.getElem?_eq_some_iff.1 hg).1
    simp only [withF]
    by_cases he : s.f_Index = ((l.length : Nat) : Int)
    ·omega
    ·rw [if_neg he]; simp only [z0u]
     rw [if_pos ha, List.getElem?_set_self hlt]
 | dict d => exact flds d rfl
 | record c k d => exact flds d rfl
 | _ => simp [z0u, fdF] at hx
theorem zfb {N : Nat} {v x : V} {s : Stp} (hv : Wv N v) (hx : z0u v s = (x, 0)) : withF v s x = v := by
 have flds : ∀ d, fdF v = some d → withF v s x = v := by
  intro d hd
  rw [z3w hd] at hx
  cases ha : s.f_At with
  | true => rw [if_pos ha] at hx; cases hx
  | false =>
   rw [if_neg (by rw [ha]; simp)] at hx
   cases hg : fget d s.f_Name with
   | none => rw [hg] at hx; cases hx
   | some z =>
    rw [hg] at hx; injection hx with hx; subst hx
    rw [z3g hd, zvs (hv.fd d hd).1 hg, zqq hd]
 cases v with
 | list l =>
  simp only [z0u] at hx
  cases ha : s.f_At with
  | false => rw [if_neg (by rw [ha]; simp)] at hx; cases hx
  | true =>
   rw [if_pos ha] at hx
   cases hg : l[s.f_Index.toNat]? with
   | none => rw [hg] at hx; cases hx
   | some z =>
    rw [hg] at hx; injection hx with hx; subst hx
    obtain ⟨hlt, he2⟩ := List.getElem?_eq_some_iff.1 hg
    simp only [withF]
    by_cases he : s.f_Index = ((l.length : Nat) : Int)
    ·omega
    ·rw [if_neg he, ← he2, List.set_getElem_self]
 | dict d => exact flds d rfl
 | record c k d => exact flds d rfl
 | _ => simp [z0u, fdF] at hx
theorem zaw {v x y z : V} {s : Stp} (hx : z0u v s = (z, 0)) : withF (withF v s x) s y = withF v s y := by
 have flds : ∀ d, fdF v = some d → withF (withF v s x) s y = withF v s y := by
  intro d hd
  rw [z3g hd, z3g (zb3 hd), set_set, zvq, z3g hd]
 cases v with
 | list l =>
  simp only [z0u] at hx
  cases ha : s.f_At with
  | false => rw [if_neg (by rw [ha]; simp)] at hx; cases hx
  | true =>
   rw [if_pos ha] at hx
   cases hg : l[s.f_Index.toNat]? with
   | none => rw [hg] at hx; cases hx
   | some z =>
    have hlt := (List.getElem?_eq_some_iff.1 hg).1
    simp only [withF]
    by_cases he : s.f_Index = ((l.length : Nat) : Int)
    ·omega
    ·rw [if_neg he, if_neg he]; simp only [withF]; rw [List.length_set, if_neg he, List.set_set]
 | dict d => exact flds d rfl
 | record c k d => exact flds d rfl
 | _ => simp [z0u, fdF] at hx
def preE (s : Stp) (e : Ed) : Ed := S_api_Edit.mk e.f_What (s :: e.f_Way) e.f_Value
def ENe (e : Ed) : Prop := e.f_Way ≠ [] ∨ e.f_What = 1
theorem zxk {v x y : V} {s : Stp} {k : Int} {u : List Stp} (hx : z0u v s = (x, 0)) (h : u ≠ [] ∨ k = 1) {z : V} (ha : apC x k u y = (z, 0)) : apC v k (s :: u) y = (withF v s z, 0) := by
 have he : (z0u v s).2 = 0 := by rw [hx]
 have hs1 : (z0u v s).1 = x := by rw [hx]
 cases u with
 | nil =>
  have hk := h.resolve_left (by simp)
  subst hk
  simp only [apC, List.getLast?_nil, if_true] at ha
  injection ha with ha; subst ha
  simp only [apC, List.getLast?_singleton, if_true, chF]
  rw [if_pos (by simp [z41, he])]
 | cons t r =>
  have hch : ∀ room fin, chF room fin x (t :: r) = (z, 0) → chF room fin v (s :: t :: r) = (withF v s z, 0) := by
   intro room fin hc
   rw [chF, if_neg (by simp [he]), hs1, hc, if_neg (by simp)]
  have hgf : ∀ q : List Stp, z4h v (s :: q) = z4h x q := fun q => by rw [z4h, if_neg (by simp [he]), hs1]
  have hgl : (s :: t :: r).getLast? = (t :: r).getLast? := by simp [List.getLast?_cons_cons]
  have hdl : (s :: t :: r).dropLast = s :: (t :: r).dropLast := rfl
  unfold apC at ha ⊢
  rw [hgl, hdl, hgf]
  split at ha
  ·rename_i hn; exact absurd (List.getLast?_eq_none_iff.1 hn) (by simp)
  ·rename_i q hq
   try simp only [hq]
   split at ha
   ·rename_i h1; rw [if_pos h1]; exact hch _ _ ha
   ·rename_i h1; rw [if_neg h1]
    split at ha
    ·rename_i h2; injection ha with _ ha; exact absurd ha h2
    ·rename_i h2; rw [if_neg h2]
     split at ha
     ·rename_i h3; rw [if_pos h3]
      split at ha
      ·injection ha with _ ha; cases ha
      ·rename_i h4; rw [if_neg h4]; exact hch _ _ ha
     ·rename_i h3; rw [if_neg h3]
      split at ha
      ·rename_i h4; injection ha with _ ha; exact absurd ha h4
      ·rename_i h4; rw [if_neg h4]
       split at ha
       ·injection ha with _ ha; cases ha
       ·rename_i h5; rw [if_neg h5]; exact hch _ _ ha
theorem zhk : ∀ {es fs : List Ed} {v r : V}, z6c v es = (r, 0) → z6c v (es ++ fs) = z6c r fs
 | [], fs, v, r, h => by rw [z6c] at h; injection h with h; subst h; rfl
 | e :: es, fs, v, r, h => by
  rw [z6c] at h
  rw [List.cons_append, z6c]
  split at h
  ·rename_i h2; injection h with _ h; exact absurd h h2
  ·rename_i h2; rw [if_neg h2]; exact zhk h
theorem zv4 {N : Nat} {v x y : V} {s : Stp} (hv : Wv N v) (hx : z0u v s = (x, 0)) : Wv N (withF v s y) := by
 have flds : ∀ d, fdF v = some d → Wv N (withF v s y) := by
  intro d hd
  rw [z3w hd] at hx
  cases ha : s.f_At with
  | true => rw [if_pos ha] at hx; cases hx
  | false =>
   rw [if_neg (by rw [ha]; simp)] at hx
   cases hg : fget d s.f_Name with
   | none => rw [hg] at hx; cases hx
   | some z =>
    obtain ⟨h1, h2⟩ := hv.fd d hd
    have hlen : ∀ d : Fds, fget d s.f_Name = some z → (d.map (·.1)).Pairwise zlt → (z34 d s.f_Name y).length = d.length := by
     intro d hg hs
     induction d with
     | nil => cases hg
     | cons f r ih =>
      rw [List.map_cons, List.pairwise_cons] at hs
      rw [z2l] at hg
      rw [z34]
      by_cases h1 : f.1 = s.f_Name
      ·rw [if_pos h1]; rfl
      ·rw [if_neg h1] at hg ⊢
       have := bl_lt.2 (hs.1 _ (List.mem_map.2 ⟨_, z98 hg, rfl⟩))
       rw [if_pos this, List.length_cons, List.length_cons, ih hg hs.2]
    rw [z3g hd]
    exact ⟨zy6 hd, fun e he => by rw [zb3 hd] at he; injection he with he; subst he; exact ⟨zvp h1, by rw [hlen d hg h1]; exact h2⟩, fun l hl => absurd hl (zv7 hd)⟩
 cases v with
 | list l =>
  simp only [z0u] at hx
  cases ha : s.f_At with
  | false => rw [if_neg (by rw [ha]; simp)] at hx; cases hx
  | true =>
   rw [if_pos ha] at hx
   cases hg : l[s.f_Index.toNat]? with
   | none => rw [hg] at hx; cases hx
   | some z =>
    have hlt := (List.getElem?_eq_some_iff.1 hg).1
    simp only [withF]
    by_cases he : s.f_Index = ((l.length : Nat) : Int)
    ·omega
    ·rw [if_neg he]
     exact ⟨by simp, fun d hd => (by cases hd), fun l' h => by injection h with h; subst h; rw [List.length_set]; exact hv.li l rfl⟩
 | dict d => exact flds d rfl
 | record c k d => exact flds d rfl
 | _ => simp [z0u, fdF] at hx
theorem zhj {N : Nat} {s : Stp} : ∀ {es : List Ed} {v x r : V}, Wv N v → z0u v s = (x, 0) → (∀ e, e ∈ es → ENe e) → z6c x es = (r, 0) → z6c v (es.map (preE s)) = (withF v s r, 0)
 | [], v, x, r, hv, hx, _, h => by
  rw [z6c] at h; injection h with h; subst h
  rw [List.map_nil, z6c, zfb hv hx]
 | e :: es, v, x, r, hv, hx, he, h => by
  rw [z6c] at h
  split at h
  ·rename_i h2; injection h with _ h; exact absurd h h2
  ·rename_i h2
   have h2' : (apC x e.f_What e.f_Way e.f_Value).2 = 0 := by simpa using h2
   have hp := zxk hx (he e (by simp)) (Prod.ext rfl h2' : apC x e.f_What e.f_Way e.f_Value = ((apC x e.f_What e.f_Way e.f_Value).1, 0))
   have hp' : apC v (preE s e).f_What (preE s e).f_Way (preE s e).f_Value = (withF v s (apC x e.f_What e.f_Way e.f_Value).1, 0) := hp
   rw [List.map_cons, z6c, if_neg (by rw [hp']; simp), hp']
   have := zhj (s := s) (zv4 hv hx) (z8b (N := N) hx) (fun e h => he e (by simp [h])) h
   rw [zaw hx] at this
   exact this
end Go.Proofs.YthidgpcbnieleaaGreatDoor

namespace Go.Proofs.YthidgpcbnieleaaGreatDoor
open Go Aw
set_option linter.unusedVariables false
set_option linter.unusedSimpArgs false
set_option maxRecDepth 8000
noncomputable abbrev pDf := zaj
def zo3 (w : List Stp) (e : Ed) : Ed := S_api_Edit.mk e.f_What (w ++ e.f_Way) e.f_Value
structure EG (D : Int) (e : Ed) : Prop where
 k : 1 ≤ e.f_What ∧ e.f_What ≤ 3
 w : ∀ s, s ∈ e.f_Way → z4m s = 0
 l : (e.f_Way.length : Int) + 1 ≤ D
 x : e.f_What ≠ 3 → Can e.f_Value
 ne : ENe e
def mx (a b : Int) : Int := if a < b then b else a
structure DP (way : List Stp) (a b : V) (es : List Ed) (r : V) : Prop where
 run : ∀ l : List Ed, l.length + es.length ≤ 134217728 → pDf way a b l = some (l ++ es.map (zo3 way))
 ap : z6c a es = (r, 0)
 eq : z4b r b = 0
 ok : ∀ e, e ∈ es → EG (mx (dpt a) (dpt b)) e
 n : (es.length : Int) ≤ cnt a + cnt b
theorem EG.mono {D E : Int} {e : Ed} (h : EG D e) (hd : D ≤ E) : EG E e := ⟨h.k, h.w, by have := h.l; omega, h.x, h.ne⟩
theorem EG.pre {D : Int} {e : Ed} {s : Stp} (h : EG D e) (hs : z4m s = 0) : EG (D + 1) (preE s e) :=
 ⟨h.k, fun t ht => by rcases List.mem_cons.1 (show t ∈ s :: e.f_Way from ht) with rfl | ht; exact hs; exact h.w t ht, by have := h.l; simp only [preE, List.length_cons]; omega, h.x, .inl (by simp [preE])⟩
theorem zr5 (w : List Stp) (s : Stp) (e : Ed) : zo3 w (preE s e) = zo3 (w ++ [s]) e := by simp [zo3, preE]
theorem zr6 (w : List Stp) (s : Stp) (es : List Ed) : (es.map (preE s)).map (zo3 w) = es.map (zo3 (w ++ [s])) := by
 rw [List.map_map]; exact List.map_congr_left fun e _ => zr5 w s e
theorem zkx {s : Stp} {w : List Stp} (h : w.length ≤ 1000000) : z9x s w = some (w ++ [s]) := by
 unfold z9x zri
 rw [Option.bind_some, zts (by omega) (by omega)]; rfl
theorem zn3 {v : V} (h : Can v) : zoh v = some v := by unfold zoh; rw [z9b h]; rfl
theorem zxa : Can .nil := ⟨.mk rfl (fun y hy => by cases hy), by simp [cnt], by simp [dpt]⟩
theorem zhp {k : Int} {w : List Stp} {v : V} {l : List Ed} (hw : w.length ≤ 1000000) (hv : Can v) (hl : l.length ≤ 134217728) : zcp k w v l = some (l ++ [S_api_Edit.mk k w v]) := by
 unfold zcp zrj
 rw [zxj (by omega) (by omega), Option.bind_some, Option.bind_some, zn3 hv, Option.bind_some, zts (by omega) (by omega)]; rfl
section
variable {way : List Stp}
theorem zv0 {l : List V} (h : l.length ≤ 4096) : Wv 4096 (.list l) := ⟨by simp, fun d hd => (by cases hd), fun l' h' => (by injection h' with h'; subst h'; exact h)⟩
theorem l3 {l m : List V} (hc : ∀ y, y ∈ m → Can y) (hm : m.length ≤ 4096) (hw : way.length ≤ 900000) {D : Int} (hD : ∀ y, y ∈ m → dpt y + 1 ≤ D) : ∀ k i (rs : List V), i + k = m.length → rs.length = i → z5d rs (m.take i) = 0 →
 ∃ es r, (∀ l0 : List Ed, l0.length + es.length ≤ 134217728 → zbi way (.list m) (i : Nat) l0 = some (l0 ++ es.map (zo3 way))) ∧ z6c (.list rs) es = (.list r, 0) ∧ z5d r m = 0 ∧ (∀ e, e ∈ es → EG D e) ∧ (es.length : Int) ≤ cntL (m.drop i)
 | 0, i, rs, h, hr, ho => by
  refine ⟨[], rs, fun l0 hl => ?_, rfl, ?_, fun e he => (by cases he), ?_⟩
  ·rw [z8p]
   simp only [z49, V.asList, zc2 (by omega : ¬ i < m.length), cond_false, List.map_nil, List.append_nil]
  ·rw [List.take_of_length_le (by omega)] at ho; exact ho
  ·exact zas _
 | k + 1, i, rs, h, hr, ho => by
  obtain ⟨y, hy, hd⟩ := dropc (by omega : i < m.length)
  have hym := List.mem_of_getElem? hy
  have hcy := hc y hym
  have hlt := (List.getElem?_eq_some_iff.1 hy).1
  have hlen : rs.length = (m.take i).length := by rw [List.length_take]; omega
  obtain ⟨es, r, h1, h2, h3, h4, h5⟩ := l3 (l := l) hc hm hw hD k (i + 1) (rs ++ [y]) (by omega) (by simp [hr]) (by
   rw [← ze8 hy]
   have app : ∀ (a b : List V), z5d a b = 0 → z5d (a ++ [y]) (b ++ [y]) = 0 := by
    intro a
    induction a with
    | nil => intro b hb; cases b with
     | nil => simp only [List.nil_append]; rw [z5d, zjn]; rfl
     | cons _ _ => simp [z5d] at hb
    | cons x q ih => intro b hb; cases b with
     | nil => simp [z5d] at hb
     | cons z b =>
      rw [z5d] at hb
      obtain ⟨g1, g2⟩ := th0 hb
      rw [List.cons_append, List.cons_append, z5d, g1, ih b g2]; rfl
   exact app rs _ ho)
  refine ⟨S_api_Edit.mk 2 [stA i] y :: es, r, fun l0 hl => ?_, ?_, h3, fun e he => ?_, ?_⟩
  ·simp only [List.length_cons] at hl
   rw [z8p]
   simp only [z49, V.asList, zci hlt, cond_true]
   rw [show (S_api_Step.mk [] true ((i : Nat) : Int)) = stA i from rfl, zkx (by omega), Option.bind_some, z38, hy, Option.bind_some, zhp (by simp; omega) hcy (by omega), Option.bind_some, z4n (by omega) (by omega), show ((i : Nat) : Int) + 1 = ((i + 1 : Nat) : Int) from by omega, h1 _ (by simp; omega)]
   simp [zo3]
  ·have hn : rs[i]? = none := List.getElem?_eq_none (by omega)
   have hs : z0u (.list rs) (stA i) = (.nil, 42) := by rw [zb2, hn]
   have ha : apC (.list rs) 2 [stA i] y = (.list (rs ++ [y]), 0) := by
    simp only [apC, List.getLast?_singleton, List.dropLast_singleton, z4h, hs, chF]
    rw [if_neg (by omega), if_neg (by simp), if_pos trivial, if_neg (by omega), if_pos (by unfold z41; rw [hs]; simp [V.isList, V.asList, stA, hr])]
    simp only [withF]
    rw [if_pos (by simp [stA, hr])]
   rw [z6c]
   simp only
   rw [ha, if_neg (by simp)]; exact h2
  ·rcases List.mem_cons.1 he with rfl | he
   ·exact ⟨(by show (1 : Int) ≤ 2 ∧ (2 : Int) ≤ 3; omega), fun s hs => by rw [List.mem_singleton] at hs; subst hs; rw [zf4, if_pos (by omega)], by have := hD y hym; have := (z4j y).2; simp; omega, fun _ => hcy, .inl (by simp)⟩
   ·exact h4 e he
  ·rw [hd, cntL, List.length_cons]; have := (z4j y).1; omega
theorem l2 {l m : List V} (hc : ∀ y, y ∈ m → Can y) (hm : m.length ≤ 4096) (hll : l.length ≤ 4096) (hw : way.length ≤ 900000) {D : Int} (hD : ∀ y, y ∈ m → dpt y + 1 ≤ D) (hD2 : ∀ y, y ∈ l → dpt y + 1 ≤ D) (hge : m.length ≤ l.length) : ∀ (t rs : List V), rs.length = m.length → z5d rs m = 0 → (∀ y, y ∈ t → y ∈ l) → t.length ≤ l.length - m.length →
 ∃ es r, (∀ l0 : List Ed, l0.length + es.length ≤ 134217728 → zbj way (.list l) (.list m) (((m.length + t.length : Nat) : Int) - 1) l0 = some (l0 ++ es.map (zo3 way))) ∧ z6c (.list (rs ++ t)) es = (.list r, 0) ∧ z5d r m = 0 ∧ (∀ e, e ∈ es → EG D e) ∧ (es.length : Int) ≤ t.length := by
 intro t
 induction h : t.length generalizing t with
 | zero =>
  intro rs hr ho _ _
  have ht : t = [] := List.eq_nil_of_length_eq_zero h
  subst ht
  obtain ⟨es, r, h1, h2, h3, h4, h5⟩ := l3 (way := way) (l := l) hc hm hw hD 0 m.length rs (by omega) hr (by rw [List.take_of_length_le (Nat.le_refl _)]; exact ho)
  rw [List.drop_of_length_le (Nat.le_refl _), cntL] at h5
  have he : es = [] := List.eq_nil_of_length_eq_zero (by omega)
  subst he
  refine ⟨[], r, fun l0 hl => ?_, by rw [List.append_nil]; exact h2, h3, h4, by simp⟩
  rw [z8q]
  simp only [z4a, V.asList]
  rw [decide_eq_false (by omega), cond_false]
  have hx : ∀ j : Nat, m.length ≤ j → zbi way (.list m) (j : Nat) l0 = some l0 := by
   intro j hj
   rw [z8p]
   simp only [z49, V.asList, zc2 (by omega : ¬ j < m.length), cond_false]
  rw [hx l.length hge]; simp
 | succ k ih =>
  intro rs hr ho hm2 hk
  have hne : t ≠ [] := by rintro rfl; simp at h
  have hlast : (t.getLast hne) ∈ l := hm2 _ (List.getLast_mem hne)
  obtain ⟨es, r, h1, h2, h3, h4, h5⟩ := ih t.dropLast (by rw [List.length_dropLast]; omega) rs hr ho (fun y hy => hm2 y ((List.dropLast_sublist _).subset hy)) (by omega)
  have hi : m.length + k < l.length := by omega
  refine ⟨S_api_Edit.mk 3 [stA (m.length + k)] .nil :: es, r, fun l0 hl => ?_, ?_, h3, fun e he => ?_, by simp only [List.length_cons]; omega⟩
  ·simp only [List.length_cons] at hl
   rw [z8q]
   simp only [z4a, V.asList]
   have e1 : ((m.length + (k + 1) : Nat) : Int) - 1 = ((m.length + k : Nat) : Int) := by omega
   rw [e1, decide_eq_true (by omega), cond_true, show (S_api_Step.mk [] true ((m.length + k : Nat) : Int)) = stA (m.length + k) from rfl, zkx (by omega), Option.bind_some, zhp (by simp; omega) zxa (by omega), Option.bind_some, z4n (by omega) (by omega), h1 _ (by simp; omega)]
   simp [zo3]
  ·have hll2 : (rs ++ t).length = m.length + k + 1 := by rw [List.length_append]; omega
   obtain ⟨z, hz⟩ : ∃ z, (rs ++ t)[m.length + k]? = some z := ⟨_, List.getElem?_eq_getElem (by omega)⟩
   have hs : z0u (.list (rs ++ t)) (stA (m.length + k)) = (z, 0) := by rw [zb2, hz]
   have ha : apC (.list (rs ++ t)) 3 [stA (m.length + k)] .nil = (.list (rs ++ t.dropLast), 0) := by
    simp only [apC, List.getLast?_singleton, List.dropLast_singleton, z4h, hs, chF]
    rw [if_neg (by omega), if_neg (by simp), if_neg (by omega), if_neg (by simp), if_neg (by simp only [V.asList, stA, hll2]; omega), if_pos (by simp [z41, hs])]
    simp only [z5t, stA, Int.toNat_natCast]
    rw [List.drop_of_length_le (by omega), List.append_nil, List.take_append, List.take_of_length_le (by omega : rs.length ≤ m.length + k), List.dropLast_eq_take, show m.length + k - rs.length = t.length - 1 by omega]
   rw [z6c]
   simp only
   rw [ha, if_neg (by simp)]; exact h2
  ·rcases List.mem_cons.1 he with rfl | he
   ·exact ⟨(by show (1 : Int) ≤ 3 ∧ (3 : Int) ≤ 3; omega), fun s hs => by rw [List.mem_singleton] at hs; subst hs; rw [zf4, if_pos (by omega)], by have := hD2 _ hlast; have := (z4j (t.getLast hne)).2; simp; omega, fun hx => absurd rfl hx, .inl (by simp)⟩
   ·exact h4 e he
theorem zgl {x y : V} : ∀ {a b : List V}, z5d a b = 0 → z4b x y = 0 → z5d (a ++ [x]) (b ++ [y]) = 0
 | [], [], _, h => by simp only [List.nil_append]; rw [z5d, h]; simp [z5d, th]
 | [], _ :: _, h, _ => by simp [z5d] at h
 | _ :: _, [], h, _ => by simp [z5d] at h
 | p :: a, q :: b, h, hx => by
  rw [z5d] at h
  obtain ⟨g1, g2⟩ := th0 h
  rw [List.cons_append, List.cons_append, z5d, g1, zgl g2 hx]; rfl
theorem zt2 (l : List V) : (l.length : Int) ≤ cntL l := by
 induction l with
 | nil => simp [cntL]
 | cons x r ih => rw [cntL, List.length_cons]; have := (z4j x).1; omega
theorem lists {l m : List V} (hcl : ∀ y, y ∈ l → Can y) (hcm : ∀ y, y ∈ m → Can y) (hl : l.length ≤ 4096) (hm : m.length ≤ 4096) (hw : way.length ≤ 900000) {D : Int} (hD : ∀ y, y ∈ m → dpt y + 1 ≤ D) (hD2 : ∀ y, y ∈ l → dpt y + 1 ≤ D)
 (ih : ∀ x y (w : List Stp), x ∈ l → y ∈ m → w.length ≤ way.length + 1 → ∃ es r, DP w x y es r) : ∀ k i (rs : List V), i + k = min l.length m.length → rs.length = i → z5d rs (m.take i) = 0 →
 ∃ es r, (∀ l0 : List Ed, l0.length + es.length ≤ 134217728 → zad pDf way (.list l) (.list m) (i : Nat) l0 = some (l0 ++ es.map (zo3 way))) ∧ z6c (.list (rs ++ l.drop i)) es = (.list r, 0) ∧ z5d r m = 0 ∧ (∀ e, e ∈ es → EG D e) ∧ (es.length : Int) ≤ cntL (l.drop i) + cntL (m.drop i)
 | 0, i, rs, h, hr, ho => by
  have hmin : (if ((m.length : Nat) : Int) < ((l.length : Nat) : Int) then ((m.length : Nat) : Int) else ((l.length : Nat) : Int)) = ((min l.length m.length : Nat) : Int) := by split <;> omega
  have hstep : ∀ l0 : List Ed, zad pDf way (.list l) (.list m) (i : Nat) l0 = zbj way (.list l) (.list m) (((l.length : Nat) : Int) - 1) l0 := by
   intro l0
   rw [z6o]
   simp only [z3i, V.asList]
   rw [hmin, decide_eq_false (by omega), cond_false, z4n (by omega) (by omega)]
  rcases Nat.le_total m.length l.length with hge | hle
  ·have him : i = m.length := by omega
   subst him
   obtain ⟨es, r, h1, h2, h3, h4, h5⟩ := l2 (way := way) hcm hm hl hw hD hD2 hge (l.drop m.length) rs hr (by rwa [List.take_of_length_le (Nat.le_refl _)] at ho) (fun y hy => List.mem_of_mem_drop hy) (by rw [List.length_drop]; omega)
   refine ⟨es, r, fun l0 hl0 => ?_, h2, h3, h4, ?_⟩
   ·rw [hstep, show ((l.length : Nat) : Int) - 1 = ((m.length + (l.drop m.length).length : Nat) : Int) - 1 by rw [List.length_drop]; omega]
    exact h1 l0 hl0
   ·have := zt2 (l.drop m.length); have := zas (m.drop m.length); omega
  ·have him : i = l.length := by omega
   subst him
   obtain ⟨es, r, h1, h2, h3, h4, h5⟩ := l3 (way := way) (l := l) hcm hm hw hD (m.length - l.length) l.length rs (by omega) hr ho
   refine ⟨es, r, fun l0 hl0 => ?_, by rw [List.drop_of_length_le (Nat.le_refl _), List.append_nil]; exact h2, h3, h4, by have := zas (l.drop l.length); omega⟩
   rw [hstep, z8q]
   simp only [z4a, V.asList]
   rw [decide_eq_false (by omega), cond_false]
   exact h1 l0 hl0
 | k + 1, i, rs, h, hr, ho => by
  obtain ⟨x, hx, hdx⟩ := dropc (by omega : i < l.length)
  obtain ⟨y, hy, hdy⟩ := dropc (by omega : i < m.length)
  have hxm := List.mem_of_getElem? hx
  have hym := List.mem_of_getElem? hy
  obtain ⟨es1, r1, d⟩ := ih x y (way ++ [stA i]) hxm hym (by simp)
  obtain ⟨es, r, h1, h2, h3, h4, h5⟩ := lists hcl hcm hl hm hw hD hD2 ih k (i + 1) (rs ++ [r1]) (by omega) (by simp [hr]) (by rw [← ze8 hy]; exact zgl ho d.eq)
  have hmin : (if ((m.length : Nat) : Int) < ((l.length : Nat) : Int) then ((m.length : Nat) : Int) else ((l.length : Nat) : Int)) = ((min l.length m.length : Nat) : Int) := by split <;> omega
  refine ⟨es1.map (preE (stA i)) ++ es, r, fun l0 hl0 => ?_, ?_, h3, fun e he => ?_, ?_⟩
  ·rw [List.length_append, List.length_map] at hl0
   rw [z6o]
   simp only [z3i, V.asList]
   rw [hmin, decide_eq_true (by omega), cond_true, show (S_api_Step.mk [] true ((i : Nat) : Int)) = stA i from rfl, zkx (by omega), Option.bind_some, z38, hx, Option.bind_some, z38, hy, Option.bind_some, d.run l0 (by omega), Option.bind_some, z4n (by omega) (by omega), show ((i : Nat) : Int) + 1 = ((i + 1 : Nat) : Int) from by omega, h1 _ (by rw [List.length_append, List.length_map]; omega), List.map_append, zr6, List.append_assoc]
  ·have hlen : (rs ++ l.drop i).length = l.length := by rw [List.length_append, List.length_drop]; omega
   have hat : (rs ++ l.drop i)[i]? = some x := by rw [List.getElem?_append_right (by omega), hr, Nat.sub_self, hdx]; rfl
   have hs : z0u (.list (rs ++ l.drop i)) (stA i) = (x, 0) := by rw [zb2, hat]
   have := zhj (zv0 (by omega)) hs (fun e he => (d.ok e he).ne) d.ap
   have hwf : withF (.list (rs ++ l.drop i)) (stA i) r1 = .list ((rs ++ [r1]) ++ l.drop (i + 1)) := by
    simp only [withF]
    rw [if_neg (by simp only [stA, hlen]; omega)]
    simp only [stA, Int.toNat_natCast]
    rw [hdx, List.set_append_right _ _ (by omega), hr, Nat.sub_self, List.set_cons_zero, List.append_assoc]; rfl
   rw [hwf] at this
   rw [zhk this]; exact h2
  ·rcases List.mem_append.1 he with he | he
   ·obtain ⟨e', he', rfl⟩ := List.mem_map.1 he
    refine ((d.ok e' he').pre (s := stA i) (by rw [zf4, if_pos (by omega)])).mono ?_
    have := hD2 x hxm; have := hD y hym
    unfold mx; split <;> omega
   ·exact h4 e he
  ·rw [List.length_append, List.length_map, hdx, hdy, cntL, cntL]; have := d.n; omega
end
end Go.Proofs.YthidgpcbnieleaaGreatDoor

namespace Go.Proofs.YthidgpcbnieleaaGreatDoor
open Go Aw
set_option linter.unusedVariables false
set_option linter.unusedSimpArgs false
set_option maxRecDepth 8000
structure Sv (v : V) : Prop where
 far : zwq v = 2
 nm : ∀ d, fdF v = some d → ∀ n, n ∈ d.map (·.1) → z2q n = true
 rc : ∀ c k l, v = .record c k l → z2q c = true ∧ 1 ≤ k ∧ k ≤ 1000
inductive So : V → Prop
 | mk {v : V} : Sv v → (∀ x, x ∈ v.parts → So x) → So v
theorem So.v {v : V} (h : So v) : Sv v := by cases h; assumption
theorem So.part {v : V} (h : So v) : ∀ x, x ∈ v.parts → So x := by cases h; assumption
end Go.Proofs.YthidgpcbnieleaaGreatDoor

namespace Go.Proofs.YthidgpcbnieleaaGreatDoor
open Go Aw
set_option linter.unusedVariables false
set_option linter.unusedSimpArgs false
set_option maxRecDepth 8000
abbrev lvA : Str := [97]
abbrev lvS : Str := [97, 91, 49, 93]
abbrev lvL : V := .list [.int 1, .int 2]
abbrev lvM : V := .list [.int 1, .bool true]
abbrev lvD : V := .dict [(lvA, lvL)]
abbrev lvY : V := .dict [(lvA, lvM)]
theorem zsf (i : Int) : Near (.int i) := .mk rfl (fun y hy => by cases hy)
theorem zz6 (b : Bool) : Near (.bool b) := .mk rfl (fun y hy => by cases hy)
theorem zz7 {a b : V} (ha : Near a) (hb : Near b) : Near (.list [a, b]) := .mk rfl (fun y hy => by
 rcases List.mem_cons.1 (show y ∈ [a, b] from hy) with rfl | hy
 ·exact ha
 ·rw [List.mem_singleton] at hy; subst hy; exact hb)
theorem zz8 {a : V} (ha : Near a) : Near (.dict [(lvA, a)]) := .mk (show z30 [lvA] = 0 by decide) (fun y hy => by
 have : y ∈ [a] := hy
 rw [List.mem_singleton] at this; subst this; exact ha)
theorem Z1x (i : Int) : Can (.int i) := ⟨zsf i, by simp [cnt], by simp [dpt]⟩
theorem zzb (b : Bool) : Can (.bool b) := ⟨zz6 b, by simp [cnt], by simp [dpt]⟩
theorem zpf : Can lvD := ⟨zz8 (zz7 (zsf 1) (zsf 2)), by simp [cnt, zt3, cntL], by simp only [dpt, zt0, dptL]; omega⟩
theorem zwa : Can lvY := ⟨zz8 (zz7 (zsf 1) (zz6 true)), by simp [cnt, zt3, cntL], by simp only [dpt, zt0, dptL]; omega⟩
theorem zzc : Can (.dict []) := ⟨.mk (show z30 [] = 0 by decide) (fun y hy => by cases hy), by simp [cnt, zt3], by simp only [dpt, zt0]; omega⟩
theorem Z1t : zeh lvS 0 false = some ((stN lvA), 1, 0, 0) := by
 have e1 : zbr lvS 0 nmS = some [97] := (zhr (n := 0) (by simp) (by simp)).trans (by decide)
 have h : zeh lvS 0 false = Option.bind (zbr lvS 0 nmS) fun x16 => bif (x16 == ([] : Str)) then z8l 0 x16 ((0 : Int) == ((lvS.length : Nat) : Int)) else z8l 0 x16 false := rfl
 rw [h, e1, Option.bind_some]
 have h2 : (bif (([97] : Str) == ([] : Str)) then z8l 0 [97] ((0 : Int) == ((lvS.length : Nat) : Int)) else z8l 0 [97] false) = Option.bind (zi4 [97]) fun x20 => bif (!x20) then some ((S_api_Step.mk [] false 0), 0, 0, 8) else some ((S_api_Step.mk [97] false 0), (IntKind.i64.wrap (0 + (((([97] : Str)).length : Nat) : Int))), 0, 0) := rfl
 rw [h2, zh2, show z2q [97] = true from by decide]; rfl
theorem Z1s : zeh lvS 1 true = some ((stA 1), 4, 0, 0) := by
  have e1 : zbr lvS 2 ([48, 49, 50, 51, 52, 53, 54, 55, 56, 57] : Str) = some [49] := (zhr (n := 2) (by simp) (by simp)).trans (by decide)
  have h : zeh lvS 1 true = Option.bind (zbr lvS 2 ([48, 49, 50, 51, 52, 53, 54, 55, 56, 57] : Str)) fun x3 =>
    bif ((IntKind.i64.wrap (2 + (((x3).length : Nat) : Int))) == (((lvS).length : Nat) : Int)) then (
     some ((S_api_Step.mk [] false 0), 0, (IntKind.i64.wrap (2 + (((x3).length : Nat) : Int))), 4)
    ) else (
     bif (x3 == ([] : Str)) then (
      z6n 1 x3 true
     ) else (
      Option.bind ((x3)[0]?) fun x10 =>
      bif (((x10).toNat : Int) == (((48 : UInt8)).toNat : Int)) then (
       bif (!(x3 == ([48] : Str))) then (
        z6n 1 x3 true
       ) else (
        Option.bind (z5s lvS (IntKind.i64.wrap (2 + (((x3).length : Nat) : Int)))) fun x13 =>
        z6n 1 x3 (((x13).toNat : Int) != (((93 : UInt8)).toNat : Int))
       )
      ) else (
       Option.bind (z5s lvS (IntKind.i64.wrap (2 + (((x3).length : Nat) : Int)))) fun x14 =>
       z6n 1 x3 (((x14).toNat : Int) != (((93 : UInt8)).toNat : Int))
      )
     )
    ) := rfl
  rw [h, e1, Option.bind_some]
  rfl
theorem zse : zof lvS = some ([stN lvA, stA 1], 0, 0) := by
 unfold zof
 have h0 : ∀ g, z4x lvS g [] 0 = Option.bind (zeh lvS 0 false) fun x7 => bif (x7.2.2.2 != 0) then some ([], x7.2.2.1, x7.2.2.2) else Option.bind (zal 32 [] [x7.1]) fun x10 => g x10 x7.2.1 := fun _ => rfl
 have h1 : ∀ g, z4x lvS g [stN lvA] 1 = Option.bind (zeh lvS 1 true) fun x7 => bif (x7.2.2.2 != 0) then some ([], x7.2.2.1, x7.2.2.2) else Option.bind (zal 32 [stN lvA] [x7.1]) fun x10 => g x10 x7.2.1 := fun _ => rfl
 have h2 : ∀ g, z4x lvS g [stN lvA, stA 1] 4 = some ([stN lvA, stA 1], 0, 0) := fun _ => rfl
 have a0 : zal 32 [] [stN lvA] = some [stN lvA] := zts (by omega) (by simp)
 have a1 : zal 32 [stN lvA] [stA 1] = some [stN lvA, stA 1] := zts (by omega) (by simp)
 rw [zbg, h0, Z1t, Option.bind_some]
 simp only [show ((0 : Int) != 0) = false from rfl, cond_false]
 rw [a0, Option.bind_some, zbg, h1, Z1s, Option.bind_some]
 simp only [show ((0 : Int) != 0) = false from rfl, cond_false]
 rw [a1, Option.bind_some, zbg, h2]
theorem zvo {N : Nat} {v x : V} {w : List Stp} {room : Bool} (hv : Wd N v) (hN : N ≤ 268435456) (hw : ∀ s, s ∈ w → z4m s = 0) (hne : w ≠ []) (hl : w.length ≤ 268435456) : zlu v w room x = some (chF room (fun p s => withF p s x) v w) :=
 zx8 (f := fun p s => zll p s x) (F := fun v w room => zlu v w room x) hN (fun v w => by rw [Z32]; rfl) (fun v s hv hs hr => by
  show zll v s x = _
  unfold zll
  rw [zms hv hN hs (znb hr)]; rfl) w v hv hw hne hl
noncomputable def zag (v : V) (w : List Stp) (x : V) : V × Int :=
 if (z1c v).2 ≠ 0 then (.nil, (z1c v).2) else if z2p w ≠ 0 then (.nil, z2p w) else if (z1c x).2 ≠ 0 then (.nil, (z1c x).2) else
 if w = [] then (x, 0) else if (chF true (fun p s => withF p s x) v w).2 ≠ 0 then (.nil, (chF true (fun p s => withF p s x) v w).2) else
 if (z1c (chF true (fun p s => withF p s x) v w).1).2 ≠ 0 then (.nil, (z1c (chF true (fun p s => withF p s x) v w).1).2) else ((chF true (fun p s => withF p s x) v w).1, 0)
theorem zx5 (x : V) : z9w x = some (if (z1c x).2 ≠ 0 then (.nil, (z1c x).2) else (x, 0)) := by
 by_cases h : (z1c x).2 = 0
 ·rw [if_neg (by simp [h]), z9b (z3m h)]
 ·rw [if_pos h, zt1 (fun hc => h (by rw [z25 hc]))]
theorem zdz (v : V) (w : List Stp) (x : V) : zbq v w x = some (zag v w x) := by
 unfold zbq zag
 rw [zf8, Option.bind_some]
 by_cases h1 : (z1c v).2 = 0
 ·rw [if_neg (by simp [h1]), if_neg (by simp [h1])]
  by_cases h2 : z2p w = 0
  ·rw [show (z2p w != 0) = false from by simp [h2], cond_false, if_neg (by simp [h2]), zjl, Option.bind_some]
   by_cases h3 : (z1c x).2 = 0
   ·rw [show ((z1c x).2 != 0) = false from by simp [h3], cond_false, if_neg (by simp [h3])]
    by_cases h4 : w = []
    ·rw [if_pos h4, h4, show (((([] : List Stp).length : Nat) : Int) == 0) = true from rfl, cond_true, z9b (z3m h3)]; rfl
    ·have hl : w.length ≠ 0 := fun h => h4 (List.eq_nil_of_length_eq_zero h)
     have h5 : (((w.length : Nat) : Int) == 0) = false := by simpa using h4
     obtain ⟨v1, v2⟩ := z3h h2
     rw [if_neg h4, h5, cond_false, zvo (zdv (z3m h1)) (by omega) v2 h4 (by omega), Option.bind_some]
     generalize chF true (fun p s => withF p s x) v w = c
     by_cases h6 : c.2 = 0
     ·rw [show (c.2 != 0) = false from by simp [h6], cond_false, if_neg (by simp [h6]), zx5, Option.bind_some]
     ·rw [zm6 h6, cond_true, if_pos h6]
   ·rw [zm6 h3, cond_true, if_pos h3]
  ·rw [zm6 h2, cond_true, if_pos h2]
 ·rw [if_pos h1, zm6 h1, cond_true, if_pos h1]
theorem zz4 : zbq lvD [stN lvA, stA 1] (.bool true) = some (lvY, 0) := by
 have hv : ∀ s, s ∈ [stN lvA, stA 1] → z4m s = 0 := by
  intro s hs
  rcases List.mem_cons.1 hs with rfl | hs
  ·decide
  ·rw [List.mem_singleton] at hs; subst hs; decide
 have hc : chF true (fun p s => withF p s (.bool true)) lvD [stN lvA, stA 1] = (lvY, 0) := rfl
 rw [zdz, zag, z25 zpf, if_neg (by simp), if_neg (show ¬ z2p [stN lvA, stA 1] ≠ 0 by decide), z25 (zzb true), if_neg (by simp), if_neg (by simp), hc, if_neg (by simp), z25 zwa, if_neg (by simp)]
theorem zza : zoj lvD [stN lvA] = some (.dict [], 0) := by
 have hw : ∀ s, s ∈ [stN lvA] → z4m s = 0 := by
  intro s hs
  rw [List.mem_singleton] at hs; subst hs; decide
 have hc : chF false z5t lvD [stN lvA] = (.dict [], 0) := rfl
 unfold zoj
 rw [zf8, z25 zpf, if_neg (by simp), show z2p [stN lvA] = 0 from by decide, Option.bind_some, zmi (zdv zpf) (by omega) hw (by simp) (by simp), hc]
 show (Option.bind (z9w (.dict [])) fun x6 => some (x6.1, x6.2)) = _
 rw [z9b zzc]; rfl
theorem zz9 : zcm lvD [stN lvA, stA 1] = some (.int 2, 0) := by
 rw [zkt, ztu zpf (x := .int 2) (fun s hs => ?_) rfl]
 rcases List.mem_cons.1 hs with rfl | hs
 ·exact .inl ⟨_, rfl⟩
 ·rw [List.mem_singleton] at hs; subst hs; exact .inr ⟨_, rfl⟩
theorem Z1r : zai (.int 2) (.bool true) = false := by
 cases h : zai (.int 2) (.bool true) with
 | false => rfl
 | true => have := zwf (zec h).2.2; cases this
theorem zz5 {a b c d : V} (h : z4b (.list [a, b]) (.list [c, d]) = 0) : z4b b d = 0 := by
 have h1 : z5d [a, b] [c, d] = 0 := by simpa only [z4b] using h
 exact (ordL0 h1).2 1 b d rfl rfl
theorem Z1q : zai lvL lvM = false := by
 cases h : zai lvL lvM with
 | false => rfl
 | true => have := zwf (zz5 (zec h).2.2); cases this
theorem Z1p : zai lvD lvY = false := by
 cases h : zai lvD lvY with
 | false => rfl
 | true =>
  have h0 := (zec h).2.2
  have h1 : zei [(lvA, lvL)] [(lvA, lvM)] = 0 := by simpa only [z4b] using h0
  have := zwf (zz5 ((ordL0 (ordD1 h1).2).2 0 lvL lvM rfl rfl)); cases this
theorem Z1w : zaj [stN lvA, stA 1] (.int 2) (.bool true) [] = some [S_api_Edit.mk 1 [stN lvA, stA 1] (.bool true)] := by
 rw [zsy, zct, z8m, Option.bind_some, Z1r]
 show Option.bind (zcp 1 [stN lvA, stA 1] (.bool true) []) (fun x25 => some x25) = _
 rw [zhp (by simp) (zzb true) (by simp)]; rfl
theorem Z1v : zaj [stN lvA, stA 0] (.int 1) (.int 1) [] = some [] := by
 rw [zsy, zct, z8m, Option.bind_some, z5h (Z1x 1)]; rfl
theorem Z1u : zaj [stN lvA] lvL lvM [] = some [S_api_Edit.mk 1 [stN lvA, stA 1] (.bool true)] := by
 rw [zsy, zct, z8m, Option.bind_some, Z1q]
 show zad zaj [stN lvA] lvL lvM 0 [] = _
 have h0 : ∀ R g es, z3i R [stN lvA] lvL lvM g 0 es = Option.bind (z9x (stA 0) [stN lvA]) fun x8 => Option.bind (R x8 (.int 1) (.int 1) es) fun x11 => g 1 x11 := fun _ _ _ => rfl
 have h1 : ∀ R g es, z3i R [stN lvA] lvL lvM g 1 es = Option.bind (z9x (stA 1) [stN lvA]) fun x8 => Option.bind (R x8 (.int 2) (.bool true) es) fun x11 => g 2 x11 := fun _ _ _ => rfl
 have h2 : ∀ R g es, z3i R [stN lvA] lvL lvM g 2 es = zbj [stN lvA] lvL lvM 1 es := fun _ _ _ => rfl
 have h3 : ∀ g es, z4a [stN lvA] lvL lvM g 1 es = zbi [stN lvA] lvM 2 es := fun _ _ => rfl
 have h4 : ∀ g es, z49 [stN lvA] lvM g 2 es = some es := fun _ _ => rfl
 rw [z6o, h0, zkx (by simp), Option.bind_some, show [stN lvA] ++ [stA 0] = [stN lvA, stA 0] from rfl, Z1v, Option.bind_some]
 rw [z6o, h1, zkx (by simp), Option.bind_some, show [stN lvA] ++ [stA 1] = [stN lvA, stA 1] from rfl, Z1w, Option.bind_some]
 rw [z6o, h2, z8q, h3, z8p, h4]
theorem zw9 : zoe lvD lvY = some ([S_api_Edit.mk 1 [stN lvA, stA 1] (.bool true)], 0) := by
 unfold zoe
 rw [zjl, Option.bind_some, z25 zpf, zjl, Option.bind_some, z25 zwa]
 show Option.bind (zaj [] lvD lvY []) (fun x5 => some (x5, 0)) = _
 have hd : zaj [] lvD lvY [] = some [S_api_Edit.mk 1 [stN lvA, stA 1] (.bool true)] := by
  rw [zsy, zct, z8m, Option.bind_some, Z1p]
  show zdc zaj [] ([(lvA, lvL)], [(lvA, lvM)], true) 0 0 [] = _
  have h0 : ∀ R g es, z55 R [] ([(lvA, lvL)], [(lvA, lvM)], true) g 0 0 es = Option.bind (z9x (stN lvA) []) fun x43 => Option.bind (R x43 lvL lvM es) fun x46 => g 1 1 x46 := fun _ _ _ => rfl
  have h1 : ∀ R g es, z55 R [] ([(lvA, lvL)], [(lvA, lvM)], true) g 1 1 es = some es := fun _ _ _ => rfl
  rw [zg7, h0, zkx (by simp), Option.bind_some, show ([] : List Stp) ++ [stN lvA] = [stN lvA] from rfl, Z1u, Option.bind_some, zg7, h1]
 rw [hd]; rfl
theorem Z1y : zoi = some true := by
 unfold zoi
 have hc : zhe [stN lvA, stA 1] 0 1 = some [stN lvA] := rfl
 rw [zse, Option.bind_some]
 show Option.bind (zcm lvD [stN lvA, stA 1]) _ = _
 rw [zz9, Option.bind_some]
 simp only
 rw [zz4, Option.bind_some]
 simp only
 rw [zw9, Option.bind_some]
 simp only
 rw [hc, Option.bind_some, zza, Option.bind_some]
 simp only
 rw [z8m, z8m, z5h zwa, z5h zzc]; rfl
end Go.Proofs.YthidgpcbnieleaaGreatDoor

namespace Go.Proofs.YthidgpcbnieleaaGreatDoor
open Go Aw
set_option linter.unusedVariables false
set_option linter.unusedSimpArgs false
set_option maxRecDepth 8000
end Go.Proofs.YthidgpcbnieleaaGreatDoor

namespace Go.Proofs.YthidgpcbnieleaaGreatDoor
open Go Aw
set_option linter.unusedVariables false
set_option linter.unusedSimpArgs false
set_option maxRecDepth 8000
def eqB (s t : Stp) : Bool := s.f_Name == t.f_Name && (s.f_At == t.f_At && s.f_Index == t.f_Index)
theorem zss {s t : Stp} (h : s = t) : eqB s t = true := by subst h; simp [eqB]
theorem zws {s t : Stp} (h : ¬ s = t) : eqB s t = false := by
 cases hh : eqB s t with
 | false => rfl
 | true =>
  simp only [eqB, Bool.and_eq_true, beq_iff_eq] at hh
  obtain ⟨a, b, c⟩ := s
  obtain ⟨a', b', c'⟩ := t
  simp only at hh
  exact absurd (by rw [hh.1, hh.2.1, hh.2.2]) h
def zmp : List Stp → List Stp → Bool
 | [], _ => true
 | _ :: _, [] => true
 | s :: r, t :: u => bif eqB s t then zmp r u else false
theorem zkn (a b : List Stp) (hl : a.length ≤ 1048576) : ∀ k i, k + i = a.length → zg0 a b (i : Int) = some (zmp (a.drop i) (b.drop i))
 | 0, i, h => by
  rw [zfz]
  simp only [z5y, zc2 (by omega : ¬ i < a.length), cond_false, z8n]
  rw [List.drop_of_length_le (by omega)]; rfl
 | k + 1, i, h => by
  obtain ⟨x, hx, hd⟩ := dropc (by omega : i < a.length)
  rw [zfz]
  simp only [z5y, zci (by omega : i < a.length), cond_true, z8n, z38]
  by_cases hb : i < b.length
  ·obtain ⟨y, hy, he⟩ := dropc hb
   rw [zci hb, cond_true, hx, Option.bind_some, hy, Option.bind_some, hd, he, zmp, show (x.f_Name == y.f_Name && (x.f_At == y.f_At && x.f_Index == y.f_Index)) = eqB x y from rfl]
   by_cases h2 : x = y
   ·rw [zss h2, Bool.not_true, cond_false, cond_true, z4n (by omega) (by omega)]
    exact zkn a b hl k (i + 1) (by omega)
   ·rw [zws h2]; rfl
  ·rw [zc2 hb, cond_false, hd, List.drop_of_length_le (by omega : b.length ≤ i)]; rfl
theorem zqi {a b : List Stp} (hl : a.length ≤ 1048576) : zra a b = some (zmp a b) := by
 have := zkn a b hl a.length 0 (by omega)
 rw [List.drop_zero, List.drop_zero] at this; exact this
theorem zko : ∀ a b : List Stp, zmp a b = zmp b a
 | [], [] => rfl
 | [], _ :: _ => rfl
 | _ :: _, [] => rfl
 | s :: r, t :: u => by
  rw [zmp, zmp, zko r u]
  by_cases h : s = t
  ·rw [zss h, zss h.symm]
  ·rw [zws h, zws (fun e => h e.symm)]
def z7u : V → List Stp → V → V
 | _, [], a => a
 | v, s :: r, a => withF v s (z7u (z0u v s).1 r a)
theorem z72 {v y : V} {s : Stp} {r : List Stp} (h : z4h v (s :: r) = (y, 0)) : z0u v s = ((z0u v s).1, 0) ∧ z4h (z0u v s).1 r = (y, 0) := by
 rw [z4h] at h
 by_cases he : (z0u v s).2 = 0
 ·rw [if_neg (by simp [he])] at h; exact ⟨Prod.ext rfl he, h⟩
 ·rw [if_pos he] at h; injection h with h1 h2; exact absurd h2 he
theorem zey {v : V} {s : Stp} {r : List Stp} {c : V} (h : z0u v s = (c, 0)) : z4h v (s :: r) = z4h c r := by
 rw [z4h, h, if_neg (by simp)]
theorem zuq {x : V} : ∀ {w : List Stp} {v y : V}, w ≠ [] → z4h v w = (y, 0) → chF true (fun p s => withF p s x) v w = (z7u v w x, 0)
 | [], v, y, h, _ => absurd rfl h
 | [s], v, y, _, h => by
  obtain ⟨h1, _⟩ := z72 h
  have e : (z0u v s).2 = 0 := by rw [h1]
  rw [chF, if_pos (by simp [z41, e])]; rfl
 | s :: t :: r, v, y, _, h => by
  obtain ⟨h1, h2⟩ := z72 h
  have ih := zuq (x := x) (by simp) h2
  rw [chF, if_neg (by rw [h1]; simp), ih, if_neg (by simp)]; rfl
theorem zja {N : Nat} : ∀ {w : List Stp} {v y : V}, Wd N v → z4h v w = (y, 0) → z7u v w y = v
 | [], v, y, hv, h => by injection h with h; exact h.symm
 | s :: r, v, y, hv, h => by
  obtain ⟨h1, h2⟩ := z72 h
  rw [z7u, zja (hv.part _ (z48 h1)) h2]
  exact zfb hv.v h1
theorem zmr {v x : V} {s : Stp} (hs : z4m s = 0) (h : z41 true v s = true) : z0u (withF v s x) s = (x, 0) := by
 have flds : ∀ d, fdF v = some d → z0u (withF v s x) s = (x, 0) := by
  intro d hd
  cases ha : s.f_At with
  | true =>
   have hz := znb h
   rw [zr0, z3w hd, if_pos ha] at hz
   rcases hz with hz | ⟨_, hz | hz⟩
   ·cases hz
   ·cases hz
   ·have := hz.1; cases this
  | false => rw [z3g hd, z3w (zb3 hd), if_neg (by rw [ha]; simp), zii, if_pos rfl]
 cases v with
 | list l =>
  obtain ⟨h1, h2, h3⟩ := zc4 hs (znb h)
  have ha : s.f_At = true := by rw [h1]; rfl
  simp only [withF]
  by_cases he : s.f_Index = ((l.length : Nat) : Int)
  ·rw [if_pos he]; simp only [z0u]
   rw [if_pos ha, show s.f_Index.toNat = l.length by omega]; simp
  ·rw [if_neg he]; simp only [z0u]
   rw [if_pos ha, List.getElem?_set_self (by omega)]
 | dict d => exact flds d rfl
 | record c k d => exact flds d rfl
 | _ => simp [z41, z0u, fdF] at h
theorem zur {x : V} : ∀ {w : List Stp} {v m : V}, (∀ s, s ∈ w → z4m s = 0) → w ≠ [] → chF true (fun p s => withF p s x) v w = (m, 0) → z4h m w = (x, 0)
 | [], v, m, _, h, _ => absurd rfl h
 | [s], v, m, hw, _, h => by
  rw [chF] at h
  split at h
  ·rename_i hr; injection h with h; subst h
   rw [zey (zmr (hw s (by simp)) hr)]; rfl
  ·rename_i hr; injection h with h1 h2; exact absurd (by simp [z41, h2]) hr
 | s :: t :: r, v, m, hw, _, h => by
  rw [chF] at h
  by_cases he : (z0u v s).2 = 0
  ·rw [if_neg (by simp [he])] at h
   by_cases h2 : (chF true (fun p s => withF p s x) (z0u v s).1 (t :: r)).2 = 0
   ·rw [if_neg (by simp [h2])] at h
    injection h with h; subst h
    rw [zey (z8b (N := 0) (Prod.ext rfl he : z0u v s = ((z0u v s).1, 0)))]
    exact zur (fun q hq => hw q (List.mem_cons_of_mem _ hq)) (by simp) (Prod.ext rfl h2)
   ·rw [if_pos h2] at h; injection h with _ h; exact absurd h h2
  ·rw [if_pos he] at h; injection h with _ h; exact absurd h he
theorem zcc {f : Str × V} {r : Fds} {n : Str} {v : V} (hs : ((f :: r).map (·.1)).Pairwise zlt) (hn : ¬ f.1 = n) (h : fget (f :: r) n = some v) : fget r n = some v ∧ Op.bytesLess f.1 n = true := by
 rw [z2l, if_neg hn] at h
 exact ⟨h, bl_lt.2 ((List.pairwise_cons.1 hs).1 n (List.mem_map.2 ⟨_, z98 h, rfl⟩))⟩
theorem zh8 {n m : Str} {x y a b : V} (hnm : n ≠ m) : ∀ {d : Fds}, (d.map (·.1)).Pairwise zlt → fget d n = some a → fget d m = some b → z34 (z34 d n x) m y = z34 (z34 d m y) n x
 | [], _, h, _ => by cases h
 | f :: r, hs, h1, h2 => by
  by_cases e1 : f.1 = n
  ·have e2 : ¬ f.1 = m := fun e => hnm (e1.symm.trans e)
   obtain ⟨_, h3⟩ := zcc hs e2 h2
   have h4 : Op.bytesLess n m = true := by rw [← e1]; exact h3
   rw [show z34 (f :: r) n x = (n, x) :: r from if_pos e1, show z34 ((n, x) :: r) m y = (n, x) :: z34 r m y from (if_neg hnm).trans (if_pos h4),
    show z34 (f :: r) m y = f :: z34 r m y from (if_neg e2).trans (if_pos h3), show z34 (f :: z34 r m y) n x = (n, x) :: z34 r m y from if_pos e1]
  ·obtain ⟨g1, l1⟩ := zcc hs e1 h1
   by_cases e2 : f.1 = m
   ·have l2 : Op.bytesLess m n = true := by rw [← e2]; exact l1
    rw [show z34 (f :: r) n x = f :: z34 r n x from (if_neg e1).trans (if_pos l1), show z34 (f :: z34 r n x) m y = (m, y) :: z34 r n x from if_pos e2,
     show z34 (f :: r) m y = (m, y) :: r from if_pos e2, show z34 ((m, y) :: r) n x = (m, y) :: z34 r n x from (if_neg (fun e => hnm e.symm)).trans (if_pos l2)]
   ·obtain ⟨g2, l2⟩ := zcc hs e2 h2
    have ih := zh8 (x := x) (y := y) hnm (List.pairwise_cons.1 hs).2 g1 g2
    rw [show z34 (f :: r) n x = f :: z34 r n x from (if_neg e1).trans (if_pos l1), show z34 (f :: z34 r n x) m y = f :: z34 (z34 r n x) m y from (if_neg e2).trans (if_pos l2),
     show z34 (f :: r) m y = f :: z34 r m y from (if_neg e2).trans (if_pos l2), show z34 (f :: z34 r m y) n x = f :: z34 (z34 r m y) n x from (if_neg e1).trans (if_pos l1), ih]
theorem zap {v c : V} {d : Fds} {s : Stp} (hd : fdF v = some d) (hs : z4m s = 0) (h : z0u v s = (c, 0)) : s = stN s.f_Name ∧ s.f_At = false ∧ fget d s.f_Name = some c := by
 rw [z3w hd] at h
 cases ha : s.f_At with
 | true => rw [if_pos ha] at h; cases h
 | false =>
  rw [if_neg (by rw [ha]; simp)] at h
  refine ⟨(Z0e hs ha).1, rfl, ?_⟩
  cases hg : fget d s.f_Name with
  | none => rw [hg] at h; cases h
  | some z => rw [hg] at h; injection h with h; subst h; rfl
theorem zan {l : List V} {c : V} {s : Stp} (hs : z4m s = 0) (h : z0u (.list l) s = (c, 0)) : s = stA s.f_Index.toNat ∧ s.f_At = true ∧ l[s.f_Index.toNat]? = some c ∧ s.f_Index.toNat < l.length ∧ s.f_Index ≠ ((l.length : Nat) : Int) := by
 simp only [z0u] at h
 cases ha : s.f_At with
 | false => rw [if_neg (by rw [ha]; simp)] at h; cases h
 | true =>
  rw [if_pos ha] at h
  cases hg : l[s.f_Index.toNat]? with
  | none => rw [hg] at h; cases h
  | some z =>
   rw [hg] at h; injection h with h; subst h
   have hlt := (List.getElem?_eq_some_iff.1 hg).1
   exact ⟨(zil hs ha).1, rfl, rfl, hlt, by omega⟩
theorem zcw {v c d x : V} {s t : Stp} (hs : z4m s = 0) (ht : z4m t = 0) (hst : s ≠ t) (h1 : z0u v s = (c, 0)) (h2 : z0u v t = (d, 0)) : z0u (withF v s x) t = (d, 0) := by
 have flds : ∀ f, fdF v = some f → z0u (withF v s x) t = (d, 0) := by
  intro f hf
  obtain ⟨e1, a1, g1⟩ := zap hf hs h1
  obtain ⟨e2, a2, g2⟩ := zap hf ht h2
  rw [z3g hf, z3w (zb3 hf), if_neg (by rw [a2]; simp), zii, if_neg (fun e => hst (by rw [e1, e2, e])), g2]
 cases v with
 | list l =>
  obtain ⟨e1, a1, g1, l1, n1⟩ := zan hs h1
  obtain ⟨e2, a2, g2, l2, n2⟩ := zan ht h2
  simp only [withF]
  rw [if_neg n1]; simp only [z0u]
  rw [if_pos a2, List.getElem?_set_ne (fun e => hst (by rw [e1, e2, e])), g2]
 | dict f => exact flds f rfl
 | record c k f => exact flds f rfl
 | _ => simp [z0u, fdF] at h1
theorem zmt {N : Nat} {v c d x y : V} {s t : Stp} (hv : Wv N v) (hs : z4m s = 0) (ht : z4m t = 0) (hst : s ≠ t) (h1 : z0u v s = (c, 0)) (h2 : z0u v t = (d, 0)) : withF (withF v s x) t y = withF (withF v t y) s x := by
 have flds : ∀ f, fdF v = some f → withF (withF v s x) t y = withF (withF v t y) s x := by
  intro f hf
  obtain ⟨e1, a1, g1⟩ := zap hf hs h1
  obtain ⟨e2, a2, g2⟩ := zap hf ht h2
  rw [z3g hf, z3g (zb3 hf), set_set, z3g hf, z3g (zb3 hf), set_set, zh8 (fun e => hst (by rw [e1, e2, e])) (hv.fd f hf).1 g1 g2]
 cases v with
 | list l =>
  obtain ⟨e1, a1, g1, l1, n1⟩ := zan hs h1
  obtain ⟨e2, a2, g2, l2, n2⟩ := zan ht h2
  simp only [withF]
  rw [if_neg n1, if_neg n2]; simp only [withF]
  rw [List.length_set, List.length_set, if_neg n1, if_neg n2, List.set_comm _ _ (fun e => hst (by rw [e1, e2, e]))]
 | dict f => exact flds f rfl
 | record c k f => exact flds f rfl
 | _ => simp [z0u, fdF] at h1
theorem zb4 {N : Nat} {a b : V} : ∀ {one two : List Stp} {v y1 y2 : V}, Wd N v → (∀ s, s ∈ one → z4m s = 0) → (∀ s, s ∈ two → z4m s = 0) → zmp one two = false → z4h v one = (y1, 0) → z4h v two = (y2, 0) →
 z4h (z7u v one a) two = (y2, 0) ∧ z7u (z7u v one a) two b = z7u (z7u v two b) one a
 | [], two, v, y1, y2, hv, c1, c2, hb, h1, h2 => by cases hb
 | s :: r, [], v, y1, y2, hv, c1, c2, hb, h1, h2 => by cases hb
 | s :: r, t :: u, v, y1, y2, hv, c1, c2, hb, h1, h2 => by
  obtain ⟨s1, g1⟩ := z72 h1
  obtain ⟨s2, g2⟩ := z72 h2
  rw [zmp] at hb
  by_cases he : s = t
  ·subst he
   rw [zss rfl, cond_true] at hb
   have ih := zb4 (a := a) (b := b) (hv.part _ (z48 s1)) (fun q hq => c1 q (List.mem_cons_of_mem _ hq)) (fun q hq => c2 q (List.mem_cons_of_mem _ hq)) hb g1 g2
   have e1 := z8b (N := N) (y := z7u (z0u v s).1 r a) s1
   have e2 := z8b (N := N) (y := z7u (z0u v s).1 u b) s1
   refine ⟨?_, ?_⟩
   ·rw [z7u, zey e1]; exact ih.1
   ·rw [z7u, z7u, z7u, z7u, e1, e2, zaw s1, zaw s1, ih.2]
  ·have d1 := c1 s (by simp)
   have d2 := c2 t (by simp)
   have e1 := zcw (x := z7u (z0u v s).1 r a) d1 d2 he s1 s2
   have e2 := zcw (x := z7u (z0u v t).1 u b) d2 d1 (fun e => he e.symm) s2 s1
   refine ⟨?_, ?_⟩
   ·rw [z7u, zey e1]; exact g2
   ·rw [z7u, z7u, z7u, z7u, e1, e2]; exact zmt hv.v d1 d2 he s1 s2
theorem zj1 {v x m : V} {w : List Stp} (h : zag v w x = (m, 0)) : Can v ∧ z2p w = 0 ∧ Can x ∧ Can m ∧ z4h m w = (x, 0) := by
 unfold zag at h
 by_cases h1 : (z1c v).2 = 0
 ·rw [if_neg (by simp [h1])] at h
  by_cases h2 : z2p w = 0
  ·rw [if_neg (by simp [h2])] at h
   by_cases h3 : (z1c x).2 = 0
   ·rw [if_neg (by simp [h3])] at h
    by_cases h4 : w = []
    ·rw [if_pos h4] at h; injection h with h; subst h; subst h4
     exact ⟨z3m h1, h2, z3m h3, z3m h3, rfl⟩
    ·rw [if_neg h4] at h
     by_cases h5 : (chF true (fun p s => withF p s x) v w).2 = 0
     ·rw [if_neg (by simp [h5])] at h
      by_cases h6 : (z1c (chF true (fun p s => withF p s x) v w).1).2 = 0
      ·rw [if_neg (by simp [h6])] at h; injection h with h; subst h
       exact ⟨z3m h1, h2, z3m h3, z3m h6, zur (z3h h2).2 h4 (Prod.ext rfl h5)⟩
      ·rw [if_pos h6] at h; injection h with _ h; exact absurd h h6
     ·rw [if_pos h5] at h; injection h with _ h; exact absurd h h5
   ·rw [if_pos h3] at h; injection h with _ h; exact absurd h h3
  ·rw [if_pos h2] at h; injection h with _ h; exact absurd h h2
 ·rw [if_pos h1] at h; injection h with _ h; exact absurd h h1
theorem zcg {v x y : V} {w : List Stp} (hv : Can v) (hw : z2p w = 0) (hx : Can x) (hg : z4h v w = (y, 0)) : zag v w x = if (z1c (z7u v w x)).2 ≠ 0 then (.nil, (z1c (z7u v w x)).2) else (z7u v w x, 0) := by
 unfold zag
 rw [z25 hv, if_neg (by simp), if_neg (by simp [hw]), z25 hx, if_neg (by simp)]
 by_cases h4 : w = []
 ·subst h4
  rw [if_pos rfl, z7u, z25 hx, if_neg (by simp)]
 ·rw [if_neg h4, zuq h4 hg, if_neg (by simp)]
theorem zj2 {v y : V} {w : List Stp} (h : zcj v w = (y, 0)) : Can v ∧ z2p w = 0 ∧ z4h v w = (y, 0) := by
 unfold zcj at h
 by_cases h1 : (z1c v).2 = 0
 ·rw [if_neg (by simp [h1])] at h
  by_cases h2 : z2p w = 0
  ·rw [if_neg (by simp [h2])] at h
   by_cases h3 : (z4h v w).2 = 0
   ·rw [if_neg (by simp [h3])] at h; exact ⟨z3m h1, h2, h⟩
   ·rw [if_pos h3] at h; injection h with _ h; exact absurd h h3
  ·rw [if_pos h2] at h; injection h with _ h; exact absurd h h2
 ·rw [if_pos h1] at h; injection h with _ h; exact absurd h h1
theorem zxo {v y : V} {w : List Stp} (hv : Can v) (hw : z2p w = 0) (hg : z4h v w = (y, 0)) : zcj v w = (y, 0) := by
 unfold zcj
 rw [z25 hv, if_neg (by simp), if_neg (by simp [hw]), hg, if_neg (by simp)]
theorem ztv {v : V} {w : List Stp} (h : (zcj v w).2 ≠ 0) : (zcj v w).1 = .nil := by
 unfold zcj at h ⊢
 split
 ·rfl
 ·split
  ·rfl
  ·split
   ·rfl
   ·rename_i h1 h2 h3
    rw [if_neg h1, if_neg h2, if_neg h3] at h; exact absurd h h3
theorem zyv {one two : List Stp} {v a b y1 y2 : V} (hb : zmp one two = false) (h1 : zcj v one = (y1, 0)) (h2 : zcj v two = (y2, 0)) (he : (zag v one a).2 = 0) : zab one two v a b (zag v one a) false = some true := by
 obtain ⟨hv, w1, g1⟩ := zj2 h1
 obtain ⟨_, w2, g2⟩ := zj2 h2
 have he' : zag v one a = ((zag v one a).1, 0) := Prod.ext rfl he
 obtain ⟨_, _, ha, hm, _⟩ := zj1 he'
 unfold zab
 rw [cond_false, zdz, Option.bind_some]
 by_cases hi : (zag v two b).2 = 0
 ·have hi' : zag v two b = ((zag v two b).1, 0) := Prod.ext rfl hi
  obtain ⟨_, _, hbb, hp, _⟩ := zj1 hi'
  rw [show ((zag v two b).2 != 0) = false from by simp [hi], cond_false, zdz, Option.bind_some, zdz, Option.bind_some]
  have k1 : (zag v one a).1 = z7u v one a := by
   rw [zcg hv w1 ha g1] at he ⊢
   split at he
   ·rename_i h; exact absurd he h
   ·rename_i h; rw [if_neg h]
  have k2 : (zag v two b).1 = z7u v two b := by
   rw [zcg hv w2 hbb g2] at hi ⊢
   split at hi
   ·rename_i h; exact absurd hi h
   ·rename_i h; rw [if_neg h]
  rw [k1] at hm ⊢
  rw [k2] at hp ⊢
  have s1 := (z3h w1).2
  have s2 := (z3h w2).2
  obtain ⟨q1, q2⟩ := zb4 (a := a) (b := b) (zdv hv) s1 s2 hb g1 g2
  obtain ⟨q3, _⟩ := zb4 (a := b) (b := a) (zdv hv) s2 s1 (by rw [zko]; exact hb) g2 g1
  rw [zcg hm w2 hbb q1, zcg hp w1 ha q3, q2]
  unfold zd6
  by_cases hc : (z1c (z7u (z7u v two b) one a)).2 = 0
  ·rw [if_neg (by simp [hc])]
   simp only
   rw [show ((0 : Int) != 0) = false from rfl, cond_false, cond_false, z8m, Option.bind_some, z5h (z3m hc)]
  ·rw [if_pos hc]
   simp only
   rw [zm6 hc, cond_true, cond_true, beq_self_eq_true]
 ·rw [zm6 hi, cond_true]
theorem zu9 (one two : List Stp) (v a b : V) : zbh one two v a b (zag v one a) = some true := by
 unfold zbh
 rw [zkt, Option.bind_some]
 by_cases hf : (zcj v one).2 = 0
 ·have hf' : zcj v one = ((zcj v one).1, 0) := Prod.ext rfl hf
  obtain ⟨hv, w1, g1⟩ := zj2 hf'
  have hp : zag v one (zcj v one).1 = (v, 0) := by
   rw [zcg hv w1 (zez hv g1) g1, zja (zdv hv) g1, z25 hv, if_neg (by simp)]
  rw [show ((zcj v one).2 != 0) = false from by simp [hf], cond_false, zdz, hp, Option.bind_some]
  simp only
  rw [show ((0 : Int) != 0) = false from rfl, cond_false, z8m, z5h hv, Option.bind_some, Bool.not_true]
  unfold zd7
  rw [cond_false, zkt, Option.bind_some]
  by_cases hh : (zcj v two).2 = 0
  ·have hh' : zcj v two = ((zcj v two).1, 0) := Prod.ext rfl hh
   rw [show ((zcj v two).2 != 0) = false from by simp [hh], cond_false, zqi (by have := (z3h w1).1; omega), Option.bind_some]
   cases hb : zmp one two with
   | true => rfl
   | false =>
    rw [cond_false]
    by_cases he : (zag v one a).2 = 0
    ·rw [show ((zag v one a).2 != 0) = false from by simp [he]]
     exact zyv hb hf' hh' he
    ·rw [zm6 he]; rfl
  ·rw [zm6 hh]; rfl
 ·rw [zm6 hf, cond_true, ztv hf]
theorem zeg {p q r s t : Prop} (a0 : Term) (a1 a2 : List S_api_Step) (a3 a4 : Term) (h : bkT a0 + (bkT a3 + bkT a4) ≤ 1048576) (ok0 : p) (ok1 : q) (ok2 : r) (ok3 : s) (ok4 : t) : zrb a0 a1 a2 a3 a4 = some true := by
 unfold zrb
 rw [Z1y, Option.bind_some, Bool.not_true, cond_false, znh a0 (by omega), Option.bind_some, znh a3 (by omega), Option.bind_some, znh a4 (by omega), Option.bind_some, zdz, Option.bind_some]
 generalize bu a0 = v
 generalize bu a3 = a
 generalize bu a4 = b
 by_cases he : (zag v a1 a).2 = 0
 ·have he' : zag v a1 a = ((zag v a1 a).1, 0) := Prod.ext rfl he
  obtain ⟨hv, w1, ha, hm, g⟩ := zj1 he'
  rw [show ((zag v a1 a).2 == 0) = true from by simp [he], cond_true, zkt, zxo hm w1 g, Option.bind_some]
  simp only
  rw [show ((0 : Int) != 0) = false from rfl, cond_false, z8m, z5h ha, Option.bind_some, Bool.not_true]
  unfold zd5
  rw [cond_false]
  exact zu9 a1 a2 v a b
 ·rw [show ((zag v a1 a).2 == 0) = false from by simpa using he, cond_false]
  exact zu9 a1 a2 v a b
end Go.Proofs.YthidgpcbnieleaaGreatDoor

