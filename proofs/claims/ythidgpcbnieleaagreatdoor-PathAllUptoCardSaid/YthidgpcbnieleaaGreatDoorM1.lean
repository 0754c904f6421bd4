/- Plain laws, one behind the other. -/
import Derived.Test.YthidgpcbnieleaaGreatDoorM0
namespace Go.Proofs.YthidgpcbnieleaaGreatDoor
open Go Aw
set_option linter.unusedVariables false
set_option linter.unusedSimpArgs false
set_option maxRecDepth 8000
theorem zy1 {a b : Str} (h1 : a ≠ b) (h2 : ¬ zlt a b) : zlt b a := by
 have e := za0 (z90 a) (z90 b)
 rw [← z92, ← z92] at e
 unfold zlt at h2 ⊢
 have h3 : cmpS a b ≠ 0 := fun h => h1 (by
  unfold cmpS at h
  split at h
  ·cases h
  ·split at h
   ·rename_i h4; simpa using h4
   ·cases h)
 have h4 : cmpS a b = -1 ∨ cmpS a b = 0 ∨ cmpS a b = 1 := by
  unfold cmpS
  split
  ·exact .inl rfl
  ·split
   ·exact .inr (.inl rfl)
   ·exact .inr (.inr rfl)
 omega
theorem zzt (d : Fds) (n m : Str) (y : V) : fget (z8g d n y) m = if n = m then some y else fget d m := by
 induction d with
 | nil => rw [z8g, z2s]
 | cons f r ih =>
  rw [z8g]
  by_cases h1 : f.1 = n
  ·rw [if_pos h1, z2s, z2s, h1]
   by_cases h : n = m
   ·rw [if_pos h, if_pos h]
   ·rw [if_neg h, if_neg h, if_neg h]
  ·rw [if_neg h1]
   by_cases h2 : Op.bytesLess f.1 n = true
   ·rw [if_pos h2, z2s, ih, z2s]
    by_cases h : f.1 = m
    ·rw [if_pos h, if_pos h, if_neg (fun e => h1 (h.trans e.symm))]
    ·rw [if_neg h, if_neg h]
   ·rw [if_neg h2, z2s]
theorem zyx (d : Fds) (n : Str) (x y : V) : z8g (z8g d n x) n y = z8g d n y := by
 induction d with
 | nil => simp [z8g]
 | cons f r ih =>
  rw [z8g, z8g]
  by_cases h1 : f.1 = n
  ·rw [if_pos h1, if_pos h1, z8g, if_pos rfl]
  ·rw [if_neg h1, if_neg h1]
   by_cases h2 : Op.bytesLess f.1 n = true
   ·rw [if_pos h2, if_pos h2, z8g, if_neg h1, if_pos h2, ih]
   ·rw [if_neg h2, if_neg h2, z8g, if_pos rfl]
theorem zyz {d : Fds} {n : Str} {x : V} (hs : (d.map (·.1)).Pairwise zlt) (h : fget d n = some x) : z8g d n x = d := by
 induction d with
 | nil => cases h
 | cons f r ih =>
  rw [List.map_cons, List.pairwise_cons] at hs
  rw [z2s] at h
  rw [z8g]
  by_cases h1 : f.1 = n
  ·rw [if_pos h1] at h ⊢; injection h with h; subst h; subst h1; rfl
  ·rw [if_neg h1] at h
   have := bl_lt.2 (hs.1 n (List.mem_map.2 ⟨_, zbx h, rfl⟩))
   rw [if_neg h1, if_pos this, ih hs.2 h]
theorem zyy {d : Fds} {n m : Str} {x : V} (h : m ∈ (z8g d n x).map (·.1)) : m = n ∨ m ∈ d.map (·.1) := by
 induction d with
 | nil => simp [z8g] at h; exact .inl h
 | cons f r ih =>
  rw [z8g] at h
  by_cases h1 : f.1 = n
  ·rw [if_pos h1, List.map_cons, List.mem_cons] at h
   rcases h with h | h
   ·exact .inl h
   ·exact .inr (by simp only [List.map_cons, List.mem_cons]; exact .inr h)
  ·rw [if_neg h1] at h
   by_cases h2 : Op.bytesLess f.1 n = true
   ·rw [if_pos h2, List.map_cons, List.mem_cons] at h
    rcases h with h | h
    ·exact .inr (by simp only [List.map_cons, List.mem_cons]; exact .inl h)
    ·rcases ih h with h | h
     ·exact .inl h
     ·exact .inr (by simp only [List.map_cons, List.mem_cons]; exact .inr h)
   ·rw [if_neg h2, List.map_cons, List.mem_cons] at h
    rcases h with h | h
    ·exact .inl h
    ·exact .inr h
theorem zyw {d : Fds} {n : Str} {x : V} (hs : (d.map (·.1)).Pairwise zlt) : ((z8g d n x).map (·.1)).Pairwise zlt := by
 induction d with
 | nil => simp [z8g]
 | cons f r ih =>
  rw [List.map_cons, List.pairwise_cons] at hs
  rw [z8g]
  by_cases h1 : f.1 = n
  ·rw [if_pos h1, List.map_cons, List.pairwise_cons, ← h1]; exact hs
  ·rw [if_neg h1]
   by_cases h2 : Op.bytesLess f.1 n = true
   ·rw [if_pos h2, List.map_cons, List.pairwise_cons]
    refine ⟨fun m hm => ?_, ih hs.2⟩
    rcases zyy hm with rfl | hm
    ·exact bl_lt.1 h2
    ·exact hs.1 m hm
   ·have hn := zy1 h1 (fun h => h2 (bl_lt.2 h))
    rw [if_neg h2, List.map_cons, List.pairwise_cons, List.map_cons, List.pairwise_cons]
    refine ⟨fun m hm => ?_, hs⟩
    rcases List.mem_cons.1 hm with rfl | hm
    ·exact hn
    ·exact z91 hn (hs.1 m hm)
theorem zya {v : V} {d e : Fds} {l : List V} (h : fdF v = some d) : z7l v e ≠ .list l := by cases v <;> first | (cases h; simp [z7l]) | cases h
theorem Z1m {v : V} {d e : Fds} (h : fdF v = some d) : z7l v e ≠ .nothing := by cases v <;> first | (cases h; simp [z7l]) | cases h
theorem Wv.mono {N M : Nat} {v : V} (h : Wv N v) (hm : N ≤ M) : Wv M v := ⟨h.nn, fun d hd => ⟨(h.fd d hd).1, Nat.le_trans (h.fd d hd).2 hm⟩, fun l hl => Nat.le_trans (h.li l hl) hm⟩
theorem Wd.mono {N M : Nat} {v : V} (h : Wd N v) (hm : N ≤ M) : Wd M v := by
 induction h with
 | mk h1 _ ih => exact .mk (h1.mono hm) ih
structure EOk (e : Ed) : Prop where
 k : 1 ≤ e.f_What ∧ e.f_What ≤ 3
 w : z3f e.f_Way = 0
 x : e.f_What ≠ 3 → Can e.f_Value
def z7d : V → List Ed → V × Int
 | v, [] => (v, 0)
 | v, e :: r => if (apC v e.f_What e.f_Way e.f_Value).2 ≠ 0 then (.nil, (apC v e.f_What e.f_Way e.f_Value).2) else z7d (apC v e.f_What e.f_Way e.f_Value).1 r
theorem zoy {N : Nat} {v x y : V} {s : Stp} (hx : z1c v s = (x, 0)) : z1c (withF v s y) s = (y, 0) := by
 have flds : ∀ d, fdF v = some d → z1c (withF v s y) s = (y, 0) := by
  intro d hd
  rw [z6q hd] at hx
  cases ha : s.f_At with
  | true => rw [if_pos ha] at hx; cases hx
  | false => rw [z8n hd, z6q (zp7 hd), if_neg (by rw [ha]; simp), zzt, if_pos rfl]
 cases v with
 | list l =>
  simp only [z1c] at hx
  cases ha : s.f_At with
  | false => rw [if_neg (by rw [ha]; simp)] at hx; cases hx
  | true =>
   rw [if_pos ha] at hx
   cases hg : l[s.f_Index.toNat]? with
   | none => rw [hg] at hx; cases hx
   | some z =>
    have hlt := (List.getElem?_eq_some_iff.1 hg).1
    simp only [withF]
    by_cases he : s.f_Index = ((l.length : Nat) : Int)
    ·omega
    ·rw [if_neg he]; simp only [z1c]
     rw [if_pos ha, List.getElem?_set_self hlt]
 | dict d => exact flds d rfl
 | record c k d => exact flds d rfl
 | _ => simp [z1c, fdF] at hx
theorem zgo {N : Nat} {v x : V} {s : Stp} (hv : Wv N v) (hx : z1c v s = (x, 0)) : withF v s x = v := by
 have flds : ∀ d, fdF v = some d → withF v s x = v := by
  intro d hd
  rw [z6q hd] at hx
  cases ha : s.f_At with
  | true => rw [if_pos ha] at hx; cases hx
  | false =>
   rw [if_neg (by rw [ha]; simp)] at hx
   cases hg : fget d s.f_Name with
   | none => rw [hg] at hx; cases hx
   | some z =>
    rw [hg] at hx; injection hx with hx; subst hx
    rw [z8n hd, zyz (hv.fd d hd).1 hg, ztb hd]
 cases v with
 | list l =>
  simp only [z1c] at hx
  cases ha : s.f_At with
  | false => rw [if_neg (by rw [ha]; simp)] at hx; cases hx
  | true =>
   rw [if_pos ha] at hx
   cases hg : l[s.f_Index.toNat]? with
   | none => rw [hg] at hx; cases hx
   | some z =>
    rw [hg] at hx; injection hx with hx; subst hx
    obtain ⟨hlt, he2⟩ := List.getElem?_eq_some_iff.1 hg
    simp only [withF]
    by_cases he : s.f_Index = ((l.length : Nat) : Int)
    ·omega
    ·rw [if_neg he, ← he2, List.set_getElem_self]
 | dict d => exact flds d rfl
 | record c k d => exact flds d rfl
 | _ => simp [z1c, fdF] at hx
theorem zox {v x y z : V} {s : Stp} (hx : z1c v s = (z, 0)) : withF (withF v s x) s y = withF v s y := by
 have flds : ∀ d, fdF v = some d → withF (withF v s x) s y = withF v s y := by
  intro d hd
  rw [z8n hd, z8n (zp7 hd), set_set, zyx, z8n hd]
 cases v with
 | list l =>
  simp only [z1c] at hx
  cases ha : s.f_At with
  | false => rw [if_neg (by rw [ha]; simp)] at hx; cases hx
  | true =>
   rw [if_pos ha] at hx
   cases hg : l[s.f_Index.toNat]? with
   | none => rw [hg] at hx; cases hx
   | some z =>
    have hlt := (List.getElem?_eq_some_iff.1 hg).1
    simp only [withF]
    by_cases he : s.f_Index = ((l.length : Nat) : Int)
    ·omega
    ·rw [if_neg he, if_neg he]; simp only [withF]; rw [List.length_set, if_neg he, List.set_set]
 | dict d => exact flds d rfl
 | record c k d => exact flds d rfl
 | _ => simp [z1c, fdF] at hx
def preE (s : Stp) (e : Ed) : Ed := S_api_Edit.mk e.f_What (s :: e.f_Way) e.f_Value
def ENe (e : Ed) : Prop := e.f_Way ≠ [] ∨ e.f_What = 1
theorem Z0q {v x y : V} {s : Stp} {k : Int} {u : List Stp} (hx : z1c v s = (x, 0)) (h : u ≠ [] ∨ k = 1) {z : V} (ha : apC x k u y = (z, 0)) : apC v k (s :: u) y = (withF v s z, 0) := by
 have he : (z1c v s).2 = 0 := by rw [hx]
 have hs1 : (z1c v s).1 = x := by rw [hx]
 cases u with
 | nil =>
  have hk := h.resolve_left (by simp)
  subst hk
  simp only [apC, List.getLast?_nil, if_true] at ha
  injection ha with ha; subst ha
  simp only [apC, List.getLast?_singleton, if_true, chF]
  rw [if_pos (by simp [z66, he])]
 | cons t r =>
  have hch : ∀ room fin, chF room fin x (t :: r) = (z, 0) → chF room fin v (s :: t :: r) = (withF v s z, 0) := by
   intro room fin hc
   rw [chF, if_neg (by simp [he]), hs1, hc, if_neg (by simp)]
  have hgf : ∀ q : List Stp, z4j v (s :: q) = z4j x q := fun q => by rw [z4j, if_neg (by simp [he]), hs1]
  have hgl : (s :: t :: r).getLast? = (t :: r).getLast? := by simp [List.getLast?_cons_cons]
  have hdl : (s :: t :: r).dropLast = s :: (t :: r).dropLast := rfl
  unfold apC at ha ⊢
  rw [hgl, hdl, hgf]
  split at ha
  ·rename_i hn; exact absurd (List.getLast?_eq_none_iff.1 hn) (by simp)
  ·rename_i q hq
   try simp only [hq]
   split at ha
   ·rename_i h1; rw [if_pos h1]; exact hch _ _ ha
   ·rename_i h1; rw [if_neg h1]
    split at ha
    ·rename_i h2; injection ha with _ ha; exact absurd ha h2
    ·rename_i h2; rw [if_neg h2]
     split at ha
     ·rename_i h3; rw [if_pos h3]
      split at ha
      ·injection ha with _ ha; cases ha
      ·rename_i h4; rw [if_neg h4]; exact hch _ _ ha
     ·rename_i h3; rw [if_neg h3]
      split at ha
      ·rename_i h4; injection ha with _ ha; exact absurd ha h4
      ·rename_i h4; rw [if_neg h4]
       split at ha
       ·injection ha with _ ha; cases ha
       ·rename_i h5; rw [if_neg h5]; exact hch _ _ ha
theorem zj6 : ∀ {es fs : List Ed} {v r : V}, z7d v es = (r, 0) → z7d v (es ++ fs) = z7d r fs
 | [], fs, v, r, h => by rw [z7d] at h; injection h with h; subst h; rfl
 | e :: es, fs, v, r, h => by
  rw [z7d] at h
  rw [List.cons_append, z7d]
  split at h
  ·rename_i h2; injection h with _ h; exact absurd h h2
  ·rename_i h2; rw [if_neg h2]; exact zj6 h
theorem zy8 {N : Nat} {v x y : V} {s : Stp} (hv : Wv N v) (hx : z1c v s = (x, 0)) : Wv N (withF v s y) := by
 have flds : ∀ d, fdF v = some d → Wv N (withF v s y) := by
  intro d hd
  rw [z6q hd] at hx
  cases ha : s.f_At with
  | true => rw [if_pos ha] at hx; cases hx
  | false =>
   rw [if_neg (by rw [ha]; simp)] at hx
   cases hg : fget d s.f_Name with
   | none => rw [hg] at hx; cases hx
   | some z =>
    obtain ⟨h1, h2⟩ := hv.fd d hd
    have hlen : ∀ d : Fds, fget d s.f_Name = some z → (d.map (·.1)).Pairwise zlt → (z8g d s.f_Name y).length = d.length := by
     intro d hg hs
     induction d with
     | nil => cases hg
     | cons f r ih =>
      rw [List.map_cons, List.pairwise_cons] at hs
      rw [z2s] at hg
      rw [z8g]
      by_cases h1 : f.1 = s.f_Name
      ·rw [if_pos h1]; rfl
      ·rw [if_neg h1] at hg ⊢
       have := bl_lt.2 (hs.1 _ (List.mem_map.2 ⟨_, zbx hg, rfl⟩))
       rw [if_pos this, List.length_cons, List.length_cons, ih hg hs.2]
    rw [z8n hd]
    exact ⟨Z1m hd, fun e he => by rw [zp7 hd] at he; injection he with he; subst he; exact ⟨zyw h1, by rw [hlen d hg h1]; exact h2⟩, fun l hl => absurd hl (zya hd)⟩
 cases v with
 | list l =>
  simp only [z1c] at hx
  cases ha : s.f_At with
  | false => rw [if_neg (by rw [ha]; simp)] at hx; cases hx
  | true =>
   rw [if_pos ha] at hx
   cases hg : l[s.f_Index.toNat]? with
   | none => rw [hg] at hx; cases hx
   | some z =>
    have hlt := (List.getElem?_eq_some_iff.1 hg).1
    simp only [withF]
    by_cases he : s.f_Index = ((l.length : Nat) : Int)
    ·omega
    ·rw [if_neg he]
     exact ⟨by simp, fun d hd => (by cases hd), fun l' h => by injection h with h; subst h; rw [List.length_set]; exact hv.li l rfl⟩
 | dict d => exact flds d rfl
 | record c k d => exact flds d rfl
 | _ => simp [z1c, fdF] at hx
theorem zj5 {N : Nat} {s : Stp} : ∀ {es : List Ed} {v x r : V}, Wv N v → z1c v s = (x, 0) → (∀ e, e ∈ es → ENe e) → z7d x es = (r, 0) → z7d v (es.map (preE s)) = (withF v s r, 0)
 | [], v, x, r, hv, hx, _, h => by
  rw [z7d] at h; injection h with h; subst h
  rw [List.map_nil, z7d, zgo hv hx]
 | e :: es, v, x, r, hv, hx, he, h => by
  rw [z7d] at h
  split at h
  ·rename_i h2; injection h with _ h; exact absurd h h2
  ·rename_i h2
   have h2' : (apC x e.f_What e.f_Way e.f_Value).2 = 0 := by simpa using h2
   have hp := Z0q hx (he e (by simp)) (Prod.ext rfl h2' : apC x e.f_What e.f_Way e.f_Value = ((apC x e.f_What e.f_Way e.f_Value).1, 0))
   have hp' : apC v (preE s e).f_What (preE s e).f_Way (preE s e).f_Value = (withF v s (apC x e.f_What e.f_Way e.f_Value).1, 0) := hp
   rw [List.map_cons, z7d, if_neg (by rw [hp']; simp), hp']
   have := zj5 (s := s) (zy8 hv hx) (zoy (N := N) hx) (fun e h => he e (by simp [h])) h
   rw [zox hx] at this
   exact this
end Go.Proofs.YthidgpcbnieleaaGreatDoor

namespace Go.Proofs.YthidgpcbnieleaaGreatDoor
open Go Aw
set_option linter.unusedVariables false
set_option linter.unusedSimpArgs false
set_option maxRecDepth 8000
noncomputable abbrev pDf := zbr
def zqa (w : List Stp) (e : Ed) : Ed := S_api_Edit.mk e.f_What (w ++ e.f_Way) e.f_Value
structure EG (D : Int) (e : Ed) : Prop where
 k : 1 ≤ e.f_What ∧ e.f_What ≤ 3
 w : ∀ s, s ∈ e.f_Way → z61 s = 0
 l : (e.f_Way.length : Int) + 1 ≤ D
 x : e.f_What ≠ 3 → Can e.f_Value
 ne : ENe e
def mx (a b : Int) : Int := if a < b then b else a
structure DP (way : List Stp) (a b : V) (es : List Ed) (r : V) : Prop where
 run : ∀ l : List Ed, l.length + es.length ≤ 134217728 → pDf way a b l = some (l ++ es.map (zqa way))
 ap : z7d a es = (r, 0)
 eq : z4y r b = 0
 ok : ∀ e, e ∈ es → EG (mx (dpt a) (dpt b)) e
 n : (es.length : Int) ≤ cnt a + cnt b
theorem EG.mono {D E : Int} {e : Ed} (h : EG D e) (hd : D ≤ E) : EG E e := ⟨h.k, h.w, by have := h.l; omega, h.x, h.ne⟩
theorem EG.pre {D : Int} {e : Ed} {s : Stp} (h : EG D e) (hs : z61 s = 0) : EG (D + 1) (preE s e) :=
 ⟨h.k, fun t ht => by rcases List.mem_cons.1 (show t ∈ s :: e.f_Way from ht) with rfl | ht; exact hs; exact h.w t ht, by have := h.l; simp only [preE, List.length_cons]; omega, h.x, .inl (by simp [preE])⟩
theorem zts (w : List Stp) (s : Stp) (e : Ed) : zqa w (preE s e) = zqa (w ++ [s]) e := by simp [zqa, preE]
theorem ztt (w : List Stp) (s : Stp) (es : List Ed) : (es.map (preE s)).map (zqa w) = es.map (zqa (w ++ [s])) := by
 rw [List.map_map]; exact List.map_congr_left fun e _ => zts w s e
theorem zn8 {s : Stp} {w : List Stp} (h : w.length ≤ 1000000) : zb2 s w = some (w ++ [s]) := by
 unfold zb2 zdx
 rw [Option.bind_some, zl8 (by omega) (by omega)]; rfl
theorem zcg {v : V} (h : Can v) : zjp v = some v := by unfold zjp; rw [z7b h]; rfl
theorem Z0h : Can .nil := ⟨.mk rfl (fun y hy => by cases hy), by simp [cnt], by simp [dpt]⟩
theorem zjb {k : Int} {w : List Stp} {v : V} {l : List Ed} (hw : w.length ≤ 1000000) (hv : Can v) (hl : l.length ≤ 134217728) : zdw k w v l = some (l ++ [S_api_Edit.mk k w v]) := by
 unfold zdw zfs
 rw [zws (by omega) (by omega), Option.bind_some, Option.bind_some, zcg hv, Option.bind_some, zl8 (by omega) (by omega)]; rfl
theorem zlw {v x : V} (h : x ∈ v.parts) : 1 ≤ cnt x ∧ 1 ≤ dpt x ∧ dpt x + 1 ≤ dpt v := by
 have h1 := zbt h; have h2 := zdp v; have h3 := z2b x
 omega
section
variable {way : List Stp}
theorem zy5 {l : List V} (h : l.length ≤ 4096) : Wv 4096 (.list l) := ⟨by simp, fun d hd => (by cases hd), fun l' h' => (by injection h' with h'; subst h'; exact h)⟩
theorem l3 {l m : List V} (hc : ∀ y, y ∈ m → Can y) (hm : m.length ≤ 4096) (hw : way.length ≤ 900000) {D : Int} (hD : ∀ y, y ∈ m → dpt y + 1 ≤ D) : ∀ k i (rs : List V), i + k = m.length → rs.length = i → z60 rs (m.take i) = 0 →
 ∃ es r, (∀ l0 : List Ed, l0.length + es.length ≤ 134217728 → zcu way (.list m) (i : Nat) l0 = some (l0 ++ es.map (zqa way))) ∧ z7d (.list rs) es = (.list r, 0) ∧ z60 r m = 0 ∧ (∀ e, e ∈ es → EG D e) ∧ (es.length : Int) ≤ cntL (m.drop i)
 | 0, i, rs, h, hr, ho => by
  refine ⟨[], rs, fun l0 hl => ?_, rfl, ?_, fun e he => (by cases he), ?_⟩
  ·rw [z9g]
   simp only [z4w, V.asList, z9z (by omega : ¬ i < m.length), cond_false, List.map_nil, List.append_nil]
  ·rw [List.take_of_length_le (by omega)] at ho; exact ho
  ·exact zc3 _
 | k + 1, i, rs, h, hr, ho => by
  obtain ⟨y, hy, hd⟩ := dropc (by omega : i < m.length)
  have hym := List.mem_of_getElem? hy
  have hcy := hc y hym
  have hlt := (List.getElem?_eq_some_iff.1 hy).1
  have hlen : rs.length = (m.take i).length := by rw [List.length_take]; omega
  obtain ⟨es, r, h1, h2, h3, h4, h5⟩ := l3 (l := l) hc hm hw hD k (i + 1) (rs ++ [y]) (by omega) (by simp [hr]) (by
   rw [← zff hy]
   have app : ∀ (a b : List V), z60 a b = 0 → z60 (a ++ [y]) (b ++ [y]) = 0 := by
    intro a
    induction a with
    | nil => intro b hb; cases b with
     | nil => simp only [List.nil_append]; rw [z60, zlx]; rfl
     | cons _ _ => simp [z60] at hb
    | cons x q ih => intro b hb; cases b with
     | nil => simp [z60] at hb
     | cons z b =>
      rw [z60] at hb
      obtain ⟨g1, g2⟩ := th0 hb
      rw [List.cons_append, List.cons_append, z60, g1, ih b g2]; rfl
   exact app rs _ ho)
  refine ⟨S_api_Edit.mk 2 [stA i] y :: es, r, fun l0 hl => ?_, ?_, h3, fun e he => ?_, ?_⟩
  ·simp only [List.length_cons] at hl
   rw [z9g]
   simp only [z4w, V.asList, zab hlt, cond_true]
   rw [show (S_api_Step.mk [] true ((i : Nat) : Int)) = stA i from rfl, zn8 (by omega), Option.bind_some, z3y, hy, Option.bind_some, zjb (by simp; omega) hcy (by omega), Option.bind_some, z4r (by omega) (by omega), show ((i : Nat) : Int) + 1 = ((i + 1 : Nat) : Int) from by omega, h1 _ (by simp; omega)]
   simp [zqa]
  ·have hn : rs[i]? = none := List.getElem?_eq_none (by omega)
   have hs : z1c (.list rs) (stA i) = (.nil, 42) := by rw [zai, hn]
   have ha : apC (.list rs) 2 [stA i] y = (.list (rs ++ [y]), 0) := by
    simp only [apC, List.getLast?_singleton, List.dropLast_singleton, z4j, hs, chF]
    rw [if_neg (by omega), if_neg (by simp), if_pos trivial, if_neg (by omega), if_pos (by unfold z66; rw [hs]; simp [V.isList, V.asList, stA, hr])]
    simp only [withF]
    rw [if_pos (by simp [stA, hr])]
   rw [z7d]
   simp only
   rw [ha, if_neg (by simp)]; exact h2
  ·rcases List.mem_cons.1 he with rfl | he
   ·exact ⟨(by show (1 : Int) ≤ 2 ∧ (2 : Int) ≤ 3; omega), fun s hs => by rw [List.mem_singleton] at hs; subst hs; rw [zdr, if_pos (by omega)], by have := hD y hym; have := (z2b y).2; simp; omega, fun _ => hcy, .inl (by simp)⟩
   ·exact h4 e he
  ·rw [hd, cntL, List.length_cons]; have := (z2b y).1; omega
theorem l2 {l m : List V} (hc : ∀ y, y ∈ m → Can y) (hm : m.length ≤ 4096) (hll : l.length ≤ 4096) (hw : way.length ≤ 900000) {D : Int} (hD : ∀ y, y ∈ m → dpt y + 1 ≤ D) (hD2 : ∀ y, y ∈ l → dpt y + 1 ≤ D) (hge : m.length ≤ l.length) : ∀ (t rs : List V), rs.length = m.length → z60 rs m = 0 → (∀ y, y ∈ t → y ∈ l) → t.length ≤ l.length - m.length →
 ∃ es r, (∀ l0 : List Ed, l0.length + es.length ≤ 134217728 → zcv way (.list l) (.list m) (((m.length + t.length : Nat) : Int) - 1) l0 = some (l0 ++ es.map (zqa way))) ∧ z7d (.list (rs ++ t)) es = (.list r, 0) ∧ z60 r m = 0 ∧ (∀ e, e ∈ es → EG D e) ∧ (es.length : Int) ≤ t.length := by
 intro t
 induction h : t.length generalizing t with
 | zero =>
  intro rs hr ho _ _
  have ht : t = [] := List.eq_nil_of_length_eq_zero h
  subst ht
  obtain ⟨es, r, h1, h2, h3, h4, h5⟩ := l3 (way := way) (l := l) hc hm hw hD 0 m.length rs (by omega) hr (by rw [List.take_of_length_le (Nat.le_refl _)]; exact ho)
  rw [List.drop_of_length_le (Nat.le_refl _), cntL] at h5
  have he : es = [] := List.eq_nil_of_length_eq_zero (by omega)
  subst he
  refine ⟨[], r, fun l0 hl => ?_, by rw [List.append_nil]; exact h2, h3, h4, by simp⟩
  rw [z9h]
  simp only [z4x, V.asList]
  rw [decide_eq_false (by omega), cond_false]
  have hx : ∀ j : Nat, m.length ≤ j → zcu way (.list m) (j : Nat) l0 = some l0 := by
   intro j hj
   rw [z9g]
   simp only [z4w, V.asList, z9z (by omega : ¬ j < m.length), cond_false]
  rw [hx l.length hge]; simp
 | succ k ih =>
  intro rs hr ho hm2 hk
  have hne : t ≠ [] := by rintro rfl; simp at h
  have hlast : (t.getLast hne) ∈ l := hm2 _ (List.getLast_mem hne)
  obtain ⟨es, r, h1, h2, h3, h4, h5⟩ := ih t.dropLast (by rw [List.length_dropLast]; omega) rs hr ho (fun y hy => hm2 y ((List.dropLast_sublist _).subset hy)) (by omega)
  have hi : m.length + k < l.length := by omega
  refine ⟨S_api_Edit.mk 3 [stA (m.length + k)] .nil :: es, r, fun l0 hl => ?_, ?_, h3, fun e he => ?_, by simp only [List.length_cons]; omega⟩
  ·simp only [List.length_cons] at hl
   rw [z9h]
   simp only [z4x, V.asList]
   have e1 : ((m.length + (k + 1) : Nat) : Int) - 1 = ((m.length + k : Nat) : Int) := by omega
   rw [e1, decide_eq_true (by omega), cond_true, show (S_api_Step.mk [] true ((m.length + k : Nat) : Int)) = stA (m.length + k) from rfl, zn8 (by omega), Option.bind_some, zjb (by simp; omega) Z0h (by omega), Option.bind_some, z4r (by omega) (by omega), h1 _ (by simp; omega)]
   simp [zqa]
  ·have hll2 : (rs ++ t).length = m.length + k + 1 := by rw [List.length_append]; omega
   obtain ⟨z, hz⟩ : ∃ z, (rs ++ t)[m.length + k]? = some z := ⟨_, List.getElem?_eq_getElem (by omega)⟩
   have hs : z1c (.list (rs ++ t)) (stA (m.length + k)) = (z, 0) := by rw [zai, hz]
   have ha : apC (.list (rs ++ t)) 3 [stA (m.length + k)] .nil = (.list (rs ++ t.dropLast), 0) := by
    simp only [apC, List.getLast?_singleton, List.dropLast_singleton, z4j, hs, chF]
    rw [if_neg (by omega), if_neg (by simp), if_neg (by omega), if_neg (by simp), if_neg (by simp only [V.asList, stA, hll2]; omega), if_pos (by simp [z66, hs])]
    simp only [z6o, stA, Int.toNat_natCast]
    rw [List.drop_of_length_le (by omega), List.append_nil, List.take_append, List.take_of_length_le (by omega : rs.length ≤ m.length + k), List.dropLast_eq_take, show m.length + k - rs.length = t.length - 1 by omega]
   rw [z7d]
   simp only
   rw [ha, if_neg (by simp)]; exact h2
  ·rcases List.mem_cons.1 he with rfl | he
   ·exact ⟨(by show (1 : Int) ≤ 3 ∧ (3 : Int) ≤ 3; omega), fun s hs => by rw [List.mem_singleton] at hs; subst hs; rw [zdr, if_pos (by omega)], by have := hD2 _ hlast; have := (z2b (t.getLast hne)).2; simp; omega, fun hx => absurd rfl hx, .inl (by simp)⟩
   ·exact h4 e he
theorem zi7 {x y : V} : ∀ {a b : List V}, z60 a b = 0 → z4y x y = 0 → z60 (a ++ [x]) (b ++ [y]) = 0
 | [], [], _, h => by simp only [List.nil_append]; rw [z60, h]; simp [z60, th]
 | [], _ :: _, h, _ => by simp [z60] at h
 | _ :: _, [], h, _ => by simp [z60] at h
 | p :: a, q :: b, h, hx => by
  rw [z60] at h
  obtain ⟨g1, g2⟩ := th0 h
  rw [List.cons_append, List.cons_append, z60, g1, zi7 g2 hx]; rfl
theorem zvt (l : List V) : (l.length : Int) ≤ cntL l := by
 induction l with
 | nil => simp [cntL]
 | cons x r ih => rw [cntL, List.length_cons]; have := (z2b x).1; omega
theorem lists {l m : List V} (hcl : ∀ y, y ∈ l → Can y) (hcm : ∀ y, y ∈ m → Can y) (hl : l.length ≤ 4096) (hm : m.length ≤ 4096) (hw : way.length ≤ 900000) {D : Int} (hD : ∀ y, y ∈ m → dpt y + 1 ≤ D) (hD2 : ∀ y, y ∈ l → dpt y + 1 ≤ D)
 (ih : ∀ x y (w : List Stp), x ∈ l → y ∈ m → w.length ≤ way.length + 1 → ∃ es r, DP w x y es r) : ∀ k i (rs : List V), i + k = min l.length m.length → rs.length = i → z60 rs (m.take i) = 0 →
 ∃ es r, (∀ l0 : List Ed, l0.length + es.length ≤ 134217728 → zbl pDf way (.list l) (.list m) (i : Nat) l0 = some (l0 ++ es.map (zqa way))) ∧ z7d (.list (rs ++ l.drop i)) es = (.list r, 0) ∧ z60 r m = 0 ∧ (∀ e, e ∈ es → EG D e) ∧ (es.length : Int) ≤ cntL (l.drop i) + cntL (m.drop i)
 | 0, i, rs, h, hr, ho => by
  have hmin : (if ((m.length : Nat) : Int) < ((l.length : Nat) : Int) then ((m.length : Nat) : Int) else ((l.length : Nat) : Int)) = ((min l.length m.length : Nat) : Int) := by split <;> omega
  have hstep : ∀ l0 : List Ed, zbl pDf way (.list l) (.list m) (i : Nat) l0 = zcv way (.list l) (.list m) (((l.length : Nat) : Int) - 1) l0 := by
   intro l0
   rw [z7r]
   simp only [z43, V.asList]
   rw [hmin, decide_eq_false (by omega), cond_false, z4r (by omega) (by omega)]
  rcases Nat.le_total m.length l.length with hge | hle
  ·have him : i = m.length := by omega
   subst him
   obtain ⟨es, r, h1, h2, h3, h4, h5⟩ := l2 (way := way) hcm hm hl hw hD hD2 hge (l.drop m.length) rs hr (by rwa [List.take_of_length_le (Nat.le_refl _)] at ho) (fun y hy => List.mem_of_mem_drop hy) (by rw [List.length_drop]; omega)
   refine ⟨es, r, fun l0 hl0 => ?_, h2, h3, h4, ?_⟩
   ·rw [hstep, show ((l.length : Nat) : Int) - 1 = ((m.length + (l.drop m.length).length : Nat) : Int) - 1 by rw [List.length_drop]; omega]
    exact h1 l0 hl0
   ·have := zvt (l.drop m.length); have := zc3 (m.drop m.length); omega
  ·have him : i = l.length := by omega
   subst him
   obtain ⟨es, r, h1, h2, h3, h4, h5⟩ := l3 (way := way) (l := l) hcm hm hw hD (m.length - l.length) l.length rs (by omega) hr ho
   refine ⟨es, r, fun l0 hl0 => ?_, by rw [List.drop_of_length_le (Nat.le_refl _), List.append_nil]; exact h2, h3, h4, by have := zc3 (l.drop l.length); omega⟩
   rw [hstep, z9h]
   simp only [z4x, V.asList]
   rw [decide_eq_false (by omega), cond_false]
   exact h1 l0 hl0
 | k + 1, i, rs, h, hr, ho => by
  obtain ⟨x, hx, hdx⟩ := dropc (by omega : i < l.length)
  obtain ⟨y, hy, hdy⟩ := dropc (by omega : i < m.length)
  have hxm := List.mem_of_getElem? hx
  have hym := List.mem_of_getElem? hy
  obtain ⟨es1, r1, d⟩ := ih x y (way ++ [stA i]) hxm hym (by simp)
  obtain ⟨es, r, h1, h2, h3, h4, h5⟩ := lists hcl hcm hl hm hw hD hD2 ih k (i + 1) (rs ++ [r1]) (by omega) (by simp [hr]) (by rw [← zff hy]; exact zi7 ho d.eq)
  have hmin : (if ((m.length : Nat) : Int) < ((l.length : Nat) : Int) then ((m.length : Nat) : Int) else ((l.length : Nat) : Int)) = ((min l.length m.length : Nat) : Int) := by split <;> omega
  refine ⟨es1.map (preE (stA i)) ++ es, r, fun l0 hl0 => ?_, ?_, h3, fun e he => ?_, ?_⟩
  ·rw [List.length_append, List.length_map] at hl0
   rw [z7r]
   simp only [z43, V.asList]
   rw [hmin, decide_eq_true (by omega), cond_true, show (S_api_Step.mk [] true ((i : Nat) : Int)) = stA i from rfl, zn8 (by omega), Option.bind_some, z3y, hx, Option.bind_some, z3y, hy, Option.bind_some, d.run l0 (by omega), Option.bind_some, z4r (by omega) (by omega), show ((i : Nat) : Int) + 1 = ((i + 1 : Nat) : Int) from by omega, h1 _ (by rw [List.length_append, List.length_map]; omega), List.map_append, ztt, List.append_assoc]
  ·have hlen : (rs ++ l.drop i).length = l.length := by rw [List.length_append, List.length_drop]; omega
   have hat : (rs ++ l.drop i)[i]? = some x := by rw [List.getElem?_append_right (by omega), hr, Nat.sub_self, hdx]; rfl
   have hs : z1c (.list (rs ++ l.drop i)) (stA i) = (x, 0) := by rw [zai, hat]
   have := zj5 (zy5 (by omega)) hs (fun e he => (d.ok e he).ne) d.ap
   have hwf : withF (.list (rs ++ l.drop i)) (stA i) r1 = .list ((rs ++ [r1]) ++ l.drop (i + 1)) := by
    simp only [withF]
    rw [if_neg (by simp only [stA, hlen]; omega)]
    simp only [stA, Int.toNat_natCast]
    rw [hdx, List.set_append_right _ _ (by omega), hr, Nat.sub_self, List.set_cons_zero, List.append_assoc]; rfl
   rw [hwf] at this
   rw [zj6 this]; exact h2
  ·rcases List.mem_append.1 he with he | he
   ·obtain ⟨e', he', rfl⟩ := List.mem_map.1 he
    refine ((d.ok e' he').pre (s := stA i) (by rw [zdr, if_pos (by omega)])).mono ?_
    have := hD2 x hxm; have := hD y hym
    unfold mx; split <;> omega
   ·exact h4 e he
  ·rw [List.length_append, List.length_map, hdx, hdy, cntL, cntL]; have := d.n; omega
end
end Go.Proofs.YthidgpcbnieleaaGreatDoor

namespace Go.Proofs.YthidgpcbnieleaaGreatDoor
open Go Aw
set_option linter.unusedVariables false
set_option linter.unusedSimpArgs false
set_option maxRecDepth 8000
structure Sv (v : V) : Prop where
 far : zzx v = 2
 nm : ∀ d, fdF v = some d → ∀ n, n ∈ d.map (·.1) → z3h n = true
 rc : ∀ c k l, v = .record c k l → z3h c = true ∧ 1 ≤ k ∧ k ≤ 1000
inductive So : V → Prop
 | mk {v : V} : Sv v → (∀ x, x ∈ v.parts → So x) → So v
theorem So.v {v : V} (h : So v) : Sv v := by cases h; assumption
theorem So.part {v : V} (h : So v) : ∀ x, x ∈ v.parts → So x := by cases h; assumption
end Go.Proofs.YthidgpcbnieleaaGreatDoor

namespace Go.Proofs.YthidgpcbnieleaaGreatDoor
open Go Aw
set_option linter.unusedVariables false
set_option linter.unusedSimpArgs false
set_option maxRecDepth 8000
abbrev lvA : Str := [97]
abbrev lvS : Str := [97, 91, 49, 93]
abbrev lvL : V := .list [.int 1, .int 2]
abbrev lvM : V := .list [.int 1, .bool true]
abbrev lvD : V := .dict [(lvA, lvL)]
abbrev lvY : V := .dict [(lvA, lvM)]
theorem zv4 (i : Int) : Near (.int i) := .mk rfl (fun y hy => by cases hy)
theorem Z2r (b : Bool) : Near (.bool b) := .mk rfl (fun y hy => by cases hy)
theorem Z2s {a b : V} (ha : Near a) (hb : Near b) : Near (.list [a, b]) := .mk rfl (fun y hy => by
 rcases List.mem_cons.1 (show y ∈ [a, b] from hy) with rfl | hy
 ·exact ha
 ·rw [List.mem_singleton] at hy; subst hy; exact hb)
theorem Z2t {a : V} (ha : Near a) : Near (.dict [(lvA, a)]) := .mk (show z3e [lvA] = 0 by decide) (fun y hy => by
 have : y ∈ [a] := hy
 rw [List.mem_singleton] at this; subst this; exact ha)
theorem Z65 (i : Int) : Can (.int i) := ⟨zv4 i, by simp [cnt], by simp [dpt]⟩
theorem Z2w (b : Bool) : Can (.bool b) := ⟨Z2r b, by simp [cnt], by simp [dpt]⟩
theorem zrr : Can lvD := ⟨Z2t (Z2s (zv4 1) (zv4 2)), by simp [cnt, cntD, cntL], by simp only [dpt, zvr, dptL]; omega⟩
theorem zzg : Can lvY := ⟨Z2t (Z2s (zv4 1) (Z2r true)), by simp [cnt, cntD, cntL], by simp only [dpt, zvr, dptL]; omega⟩
theorem Z2x : Can (.dict []) := ⟨.mk (show z3e [] = 0 by decide) (fun y hy => by cases hy), by simp [cnt, cntD], by simp only [dpt, zvr]; omega⟩
theorem Z61 : zfp lvS 0 false = some ((stN lvA), 1, 0, 0) := by
 have e1 : zd1 lvS 0 nmS = some [97] := (zje (n := 0) (by simp) (by simp)).trans (by decide)
 have h : zfp lvS 0 false = Option.bind (zd1 lvS 0 nmS) fun x16 => bif (x16 == ([] : Str)) then z9a 0 x16 ((0 : Int) == ((lvS.length : Nat) : Int)) else z9a 0 x16 false := rfl
 rw [h, e1, Option.bind_some]
 have h2 : (bif (([97] : Str) == ([] : Str)) then z9a 0 [97] ((0 : Int) == ((lvS.length : Nat) : Int)) else z9a 0 [97] false) = Option.bind (zju [97]) fun x20 => bif (!x20) then some ((S_api_Step.mk [] false 0), 0, 0, 8) else some ((S_api_Step.mk [97] false 0), (IntKind.i64.wrap (0 + (((([97] : Str)).length : Nat) : Int))), 0, 0) := rfl
 rw [h2, zio, show z3h [97] = true from by decide]; rfl
theorem Z60 : zfp lvS 1 true = some ((stA 1), 4, 0, 0) := by
  have e1 : zd1 lvS 2 ([48, 49, 50, 51, 52, 53, 54, 55, 56, 57] : Str) = some [49] := (zje (n := 2) (by simp) (by simp)).trans (by decide)
  have h : zfp lvS 1 true = Option.bind (zd1 lvS 2 ([48, 49, 50, 51, 52, 53, 54, 55, 56, 57] : Str)) fun x3 =>
    bif ((IntKind.i64.wrap (2 + (((x3).length : Nat) : Int))) == (((lvS).length : Nat) : Int)) then (
     some ((S_api_Step.mk [] false 0), 0, (IntKind.i64.wrap (2 + (((x3).length : Nat) : Int))), 4)
    ) else (
     bif (x3 == ([] : Str)) then (
      z7q 1 x3 true
     ) else (
      Option.bind ((x3)[0]?) fun x10 =>
      bif (((x10).toNat : Int) == (((48 : UInt8)).toNat : Int)) then (
       bif (!(x3 == ([48] : Str))) then (
        z7q 1 x3 true
       ) else (
        Option.bind (z7g lvS (IntKind.i64.wrap (2 + (((x3).length : Nat) : Int)))) fun x13 =>
        z7q 1 x3 (((x13).toNat : Int) != (((93 : UInt8)).toNat : Int))
       )
      ) else (
       Option.bind (z7g lvS (IntKind.i64.wrap (2 + (((x3).length : Nat) : Int)))) fun x14 =>
       z7q 1 x3 (((x14).toNat : Int) != (((93 : UInt8)).toNat : Int))
      )
     )
    ) := rfl
  rw [h, e1, Option.bind_some]
  rfl
theorem zv3 : zqm lvS = some ([stN lvA, stA 1], 0, 0) := by
 unfold zqm
 have h0 : ∀ g, z5i lvS g [] 0 = Option.bind (zfp lvS 0 false) fun x7 => bif (x7.2.2.2 != 0) then some ([], x7.2.2.1, x7.2.2.2) else Option.bind (z8k 32 [] [x7.1]) fun x10 => g x10 x7.2.1 := fun _ => rfl
 have h1 : ∀ g, z5i lvS g [stN lvA] 1 = Option.bind (zfp lvS 1 true) fun x7 => bif (x7.2.2.2 != 0) then some ([], x7.2.2.1, x7.2.2.2) else Option.bind (z8k 32 [stN lvA] [x7.1]) fun x10 => g x10 x7.2.1 := fun _ => rfl
 have h2 : ∀ g, z5i lvS g [stN lvA, stA 1] 4 = some ([stN lvA, stA 1], 0, 0) := fun _ => rfl
 have a0 : z8k 32 [] [stN lvA] = some [stN lvA] := zl8 (by omega) (by simp)
 have a1 : z8k 32 [stN lvA] [stA 1] = some [stN lvA, stA 1] := zl8 (by omega) (by simp)
 rw [zcs, h0, Z61, Option.bind_some]
 simp only [show ((0 : Int) != 0) = false from rfl, cond_false]
 rw [a0, Option.bind_some, zcs, h1, Z60, Option.bind_some]
 simp only [show ((0 : Int) != 0) = false from rfl, cond_false]
 rw [a1, Option.bind_some, zcs, h2]
theorem zyv {N : Nat} {v x : V} {w : List Stp} {room : Bool} (hv : Wd N v) (hN : N ≤ 268435456) (hw : ∀ s, s ∈ w → z61 s = 0) (hne : w ≠ []) (hl : w.length ≤ 268435456) : zo5 v w room x = some (chF room (fun p s => withF p s x) v w) :=
 Z0g (f := fun p s => znv p s x) (F := fun v w room => zo5 v w room x) hN (fun v w => by rw [Z84]; rfl) (fun v s hv hs hr => by
  show znv v s x = _
  unfold znv
  rw [zja hv hN hs (Z25 hr)]; rfl) w v hv hw hne hl
noncomputable def Z8h (v : V) (w : List Stp) (x : V) : V × Int :=
 if (z1o v).2 ≠ 0 then (.nil, (z1o v).2) else if z3f w ≠ 0 then (.nil, z3f w) else if (z1o x).2 ≠ 0 then (.nil, (z1o x).2) else
 if w = [] then (x, 0) else if (chF true (fun p s => withF p s x) v w).2 ≠ 0 then (.nil, (chF true (fun p s => withF p s x) v w).2) else
 if (z1o (chF true (fun p s => withF p s x) v w).1).2 ≠ 0 then (.nil, (z1o (chF true (fun p s => withF p s x) v w).1).2) else ((chF true (fun p s => withF p s x) v w).1, 0)
theorem Z0d (x : V) : z8q x = some (if (z1o x).2 ≠ 0 then (.nil, (z1o x).2) else (x, 0)) := by
 by_cases h : (z1o x).2 = 0
 ·rw [if_neg (by simp [h]), z7b (z8y h)]
 ·rw [if_pos h, zvs (fun hc => h (by rw [z2g hc]))]
theorem Z4b (v : V) (w : List Stp) (x : V) : znu v w x = some (Z8h v w x) := by
 unfold znu Z8h
 rw [zgl, Option.bind_some]
 by_cases h1 : (z1o v).2 = 0
 ·rw [if_neg (by simp [h1]), if_neg (by simp [h1])]
  by_cases h2 : z3f w = 0
  ·rw [show (z3f w != 0) = false from by simp [h2], cond_false, if_neg (by simp [h2]), zbj, Option.bind_some]
   by_cases h3 : (z1o x).2 = 0
   ·rw [show ((z1o x).2 != 0) = false from by simp [h3], cond_false, if_neg (by simp [h3])]
    by_cases h4 : w = []
    ·rw [if_pos h4, h4, show (((([] : List Stp).length : Nat) : Int) == 0) = true from rfl, cond_true, z7b (z8y h3)]; rfl
    ·have hl : w.length ≠ 0 := fun h => h4 (List.eq_nil_of_length_eq_zero h)
     have h5 : (((w.length : Nat) : Int) == 0) = false := by simpa using h4
     obtain ⟨v1, v2⟩ := zc8 h2
     rw [if_neg h4, h5, cond_false, zyv (zst (z8y h1)) (by omega) v2 h4 (by omega), Option.bind_some]
     generalize chF true (fun p s => withF p s x) v w = c
     by_cases h6 : c.2 = 0
     ·rw [show (c.2 != 0) = false from by simp [h6], cond_false, if_neg (by simp [h6]), Z0d, Option.bind_some]
     ·rw [zt5 h6, cond_true, if_pos h6]
   ·rw [zt5 h3, cond_true, if_pos h3]
  ·rw [zt5 h2, cond_true, if_pos h2]
 ·rw [if_pos h1, zt5 h1, cond_true, if_pos h1]
theorem Z2p : znu lvD [stN lvA, stA 1] (.bool true) = some (lvY, 0) := by
 have hv : ∀ s, s ∈ [stN lvA, stA 1] → z61 s = 0 := by
  intro s hs
  rcases List.mem_cons.1 hs with rfl | hs
  ·decide
  ·rw [List.mem_singleton] at hs; subst hs; decide
 have hc : chF true (fun p s => withF p s (.bool true)) lvD [stN lvA, stA 1] = (lvY, 0) := rfl
 rw [Z4b, Z8h, z2g zrr, if_neg (by simp), if_neg (show ¬ z3f [stN lvA, stA 1] ≠ 0 by decide), z2g (Z2w true), if_neg (by simp), if_neg (by simp), hc, if_neg (by simp), z2g zzg, if_neg (by simp)]
theorem Z2v : zqo lvD [stN lvA] = some (.dict [], 0) := by
 have hw : ∀ s, s ∈ [stN lvA] → z61 s = 0 := by
  intro s hs
  rw [List.mem_singleton] at hs; subst hs; decide
 have hc : chF false z6o lvD [stN lvA] = (.dict [], 0) := rfl
 unfold zqo
 rw [zgl, z2g zrr, if_neg (by simp), show z3f [stN lvA] = 0 from by decide, Option.bind_some, zoq (zst zrr) (by omega) hw (by simp) (by simp), hc]
 show (Option.bind (z8q (.dict [])) fun x6 => some (x6.1, x6.2)) = _
 rw [z7b Z2x]; rfl
theorem Z2u : zi3 lvD [stN lvA, stA 1] = some (.int 2, 0) := by
 rw [zxz, zwv zrr (x := .int 2) (fun s hs => ?_) rfl]
 rcases List.mem_cons.1 hs with rfl | hs
 ·exact .inl ⟨_, rfl⟩
 ·rw [List.mem_singleton] at hs; subst hs; exact .inr ⟨_, rfl⟩
theorem Z5z : zbq (.int 2) (.bool true) = false := by
 cases h : zbq (.int 2) (.bool true) with
 | false => rfl
 | true => have := zzl (zfk h).2.2; cases this
theorem Z2q {a b c d : V} (h : z4y (.list [a, b]) (.list [c, d]) = 0) : z4y b d = 0 := by
 have h1 : z60 [a, b] [c, d] = 0 := by simpa only [z4y] using h
 exact (ordL0 h1).2 1 b d rfl rfl
theorem Z5y : zbq lvL lvM = false := by
 cases h : zbq lvL lvM with
 | false => rfl
 | true => have := zzl (Z2q (zfk h).2.2); cases this
theorem Z5x : zbq lvD lvY = false := by
 cases h : zbq lvD lvY with
 | false => rfl
 | true =>
  have h0 := (zfk h).2.2
  have h1 : zft [(lvA, lvL)] [(lvA, lvM)] = 0 := by simpa only [z4y] using h0
  have := zzl (Z2q ((ordL0 (ordD1 h1).2).2 0 lvL lvM rfl rfl)); cases this
theorem Z64 : zbr [stN lvA, stA 1] (.int 2) (.bool true) [] = some [S_api_Edit.mk 1 [stN lvA, stA 1] (.bool true)] := by
 rw [zvq, ze1, z8j, Option.bind_some, Z5z]
 show Option.bind (zdw 1 [stN lvA, stA 1] (.bool true) []) (fun x25 => some x25) = _
 rw [zjb (by simp) (Z2w true) (by simp)]; rfl
theorem Z63 : zbr [stN lvA, stA 0] (.int 1) (.int 1) [] = some [] := by
 rw [zvq, ze1, z8j, Option.bind_some, z4v (Z65 1)]; rfl
theorem Z62 : zbr [stN lvA] lvL lvM [] = some [S_api_Edit.mk 1 [stN lvA, stA 1] (.bool true)] := by
 rw [zvq, ze1, z8j, Option.bind_some, Z5y]
 show zbl zbr [stN lvA] lvL lvM 0 [] = _
 have h0 : ∀ R g es, z43 R [stN lvA] lvL lvM g 0 es = Option.bind (zb2 (stA 0) [stN lvA]) fun x8 => Option.bind (R x8 (.int 1) (.int 1) es) fun x11 => g 1 x11 := fun _ _ _ => rfl
 have h1 : ∀ R g es, z43 R [stN lvA] lvL lvM g 1 es = Option.bind (zb2 (stA 1) [stN lvA]) fun x8 => Option.bind (R x8 (.int 2) (.bool true) es) fun x11 => g 2 x11 := fun _ _ _ => rfl
 have h2 : ∀ R g es, z43 R [stN lvA] lvL lvM g 2 es = zcv [stN lvA] lvL lvM 1 es := fun _ _ _ => rfl
 have h3 : ∀ g es, z4x [stN lvA] lvL lvM g 1 es = zcu [stN lvA] lvM 2 es := fun _ _ => rfl
 have h4 : ∀ g es, z4w [stN lvA] lvM g 2 es = some es := fun _ _ => rfl
 rw [z7r, h0, zn8 (by simp), Option.bind_some, show [stN lvA] ++ [stA 0] = [stN lvA, stA 0] from rfl, Z63, Option.bind_some]
 rw [z7r, h1, zn8 (by simp), Option.bind_some, show [stN lvA] ++ [stA 1] = [stN lvA, stA 1] from rfl, Z64, Option.bind_some]
 rw [z7r, h2, z9h, h3, z9g, h4]
theorem zzf : zqk lvD lvY = some ([S_api_Edit.mk 1 [stN lvA, stA 1] (.bool true)], 0) := by
 unfold zqk
 rw [zbj, Option.bind_some, z2g zrr, zbj, Option.bind_some, z2g zzg]
 show Option.bind (zbr [] lvD lvY []) (fun x5 => some (x5, 0)) = _
 have hd : zbr [] lvD lvY [] = some [S_api_Edit.mk 1 [stN lvA, stA 1] (.bool true)] := by
  rw [zvq, ze1, z8j, Option.bind_some, Z5x]
  show zej zbr [] ([(lvA, lvL)], [(lvA, lvM)], true) 0 0 [] = _
  have h0 : ∀ R g es, z5s R [] ([(lvA, lvL)], [(lvA, lvM)], true) g 0 0 es = Option.bind (zb2 (stN lvA) []) fun x43 => Option.bind (R x43 lvL lvM es) fun x46 => g 1 1 x46 := fun _ _ _ => rfl
  have h1 : ∀ R g es, z5s R [] ([(lvA, lvL)], [(lvA, lvM)], true) g 1 1 es = some es := fun _ _ _ => rfl
  rw [zhp, h0, zn8 (by simp), Option.bind_some, show ([] : List Stp) ++ [stN lvA] = [stN lvA] from rfl, Z62, Option.bind_some, zhp, h1]
 rw [hd]; rfl
theorem Z66 : zqp = some true := by
 unfold zqp
 have hc : ziz [stN lvA, stA 1] 0 1 = some [stN lvA] := rfl
 rw [zv3, Option.bind_some]
 show Option.bind (zi3 lvD [stN lvA, stA 1]) _ = _
 rw [Z2u, Option.bind_some]
 simp only
 rw [Z2p, Option.bind_some]
 simp only
 rw [zzf, Option.bind_some]
 simp only
 rw [hc, Option.bind_some, Z2v, Option.bind_some]
 simp only
 rw [z8j, z8j, z4v zzg, z4v Z2x]; rfl
end Go.Proofs.YthidgpcbnieleaaGreatDoor

namespace Go.Proofs.YthidgpcbnieleaaGreatDoor
open Go Aw
set_option linter.unusedVariables false
set_option linter.unusedSimpArgs false
set_option maxRecDepth 8000
end Go.Proofs.YthidgpcbnieleaaGreatDoor

namespace Go.Proofs.YthidgpcbnieleaaGreatDoor
open Go Aw
set_option linter.unusedVariables false
set_option linter.unusedSimpArgs false
set_option maxRecDepth 8000
theorem zzu {v : V} {s : Stp} {r : List Stp} {c : V} (h : z1c v s = (c, 0)) : z4j v (s :: r) = z4j c r := by
 rw [z4j, h, if_neg (by simp)]
theorem Z0x {v y : V} {w : List Stp} (hv : Can v) (hw : z3f w = 0) (hg : z4j v w = (y, 0)) : Z13 v w = (y, 0) := by
 unfold Z13
 rw [z2g hv, if_neg (by simp), if_neg (by simp [hw]), hg, if_neg (by simp)]
end Go.Proofs.YthidgpcbnieleaaGreatDoor

namespace Go.Proofs.YthidgpcbnieleaaGreatDoor
open Go Aw
set_option linter.unusedVariables false
set_option linter.unusedSimpArgs false
set_option maxRecDepth 8000
theorem zs7 : ∀ {d : Fds} {i : Nat} {f : Str × V}, (d.map (·.1)).Pairwise zlt → d[i]? = some f → fget d f.1 = some f.2
 | [], i, f, _, h => by simp at h
 | g :: r, 0, f, hs, h => by simp at h; subst h; rw [z2s, if_pos rfl]
 | g :: r, i + 1, f, hs, h => by
  have h' : r[i]? = some f := by simpa using h
  have hm : f.1 ∈ r.map (·.1) := List.mem_map.2 ⟨f, List.mem_of_getElem? h', rfl⟩
  have hz : zlt g.1 f.1 := (List.pairwise_cons.1 hs).1 _ hm
  rw [z2s, if_neg (fun e => by rw [e] at hz; exact zj8 _ hz)]
  exact zs7 (List.pairwise_cons.1 hs).2 h'
theorem zgi {w : List Stp} (h : w.length ≤ 1000000) : zfs w = some w := by
 unfold zfs
 rw [zws (by omega) (by omega)]; rfl
theorem zgh (l : List V) : cnt (.list l) = 1 + cntL l := by simp [cnt]
theorem zc0 : ∀ l : List V, 0 ≤ cntL l
 | [] => by simp [cntL]
 | x :: r => by have := zc0 r; have := z2b x; simp only [cntL]; omega
theorem zc1 : ∀ l : Fds, 0 ≤ cntD l
 | [] => by simp [cntD]
 | x :: r => by obtain ⟨s, v⟩ := x; have := zc1 r; have := z2b v; simp only [cntD]; omega
theorem zs8 {v : V} {d : Fds} (h : fdF v = some d) : cnt v = 1 + cntD d := by
 cases v <;> first | (cases h; simp [cnt]) | cases h
theorem zdd {l : List V} (hc : Can (.list l)) {i : Nat} {y : V} (h : l[i]? = some y) : z61 (stA i) = 0 ∧ z1c (.list l) (stA i) = (y, 0) ∧ Can y ∧ dpt y + 1 ≤ dpt (.list l) := by
 have hm : y ∈ V.parts (.list l) := List.mem_of_getElem? h
 have hl := z6c hc.1.own
 have hi := (List.getElem?_eq_some_iff.1 h).1
 refine ⟨by rw [zdr, if_pos (by omega)], by rw [zai, h], z7j hc hm, (zlw hm).2.2⟩
theorem zdq {v : V} {d : Fds} (hc : Can v) (hd : fdF v = some d) {i : Nat} {f : Str × V} (h : d[i]? = some f) : z61 (stN f.1) = 0 ∧ z1c v (stN f.1) = (f.2, 0) ∧ Can f.2 ∧ dpt f.2 + 1 ≤ dpt v := by
 have hf := zgb hc hd
 have hm : f.2 ∈ v.parts := by rw [za5 hd]; exact List.mem_map.2 ⟨f, List.mem_of_getElem? h, rfl⟩
 have hn := ziv hf f.1 (List.mem_map.2 ⟨f, List.mem_of_getElem? h, rfl⟩)
 refine ⟨by rw [zsu, if_pos hn], by rw [zy9 hd, zs7 (zba hf) h], z7j hc hm, (zlw hm).2.2⟩
theorem Z10 (x : V) : 1 ≤ dpt x := (z2b x).2
theorem zg2 {v : V} (h : v.isList = false) (hc : Can v) : zfq v = some (match fdF v with | some d => (d, true) | none => ([], false)) := zve (zsv hc)
theorem zgm {v : V} (h : v.isList = false) (h2 : fdF v = none) : cnt v = 1 := by
 cases v <;> first | rfl | (simp [V.isList] at h; done) | (simp [fdF] at h2; done) | simp [cnt]
section
variable (v : V) (hv : Can v)
def wR (n k : Int) : Bool × Int × Bool × Int := if n + k ≤ 300 then (true, 0, true, n + k) else (false, 0, true, 301)
def pR (n k : Int) : Bool × Int × Bool × Int := if n + k ≤ 300 then (true, n + k, true, 0) else (true, 301, false, 0)
theorem Z4c {n k m : Int} (h : n + k ≤ 300) (hm : m = n + k) : wR n k = (true, 0, true, m) := by subst hm; exact if_pos h
theorem Z1c {n k : Int} (h : ¬ n + k ≤ 300) : wR n k = (false, 0, true, 301) := if_neg h
theorem Z4d {n k m : Int} (h : n + k ≤ 300) (hm : m = n + k) : pR n k = (true, m, true, 0) := by subst hm; exact if_pos h
theorem Z5u {n k : Int} (h : ¬ n + k ≤ 300) : pR n k = (true, 301, false, 0) := if_neg h
theorem Z2e {n a b : Int} : pR (n + a) b = pR n (a + b) := by unfold pR; rw [Int.add_assoc]
include hv in
theorem Z1f {x : V} {way : List Stp} {n : Int} (hx : Can x) (hg : z4j v way = (x, 0)) (hw : ∀ s, s ∈ way → z61 s = 0) (hl : way.length ≤ 64) (h0 : 0 ≤ n) (h1 : n ≤ 300) :
 zr0 v true n way x 0 = some (false, true, n + 1, if n + 1 > 300 then 2 else 0) := by
 have hval : z3f way = 0 := by unfold z3f; rw [if_neg (by omega)]; exact steps_zero.2 hw
 unfold zr0 zu1 zu4
 rw [zgi (by omega), Option.bind_some, zcg hx, Option.bind_some, zxz, Z0x hv hval hg, Option.bind_some, cond_true]
 simp only
 rw [show ((0 : Int) == 0) = true from rfl, cond_true, z8j, z4v hx, Option.bind_some]
 unfold zct
 rw [z4r (by omega) (by omega)]
 by_cases h : n + 1 > 300
 ·rw [decide_eq_true h, cond_true, if_pos h]; rfl
 ·rw [decide_eq_false h, cond_false, if_neg h]; rfl
def WOk (x : V) : Prop := ∀ way n, Can x → z4j v way = (x, 0) → (∀ s, s ∈ way → z61 s = 0) → (way.length : Int) + dpt x ≤ 64 → 0 ≤ n → n ≤ 300 → zk2 way x v true n = some (wR n (cnt x))
theorem zgq {y : V} (ih : WOk v y) {x : V} {s : Stp} {way : List Stp} {n : Int} (hy : Can y) (hg : z4j v way = (x, 0)) (hw : ∀ s, s ∈ way → z61 s = 0) (hs : z61 s = 0) (hx : z1c x s = (y, 0)) (hl : (way.length : Int) + 1 + dpt y ≤ 64) (h0 : 0 ≤ n) (h1 : n ≤ 300) :
 zjz s y way v true n true 0 = some ((wR n (cnt y)).1, (wR n (cnt y)).2.2.1, (wR n (cnt y)).2.2.2, (wR n (cnt y)).1, (wR n (cnt y)).2.1) := by
 have hd := Z10 y
 rw [Z7y, zkv]
 unfold zdx
 rw [Option.bind_some, zl8 (by omega) (by omega), Option.bind_some, ih (way ++ [s]) n hy ?_ ?_ (by simp; omega) h0 h1]; rfl
 ·rw [zmi, hg, if_neg (by simp), zzu hx]; rfl
 ·intro t ht
  rcases List.mem_append.1 ht with ht | ht
  ·exact hw t ht
  ·rw [List.mem_singleton] at ht; subst ht; exact hs
theorem walk_l {l : List V} (ih : ∀ y, y ∈ l → WOk v y) (hc : Can (.list l)) {way : List Stp} (hg : z4j v way = (.list l, 0)) (hw : ∀ s, s ∈ way → z61 s = 0) (hl : (way.length : Int) + dpt (.list l) ≤ 64) :
 ∀ k i n, k + i = l.length → 0 ≤ n → n ≤ 300 → zem zjz (.list l) way v i true n true 0 = some (pR n (cntL (l.drop i)))
 | 0, i, n, h, h0, h1 => by
  rw [zhv]
  simp only [z5u, V.asList, z9z (by omega : ¬ i < l.length), cond_false, z9l]
  rw [not_list' l, Option.bind_some, z9k, List.drop_of_length_le (by omega), Z4d (m := n) (by simp only [cntL]; omega) (by simp only [cntL]; omega)]
  rfl
 | k + 1, i, n, h, h0, h1 => by
  obtain ⟨y, hy, hd⟩ := dropc (by omega : i < l.length)
  obtain ⟨s1, s2, s3, s4⟩ := zdd hc hy
  have hcy := (z2b y).1
  have hr := zc0 (l.drop (i + 1))
  rw [zhv]
  simp only [z5u, V.asList, zab (by omega : i < l.length), cond_true, hy, Option.bind_some]
  rw [show S_api_Step.mk [] true ((i : Nat) : Int) = stA i from rfl, zgq v (ih y (List.mem_of_getElem? hy)) s3 hg hw s1 s2 (by omega) h0 h1, Option.bind_some, hd]
  simp only [cntL]
  by_cases hn : n + cnt y ≤ 300
  ·rw [Z4c hn rfl]
   simp only [Bool.not_true, cond_false]
   rw [walk_l ih hc hg hw hl k (i + 1) (n + cnt y) (by omega) (by omega) hn, Z2e]
  ·rw [Z1c hn, Z5u (by omega)]; rfl
where not_list' (l : List V) : zfq (.list l) = some ([], false) := zve (by simp)
theorem zwy {x : V} {d : Fds} (hf : fdF x = some d) (ih : ∀ y, y ∈ x.parts → WOk v y) (hc : Can x) {way : List Stp} (hg : z4j v way = (x, 0)) (hw : ∀ s, s ∈ way → z61 s = 0) (hl : (way.length : Int) + dpt x ≤ 64) :
 ∀ k i n, k + i = d.length → 0 ≤ n → n ≤ 300 → zen zjz way v (d, true) i true n true 0 = some (pR n (cntD (d.drop i)))
 | 0, i, n, h, h0, h1 => by
  rw [z9k, List.drop_of_length_le (by omega), Z4d (m := n) (by simp only [cntD]; omega) (by simp only [cntD]; omega)]
  simp only [z5v, z9z (by omega : ¬ i < d.length), cond_false]
 | k + 1, i, n, h, h0, h1 => by
  obtain ⟨y, hy, hd⟩ := dropc (by omega : i < d.length)
  obtain ⟨s1, s2, s3, s4⟩ := zdq hc hf hy
  have hm : y.2 ∈ x.parts := by rw [za5 hf]; exact List.mem_map.2 ⟨y, List.mem_of_getElem? hy, rfl⟩
  have hcy := (z2b y.2).1
  have hr := zc1 (d.drop (i + 1))
  rw [z9k]
  simp only [z5v, zab (by omega : i < d.length), cond_true, hy, Option.bind_some]
  rw [show S_api_Step.mk y.1 false 0 = stN y.1 from rfl, zgq v (ih y.2 hm) s3 hg hw s1 s2 (by omega) h0 h1, Option.bind_some, hd]
  rw [show cntD (y :: d.drop (i + 1)) = cnt y.2 + cntD (d.drop (i + 1)) from by obtain ⟨nm, z⟩ := y; simp [cntD]]
  by_cases hn : n + cnt y.2 ≤ 300
  ·rw [Z4c hn rfl]
   simp only [Bool.not_true, cond_false]
   rw [zwy hf ih hc hg hw hl k (i + 1) (n + cnt y.2) (by omega) (by omega) hn, Z2e]
  ·rw [Z1c hn, Z5u (by omega)]; rfl
include hv in
theorem Z1b (x : V) : WOk v x := by
 induction x using V.byParts with
 | _ x ih =>
  intro way n hx hg hw hl h0 h1
  have hd := Z10 x
  rw [Z89, zl4, Z1f v hv hx hg hw (by omega) h0 h1, Option.bind_some]
  simp only [cond_false]
  have hcx := (z2b x).1
  by_cases h : n + 1 > 300
  ·rw [if_pos h]
   simp only [show ((2 : Int) == 0) = false from rfl, show ((2 : Int) == 1) = false from rfl, show ((2 : Int) == 2) = true from rfl, cond_false, cond_true]
   rw [Z1c (by omega), show n + 1 = 301 by omega]
  ·rw [if_neg h]
   simp only [show ((0 : Int) == 0) = true from rfl, cond_true]
   have hp : zqy x way v true (n + 1) true 0 = some (pR (n + 1) (cnt x - 1)) := by
    rw [Z88, zl3]
    cases hL : x.isList with
    | true =>
     cases x with
     | list l =>
      rw [cond_true, walk_l v (l := l) (fun y hy => ih y hy) hx hg hw hl l.length 0 (n + 1) (by omega) (by omega) (by omega), List.drop_zero, zgh, show 1 + cntL l - 1 = cntL l by omega]
     | _ => simp [V.isList] at hL
    | false =>
     rw [cond_false]
     unfold z9l
     rw [zg2 hL hx, Option.bind_some]
     cases hf : fdF x with
     | some d => simp only; rw [zwy v hf ih hx hg hw hl d.length 0 (n + 1) (by omega) (by omega) (by omega), List.drop_zero, zs8 hf, show 1 + cntD d - 1 = cntD d by omega]
     | none =>
      simp only
      rw [z9k, zgm hL hf, Z4d (m := n + 1) (by omega) (by omega)]
      rfl
   rw [hp, Option.bind_some]
   by_cases hn : n + 1 + (cnt x - 1) ≤ 300
   ·rw [Z4d (m := n + cnt x) hn (by omega), Z4c (m := n + cnt x) (by omega) rfl]
   ·rw [Z5u hn, Z1c (by omega)]
end
theorem Z0v {v : V} (hv : Can v) : zi6 v v true 0 = some (0, true, if cnt v ≤ 300 then cnt v else 301) := by
 unfold zi6
 rw [zbj, Option.bind_some, z2g hv, show ((0 : Int) != 0) = false from rfl, cond_false, Z1b v hv v [] 0 hv rfl (by simp) (by have := hv.2.2; simp; omega) (by omega) (by omega), Option.bind_some]
 by_cases h : cnt v ≤ 300
 ·rw [Z4c (m := cnt v) (by omega) (by omega), if_pos h]
 ·rw [Z1c (by omega), if_neg h]
theorem zwu {v : V} (hv : ¬ Can v) : zi6 v v true 0 = some ((z1o v).2, true, 0) := by
 unfold zi6
 rw [zbj, Option.bind_some, zt5 (fun h => hv (z8y h)), cond_true]
end Go.Proofs.YthidgpcbnieleaaGreatDoor

namespace Go.Proofs.YthidgpcbnieleaaGreatDoor
open Go Aw
set_option linter.unusedVariables false
set_option linter.unusedSimpArgs false
set_option maxRecDepth 8000
theorem zp3 {α : Type} {l : List α} {i : Nat} {x : α} (h : l[i]? = some x) : l.take i ++ [x] = l.take (i + 1) := by
 have := zcc (f := id) h
 simpa using this
theorem zrs {l : List V} (ih : ∀ y, y ∈ l → zd2 y = some y) (hl : l.length ≤ 4096) : ∀ k i, k + i = l.length → zea zd2 (.list l) (l.take i) i = some (.list l)
 | 0, i, h => by
  rw [zh8]
  simp only [z5j, V.asList, z9z (by omega : ¬ i < l.length), cond_false]
  rw [List.take_of_length_le (by omega)]
 | k + 1, i, h => by
  obtain ⟨y, hy, _⟩ := dropc (by omega : i < l.length)
  rw [zh8]
  simp only [z5j, V.asList, zab (by omega : i < l.length), cond_true, hy, Option.bind_some, ih y (List.mem_of_getElem? hy)]
  rw [zl8 (by omega) (by rw [List.length_take]; omega), Option.bind_some, zp3 hy]
  exact zrs ih hl k (i + 1) (by omega)
theorem zrt {d : Fds} (ih : ∀ y, y ∈ d.map (·.2) → zd2 y = some y) (hl : d.length ≤ 4096) : zo3 d = some d := by
 have key : ∀ k i, k + i = d.length → zef zd2 d (d.take i) i = some d := by
  intro k
  induction k with
  | zero =>
   intro i h
   rw [zhk]
   simp only [z5o, z9z (by omega : ¬ i < d.length), cond_false]
   rw [List.take_of_length_le (by omega)]
  | succ k hk =>
   intro i h
   obtain ⟨y, hy, _⟩ := dropc (by omega : i < d.length)
   rw [zhk]
   simp only [z5o, zab (by omega : i < d.length), cond_true, hy, Option.bind_some, ih y.2 (List.mem_map.2 ⟨y, List.mem_of_getElem? hy, rfl⟩)]
   rw [zl8 (by omega) (by rw [List.length_take]; omega), Option.bind_some, show (y.1, y.2) = y from rfl, zp3 hy]
   exact hk (i + 1) (by omega)
 rw [Z81, zky]
 exact key d.length 0 (by omega)
theorem zv5 (x : V) : Can x → zd2 x = some x := by
 induction x using V.byParts with
 | _ x ih =>
  intro hc
  have hp : ∀ y, y ∈ x.parts → zd2 y = some y := fun y hy => ih y hy (z7j hc hy)
  rw [Z7s, zkp]
  cases x with
  | bytes b =>
   have hb : b.length ≤ 65536 := by
    have := hc.1.own
    simp only [z4f] at this
    split at this
    ·cases this
    ·omega
   show Option.bind (zqt b) (fun x2 => some (V.bytes x2)) = _
   unfold zqt
   rw [zws (by omega) (by omega)]; rfl
  | list l => exact zrs (l := l) hp (z6c hc.1.own) l.length 0 (by omega)
  | dict d =>
   show Option.bind (zo3 d) (fun x12 => some (V.dict x12)) = _
   rw [zrt hp (zie hc.1.own)]; rfl
  | record c k d =>
   show Option.bind (zo3 d) (fun x15 => some (V.record c k x15)) = _
   rw [zrt hp (zm1 hc.1.own).2]; rfl
  | nothing => exact absurd rfl (zsv hc)
  | _ => rfl
def MOk (x : V) : Prop := ∀ (way : List Stp) (n : Int), Can x → (way.length : Int) + dpt x ≤ 64 → 0 ≤ n → n + cnt x ≤ 1000000 → zk3 way x n = some (x, 0, n + cnt x)
theorem zm5 {y : V} (ih : MOk y) {x : V} {s : Stp} {way : List Stp} {n : Int} (hy : Can y) (hx : Can x) (hs : z61 s = 0) (hst : z1c x s = (y, 0)) (hl : (way.length : Int) + 1 + dpt y ≤ 64) (h0 : 0 ≤ n) (h1 : n + cnt y ≤ 1000000) :
 zjy s y way n 0 x = some (true, n + cnt y, 0, x) := by
 have hd := Z10 y
 rw [Z7x, zku]
 unfold zdx
 rw [Option.bind_some, zl8 (by omega) (by omega), Option.bind_some, ih (way ++ [s]) n hy (by simp; omega) h0 h1, Option.bind_some]
 simp only
 rw [show ((0 : Int) == 0) = true from rfl, cond_true, zja (room := false) (zxv hx) (by omega) hs (.inl (by rw [hst])), Option.bind_some, zgo (zxv hx) hst]; rfl
theorem Z2n {l : List V} (ih : ∀ y, y ∈ l → MOk y) (hc : Can (.list l)) {way : List Stp} (hl : (way.length : Int) + dpt (.list l) ≤ 64) :
 ∀ k i n, k + i = l.length → 0 ≤ n → n + cntL (l.drop i) ≤ 1000000 → zek zjy (.list l) way i n 0 (.list l) = some (n + cntL (l.drop i), 0, .list l)
 | 0, i, n, h, h0, h1 => by
  rw [zhq]
  simp only [z5t, V.asList, z9z (by omega : ¬ i < l.length), cond_false, z9j]
  rw [walk_l.not_list' l, Option.bind_some, z9i, List.drop_of_length_le (by omega)]
  simp [z4e, cntL]
 | k + 1, i, n, h, h0, h1 => by
  obtain ⟨y, hy, hd⟩ := dropc (by omega : i < l.length)
  obtain ⟨s1, s2, s3, s4⟩ := zdd hc hy
  have hcy := (z2b y).1
  have hr := zc0 (l.drop (i + 1))
  rw [hd] at h1 ⊢
  simp only [cntL] at h1 ⊢
  rw [zhq]
  simp only [z5t, V.asList, zab (by omega : i < l.length), cond_true, hy, Option.bind_some]
  rw [show S_api_Step.mk [] true ((i : Nat) : Int) = stA i from rfl, zm5 (ih y (List.mem_of_getElem? hy)) s3 hc s1 s2 (by omega) h0 (by omega), Option.bind_some]
  simp only [Bool.not_true, cond_false]
  rw [Z2n ih hc hl k (i + 1) (n + cnt y) (by omega) (by omega) (by omega), Int.add_assoc]
theorem Z2o {x : V} {d : Fds} (hf : fdF x = some d) (ih : ∀ y, y ∈ x.parts → MOk y) (hc : Can x) {way : List Stp} (hl : (way.length : Int) + dpt x ≤ 64) :
 ∀ k i n, k + i = d.length → 0 ≤ n → n + cntD (d.drop i) ≤ 1000000 → zel zjy way (d, true) i n 0 x = some (n + cntD (d.drop i), 0, x)
 | 0, i, n, h, h0, h1 => by
  rw [z9i, List.drop_of_length_le (by omega)]
  simp only [z4e, z9z (by omega : ¬ i < d.length), cond_false, cntD]
  simp
 | k + 1, i, n, h, h0, h1 => by
  obtain ⟨y, hy, hd⟩ := dropc (by omega : i < d.length)
  obtain ⟨s1, s2, s3, s4⟩ := zdq hc hf hy
  have hm : y.2 ∈ x.parts := by rw [za5 hf]; exact List.mem_map.2 ⟨y, List.mem_of_getElem? hy, rfl⟩
  have hcy := (z2b y.2).1
  have hr := zc1 (d.drop (i + 1))
  have hcd : cntD (y :: d.drop (i + 1)) = cnt y.2 + cntD (d.drop (i + 1)) := by obtain ⟨nm, z⟩ := y; simp [cntD]
  rw [hd, hcd] at h1
  rw [hd, hcd, z9i]
  simp only [z4e, zab (by omega : i < d.length), cond_true, hy, Option.bind_some]
  rw [show S_api_Step.mk y.1 false 0 = stN y.1 from rfl, zm5 (ih y.2 hm) s3 hc s1 s2 (by omega) h0 (by omega), Option.bind_some]
  simp only [Bool.not_true, cond_false]
  rw [Z2o hf ih hc hl k (i + 1) (n + cnt y.2) (by omega) (by omega) (by omega), Int.add_assoc]
theorem Z5w (x : V) : MOk x := by
 induction x using V.byParts with
 | _ x ih =>
  intro way n hx hl h0 h1
  have hd := Z10 x
  have hcx := (z2b x).1
  have hp : zqw x way n 0 x = some (n + (cnt x - 1), 0, x) := by
   rw [Z86, zl2]
   cases hL : x.isList with
   | true =>
    cases x with
    | list l =>
     have e := zgh l
     rw [cond_true, Z2n (l := l) (fun y hy => ih y hy) hx hl l.length 0 n (by omega) (by omega) (by rw [List.drop_zero]; omega), List.drop_zero, e, show 1 + cntL l - 1 = cntL l by omega]
    | _ => simp [V.isList] at hL
   | false =>
    rw [cond_false]
    unfold z9j
    rw [zg2 hL hx, Option.bind_some]
    cases hf : fdF x with
    | some d =>
     have e := zs8 hf
     simp only; rw [Z2o hf ih hx hl d.length 0 n (by omega) (by omega) (by rw [List.drop_zero]; omega), List.drop_zero, e, show 1 + cntD d - 1 = cntD d by omega]
    | none =>
     simp only
     rw [z9i, zgm hL hf]
     simp [z4e]
  rw [Z8a, zl5, hp, Option.bind_some]
  simp only
  rw [show ((0 : Int) != 0) = false from rfl, cond_false]
  unfold zua zu0 zu2
  rw [zgi (by omega), Option.bind_some, zv5 x hx, Option.bind_some, Option.bind_some, Option.bind_some]
  simp only
  rw [show zo4 false = some false from rfl, Option.bind_some, Option.bind_some]
  simp only [cond_false]
  rw [show ((0 : Int) != 0) = false from rfl, cond_false, z7b hx, Option.bind_some, z4r (by omega) (by omega), show n + (cnt x - 1) + 1 = n + cnt x by omega]
def FOk (x : V) : Prop := ∀ (way : List Stp) (L : List (List Stp)), Can x → (way.length : Int) + dpt x ≤ 64 → (L.length : Int) + cnt x ≤ 1000000 → ∃ M, zk1 way x L = some (true, 0, M) ∧ (M.length : Int) = L.length + cnt x
theorem zzv {x : V} {way : List Stp} {L : List (List Stp)} (hx : Can x) (hl : way.length ≤ 64) (h : L.length ≤ 1000000) : zqv L way x 0 = some (false, L ++ [way], 0) := by
 unfold zqv zty ztx zu5
 rw [zgi (by omega), Option.bind_some, zcg hx, Option.bind_some, Option.bind_some, cond_true, zl8 (by omega) (by omega)]; rfl
theorem zmj {y : V} (ih : FOk y) {s : Stp} {way : List Stp} {L : List (List Stp)} (hy : Can y) (hl : (way.length : Int) + 1 + dpt y ≤ 64) (h1 : (L.length : Int) + cnt y ≤ 1000000) :
 ∃ M, zjv s y way L true 0 = some (true, M, true, 0) ∧ (M.length : Int) = L.length + cnt y := by
 have hd := Z10 y
 obtain ⟨M, h2, h3⟩ := ih (way ++ [s]) L hy (by simp; omega) h1
 refine ⟨M, ?_, h3⟩
 rw [Z7t, zkq]
 unfold zdx
 rw [Option.bind_some, zl8 (by omega) (by omega), Option.bind_some, h2]; rfl
theorem fnd_l {l : List V} (ih : ∀ y, y ∈ l → FOk y) (hc : Can (.list l)) {way : List Stp} (hl : (way.length : Int) + dpt (.list l) ≤ 64) :
 ∀ k i (L : List (List Stp)), k + i = l.length → (L.length : Int) + cntL (l.drop i) ≤ 1000000 → ∃ M, zeh zjv (.list l) way i L true 0 = some (M, true, 0) ∧ (M.length : Int) = L.length + cntL (l.drop i)
 | 0, i, L, h, h1 => by
  refine ⟨L, ?_, by rw [List.drop_of_length_le (by omega)]; simp [cntL]⟩
  rw [zhn]
  simp only [z5q, V.asList, z9z (by omega : ¬ i < l.length), cond_false, z9f]
  rw [walk_l.not_list' l, Option.bind_some, z9e]
  rfl
 | k + 1, i, L, h, h1 => by
  obtain ⟨y, hy, hd⟩ := dropc (by omega : i < l.length)
  obtain ⟨s1, s2, s3, s4⟩ := zdd hc hy
  have hcy := (z2b y).1
  have hr := zc0 (l.drop (i + 1))
  rw [hd] at h1 ⊢
  simp only [cntL] at h1 ⊢
  obtain ⟨M, g1, g2⟩ := zmj (s := stA i) (way := way) (L := L) (ih y (List.mem_of_getElem? hy)) s3 (by omega) (by omega)
  obtain ⟨M', g3, g4⟩ := fnd_l ih hc hl k (i + 1) M (by omega) (by omega)
  refine ⟨M', ?_, by omega⟩
  rw [zhn]
  simp only [z5q, V.asList, zab (by omega : i < l.length), cond_true, hy, Option.bind_some]
  rw [show S_api_Step.mk [] true ((i : Nat) : Int) = stA i from rfl, g1, Option.bind_some]
  simp only [Bool.not_true, cond_false]
  exact g3
theorem fnd_d {x : V} {d : Fds} (hf : fdF x = some d) (ih : ∀ y, y ∈ x.parts → FOk y) (hc : Can x) {way : List Stp} (hl : (way.length : Int) + dpt x ≤ 64) :
 ∀ k i (L : List (List Stp)), k + i = d.length → (L.length : Int) + cntD (d.drop i) ≤ 1000000 → ∃ M, zei zjv way (d, true) i L true 0 = some (M, true, 0) ∧ (M.length : Int) = L.length + cntD (d.drop i)
 | 0, i, L, h, h1 => by
  refine ⟨L, ?_, by rw [List.drop_of_length_le (by omega)]; simp [cntD]⟩
  rw [z9e]
  simp only [z5r, z9z (by omega : ¬ i < d.length), cond_false]
 | k + 1, i, L, h, h1 => by
  obtain ⟨y, hy, hd⟩ := dropc (by omega : i < d.length)
  obtain ⟨s1, s2, s3, s4⟩ := zdq hc hf hy
  have hm : y.2 ∈ x.parts := by rw [za5 hf]; exact List.mem_map.2 ⟨y, List.mem_of_getElem? hy, rfl⟩
  have hcy := (z2b y.2).1
  have hr := zc1 (d.drop (i + 1))
  have hcd : cntD (y :: d.drop (i + 1)) = cnt y.2 + cntD (d.drop (i + 1)) := by obtain ⟨nm, z⟩ := y; simp [cntD]
  rw [hd, hcd] at h1
  rw [hd, hcd]
  obtain ⟨M, g1, g2⟩ := zmj (s := stN y.1) (way := way) (L := L) (ih y.2 hm) s3 (by omega) (by omega)
  obtain ⟨M', g3, g4⟩ := fnd_d hf ih hc hl k (i + 1) M (by omega) (by omega)
  refine ⟨M', ?_, by omega⟩
  rw [z9e]
  simp only [z5r, zab (by omega : i < d.length), cond_true, hy, Option.bind_some]
  rw [show S_api_Step.mk y.1 false 0 = stN y.1 from rfl, g1, Option.bind_some]
  simp only [Bool.not_true, cond_false]
  exact g3
theorem fnd_w (x : V) : FOk x := by
 induction x using V.byParts with
 | _ x ih =>
  intro way L hx hl h1
  have hd := Z10 x
  have hcx := (z2b x).1
  have hp : ∃ M, zqu x way (L ++ [way]) true 0 = some (M, true, 0) ∧ (M.length : Int) = L.length + cnt x := by
   rw [Z85, zl1]
   cases hL : x.isList with
   | true =>
    cases x with
    | list l =>
     have e := zgh l
     obtain ⟨M, g1, g2⟩ := fnd_l (l := l) (fun y hy => ih y hy) hx hl l.length 0 (L ++ [way]) (by omega) (by rw [List.drop_zero]; simp; omega)
     refine ⟨M, g1, ?_⟩
     rw [List.drop_zero] at g2
     simp at g2; omega
    | _ => simp [V.isList] at hL
   | false =>
    rw [cond_false]
    unfold z9f
    rw [zg2 hL hx, Option.bind_some]
    cases hf : fdF x with
    | some d =>
     have e := zs8 hf
     obtain ⟨M, g1, g2⟩ := fnd_d hf ih hx hl d.length 0 (L ++ [way]) (by omega) (by rw [List.drop_zero]; simp; omega)
     refine ⟨M, g1, ?_⟩
     rw [List.drop_zero] at g2
     simp at g2; omega
    | none =>
     have e := zgm hL hf
     refine ⟨L ++ [way], ?_, by simp; omega⟩
     simp only
     rw [z9e]; rfl
  obtain ⟨M, g1, g2⟩ := hp
  refine ⟨M, ?_, g2⟩
  rw [Z83, zl0, zzv hx (by omega) (by omega), Option.bind_some]
  simp only [cond_false]
  rw [show ((0 : Int) == 0) = true from rfl, cond_true, g1]; rfl
theorem Z0t (v : V) : Option.bind (zi6 v v true 0) (fun x4 => Option.bind (zjq v) fun x5 => bif (x4.1 != 0) then z9d v x4 x5 true else z9d v x4 x5 (x5.2.2 != 0)) = some true := by
 by_cases hv : Can v
 ·have hd := hv.2.2
  have hcv := hv.2.1
  have hcp := (z2b v).1
  rw [Z0v hv, Option.bind_some, zx6, zta hv, Option.bind_some]
  simp only
  rw [show ((0 : Int) != 0) = false from rfl, cond_false]
  unfold z9d
  rw [cond_false]
  have hm : zqx v 0 = some (v, 0, cnt v) := by
   unfold zqx
   rw [zbj, Option.bind_some, z2g hv, show ((0 : Int) != 0) = false from rfl, cond_false, Z5w v [] 0 hv (by simp; omega) (by omega) (by omega), Option.bind_some]
   simp only
   rw [show ((0 : Int) != 0) = false from rfl, cond_false, z7b hv, Option.bind_some, Int.zero_add]
  obtain ⟨M, f1, f2⟩ := fnd_w v [] [] hv (by simp; omega) (by simp; omega)
  have hfd : zqz v = some (M, 0) := by
   unfold zqz
   rw [zbj, Option.bind_some, z2g hv, show ((0 : Int) != 0) = false from rfl, cond_false, f1, Option.bind_some]
   simp only
   rw [show ((0 : Int) != 0) = false from rfl, cond_false]
  have hM : (M.length : Int) = cnt v := by simp at f2; omega
  rw [hm, Option.bind_some, hfd, Option.bind_some]
  simp only [cond_true]
  have e1 : ((0 : Int) == 0) = true := rfl
  by_cases h : cnt v ≤ 300
  ·rw [if_pos h, beq_self_eq_true, cond_true, e1, cond_true, cond_true, z8j, Option.bind_some, z4v hv, cond_true, cond_true, hM, beq_self_eq_true]
  ·rw [if_neg h]
   cases hb : ((301 : Int) == cnt v) with
   | true => rw [cond_true, e1, cond_true, beq_self_eq_true, cond_true, z8j, Option.bind_some, z4v hv, cond_true, cond_true, hM, beq_self_eq_true]
   | false =>
    rw [cond_false, beq_self_eq_true, cond_true, decide_eq_true (by omega), cond_true, e1, cond_true, beq_self_eq_true, cond_true, z8j, Option.bind_some, z4v hv, cond_true, cond_true, hM, beq_self_eq_true]
 ·have hn : (z1o v).2 ≠ 0 := fun h => hv (z8y h)
  have hsz : zjq v = some (0, 0, (z1o v).2) := by rw [zx6, (zjg hv).1]
  rw [zwu hv, Option.bind_some, hsz, Option.bind_some]
  simp only
  rw [zt5 hn, cond_true]
  unfold z9d
  rw [cond_true]
  simp only
  rw [beq_self_eq_true, cond_true]; rfl
theorem zfo {p : Prop} (a0 : Term) (h : bkT a0 ≤ 1048576) (ok0 : p) : ztz a0 = some true := by
 unfold ztz
 rw [Z66, Option.bind_some, Bool.not_true, cond_false, Z27 a0 (by omega), Option.bind_some]
 exact Z0t _
end Go.Proofs.YthidgpcbnieleaaGreatDoor

