/- Plain laws, one behind the other. -/
import Derived.Test.YthidgpcbnieleaaM0
namespace Go.Proofs.Ythidgpcbnieleaa
open Go Aw
set_option linter.unusedVariables false
set_option linter.unusedSimpArgs false
set_option maxRecDepth 8000
theorem zm3 (w : List Stp) : ∀ k i, k + i = w.length → zef w i = some (z85 (w.drop i))
 | 0, i, h => by
  rw [zhd]
  simp only [z62, z9m (by omega : ¬ i < w.length), cond_false]
  rw [List.drop_of_length_le (by omega)]; rfl
 | k + 1, i, h => by
  obtain ⟨s, hs, hd⟩ := dropc (by omega : i < w.length)
  have ih := zm3 w k (i + 1) (by omega)
  rw [zhd]
  simp only [z62, z8v (by omega : i < w.length), cond_true, hs, Option.bind_some]
  rw [hd, z85]
  have j2 : ∀ b, z5m (zef w) i b = some (if b = true then 1 else z85 (w.drop (i + 1))) := by
   intro b
   unfold z5m
   cases b with
   | true => rfl
   | false => rw [cond_false, ih]; rfl
  cases ha : s.f_At with
  | true =>
   rw [cond_true]
   by_cases hn : s.f_Name = []
   ·rw [hn, show (([] : Str) == []) = true from rfl, Bool.not_true, cond_false, cond_false]
    unfold z5n
    rw [cond_false, ha, cond_true]
    by_cases h1 : s.f_Index < 0
    ·rw [decide_eq_true h1, cond_true, j2, if_pos rfl]
     have hc : z5f s = 1 := by unfold z5f; simp [ha, hn, h1]
     rw [hc]; rfl
    ·rw [decide_eq_false h1, cond_false]
     by_cases h2 : s.f_Index ≥ 4096
     ·rw [decide_eq_true h2, cond_true, j2, if_pos rfl]
      have h3 : 4096 ≤ s.f_Index := h2
      have hc : z5f s = 1 := by unfold z5f; simp [ha, hn, h3]
      rw [hc]; rfl
     ·rw [decide_eq_false h2, cond_false, Bool.not_true, cond_false, j2]
      have h3 : ¬ 4096 ≤ s.f_Index := h2
      have hc : z5f s = 0 := by unfold z5f; simp [ha, hn, h1, h3]
      rw [hc]; rfl
   ·rw [show (s.f_Name == ([] : Str)) = false from by simpa using hn, Bool.not_false, cond_true]
    unfold z5n
    rw [cond_true]
    have hc : z5f s = 8 := by unfold z5f; simp [ha, hn]
    rw [hc]; rfl
  | false =>
   rw [cond_false, Bool.not_false, cond_true, zpe, Option.bind_some]
   unfold z5n
   cases hn : z2z s.f_Name with
   | false =>
    rw [Bool.not_false, cond_true]
    have hc : z5f s = 8 := by unfold z5f; simp [ha, hn]
    rw [hc]; rfl
   | true =>
    rw [Bool.not_true, cond_false, ha, cond_false, Bool.not_false, cond_true, j2]
    by_cases h1 : s.f_Index = 0
    ·have hc : z5f s = 0 := by unfold z5f; simp [ha, hn, h1]
     rw [hc, h1]; rfl
    ·have hc : z5f s = 1 := by unfold z5f; simp [ha, hn, h1]
     rw [hc, show (s.f_Index != 0) = true from by simpa using h1]; rfl
theorem zs8 (w : List Stp) : zq9 w = some (z2f w) := by
 unfold zq9 z2f
 by_cases h : 64 < w.length
 ·rw [decide_eq_true (by omega : ((w.length : Nat) : Int) > 64), cond_true, if_pos h]
 ·rw [decide_eq_false (by omega : ¬ ((w.length : Nat) : Int) > 64), cond_false, if_neg h]
  have := zm3 w w.length 0 (by omega)
  rw [List.drop_zero] at this; exact this
theorem z8p {t : Term} (hb : bkT t ≤ 268435456) (w : List Stp) : zjy t w = some (if (z1j (bu t)).2 ≠ 0 then (z1j (bu t)).2 else z2f w) := by
 unfold zjy
 rw [zl9 t hb, Option.bind_some]
 by_cases h : (z1j (bu t)).2 = 0
 ·rw [show ((z1j (bu t)).2 != 0) = false from by simp [h], cond_false, zs8, if_neg (by simp [h])]; rfl
 ·rw [ze0 h, cond_true, if_pos h]
abbrev tNone : Term := Term.mk 1 false 0 0 [] [] 0 [] [] [] 0
theorem z3s : bu tNone = .nil := by
 have h := zo2 tNone
 generalize bu tNone = x at h
 cases h <;> first | rfl | (rename_i h; exact absurd h (by decide))
theorem zf7 (l : List (Str × Term)) (n : Str) (hl : l.length ≤ 1048576) (c : Nat) (hc : Cut (l.map buE) n c) : ∀ k i, k + i = c → zhu l n (i : Int) = some ((c : Int), decide ((l[c]?).map (·.1) = some n))
 | 0, i, h => by
  have hi : i = c := by omega
  subst hi
  have hle := hc.le
  rw [List.length_map] at hle
  rw [zht]
  simp only [z68]
  by_cases h2 : i < l.length
  ·obtain ⟨x, hx, _⟩ := dropc h2
   have hhi := hc.hi i (buE x) (by rw [List.getElem?_map, hx]; rfl) (Nat.le_refl _)
   have hb : Op.bytesLess x.1 n = false := hhi
   rw [z8v h2, cond_true, z31, hx, Option.bind_some, hb]
   unfold z88
   rw [cond_false, z8v h2, cond_true, z31, hx, Option.bind_some]
   congr 2
   by_cases he : x.1 = n
   ·simp [he]
   ·simp [he]
  ·rw [z9m h2, cond_false]
   unfold z88
   rw [cond_false, z9m h2, cond_false, List.getElem?_eq_none (by omega)]; rfl
 | k + 1, i, h => by
  have hle := hc.le
  rw [List.length_map] at hle
  obtain ⟨x, hx, _⟩ := dropc (by omega : i < l.length)
  have hlo := hc.lo i (buE x) (by rw [List.getElem?_map, hx]; rfl) (by omega)
  rw [zht]
  simp only [z68]
  rw [z8v (by omega : i < l.length), cond_true, z31, hx, Option.bind_some, show Op.bytesLess x.1 n = true from hlo]
  unfold z88
  rw [cond_true, z46 (by omega) (by omega)]
  exact zf7 l n hl c hc k (i + 1) (by omega)
theorem z8q {l : List (Str × Term)} {n : Str} (hs : ((l.map buE).map (·.1)).Pairwise zlt) (hl : l.length ≤ 1048576) : ∃ c, Cut (l.map buE) n c ∧ zjx l n = some ((c : Int), decide ((l[c]?).map (·.1) = some n)) := by
 obtain ⟨c, hc, _⟩ := zga (d := l.map buE) (n := n) hs (by rw [List.length_map]; omega)
 exact ⟨c, hc, zf7 l n hl c hc c 0 (by omega)⟩
theorem zrz (t : Term) (s : Stp) : zic t s = some (if s.f_At = true then t.kind == 8 else (t.kind == 9 || t.kind == 10)) := by
 unfold zic zqn
 cases ha : s.f_At with
 | true => rw [cond_true]; cases t.kind == 8 <;> rfl
 | false => rw [cond_false, Bool.not_false, cond_true]; cases t.kind == 9 <;> simp
theorem z8u {t : Term} (h : t.kind = 8) : bu t = .list (t.list.map bu) := by
 have hb := zo2 t
 generalize bu t = x at hb
 cases hb <;> first | rfl | (rename_i h2; omega)
theorem zaw {t : Term} (h : t.kind = 9 ∨ t.kind = 10) : fdF (bu t) = some (t.fields.map buE) := by
 have hb := zo2 t
 generalize bu t = x at hb
 cases hb <;> first | rfl | (rename_i h2; omega)
theorem zax {t : Term} (h8 : t.kind ≠ 8) (h9 : t.kind ≠ 9) (h10 : t.kind ≠ 10) : fdF (bu t) = none ∧ (bu t).isList = false := by
 have hb := zo2 t
 generalize bu t = x at hb
 cases hb <;> first | exact ⟨rfl, rfl⟩ | (rename_i h2; omega)
theorem z5j {v : V} (h1 : fdF v = none) (h2 : v.isList = false) (s : Stp) : z1g v s = (.nil, 41) := by
 cases v <;> first | rfl | (simp [V.isList] at h2; done) | (simp [fdF] at h1; done) | simp [z1g, fdF]
noncomputable def getD (w : List Stp) (i : Nat) (t : Term) : Option (Term × Int) := zhg w i t.kind t.bool t.int t.float t.text t.bytes t.ref t.list t.fields t.cls t.ver
theorem zkw (t : Term) : Term.mk t.kind t.bool t.int t.float t.text t.bytes t.ref t.list t.fields t.cls t.ver = t := by cases t; rfl
theorem zm2 (w : List Stp) (hw : ∀ s, s ∈ w → z5f s = 0) : ∀ k i (t : Term), k + i = w.length → Can (bu t) → bkT t ≤ 1048576 → ∃ u, getD w i t = some (u, (z5v (bu t) (w.drop i)).2) ∧ bu u = (z5v (bu t) (w.drop i)).1 ∧ bkT u ≤ 1048576
 | 0, i, t, h, hc, hb => by
  refine ⟨t, ?_, ?_, hb⟩
  ·unfold getD
   rw [zhf]
   simp only [z64, z9m (by omega : ¬ i < w.length), cond_false]
   rw [zkw, List.drop_of_length_le (by omega)]; rfl
  ·rw [List.drop_of_length_le (by omega)]; rfl
 | k + 1, i, t, h, hc, hb => by
  obtain ⟨s, hs, hd⟩ := dropc (by omega : i < w.length)
  have hcs := hw s (List.mem_of_getElem? hs)
  -- a step that fails, a step that leads on
  have bad : ∀ code : Int, code ≠ 0 → z1g (bu t) s = (.nil, code) → getD w i t = some (tNone, code) → ∃ u, getD w i t = some (u, (z5v (bu t) (w.drop i)).2) ∧ bu u = (z5v (bu t) (w.drop i)).1 ∧ bkT u ≤ 1048576 := by
   intro code hne he hg
   refine ⟨tNone, ?_, ?_, by decide⟩
   ·rw [hg, hd, z5v, he, if_pos hne]
   ·rw [hd, z5v, he, if_pos hne, z3s]
  have good : ∀ x : Term, z1g (bu t) s = (bu x, 0) → Can (bu x) → bkT x ≤ 1048576 → getD w i t = getD w (i + 1) x → ∃ u, getD w i t = some (u, (z5v (bu t) (w.drop i)).2) ∧ bu u = (z5v (bu t) (w.drop i)).1 ∧ bkT u ≤ 1048576 := by
   intro x he hcx hbx hg
   rw [hg, hd, z5v, he, if_neg (by simp)]
   exact zm2 w hw k (i + 1) x (by omega) hcx hbx
  have hu : getD w i t = Option.bind (zic t s) fun x27 => bif (!x27) then some (tNone, 41) else (
   bif s.f_At then (bif (decide (s.f_Index ≥ ((t.list.length : Nat) : Int))) then some (tNone, 42) else Option.bind (z8x t.list s.f_Index) fun x33 => getD w (i + 1) x33)
   else Option.bind (zjx t.fields s.f_Name) fun x34 => bif (!x34.2) then some (tNone, 40) else Option.bind (z8x t.fields x34.1) fun x37 => getD w (i + 1) x37.2) := by
   unfold getD
   rw [zhf]
   simp only [z64, z8v (by omega : i < w.length), cond_true, hs, Option.bind_some]
   rw [zkw]
   rfl
  rw [zrz, Option.bind_some] at hu
  cases ha : s.f_At with
  | true =>
   rw [ha, if_pos rfl] at hu
   by_cases h8 : t.kind = 8
   ·rw [show (t.kind == 8) = true from by simp [h8], Bool.not_true, cond_false, cond_true] at hu
    obtain ⟨_, i0, _⟩ := zgg hcs ha
    have hl := z8u h8
    by_cases hi : s.f_Index ≥ ((t.list.length : Nat) : Int)
    ·rw [decide_eq_true hi, cond_true] at hu
     refine bad 42 (by decide) ?_ hu
     rw [hl]; simp only [z1g]
     rw [if_pos ha, List.getElem?_eq_none (by rw [List.length_map]; omega)]
    ·rw [decide_eq_false hi, cond_false, show s.f_Index = ((s.f_Index.toNat : Nat) : Int) by omega, z31] at hu
     obtain ⟨x, hx, _⟩ := dropc (by omega : s.f_Index.toNat < t.list.length)
     rw [hx, Option.bind_some] at hu
     have hm : x ∈ t.list := List.mem_of_getElem? hx
     refine good x ?_ (z8y hc (by rw [hl]; exact List.mem_map_of_mem hm)) (by have := zsn hm; omega) hu
     rw [hl]; simp only [z1g]
     rw [if_pos ha, List.getElem?_map, hx]; rfl
   ·rw [show (t.kind == 8) = false from by simpa using h8, Bool.not_false, cond_true] at hu
    refine bad 41 (by decide) ?_ hu
    by_cases h9 : t.kind = 9 ∨ t.kind = 10
    ·rw [z4h (zaw h9), if_pos ha]
    ·have := zax h8 (fun e => h9 (.inl e)) (fun e => h9 (.inr e))
     exact z5j this.1 this.2 s
  | false =>
   rw [ha, if_neg (by simp)] at hu
   by_cases h9 : t.kind = 9 ∨ t.kind = 10
   ·have hf := zaw h9
    rw [show (t.kind == 9 || t.kind == 10) = true from by simpa using h9, Bool.not_true, cond_false, cond_false] at hu
    have hfe := zk7 hc hf
    have hlen := z7w hfe
    rw [List.length_map, List.length_map] at hlen
    obtain ⟨c, hcut, hfd⟩ := z8q (l := t.fields) (n := s.f_Name) (z4f hfe) (by omega)
    rw [hfd, Option.bind_some] at hu
    simp only at hu
    have hget := zdp (z4f hfe) hcut
    cases hx : t.fields[c]? with
    | none =>
     rw [hx] at hu
     rw [List.getElem?_map, hx] at hget
     refine bad 40 (by decide) ?_ hu
     rw [z4h hf, if_neg (by rw [ha]; simp), hget]; rfl
    | some x =>
     rw [hx] at hu
     rw [List.getElem?_map, hx] at hget
     simp only [Option.map_some] at hu hget
     by_cases hn : x.1 = s.f_Name
     ·rw [show decide (some x.1 = some s.f_Name) = true from decide_eq_true (by rw [hn]), Bool.not_true, cond_false, z31, hx, Option.bind_some] at hu
      have hm : x ∈ t.fields := List.mem_of_getElem? hx
      refine good x.2 ?_ (z8y hc (by rw [zlx hf]; exact List.mem_map.2 ⟨buE x, List.mem_map_of_mem hm, rfl⟩)) (by have := zjc hm; omega) hu
      rw [z4h hf, if_neg (by rw [ha]; simp), hget, if_pos (show (buE x).1 = s.f_Name from hn)]; rfl
     ·rw [show decide (some x.1 = some s.f_Name) = false from decide_eq_false (by simpa using hn), Bool.not_false, cond_true] at hu
      refine bad 40 (by decide) ?_ hu
      rw [z4h hf, if_neg (by rw [ha]; simp), hget, if_neg (show ¬ (buE x).1 = s.f_Name from hn)]
   ·rw [show (t.kind == 9 || t.kind == 10) = false from by simpa using h9, Bool.not_false, cond_true] at hu
    refine bad 41 (by decide) ?_ hu
    by_cases h8 : t.kind = 8
    ·rw [z8u h8]; simp only [z1g]; rw [if_neg (by rw [ha]; simp)]
    ·have := zax h8 (fun e => h9 (.inl e)) (fun e => h9 (.inr e))
     exact z5j this.1 this.2 s
theorem zj8 {t : Term} {w : List Stp} (hw : ∀ s, s ∈ w → z5f s = 0) (hc : Can (bu t)) (hb : bkT t ≤ 1048576) : ∃ u, zqc t w = some (u, (z5v (bu t) w).2) ∧ bu u = (z5v (bu t) w).1 ∧ bkT u ≤ 1048576 := by
 have := zm2 w hw w.length 0 t (by omega) hc hb
 rw [List.drop_zero] at this
 exact this
theorem zyq {t : Term} {w : List Stp} (hb : bkT t ≤ 1048576) : ∃ u, zq8 t w = some (u, (zob (bu t) w).2) ∧ bu u = (zob (bu t) w).1 ∧ bkT u ≤ 1048576 := by
 have hf := z8p (t := t) (by omega) w
 unfold zq8
 rw [hf, Option.bind_some]
 by_cases h1 : (z1j (bu t)).2 = 0
 ·rw [if_neg (by simp [h1])]
  by_cases h2 : z2f w = 0
  ·obtain ⟨u, g1, g2, g3⟩ := zj8 (z3x h2).2 (z3r h1) hb
   rw [show (z2f w != 0) = false from by simp [h2], cond_false, g1, Option.bind_some]
   have hG : zob (bu t) w = z5v (bu t) w := by
    unfold zob
    rw [if_neg (by simp [h1]), if_neg (by simp [h2])]
    by_cases h3 : (z5v (bu t) w).2 = 0
    ·rw [if_neg (by simp [h3])]
    ·rw [if_pos h3]; exact (getF_nil h3).symm
   exact ⟨u, by rw [hG], by rw [hG]; exact g2, g3⟩
  ·rw [ze0 h2, cond_true]
   refine ⟨tNone, ?_, ?_, by decide⟩
   ·unfold zob; rw [if_neg (by simp [h1]), if_pos h2]; rfl
   ·unfold zob; rw [if_neg (by simp [h1]), if_pos h2, z3s]
 ·rw [if_pos h1, ze0 h1, cond_true]
  refine ⟨tNone, ?_, ?_, by decide⟩
  ·unfold zob; rw [if_pos h1]; rfl
  ·unfold zob; rw [if_pos h1, z3s]
where getF_nil : ∀ {w : List Stp} {v : V}, (z5v v w).2 ≠ 0 → z5v v w = (.nil, (z5v v w).2)
 | [], v, h => absurd rfl h
 | s :: r, v, h => by
  rw [z5v] at h ⊢
  by_cases he : (z1g v s).2 = 0
  ·rw [if_neg (by simp [he])] at h ⊢; exact getF_nil h
  ·rw [if_pos he]
end Go.Proofs.Ythidgpcbnieleaa

namespace Go.Proofs.Ythidgpcbnieleaa
open Go Aw
set_option linter.unusedVariables false
set_option linter.unusedSimpArgs false
set_option maxRecDepth 8000
def zo9 : Fds → Str → V → Fds
 | [], n, x => [(n, x)]
 | f :: r, n, x => if f.1 = n then (n, x) :: r else if Op.bytesLess f.1 n = true then f :: zo9 r n x else (n, x) :: f :: r
def zw9 : Fds → Str → Fds
 | [], _ => []
 | f :: r, n => if f.1 = n then r else f :: zw9 r n
theorem zsa {f : Str × V} {r : Fds} {n : Str} {c : Nat} (h : Cut (f :: r) n (c + 1)) : Cut r n c :=
 ⟨by have := h.le; simp at this; omega, fun k x hx hk => h.lo (k + 1) x (by simpa using hx) (by omega), fun k x hx hk => h.hi (k + 1) x (by simpa using hx) (by omega)⟩
theorem zsb {f : Str × V} {r : Fds} {n : Str} {c : Nat} (h : Cut (f :: r) n (c + 1)) : Op.bytesLess f.1 n = true ∧ f.1 ≠ n := by
 have h0 := h.lo 0 f rfl (by omega)
 exact ⟨h0, fun e => by rw [e] at h0; exact zoc _ (bl_lt.1 h0)⟩
theorem zcp {n : Str} {x : V} : ∀ {d : Fds} {c : Nat} {y : Str × V}, Cut d n c → d[c]? = some y → y.1 = n → zo9 d n x = d.set c (y.1, x)
 | [], c, y, _, h, _ => by simp at h
 | f :: r, 0, y, h, hx, hy => by
  simp at hx; subst hx; subst hy
  rw [zo9, if_pos rfl]; rfl
 | f :: r, c + 1, y, h, hx, hy => by
  obtain ⟨h1, h2⟩ := zsb h
  rw [zo9, if_neg h2, if_pos h1, zcp (zsa h) (by simpa using hx) hy]; rfl
theorem zjr {n : Str} {x : V} : ∀ {d : Fds} {c : Nat}, Cut d n c → (d[c]?).map (·.1) ≠ some n → zo9 d n x = d.take c ++ [(n, x)] ++ d.drop c
 | [], c, h, _ => by simp [zo9]
 | f :: r, 0, h, hn => by
  have h0 := h.hi 0 f rfl (Nat.le_refl _)
  rw [zo9, if_neg (fun e => hn (by simp [e])), if_neg (by rw [h0]; simp)]; rfl
 | f :: r, c + 1, h, hn => by
  obtain ⟨h1, h2⟩ := zsb h
  rw [zo9, if_neg h2, if_pos h1, zjr (zsa h) (by simpa using hn)]; rfl
theorem zdo {n : Str} : ∀ {d : Fds} {c : Nat} {y : Str × V}, Cut d n c → d[c]? = some y → y.1 = n → zw9 d n = d.take c ++ d.drop (c + 1)
 | [], c, y, _, h, _ => by simp at h
 | f :: r, 0, y, h, hx, hy => by
  simp at hx; subst hx; subst hy
  rw [zw9, if_pos rfl]; rfl
 | f :: r, c + 1, y, h, hx, hy => by
  obtain ⟨h1, h2⟩ := zsb h
  rw [zw9, if_neg h2, zdo (zsa h) (by simpa using hx) hy]; rfl
theorem Z11 {α : Type} {b : Nat} {l : List α} {k : Nat} {a : α} (hk : k ≤ l.length) (hb : b ≤ 1024) (hl : l.length ≤ 268435456) : zzf b l (k : Int) a = some (l.take k ++ [a] ++ l.drop k) := by
 unfold zzf
 have h1 : (l.length + 1) * b ≤ 268435457 * 1024 := Nat.mul_le_mul (by omega) hb
 rw [decide_eq_true (by omega : (0 : Int) ≤ (k : Int)), decide_eq_true (by omega : (k : Int) ≤ (l.length : Int)), Nat.ble_eq_true_of_le (by omega : (l.length + 1) * b ≤ 140737488355328), Nat.ble_eq_true_of_le (by omega : l.length ≤ 4611686018427387904)]
 simp only [Bool.and_self, cond_true, Int.toNat_natCast]
theorem zwg {α : Type} {l : List α} {k : Nat} (hk : k < l.length) (hl : l.length ≤ 268435456) : zys l (k : Int) (IntKind.i64.wrap ((k : Int) + 1)) = some (l.take k ++ l.drop (k + 1)) := by
 unfold zys
 rw [z46 (by omega) (by omega), decide_eq_true (by omega : (0 : Int) ≤ (k : Int)), decide_eq_true (by omega : (k : Int) < (l.length : Int)), decide_eq_true rfl]
 simp only [Bool.and_self, cond_true, Int.toNat_natCast]
theorem zgo {d : Fds} {n : Str} {x : V} (hs : (d.map (·.1)).Pairwise zlt) (hl : d.length ≤ 268435456) : znk d n x = some (zo9 d n x) := by
 unfold znk znp
 rw [zsr (by omega) (by omega), Option.bind_some, Option.bind_some]
 obtain ⟨c, h1, h2⟩ := zga (n := n) hs hl
 rw [h2, Option.bind_some]
 by_cases he : (d[c]?).map (·.1) = some n
 ·obtain ⟨y, hy, hn⟩ := Option.map_eq_some_iff.1 he
  rw [decide_eq_true he, cond_true, z31, hy, Option.bind_some, zcp h1 hy hn, Int.toNat_natCast]
 ·rw [decide_eq_false he, cond_false, Z11 h1.le (by omega) hl, Option.bind_some, zjr h1 he]
theorem zc0 {d : Fds} {s : Stp} (hs : (d.map (·.1)).Pairwise zlt) (hl : d.length ≤ 268435456) {y : V} (hy : fget d s.f_Name = some y) : znj d s = some (zw9 d s.f_Name) := by
 unfold znj znp
 obtain ⟨c, h1, h2⟩ := zga (n := s.f_Name) hs hl
 rw [h2, Option.bind_some, zsr (by omega) (by omega), Option.bind_some, Option.bind_some]
 rw [zdp hs h1] at hy
 cases hx : d[c]? with
 | none => rw [hx] at hy; cases hy
 | some z =>
  rw [hx] at hy
  simp only at hy
  by_cases hz : z.1 = s.f_Name
  ·rw [zwg (List.getElem?_eq_some_iff.1 hx).1 hl, Option.bind_some, zdo h1 hx hz]
  ·rw [if_neg hz] at hy; cases hy
def zfn (v : V) (d : Fds) : V :=
 match v with
 | .dict _ => .dict d
 | .record c k _ => .record c k d
 | v => v
def withF (v : V) (s : Stp) (x : V) : V :=
 match v with
 | .list l => if s.f_Index = ((l.length : Nat) : Int) then .list (l ++ [x]) else .list (l.set s.f_Index.toNat x)
 | v => match fdF v with
  | some d => zfn v (zo9 d s.f_Name x)
  | none => v
def z2x (v : V) (s : Stp) : V :=
 match v with
 | .list l => .list (l.take s.f_Index.toNat ++ l.drop (s.f_Index.toNat + 1))
 | v => match fdF v with
  | some d => zfn v (zw9 d s.f_Name)
  | none => v
def zh4 (room : Bool) (v : V) (s : Stp) : Prop := (z1g v s).2 = 0 ∨ (room = true ∧ ((z1g v s).2 = 40 ∨ ((z1g v s).2 = 42 ∧ v.isList = true ∧ s.f_Index = ((v.asList.length : Nat) : Int))))
theorem zod {v : V} {d : Fds} (h : fdF v = some d) (s : Stp) (x : V) : withF v s x = zfn v (zo9 d s.f_Name x) := by
 cases v <;> first | (cases h; rfl) | cases h
theorem ze7 {v : V} {d : Fds} (h : fdF v = some d) (s : Stp) : z2x v s = zfn v (zw9 d s.f_Name) := by
 cases v <;> first | (cases h; rfl) | cases h
theorem zdc {room : Bool} {l : List V} {s : Stp} (hs : z5f s = 0) (h : zh4 room (.list l) s) : s = stA s.f_Index.toNat ∧ s.f_Index = ((s.f_Index.toNat : Nat) : Int) ∧ s.f_Index.toNat ≤ l.length := by
 cases ha : s.f_At with
 | false =>
  have e : (z1g (.list l) s).2 = 41 := by simp only [z1g]; rw [if_neg (by rw [ha]; simp)]
  rcases h with h | ⟨_, h | ⟨h, _⟩⟩ <;> rw [e] at h <;> cases h
 | true =>
  obtain ⟨h1, h2, h3⟩ := zgg hs ha
  refine ⟨h1, by omega, ?_⟩
  have e := zop l s.f_Index.toNat
  rw [← h1] at e
  cases hx : l[s.f_Index.toNat]? with
  | some y => have := (List.getElem?_eq_some_iff.1 hx).1; omega
  | none =>
   rw [hx] at e
   rcases h with h | ⟨_, h | ⟨h, _, h4⟩⟩
   ·rw [e] at h; cases h
   ·rw [e] at h; cases h
   ·simp only [V.asList] at h4; omega
theorem zoe {N : Nat} {room : Bool} {v : V} {s : Stp} {x : V} (hv : Wv N v) (hN : N ≤ 268435456) (hs : z5f s = 0) (h : zh4 room v s) : zdy v s x = some (withF v s x) := by
 have flds : ∀ d, fdF v = some d → v.isList = false → zdy v s x = some (withF v s x) := by
  intro d hd hl
  obtain ⟨h1, h2⟩ := hv.fd d hd
  have hw := zgo (n := s.f_Name) (x := x) h1 (Nat.le_trans h2 hN)
  unfold zdy
  rw [hl, cond_false, zod hd]
  cases v with
  | dict y => cases hd; simp only [V.isDict, cond_true, V.asDict, hw, Option.bind_some, zfn]
  | record c k y =>
   cases hd
   simp only [V.isDict, cond_false, V.isRec, cond_true, V.asRec, Option.bind_some, hw, zfn]
  | _ => cases hd
 cases v with
 | list l =>
  obtain ⟨h1, h2, h3⟩ := zdc hs h
  have hlen := Nat.le_trans (hv.li l rfl) hN
  unfold zdy zno
  simp only [V.isList, cond_true, V.asList]
  rw [zsr (by omega) (by omega), Option.bind_some, Option.bind_some]
  by_cases he : s.f_Index = ((l.length : Nat) : Int)
  ·rw [show (s.f_Index == ((l.length : Nat) : Int)) = true from by simpa using he, cond_true, zoa (by omega) (by omega), Option.bind_some]
   simp only [withF]; rw [if_pos he]
  ·rw [show (s.f_Index == ((l.length : Nat) : Int)) = false from by simpa using he, cond_false]
   have hlt : s.f_Index.toNat < l.length := by omega
   have hi : z8x l s.f_Index = some l[s.f_Index.toNat] := by
    have := z31 l s.f_Index.toNat
    rw [← h2] at this
    rw [this]; exact List.getElem?_eq_getElem hlt
   rw [hi, Option.bind_some]
   simp only [withF]; rw [if_neg he]
 | dict d => exact flds d rfl rfl
 | record c k d => exact flds d rfl rfl
 | nothing => exact absurd rfl hv.nn
 | _ => rfl
theorem zmp {N : Nat} {v : V} {s : Stp} (hv : Wv N v) (hN : N ≤ 268435456) (hs : z5f s = 0) (h : (z1g v s).2 = 0) : zie v s = some (z2x v s) := by
 have flds : ∀ d, fdF v = some d → v.isList = false → zie v s = some (z2x v s) := by
  intro d hd hl
  obtain ⟨h1, h2⟩ := hv.fd d hd
  rw [z4h hd] at h
  cases ha : s.f_At with
  | true => rw [if_pos ha] at h; cases h
  | false =>
   rw [if_neg (by rw [ha]; simp)] at h
   cases hg : fget d s.f_Name with
   | none => rw [hg] at h; cases h
   | some y =>
    have hw := zc0 h1 (Nat.le_trans h2 hN) hg
    unfold zie
    rw [hl, cond_false, ze7 hd]
    cases v with
    | dict y => cases hd; simp only [V.isDict, cond_true, V.asDict, hw, Option.bind_some, zfn]
    | record c k y =>
     cases hd
     simp only [V.isDict, cond_false, V.isRec, cond_true, V.asRec, Option.bind_some, hw, zfn]
    | _ => cases hd
 cases v with
 | list l =>
  obtain ⟨h1, h2, h3⟩ := zdc (room := false) hs (.inl h)
  have hlen := Nat.le_trans (hv.li l rfl) hN
  have hlt : s.f_Index.toNat < l.length := by
   rw [h1, zop] at h
   cases hx : l[s.f_Index.toNat]? with
   | some y => exact (List.getElem?_eq_some_iff.1 hx).1
   | none => rw [hx] at h; cases h
  unfold zie zno
  simp only [V.isList, cond_true, V.asList]
  have hd := zwg hlt hlen
  rw [← h2] at hd
  rw [zsr (by omega) (by omega), Option.bind_some, Option.bind_some, hd, Option.bind_some]
  rfl
 | dict d => exact flds d rfl rfl
 | record c k d => exact flds d rfl rfl
 | nothing => exact absurd rfl hv.nn
 | _ => rfl
end Go.Proofs.Ythidgpcbnieleaa

namespace Go.Proofs.Ythidgpcbnieleaa
open Go Aw
set_option linter.unusedVariables false
set_option linter.unusedSimpArgs false
set_option maxRecDepth 8000
def roomB (room : Bool) (v : V) (s : Stp) : Bool := ((z1g v s).2 == 0) || (room && ((z1g v s).2 == 40 || ((z1g v s).2 == 42 && (v.isList && s.f_Index == ((v.asList.length : Nat) : Int)))))
theorem zvr {room : Bool} {v : V} {s : Stp} (h : roomB room v s = true) : zh4 room v s := by
 unfold roomB at h
 simp only [Bool.or_eq_true, Bool.and_eq_true, beq_iff_eq] at h
 exact h
def chF (room : Bool) (fin : V → Stp → V) : V → List Stp → V × Int
 | _, [] => (.nil, 0)
 | v, [s] => if roomB room v s = true then (fin v s, 0) else (.nil, (z1g v s).2)
 | v, s :: t :: r => if (z1g v s).2 ≠ 0 then (.nil, (z1g v s).2) else if (chF room fin (z1g v s).1 (t :: r)).2 ≠ 0 then (.nil, (chF room fin (z1g v s).1 (t :: r)).2) else (withF v s (chF room fin (z1g v s).1 (t :: r)).1, 0)
def chK (f : V → Stp → Option V) (a0 : V) (x1 : Stp) (s4 : Int) : Option (V × Int) := bif s4 != 0 then some (V.nil, s4) else Option.bind (f a0 x1) fun x6 => some (x6, 0)
def chJ (f : V → Stp → Option V) (a0 : V) (x1 : Stp) (x3 : V × Int) (s7 : Bool) : Option (V × Int) := bif s7 then chK f a0 x1 0 else chK f a0 x1 x3.2
noncomputable def chB (f : V → Stp → Option V) (F : V → List Stp → Bool → Option (V × Int)) (a0 : V) (a1 : List Stp) (a2 : Bool) : Option (V × Int) :=
 Option.bind (a1[0]?) fun x1 =>
 bif (((a1.length : Nat) : Int) == 1) then
  Option.bind (z8g a0 x1) fun x3 =>
  bif a2 then (bif x3.2 == 40 then chJ f a0 x1 x3 true else bif x3.2 == 42 then (bif a0.isList then chJ f a0 x1 x3 (x1.f_Index == ((a0.asList.length : Nat) : Int)) else chJ f a0 x1 x3 false) else chJ f a0 x1 x3 false) else chJ f a0 x1 x3 false
 else
  Option.bind (z8g a0 x1) fun x13 =>
  bif x13.2 != 0 then some (V.nil, x13.2) else
   Option.bind (z83 a1 1 (a1.length : Int)) fun x15 =>
   Option.bind (F x13.1 x15 a2) fun x16 =>
   bif x16.2 != 0 then some (V.nil, x16.2) else
    Option.bind (zdy a0 x1 x16.1) fun x18 => some (x18, 0)
theorem zzj {a b : Int} (h : a = b) : (a == b) = true := by simpa using h
theorem zwn {a b : Int} (h : ¬ a = b) : (a == b) = false := by simpa using h
theorem zwm {a : Int} (h : a = 0) : (a != 0) = false := by simp [h]
theorem Z2b {f : V → Stp → Option V} {fin : V → Stp → V} {v : V} {s : Stp} {b : Bool} (h : b = true ∨ (z1g v s).2 = 0 → f v s = some (fin v s)) :
 chJ f v s (z1g v s) b = some (if b = true ∨ (z1g v s).2 = 0 then (fin v s, 0) else (.nil, (z1g v s).2)) := by
 unfold chJ chK
 cases b with
 | true => rw [if_pos (.inl rfl), cond_true, show ((0 : Int) != 0) = false from rfl, cond_false, h (.inl rfl)]; rfl
 | false =>
  rw [cond_false]
  by_cases he : (z1g v s).2 = 0
  ·rw [if_pos (.inr he), zwm he, cond_false, h (.inr he)]; rfl
  ·rw [if_neg (by simp [he]), ze0 he, cond_true]
theorem zyu {f : V → Stp → Option V} {fin : V → Stp → V} {v : V} {s : Stp} {room : Bool} (h : roomB room v s = true → f v s = some (fin v s)) :
 (bif room then (bif (z1g v s).2 == 40 then chJ f v s (z1g v s) true else bif (z1g v s).2 == 42 then (bif v.isList then chJ f v s (z1g v s) (s.f_Index == ((v.asList.length : Nat) : Int)) else chJ f v s (z1g v s) false) else chJ f v s (z1g v s) false) else chJ f v s (z1g v s) false) =
  some (if roomB room v s = true then (fin v s, 0) else (.nil, (z1g v s).2)) := by
 have key : ∀ b : Bool, (b || (z1g v s).2 == 0) = roomB room v s → chJ f v s (z1g v s) b = some (if roomB room v s = true then (fin v s, 0) else (.nil, (z1g v s).2)) := by
  intro b hb
  have e : (b = true ∨ (z1g v s).2 = 0) ↔ roomB room v s = true := by rw [← hb]; simp
  rw [Z2b (fun hh => h (e.1 hh))]
  by_cases hr : roomB room v s = true
  ·rw [if_pos hr, if_pos (e.2 hr)]
  ·rw [if_neg hr, if_neg (fun hh => hr (e.1 hh))]
 cases room with
 | false => rw [cond_false]; exact key false (by simp [roomB])
 | true =>
  rw [cond_true]
  by_cases h40 : (z1g v s).2 = 40
  ·rw [zzj h40, cond_true]; exact key true (by simp [roomB, h40])
  ·rw [zwn h40, cond_false]
   by_cases h42 : (z1g v s).2 = 42
   ·rw [zzj h42, cond_true]
    cases hl : v.isList with
    | true => rw [cond_true]; exact key _ (by simp [roomB, h42, hl])
    | false => rw [cond_false]; exact key false (by simp [roomB, h42, hl])
   ·rw [zwn h42, cond_false]; exact key false (by simp [roomB, h40, h42])
theorem zyv {N : Nat} (hN : N ≤ 268435456) {f : V → Stp → Option V} {fin : V → Stp → V} {F : V → List Stp → Bool → Option (V × Int)} {room : Bool} (hF : ∀ v w, F v w room = chB f F v w room)
 (hf : ∀ v s, Wv N v → z5f s = 0 → roomB room v s = true → f v s = some (fin v s)) : ∀ (w : List Stp) (v : V), Wd N v → (∀ s, s ∈ w → z5f s = 0) → w ≠ [] → w.length ≤ 268435456 → F v w room = some (chF room fin v w)
 | [], v, _, _, hne, _ => absurd rfl hne
 | [s], v, hv, hw, _, _ => by
  have hs := hw s (by simp)
  rw [hF, chB, chF]
  rw [show [s][0]? = some s from rfl, Option.bind_some, show ((([s].length : Nat) : Int) == 1) = true from rfl, cond_true, zxr hv.v hN hs, Option.bind_some]
  exact zyu (fun h => hf v s hv.v hs h)
 | s :: t :: r, v, hv, hw, _, hlen => by
  have hs := hw s (by simp)
  rw [hF, chB, chF]
  have hl : ((((s :: t :: r).length : Nat) : Int) == 1) = false := zwn (by simp only [List.length_cons]; omega)
  rw [show (s :: t :: r)[0]? = some s from rfl, Option.bind_some, hl, cond_false, zxr hv.v hN hs, Option.bind_some]
  by_cases he : (z1g v s).2 = 0
  ·have hp : z1g v s = ((z1g v s).1, 0) := Prod.ext rfl he
   have hc : z83 (s :: t :: r) 1 (((s :: t :: r).length : Nat) : Int) = some (t :: r) := by
    have := z5e (s := s :: t :: r) (a := 1) (b := (s :: t :: r).length) (by simp) (Nat.le_refl _)
    rw [List.take_of_length_le (Nat.le_refl _)] at this; exact this
   rw [zwm he, cond_false, hc, Option.bind_some, zyv hN hF hf (t :: r) (z1g v s).1 (hv.part _ (z93 hp)) (fun x hx => hw x (by simp [hx])) (by simp) (by simp only [List.length_cons] at hlen ⊢; omega), Option.bind_some, if_neg (by simp [he])]
   by_cases h2 : (chF room fin (z1g v s).1 (t :: r)).2 = 0
   ·rw [zwm h2, cond_false, zoe (room := false) hv.v hN hs (.inl he), Option.bind_some, if_neg (by simp [h2])]
   ·rw [ze0 h2, cond_true, if_pos h2]
  ·rw [ze0 he, cond_true, if_pos he]
theorem zmv {v : V} {s : Stp} (h : roomB false v s = true) : (z1g v s).2 = 0 := by simpa [roomB] using h
theorem zny {N : Nat} {v : V} {w : List Stp} (hv : Wd N v) (hN : N ≤ 268435456) (hw : ∀ s, s ∈ w → z5f s = 0) (hne : w ≠ []) (hl : w.length ≤ 268435456) : znn v w false = some (chF false z2x v w) :=
 zyv (f := zie) (F := znn) hN (fun v w => by rw [Z58]; rfl) (fun v s hv hs hr => zmp hv hN hs (zmv hr)) w v hv hw hne hl
end Go.Proofs.Ythidgpcbnieleaa

namespace Go.Proofs.Ythidgpcbnieleaa
open Go Aw
set_option linter.unusedVariables false
set_option linter.unusedSimpArgs false
set_option maxRecDepth 8000
theorem zxf {N : Nat} {v x : V} {w : List Stp} {room : Bool} (hv : Wd N v) (hN : N ≤ 268435456) (hw : ∀ s, s ∈ w → z5f s = 0) (hne : w ≠ []) (hl : w.length ≤ 268435456) : znm v w room x = some (chF room (fun p s => withF p s x) v w) :=
 zyv (f := fun p s => znf p s x) (F := fun v w room => znm v w room x) hN (fun v w => by rw [Z57]; rfl) (fun v s hv hs hr => by
  show znf v s x = _
  unfold znf
  rw [zoe hv hN hs (zvr hr)]; rfl) w v hv hw hne hl
noncomputable def zz9 (v : V) (w : List Stp) (x : V) : V × Int :=
 if (z1j v).2 ≠ 0 then (.nil, (z1j v).2) else if z2f w ≠ 0 then (.nil, z2f w) else if (z1j x).2 ≠ 0 then (.nil, (z1j x).2) else
 if w = [] then (x, 0) else if (chF true (fun p s => withF p s x) v w).2 ≠ 0 then (.nil, (chF true (fun p s => withF p s x) v w).2) else
 if (z1j (chF true (fun p s => withF p s x) v w).1).2 ≠ 0 then (.nil, (z1j (chF true (fun p s => withF p s x) v w).1).2) else ((chF true (fun p s => withF p s x) v w).1, 0)
theorem zsd (x : V) : zcw x = some (if (z1j x).2 ≠ 0 then (.nil, (z1j x).2) else (x, 0)) := by
 by_cases h : (z1j x).2 = 0
 ·rw [if_neg (by simp [h]), zge (z3r h)]
 ·rw [if_pos h, zuo (fun hc => h (by rw [zja hc]))]
theorem Z2m (v : V) (w : List Stp) (x : V) : zq6 v w x = some (zz9 v w x) := by
 unfold zq6 zz9
 rw [zgi, Option.bind_some]
 by_cases h1 : (z1j v).2 = 0
 ·rw [if_neg (by simp [h1]), if_neg (by simp [h1])]
  by_cases h2 : z2f w = 0
  ·rw [show (z2f w != 0) = false from by simp [h2], cond_false, if_neg (by simp [h2]), zvv, Option.bind_some]
   by_cases h3 : (z1j x).2 = 0
   ·rw [show ((z1j x).2 != 0) = false from by simp [h3], cond_false, if_neg (by simp [h3])]
    by_cases h4 : w = []
    ·rw [if_pos h4, h4, show (((([] : List Stp).length : Nat) : Int) == 0) = true from rfl, cond_true, zge (z3r h3)]; rfl
    ·have hl : w.length ≠ 0 := fun h => h4 (List.eq_nil_of_length_eq_zero h)
     have h5 : (((w.length : Nat) : Int) == 0) = false := by simpa using h4
     obtain ⟨v1, v2⟩ := z3x h2
     rw [if_neg h4, h5, cond_false, zxf (zsk (z3r h1)) (by omega) v2 h4 (by omega), Option.bind_some]
     generalize chF true (fun p s => withF p s x) v w = c
     by_cases h6 : c.2 = 0
     ·rw [show (c.2 != 0) = false from by simp [h6], cond_false, if_neg (by simp [h6]), zsd, Option.bind_some]
     ·rw [ze0 h6, cond_true, if_pos h6]
   ·rw [ze0 h3, cond_true, if_pos h3]
  ·rw [ze0 h2, cond_true, if_pos h2]
 ·rw [if_pos h1, ze0 h1, cond_true, if_pos h1]
noncomputable def zzb (v : V) (w : List Stp) : V × Int :=
 if (z1j v).2 ≠ 0 then (.nil, (z1j v).2) else if z2f w ≠ 0 then (.nil, z2f w) else if w = [] then (.nil, 1) else
 if (chF false z2x v w).2 ≠ 0 then (.nil, (chF false z2x v w).2) else
 if (z1j (chF false z2x v w).1).2 ≠ 0 then (.nil, (z1j (chF false z2x v w).1).2) else ((chF false z2x v w).1, 0)
theorem Z2o (v : V) (w : List Stp) : zqm v w = some (zzb v w) := by
 unfold zqm zzb
 rw [zgi, Option.bind_some]
 by_cases h1 : (z1j v).2 = 0
 ·rw [if_neg (by simp [h1]), if_neg (by simp [h1])]
  by_cases h2 : z2f w = 0
  ·rw [show (z2f w != 0) = false from by simp [h2], cond_false, if_neg (by simp [h2])]
   by_cases h4 : w = []
   ·rw [if_pos h4, h4]; rfl
   ·have h5 : (((w.length : Nat) : Int) == 0) = false := by simpa using h4
    obtain ⟨v1, v2⟩ := z3x h2
    rw [if_neg h4, h5, cond_false, zny (zsk (z3r h1)) (by omega) v2 h4 (by omega), Option.bind_some]
    generalize chF false z2x v w = c
    by_cases h6 : c.2 = 0
    ·rw [show (c.2 != 0) = false from by simp [h6], cond_false, if_neg (by simp [h6]), zsd, Option.bind_some]
    ·rw [ze0 h6, cond_true, if_pos h6]
  ·rw [ze0 h2, cond_true, if_pos h2]
 ·rw [if_pos h1, ze0 h1, cond_true, if_pos h1]
end Go.Proofs.Ythidgpcbnieleaa

namespace Go.Proofs.Ythidgpcbnieleaa
open Go Aw
set_option linter.unusedVariables false
set_option linter.unusedSimpArgs false
set_option maxRecDepth 8000
def zjk (t : Term) (l : List Term) : Term := Term.mk t.kind t.bool t.int t.float t.text t.bytes t.ref l t.fields t.cls t.ver
def setTF (t : Term) (l : List (Str × Term)) : Term := Term.mk t.kind t.bool t.int t.float t.text t.bytes t.ref t.list l t.cls t.ver
theorem zus {t : Term} {l : List Term} (h : t.kind = 8) : bu (zjk t l) = .list (l.map bu) := z8u (t := zjk t l) h
theorem zut {t : Term} {l : List (Str × Term)} (h : t.kind = 9 ∨ t.kind = 10) : bu (setTF t l) = zfn (bu t) (l.map buE) := by
 have hb := zo2 t
 have hb2 := zo2 (setTF t l)
 have hk : (setTF t l).kind = t.kind := rfl
 generalize bu t = x at hb
 generalize bu (setTF t l) = y at hb2
 cases hb <;> cases hb2 <;> first | rfl | (rename_i h1 h2; rw [hk] at h2; omega)
theorem zmk {α : Type} {b : Nat} {l m : List α} (hb : b ≤ 1024) (h : l.length ≤ 1048577) (h2 : m.length ≤ 1048576) : z6x b l m = some (l ++ m) := by
 unfold z6x
 have hm : (l.length + m.length) * b ≤ 2097153 * 1024 := Nat.mul_le_mul (by omega) hb
 rw [Nat.ble_eq_true_of_le (show (l.length + m.length) * b ≤ 140737488355328 by omega)]; rfl
theorem zbu (a b : List Term) : zdv (a ++ b) = zdv a + zdv b := by rw [zds, zds, zds, List.map_append, List.sum_append]
theorem zbv (a b : List (Str × Term)) : bkEs (a ++ b) = bkEs a + bkEs b := by rw [zdt, zdt, zdt, List.map_append, List.sum_append]
theorem zo3 (l : List Term) (i k : Nat) (h : i ≤ k) : zdv (l.take i) + zdv (l.drop k) ≤ zdv l := by
 have h1 := zbu (l.take i) (l.drop i)
 rw [List.take_append_drop] at h1
 have h2 := zbu ((l.drop i).take (k - i)) ((l.drop i).drop (k - i))
 rw [List.take_append_drop, List.drop_drop, show i + (k - i) = k by omega] at h2
 omega
theorem zo4 (l : List (Str × Term)) (i k : Nat) (h : i ≤ k) : bkEs (l.take i) + bkEs (l.drop k) ≤ bkEs l := by
 have h1 := zbv (l.take i) (l.drop i)
 rw [List.take_append_drop] at h1
 have h2 := zbv ((l.drop i).take (k - i)) ((l.drop i).drop (k - i))
 rw [List.take_append_drop, List.drop_drop, show i + (k - i) = k by omega] at h2
 omega
theorem Z59 (t : Term) (L : List Term) : bkT (zjk t L) = t.text.length + t.bytes.length + t.cls.length + zdv L + bkEs t.fields + 12 := by unfold zjk; rw [bkT]
theorem Z5a (t : Term) (L : List (Str × Term)) : bkT (setTF t L) = t.text.length + t.bytes.length + t.cls.length + zdv t.list + bkEs L + 12 := by unfold setTF; rw [bkT]
theorem zuu {t x : Term} {drop : Bool} {i : Nat} : bkT (zjk t (t.list.take i ++ (if drop = true then [] else [x]) ++ t.list.drop (i + 1))) ≤ bkT t + bkT x := by
 have h1 := zbh t
 have h3 := zo3 t.list i (i + 1) (by omega)
 rw [Z59, zbu, zbu]
 have h4 : zdv (if drop = true then [] else [x]) ≤ bkT x := by cases drop <;> simp [zdv]
 omega
theorem zmf {t x : Term} {n : Str} {drop : Bool} {i k : Nat} (h : i ≤ k) : bkT (setTF t (t.fields.take i ++ (if drop = true then [] else [(n, x)]) ++ t.fields.drop k)) ≤ bkT t + bkT x + n.length + 2 := by
 have h1 := zbh t
 have h3 := zo4 t.fields i k h
 rw [Z5a, zbv, zbv]
 have h4 : bkEs (if drop = true then [] else [(n, x)]) ≤ n.length + bkT x + 2 := by
  cases drop with
  | true => simp [bkEs]
  | false => simp [bkEs] <;> omega
 omega
theorem zs6 {t : Term} {s : Stp} {x : Term} {drop : Bool} (ha : s.f_At = true) {i : Nat} (hi : s.f_Index = (i : Int)) (hl : i ≤ t.list.length) (hb : t.list.length ≤ 1048576) :
 zcx t s x drop = some (zjk t (t.list.take i ++ (if drop = true then [] else [x]) ++ t.list.drop (i + 1))) := by
 have hcut : z83 t.list 0 ((i : Nat) : Int) = some (t.list.take i) := by
  have := z5e (s := t.list) (a := 0) (b := i) (by omega) hl
  simpa using this
 have hj : ∀ l : List Term, l.length ≤ 1048577 → zcm t s l = some (zjk t (l ++ t.list.drop (i + 1))) := by
  intro l hll
  unfold zcm
  rw [hi]
  by_cases h : i < t.list.length
  ·have hc2 : z83 t.list (((i + 1 : Nat)) : Int) ((t.list.length : Nat) : Int) = some (t.list.drop (i + 1)) := by
    have := z5e (s := t.list) (a := i + 1) (b := t.list.length) (by omega) (Nat.le_refl _)
    rw [List.take_length] at this; exact this
   rw [z8v h, cond_true, z46 (by omega) (by omega), show ((i : Int) + 1) = (((i + 1 : Nat)) : Int) by omega, hc2, Option.bind_some, zmk (by omega) hll (by rw [List.length_drop]; omega), Option.bind_some]; rfl
  ·rw [z9m h, cond_false, List.drop_of_length_le (by omega), List.append_nil]; rfl
 unfold zcx
 rw [ha, cond_true, hi, hcut, Option.bind_some, zsr (by omega) (by rw [List.length_take]; omega), Option.bind_some]
 cases drop with
 | true => rw [Bool.not_true, cond_false, hj _ (by rw [List.length_take]; omega)]; simp
 | false =>
  rw [Bool.not_false, cond_true, zoa (by omega) (by rw [List.length_take]; omega), Option.bind_some, hj _ (by simp; omega)]; rfl
theorem zs7 {t : Term} {s : Stp} {x : Term} {drop : Bool} (ha : s.f_At = false) (hs : ((t.fields.map buE).map (·.1)).Pairwise zlt) (hl : t.fields.length ≤ 1048576) (hd : drop = true → ∃ y, fget (t.fields.map buE) s.f_Name = some y) :
 ∃ L, zcx t s x drop = some (setTF t L) ∧ (L.map buE = if drop = true then zw9 (t.fields.map buE) s.f_Name else zo9 (t.fields.map buE) s.f_Name (bu x)) ∧ bkT (setTF t L) ≤ bkT t + bkT x + s.f_Name.length + 2 := by
 obtain ⟨c, hcut, hfd⟩ := z8q (l := t.fields) (n := s.f_Name) hs hl
 have hle := hcut.le
 rw [List.length_map] at hle
 have hget := zdp hs hcut
 have hc0 : z83 t.fields 0 ((c : Nat) : Int) = some (t.fields.take c) := by
  have := z5e (s := t.fields) (a := 0) (b := c) (by omega) hle
  simpa using this
 have hj4 : ∀ (l : List (Str × Term)) (k : Nat), l.length ≤ 1048577 → k ≤ t.fields.length → zb9 t l (k : Int) = some (setTF t (l ++ t.fields.drop k)) := by
  intro l k hll hk
  unfold zb9
  have hc2 : z83 t.fields ((k : Nat) : Int) ((t.fields.length : Nat) : Int) = some (t.fields.drop k) := by
   have := z5e (s := t.fields) (a := k) (b := t.fields.length) hk (Nat.le_refl _)
   rw [List.take_length] at this; exact this
  rw [hc2, Option.bind_some, zmk (by omega) hll (by rw [List.length_drop]; omega), Option.bind_some]; rfl
 have hw : ∀ k : Nat, k ≤ t.fields.length → (∀ l : List (Str × Term), zba t ((c : Int), decide ((t.fields[c]?).map (·.1) = some s.f_Name)) l = zb9 t l (k : Int)) →
  zcx t s x drop = some (setTF t (t.fields.take c ++ (if drop = true then [] else [(s.f_Name, x)]) ++ t.fields.drop k)) := by
  intro k hk hj
  unfold zcx
  rw [ha, cond_false, hfd, Option.bind_some]
  simp only
  rw [hc0, Option.bind_some, zsr (by omega) (by rw [List.length_take]; omega), Option.bind_some]
  cases drop with
  | true => rw [Bool.not_true, cond_false, hj, hj4 _ _ (by rw [List.length_take]; omega) hk]; simp
  | false => rw [Bool.not_false, cond_true, zoa (by omega) (by rw [List.length_take]; omega), Option.bind_some, hj, hj4 _ _ (by simp; omega) hk]; rfl
 by_cases hth : (t.fields[c]?).map (·.1) = some s.f_Name
 ·obtain ⟨f, hf, hfn⟩ := Option.map_eq_some_iff.1 hth
  have hlt := (List.getElem?_eq_some_iff.1 hf).1
  have hy : (t.fields.map buE)[c]? = some (buE f) := by rw [List.getElem?_map, hf]; rfl
  refine ⟨_, hw (c + 1) (by omega) (fun l => ?_), ?_, zmf (by omega)⟩
  ·unfold zba
   simp only
   rw [decide_eq_true hth, cond_true, z46 (by omega) (by omega)]; rfl
  ·cases drop with
   | true =>
    rw [if_pos rfl, if_pos rfl, zdo hcut hy hfn]
    simp [List.map_take, List.map_drop]
   | false =>
    rw [if_neg (by simp), if_neg (by simp), zcp hcut hy hfn, List.set_eq_take_append_cons_drop, if_pos (by rw [List.length_map]; omega)]
    simp [List.map_take, List.map_drop, buE, hfn]
 ·have hn : (t.fields.map buE)[c]? = none ∨ ∃ f, t.fields[c]? = some f ∧ ¬ f.1 = s.f_Name := by
   cases hf : t.fields[c]? with
   | none => left; rw [List.getElem?_map, hf]; rfl
   | some f => exact .inr ⟨f, rfl, fun e => hth (by rw [hf, Option.map_some, e])⟩
  have hnone : fget (t.fields.map buE) s.f_Name = none := by
   rw [hget]
   rcases hn with hn | ⟨f, hf, hfn⟩
   ·rw [hn]
   ·rw [List.getElem?_map, hf]; exact if_neg hfn
  cases drop with
  | true => obtain ⟨y, hy⟩ := hd rfl; rw [hnone] at hy; cases hy
  | false =>
   refine ⟨_, hw c hle (fun l => ?_), ?_, zmf (by omega)⟩
   ·unfold zba
    simp only
    rw [decide_eq_false hth, cond_false]
   ·rw [if_neg (by simp), if_neg (by simp), zjr hcut ?_]
    ·simp [List.map_take, List.map_drop, buE]
    ·rcases hn with hn | ⟨f, hf, hfn⟩
     ·rw [hn]; simp
     ·rw [List.getElem?_map, hf]; simpa [buE] using hfn
end Go.Proofs.Ythidgpcbnieleaa

namespace Go.Proofs.Ythidgpcbnieleaa
open Go Aw
set_option linter.unusedVariables false
set_option linter.unusedSimpArgs false
set_option maxRecDepth 8000
theorem Z0u {n : Str} (h : z2z n = true) : n.length ≤ 32 := by
 simp only [z2z, Bool.and_eq_true, Nat.ble_eq] at h; omega
noncomputable def zji (drop : Bool) (x : V) (p : V) (s : Stp) : V := if drop = true then z2x p s else withF p s x
theorem zdn {t : Term} {s : Stp} {x : Term} {drop : Bool} (hc : Can (bu t)) (hcs : z5f s = 0) (hb : bkT t ≤ 1048576) (hr : roomB (!drop) (bu t) s = true) : ∃ u, zcx t s x drop = some u ∧ bu u = zji drop (bu x) (bu t) s ∧ bkT u ≤ bkT t + bkT x + 40 := by
 have hE := zvr hr
 cases ha : s.f_At with
 | true =>
  by_cases h8 : t.kind = 8
  ·have hl := z8u h8
   rw [hl] at hE
   obtain ⟨_, i1, i2⟩ := zdc hcs hE
   rw [List.length_map] at i2
   have hlen := zlp t
   refine ⟨_, zs6 (x := x) (drop := drop) ha i1 i2 (by omega), ?_, by have := zuu (t := t) (x := x) (drop := drop) (i := s.f_Index.toNat); omega⟩
   rw [zus h8, hl]
   unfold zji
   cases drop with
   | true => rw [if_pos rfl, if_pos rfl]; simp [z2x, List.map_take, List.map_drop]
   | false =>
    rw [if_neg (by simp), if_neg (by simp)]
    simp only [withF]
    by_cases he : s.f_Index = (((t.list.map bu).length : Nat) : Int)
    ·rw [if_pos he]
     rw [List.length_map] at he
     rw [List.take_of_length_le (by omega), List.drop_of_length_le (by omega)]; simp
    ·rw [if_neg he, List.set_eq_take_append_cons_drop]
     rw [List.length_map] at he ⊢
     rw [if_pos (by omega)]
     simp [List.map_take, List.map_drop]
  ·exfalso
   by_cases h9 : t.kind = 9 ∨ t.kind = 10
   ·rw [zh4, z4h (zaw h9), if_pos ha] at hE
    rcases hE with h | ⟨_, h | h⟩
    ·cases h
    ·cases h
    ·have := h.1; cases this
   ·have := zax h8 (fun e => h9 (.inl e)) (fun e => h9 (.inr e))
    rw [zh4, z5j this.1 this.2] at hE
    rcases hE with h | ⟨_, h | h⟩
    ·cases h
    ·cases h
    ·have := h.1; cases this
 | false =>
  by_cases h9 : t.kind = 9 ∨ t.kind = 10
  ·have hf := zaw h9
   have hfe := zk7 hc hf
   have hlen := z7w hfe
   rw [List.length_map, List.length_map] at hlen
   obtain ⟨L, g1, g2, g3⟩ := zs7 (x := x) (drop := drop) (t := t) (s := s) ha (z4f hfe) (by omega) (fun hd => by
    subst hd
    rw [zh4, z4h hf, if_neg (by rw [ha]; simp)] at hE
    cases hg : fget (t.fields.map buE) s.f_Name with
    | some y => exact ⟨y, rfl⟩
    | none =>
     rw [hg] at hE
     rcases hE with h | ⟨h, _⟩
     ·cases h
     ·cases h)
   refine ⟨_, g1, ?_, by have := Z0u (Z2c hcs ha).2; omega⟩
   rw [zut h9, g2]
   unfold zji
   cases drop with
   | true => rw [if_pos rfl, if_pos rfl, ze7 hf]
   | false => rw [if_neg (by simp), if_neg (by simp), zod hf]
  ·exfalso
   by_cases h8 : t.kind = 8
   ·rw [z8u h8] at hE
    simp only [zh4, z1g] at hE
    rw [if_neg (by rw [ha]; simp)] at hE
    rcases hE with h | ⟨_, h | h⟩
    ·cases h
    ·cases h
    ·have := h.1; cases this
   ·have := zax h8 (fun e => h9 (.inl e)) (fun e => h9 (.inr e))
    rw [zh4, z5j this.1 this.2] at hE
    rcases hE with h | ⟨_, h | h⟩
    ·cases h
    ·cases h
    ·have := h.1; cases this
theorem zyp {t : Term} {s : Stp} {x : Term} {drop : Bool} (hc : Can (bu t)) (hcs : z5f s = 0) (hb : bkT t ≤ 1048576) :
 ∃ u, z82 t [s] x drop = some (u, (chF (!drop) (zji drop (bu x)) (bu t) [s]).2) ∧ bu u = (chF (!drop) (zji drop (bu x)) (bu t) [s]).1 ∧ bkT u ≤ bkT t + bkT x + 40 := by
 have good : roomB (!drop) (bu t) s = true → z9b t x drop s = z82 t [s] x drop → ∃ u, z82 t [s] x drop = some (u, (chF (!drop) (zji drop (bu x)) (bu t) [s]).2) ∧ bu u = (chF (!drop) (zji drop (bu x)) (bu t) [s]).1 ∧ bkT u ≤ bkT t + bkT x + 40 := by
  intro hr he
  obtain ⟨u, g1, g2, g3⟩ := zdn (x := x) hc hcs hb hr
  refine ⟨u, ?_, ?_, g3⟩
  ·rw [← he, chF, if_pos hr]; unfold z9b; rw [g1]; rfl
  ·rw [chF, if_pos hr, g2]
 have bad : ∀ code : Int, (z1g (bu t) s).2 = code → roomB (!drop) (bu t) s = false → z82 t [s] x drop = some (tNone, code) → ∃ u, z82 t [s] x drop = some (u, (chF (!drop) (zji drop (bu x)) (bu t) [s]).2) ∧ bu u = (chF (!drop) (zji drop (bu x)) (bu t) [s]).1 ∧ bkT u ≤ bkT t + bkT x + 40 := by
  intro code hst hr he
  refine ⟨tNone, ?_, ?_, by rw [show bkT tNone = 12 from by decide]; omega⟩
  ·rw [he, chF, if_neg (by rw [hr]; simp), hst]
  ·rw [chF, if_neg (by rw [hr]; simp), z3s]
 have h0 : z82 t [s] x drop = Option.bind (zic t s) fun x13 => bif (!x13) then some (tNone, 41) else (
  bif s.f_At then (bif (decide (s.f_Index > ((t.list.length : Nat) : Int))) then some (tNone, 42) else (bif drop then z6u t x drop s (s.f_Index == ((t.list.length : Nat) : Int)) else z6u t x drop s false)) else z6u t x drop s false) := by
  rw [zyn, zgk]; rfl
 have hj1 : z6u t x drop s false = bif drop then z9a t x drop s (!s.f_At) else z9b t x drop s := by
  unfold z6u
  rw [cond_false]
  cases drop with
  | true => rfl
  | false => rw [cond_false, cond_false]; rfl
 rw [zrz, Option.bind_some] at h0
 cases ha : s.f_At with
 | true =>
  rw [ha, if_pos rfl] at h0
  rw [ha] at hj1
  by_cases h8 : t.kind = 8
  ·rw [show (t.kind == 8) = true from by simp [h8], Bool.not_true, cond_false, cond_true] at h0
   obtain ⟨_, i0, _⟩ := zgg hcs ha
   have hl := z8u h8
   have st42 : t.list.length ≤ s.f_Index.toNat → (z1g (bu t) s).2 = 42 := fun h => by rw [hl]; simp only [z1g]; rw [if_pos ha, List.getElem?_eq_none (by rw [List.length_map]; omega)]
   have st0 : ∀ y, t.list[s.f_Index.toNat]? = some y → (z1g (bu t) s).2 = 0 := fun y hy => by rw [hl]; simp only [z1g]; rw [if_pos ha, List.getElem?_map, hy]; rfl
   have hj3 : z9a t x drop s (!true) = z9b t x drop s := by unfold z9a; rfl
   by_cases h1 : s.f_Index > ((t.list.length : Nat) : Int)
   ·rw [decide_eq_true h1, cond_true] at h0
    have e2 := st42 (by omega)
    refine bad 42 e2 ?_ h0
    unfold roomB
    rw [e2, hl]
    have : (s.f_Index == (((V.list (t.list.map bu)).asList.length : Nat) : Int)) = false := by
     show (s.f_Index == (((t.list.map bu).length : Nat) : Int)) = false
     rw [List.length_map]; simp; omega
    rw [this]; cases drop <;> rfl
   ·rw [decide_eq_false h1, cond_false] at h0
    by_cases h2 : s.f_Index = ((t.list.length : Nat) : Int)
    ·have e2 := st42 (by omega)
     have h3 : (s.f_Index == (((V.list (t.list.map bu)).asList.length : Nat) : Int)) = true := by
      show (s.f_Index == (((t.list.map bu).length : Nat) : Int)) = true
      rw [List.length_map]; simpa using h2
     cases drop with
     | true =>
      rw [cond_true, show (s.f_Index == ((t.list.length : Nat) : Int)) = true from by simpa using h2] at h0
      refine bad 42 e2 ?_ h0
      unfold roomB; rw [e2]; rfl
     | false =>
      rw [cond_false, hj1, cond_false] at h0
      refine good ?_ h0.symm
      unfold roomB; rw [e2, hl, h3]; rfl
    ·have hlt : s.f_Index.toNat < t.list.length := by omega
     obtain ⟨y, hy, _⟩ := dropc hlt
     have e2 := st0 y hy
     have hr : roomB (!drop) (bu t) s = true := by unfold roomB; rw [e2]; rfl
     refine good hr ?_
     rw [h0]
     cases drop with
     | true => rw [cond_true, show (s.f_Index == ((t.list.length : Nat) : Int)) = false from by simpa using h2, hj1, cond_true, hj3]
     | false => rw [cond_false, hj1, cond_false]
  ·rw [show (t.kind == 8) = false from by simpa using h8, Bool.not_false, cond_true] at h0
   have e2 : z1g (bu t) s = (.nil, 41) := by
    by_cases h9 : t.kind = 9 ∨ t.kind = 10
    ·rw [z4h (zaw h9), if_pos ha]
    ·have := zax h8 (fun e => h9 (.inl e)) (fun e => h9 (.inr e))
     exact z5j this.1 this.2 s
   refine bad 41 (by rw [e2]) ?_ h0
   unfold roomB; rw [e2]; cases drop <;> rfl
 | false =>
  rw [ha, if_neg (by simp)] at h0
  rw [ha] at hj1
  by_cases h9 : t.kind = 9 ∨ t.kind = 10
  ·have hf := zaw h9
   rw [show (t.kind == 9 || t.kind == 10) = true from by simpa using h9, Bool.not_true, cond_false, cond_false, hj1] at h0
   have hfe := zk7 hc hf
   have hlen := z7w hfe
   rw [List.length_map, List.length_map] at hlen
   have hst := z4h hf s
   rw [if_neg (by rw [ha]; simp)] at hst
   cases drop with
   | false =>
    rw [cond_false] at h0
    refine good ?_ h0.symm
    unfold roomB
    rw [hst]
    cases fget (t.fields.map buE) s.f_Name <;> rfl
   | true =>
    rw [cond_true] at h0
    obtain ⟨c, hcut, hfd⟩ := z8q (l := t.fields) (n := s.f_Name) (z4f hfe) (by omega)
    have hget := zdp (z4f hfe) hcut
    unfold z9a at h0
    rw [Bool.not_false, cond_true, hfd, Option.bind_some] at h0
    simp only at h0
    by_cases hth : (t.fields[c]?).map (·.1) = some s.f_Name
    ·obtain ⟨f, hff, hfn⟩ := Option.map_eq_some_iff.1 hth
     rw [decide_eq_true hth, Bool.not_true, cond_false] at h0
     refine good ?_ h0.symm
     unfold roomB
     rw [hst, hget, List.getElem?_map, hff, Option.map_some]
     simp only
     rw [if_pos (show (buE f).1 = s.f_Name from hfn)]; rfl
    ·rw [decide_eq_false hth, Bool.not_false, cond_true] at h0
     have hnone : fget (t.fields.map buE) s.f_Name = none := by
      rw [hget, List.getElem?_map]
      cases hff : t.fields[c]? with
      | none => rfl
      | some f => exact if_neg (fun e => hth (by rw [hff, Option.map_some]; exact congrArg some e))
     rw [hnone] at hst
     refine bad 40 (by rw [hst]) ?_ h0
     unfold roomB; rw [hst]; rfl
  ·rw [show (t.kind == 9 || t.kind == 10) = false from by simpa using h9, Bool.not_false, cond_true] at h0
   have e2 : z1g (bu t) s = (.nil, 41) := by
    by_cases h8 : t.kind = 8
    ·rw [z8u h8]; simp only [z1g]; rw [if_neg (by rw [ha]; simp)]
    ·have := zax h8 (fun e => h9 (.inl e)) (fun e => h9 (.inr e))
     exact z5j this.1 this.2 s
   refine bad 41 (by rw [e2]) ?_ h0
   unfold roomB; rw [e2]; cases drop <;> rfl
theorem zat {x : Term} {drop : Bool} : ∀ (w : List Stp) (t : Term), Can (bu t) → (∀ s, s ∈ w → z5f s = 0) → w ≠ [] → w.length ≤ 64 → bkT t ≤ 1048576 →
 ∃ u, z82 t w x drop = some (u, (chF (!drop) (zji drop (bu x)) (bu t) w).2) ∧ bu u = (chF (!drop) (zji drop (bu x)) (bu t) w).1 ∧ bkT u ≤ 2000000 * w.length + bkT x
 | [], t, hc, hw, hne, hl, hb => absurd rfl hne
 | [s], t, hc, hw, _, hl, hb => by
  obtain ⟨u, h1, h2, h3⟩ := zyp (x := x) (drop := drop) hc (hw s (by simp)) hb
  exact ⟨u, h1, h2, by simp; omega⟩
 | s :: r :: w, t, hc, hw, _, hl, hb => by
  have hcs := hw s (by simp)
  obtain ⟨p, g1, g2, g3⟩ := zj8 (t := t) (w := [s]) (fun q hq => by rw [List.mem_singleton] at hq; subst hq; exact hcs) hc hb
  have hc1 : z83 (s :: r :: w) 0 1 = some [s] := z5e (s := s :: r :: w) (a := 0) (b := 1) (by omega) (by simp)
  have hc2 : z83 (s :: r :: w) 1 (((s :: r :: w).length : Nat) : Int) = some (r :: w) := by
   have := z5e (s := s :: r :: w) (a := 1) (b := (s :: r :: w).length) (by simp) (Nat.le_refl _)
   rw [List.take_length] at this; exact this
  have hgt : decide ((((s :: r :: w).length : Nat) : Int) > 1) = true := decide_eq_true (by simp; omega)
  have h0 : z82 t (s :: r :: w) x drop = bif (z5v (bu t) [s]).2 != 0 then some (tNone, (z5v (bu t) [s]).2) else Option.bind (z82 p (r :: w) x drop) fun x9 => bif (x9.2 != 0) then some (tNone, x9.2) else Option.bind (zcx t s x9.1 false) fun x12 => some (x12, 0) := by
   rw [zyn, zgk]
   rw [show ((((s :: r :: w).length : Nat) : Int) == 0) = false from by simp; omega, cond_false, show (s :: r :: w)[0]? = some s from rfl, Option.bind_some, hgt, cond_true, hc1, Option.bind_some, g1, Option.bind_some, hc2, Option.bind_some]
   rfl
  by_cases he : (z1g (bu t) s).2 = 0
  ·have hst : z1g (bu t) s = ((z1g (bu t) s).1, 0) := Prod.ext rfl he
   have hget : z5v (bu t) [s] = ((z1g (bu t) s).1, 0) := by rw [z5v, if_neg (by simp [he])]; rfl
   rw [hget] at g2 h0
   replace g2 : bu p = (z1g (bu t) s).1 := g2
   rw [show ((0 : Int) != 0) = false from rfl, cond_false] at h0
   have hcp : Can (bu p) := by rw [g2]; exact z8y hc (z93 hst)
   obtain ⟨u, d1, d2, d3⟩ := zat (x := x) (drop := drop) (r :: w) p hcp (fun q hq => hw q (List.mem_cons_of_mem _ hq)) (by simp) (by simp at hl ⊢; omega) g3
   rw [g2] at d1 d2
   rw [d1, Option.bind_some] at h0
   simp only at h0
   rw [chF, if_neg (by simp [he])]
   by_cases h2 : (chF (!drop) (zji drop (bu x)) (z1g (bu t) s).1 (r :: w)).2 = 0
   ·rw [show ((chF (!drop) (zji drop (bu x)) (z1g (bu t) s).1 (r :: w)).2 != 0) = false from by simp [h2], cond_false] at h0
    obtain ⟨z, z1, z2, z3⟩ := zdn (t := t) (s := s) (x := u) (drop := false) hc hcs hb (by unfold roomB; rw [he]; rfl)
    rw [z1, Option.bind_some] at h0
    rw [if_neg (by simp [h2])]
    refine ⟨z, h0, ?_, by simp only [List.length_cons] at d3 ⊢; omega⟩
    rw [z2, zji, if_neg (by simp), d2]
   ·rw [ze0 h2, cond_true] at h0
    rw [if_pos h2]
    exact ⟨tNone, h0, z3s, by rw [show bkT tNone = 12 from by decide]; simp only [List.length_cons]; omega⟩
  ·have hget : z5v (bu t) [s] = (.nil, (z1g (bu t) s).2) := by rw [z5v, if_pos he]
   rw [hget] at h0
   simp only at h0
   rw [ze0 he, cond_true] at h0
   rw [chF, if_pos he]
   exact ⟨tNone, h0, z3s, by rw [show bkT tNone = 12 from by decide]; simp only [List.length_cons]; omega⟩
end Go.Proofs.Ythidgpcbnieleaa

namespace Go.Proofs.Ythidgpcbnieleaa
open Go Aw
set_option linter.unusedVariables false
set_option linter.unusedSimpArgs false
set_option maxRecDepth 8000
theorem zk9 {u : Term} {c : Int} {v : V} (hb : bkT u ≤ 268435456) (hu : bu u = v) : ∃ z, zjt u c = some (z, if c ≠ 0 then c else (z1j v).2) ∧ bu z = (if c ≠ 0 then .nil else if (z1j v).2 ≠ 0 then .nil else v) := by
 unfold zjt
 by_cases hc : c = 0
 ·subst hc
  rw [show ((0 : Int) == 0) = true from rfl, cond_true, zl9 u hb, hu, Option.bind_some]
  unfold zci
  by_cases h : (z1j v).2 = 0
  ·rw [show ((z1j v).2 != 0) = false from by simp [h], cond_false]
   exact ⟨u, by rw [if_neg (by simp), h], by rw [if_neg (by simp), if_neg (by simp [h]), hu]⟩
  ·rw [ze0 h, cond_true]
   exact ⟨tNone, by rw [if_neg (by simp)]; rfl, by rw [if_neg (by simp), if_pos h, z3s]⟩
 ·rw [show (c == 0) = false from by simpa using hc, cond_false]
  unfold zci
  rw [ze0 hc, cond_true]
  exact ⟨tNone, by rw [if_pos hc]; rfl, by rw [if_pos hc, z3s]⟩
theorem zyo {t x : Term} {w : List Stp} (hb : bkT t ≤ 1048576) (hbx : bkT x ≤ 1048576) : ∃ u, zqb t w x = some (u, (zz9 (bu t) w (bu x)).2) ∧ bu u = (zz9 (bu t) w (bu x)).1 := by
 unfold zqb zz9
 rw [z8p (by omega) w, Option.bind_some]
 have bad : ∀ c : Int, c ≠ 0 → zb4 t w x c = some (tNone, c) := by
  intro c hc
  unfold zb4
  rw [ze0 hc, cond_true]; rfl
 by_cases h1 : (z1j (bu t)).2 = 0
 ·rw [if_neg (by simp [h1]), if_neg (by simp [h1])]
  by_cases h2 : z2f w = 0
  ·rw [show (z2f w == 0) = true from by simp [h2], cond_true, if_neg (by simp [h2]), zl9 x (by omega), Option.bind_some]
   by_cases h3 : (z1j (bu x)).2 = 0
   ·rw [if_neg (by simp [h3]), h3]
    unfold zb4
    rw [show ((0 : Int) != 0) = false from rfl, cond_false]
    by_cases h4 : w = []
    ·subst h4
     have hd : z82 t [] x false = some (x, 0) := by rw [zyn, zgk]; rfl
     obtain ⟨z, z1, z2⟩ := zk9 (u := x) (c := 0) (v := bu x) (by omega) rfl
     rw [hd, Option.bind_some, z1, Option.bind_some, if_pos rfl]
     rw [if_neg (by simp)] at z2 ⊢
     rw [if_neg (by simp [h3])] at z2
     exact ⟨z, by rw [h3], z2⟩
    ·obtain ⟨v1, v2⟩ := z3x h2
     obtain ⟨u, d1, d2, d3⟩ := zat (x := x) (drop := false) w t (z3r h1) v2 h4 v1 hb
     have hfin : zji false (bu x) = fun p s => withF p s (bu x) := by funext p s; exact if_neg (by simp)
     rw [hfin] at d1 d2
     rw [Bool.not_false] at d1 d2
     rw [if_neg h4, d1, Option.bind_some]
     generalize chF true (fun p s => withF p s (bu x)) (bu t) w = ch at *
     obtain ⟨z, z1, z2⟩ := zk9 (u := u) (c := ch.2) (v := ch.1) (by omega) d2
     rw [z1, Option.bind_some]
     by_cases h5 : ch.2 = 0
     ·rw [if_neg (by simp [h5])] at z2 ⊢
      rw [if_neg (by simp [h5])]
      by_cases h6 : (z1j ch.1).2 = 0
      ·rw [if_neg (by simp [h6])] at z2 ⊢
       exact ⟨z, by rw [h6], z2⟩
      ·rw [if_pos h6] at z2 ⊢
       exact ⟨z, rfl, z2⟩
     ·rw [if_pos h5] at z2 ⊢
      rw [if_pos h5]
      exact ⟨z, rfl, z2⟩
   ·rw [if_pos h3, bad _ h3]; exact ⟨tNone, rfl, z3s⟩
  ·rw [show (z2f w == 0) = false from by simpa using h2, cond_false, if_pos h2, bad _ h2]; exact ⟨tNone, rfl, z3s⟩
 ·rw [if_pos h1, if_pos h1, show ((z1j (bu t)).2 == 0) = false from by simpa using h1, cond_false, bad _ h1]; exact ⟨tNone, rfl, z3s⟩
theorem zyr {t : Term} {w : List Stp} (hb : bkT t ≤ 1048576) : ∃ u, zqp t w = some (u, (zzb (bu t) w).2) ∧ bu u = (zzb (bu t) w).1 := by
 unfold zqp zzb
 rw [z8p (by omega) w, Option.bind_some]
 have bad : ∀ c : Int, c ≠ 0 → zbc t w c = some (tNone, c) := by
  intro c hc
  unfold zbc
  rw [ze0 hc, cond_true]; rfl
 by_cases h1 : (z1j (bu t)).2 = 0
 ·rw [if_neg (by simp [h1]), if_neg (by simp [h1])]
  by_cases h2 : z2f w = 0
  ·rw [show (z2f w == 0) = true from by simp [h2], cond_true, if_neg (by simp [h2])]
   unfold zbb
   by_cases h4 : w = []
   ·subst h4
    rw [show (((([] : List Stp).length : Nat) : Int) == 0) = true from rfl, cond_true, if_pos rfl, bad 1 (by decide)]
    exact ⟨tNone, rfl, z3s⟩
   ·rw [show (((w.length : Nat) : Int) == 0) = false from by simpa using h4, cond_false, if_neg h4, h2]
    unfold zbc
    rw [show ((0 : Int) != 0) = false from rfl, cond_false]
    obtain ⟨v1, v2⟩ := z3x h2
    obtain ⟨u, d1, d2, d3⟩ := zat (x := tNone) (drop := true) w t (z3r h1) v2 h4 v1 hb
    have hfin : zji true (bu tNone) = z2x := by funext p s; exact if_pos rfl
    rw [hfin] at d1 d2
    rw [Bool.not_true] at d1 d2
    have d3' : bkT u ≤ 268435456 := by rw [show bkT tNone = 12 from by decide] at d3; omega
    show ∃ u, (Option.bind (z82 t w tNone true) fun x6 => Option.bind (zjt x6.1 x6.2) fun x7 => some ((x7.1), x7.2)) = _ ∧ _
    rw [d1, Option.bind_some]
    generalize chF false z2x (bu t) w = ch at *
    obtain ⟨z, z1, z2⟩ := zk9 (u := u) (c := ch.2) (v := ch.1) d3' d2
    rw [z1, Option.bind_some]
    by_cases h5 : ch.2 = 0
    ·rw [if_neg (by simp [h5])] at z2 ⊢
     rw [if_neg (by simp [h5])]
     by_cases h6 : (z1j ch.1).2 = 0
     ·rw [if_neg (by simp [h6])] at z2 ⊢
      exact ⟨z, by rw [h6], z2⟩
     ·rw [if_pos h6] at z2 ⊢
      exact ⟨z, rfl, z2⟩
    ·rw [if_pos h5] at z2 ⊢
     rw [if_pos h5]
     exact ⟨z, rfl, z2⟩
  ·rw [show (z2f w == 0) = false from by simpa using h2, cond_false, if_pos h2]
   unfold zbb
   rw [cond_false, bad _ h2]; exact ⟨tNone, rfl, z3s⟩
 ·rw [if_pos h1, if_pos h1, show ((z1j (bu t)).2 == 0) = false from by simpa using h1, cond_false]
  unfold zbb
  rw [cond_false, bad _ h1]; exact ⟨tNone, rfl, z3s⟩
end Go.Proofs.Ythidgpcbnieleaa

namespace Go.Proofs.Ythidgpcbnieleaa
open Go Aw
set_option linter.unusedVariables false
set_option linter.unusedSimpArgs false
set_option maxRecDepth 8000
theorem zrn {u : Term} {v : V} (hu : bu u = v) (hc : Can v) : zjs v u = some true := by
 unfold zjs
 have hf : Fine (bu u) := by rw [hu]; exact z9w hc
 rw [zm7 u hf, Option.bind_some, zls (x := v) (by rw [zyz _ hf, hu]) hc, Option.bind_some, zor hc]; rfl
theorem zlr {u : Term} (hb : bkT u ≤ 268435456) : zne (bu u) u = some true := by
 unfold zne
 rw [zl9 u hb, Option.bind_some]
 by_cases h : (z1j (bu u)).2 = 0
 ·have hc := z3r h
  rw [show ((z1j (bu u)).2 != 0) = false from by simp [h], cond_false, zm7 u (z9w hc), Option.bind_some, zls (zyz _ (z9w hc)) hc]; rfl
 ·rw [ze0 h, cond_true]
theorem zj7 (w : List Stp) : ∀ k i, k + i = w.length → zhp w w i = some true
 | 0, i, h => by
  rw [zho]
  simp only [z67, z9m (by omega : ¬ i < w.length), cond_false]
 | k + 1, i, h => by
  obtain ⟨s, hs, _⟩ := dropc (by omega : i < w.length)
  rw [zho]
  simp only [z67, z8v (by omega : i < w.length), cond_true, hs, Option.bind_some, beq_self_eq_true, Bool.and_self, Bool.not_true, cond_false]
  exact zj7 w k (i + 1) (by omega)
theorem znx (w : List Stp) : zqi w w = some true := by
 unfold zqi
 rw [show (((w.length : Nat) : Int) != ((w.length : Nat) : Int)) = false from by simp, cond_false, zj7 w w.length 0 (by omega)]
abbrev z3v : Stp := S_api_Step.mk ([98, 101, 104, 105, 110, 100] : Str) false 0
theorem zua (w : List Stp) : zqe (w ++ [z3v]) w = some true := by
 unfold zqe
 have hc : z83 (w ++ [z3v]) 0 ((w.length : Nat) : Int) = some w := by
  have := z5e (s := w ++ [z3v]) (a := 0) (b := w.length) (by omega) (by simp)
  rw [List.drop_zero, List.take_left' rfl] at this; exact this
 rw [hc, Option.bind_some, znx, Option.bind_some, cond_true, show (w ++ [z3v])[w.length]? = some z3v from by simp, Option.bind_some]
 simp
theorem zue {w : List Stp} (h : w.length ≤ 1048576) : zqj w = some (w ++ [z3v]) := by
 unfold zqj
 rw [zsr (by omega) (by omega), Option.bind_some, zoa (by omega) (by omega)]; rfl
theorem Get_can {v : V} {w : List Stp} : Can (zob v w).1 := by
 unfold zob
 by_cases h1 : (z1j v).2 = 0
 ·rw [if_neg (by simp [h1])]
  by_cases h2 : z2f w = 0
  ·rw [if_neg (by simp [h2])]
   by_cases h3 : (z5v v w).2 = 0
   ·rw [if_neg (by simp [h3])]; exact zg9 (z3r h1) (Prod.ext rfl h3 : z5v v w = ((z5v v w).1, 0))
   ·rw [if_pos h3]; exact nul_can
  ·rw [if_pos h2]; exact nul_can
 ·rw [if_pos h1]; exact nul_can
where nul_can : Can .nil := ⟨.mk rfl (fun y hy => by cases hy), by simp [cnt], by simp [dpt]⟩
theorem zz8 {v x : V} {w : List Stp} : Can (zz9 v w x).1 := by
 unfold zz9
 split
 ·exact Get_can.nul_can
 ·split
  ·exact Get_can.nul_can
  ·split
   ·exact Get_can.nul_can
   ·rename_i h3
    split
    ·exact z3r (Classical.byContradiction fun hc => h3 hc)
    ·split
     ·exact Get_can.nul_can
     ·split
      ·exact Get_can.nul_can
      ·rename_i h6; exact z3r (Classical.byContradiction fun hc => h6 hc)
theorem zza {v : V} {w : List Stp} : Can (zzb v w).1 := by
 unfold zzb
 split
 ·exact Get_can.nul_can
 ·split
  ·exact Get_can.nul_can
  ·split
   ·exact Get_can.nul_can
   ·split
    ·exact Get_can.nul_can
    ·split
     ·exact Get_can.nul_can
     ·rename_i h6; exact z3r (Classical.byContradiction fun hc => h6 hc)
theorem zf4 {a0 a2 : Term} {a1 : List Stp} (h0 : bkT a0 ≤ 1048576) (h2 : bkT a2 ≤ 1048576) (g : Int → Option Bool) (i : Int) (hi : i < 2) (hi0 : 0 ≤ i) : z6b a0 a1 a2 (bu a0) (bu a2) (a1 ++ [z3v]) g i = g (i + 1) := by
 unfold z6b
 have hc : z83 (a1 ++ [z3v]) 0 ((a1.length : Nat) : Int) = some a1 := by
  have := z5e (s := a1 ++ [z3v]) (a := 0) (b := a1.length) (by omega) (by simp)
  rw [List.drop_zero, List.take_left' rfl] at this; exact this
 obtain ⟨u1, p1, q1, _⟩ := zyq (t := a0) (w := a1) h0
 obtain ⟨u2, p2, q2⟩ := zyo (t := a0) (x := a2) (w := a1) h0 h2
 obtain ⟨u3, p3, q3⟩ := zyr (t := a0) (w := a1) h0
 rw [decide_eq_true hi, cond_true, hc, Option.bind_some, Z2n, Option.bind_some, p1, Option.bind_some, Option.bind_some, Z2m, Option.bind_some, p2, Option.bind_some, Option.bind_some, Z2o, Option.bind_some, p3, Option.bind_some]
 have e : ∀ c : Int, (c != c) = false := fun c => by simp
 simp only
 rw [e, cond_false, e, cond_false, e, cond_false, zrn q1 Get_can, Option.bind_some, Bool.not_true, cond_false, zrn q2 zz8, Option.bind_some, Bool.not_true, cond_false, zrn q3 zza, Option.bind_some, Bool.not_true, cond_false, zua, Option.bind_some, Bool.not_true, cond_false, zlr (by omega), Option.bind_some, Bool.not_true, cond_false, zlr (by omega), Option.bind_some]
 unfold z4j
 rw [Bool.not_true, cond_false, z46 (by omega) (by omega)]
theorem zdx {p q r : Prop} (a0 : Term) (a1 : List S_api_Step) (a2 : Term)
 (h : bkT a0 + ((a1.map (fun p => (p.f_Name.length + 1) + 1 + 1)).sum + 1) + bkT a2 ≤ 1048576) (ok0 : p) (ok1 : q) (ok2 : r) : ztq a0 a1 a2 = some true := by
 have hl : a1.length ≤ (a1.map (fun p => (p.f_Name.length + 1) + 1 + 1)).sum := by
  clear h
  induction a1 with
  | nil => simp
  | cons b r ih => rw [List.map_cons, List.sum_cons, List.length_cons]; omega
 unfold ztq
 rw [zvt a0 (by omega), Option.bind_some, zvt a2 (by omega), Option.bind_some, zue (by omega), Option.bind_some]
 rw [zcn, zf4 (by omega) (by omega) _ 0 (by omega) (by omega), zcn, zf4 (by omega) (by omega) _ (0 + 1) (by omega) (by omega), zcn]
 rfl
end Go.Proofs.Ythidgpcbnieleaa

