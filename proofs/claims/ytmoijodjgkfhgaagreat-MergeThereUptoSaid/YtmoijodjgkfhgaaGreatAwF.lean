/- Aw: a new variable in a place that was kept for it. -/
import Derived.Test.YtmoijodjgkfhgaaGreatA0
namespace Go.Proofs.YtmoijodjgkfhgaaGreat.Aw
open Go
set_option linter.unusedVariables false
set_option linter.unusedSimpArgs false
variable {P : Program} {F : Lo} {H H' : List AEnt} {g g' : List (Option Nat)} {w w' : World} {env : List (Nat × PV)} {n : Nat} {o : Oper}
theorem zko {i : Nat} {x : Option Nat} (h : i < g.length) : (g.set i x)[i]? = some x := by simp [h]
theorem zbd {i j : Nat} {x : Option Nat} (h : i ≠ j) : (g.set i x)[j]? = g[j]? := by simp [List.getElem?_set_ne h]
theorem z6z {i e0 t nb : Nat} {cs : List PV} (hl : g.length = H.length) (hi : H[i]? = some (.arr e0 0)) {j b : Nat} :
 live (H.set i (.box t cs)) (g.set i (some nb)) j b ↔ (j = i ∧ b = nb) ∨ (j ≠ i ∧ live H g j b) := by
 have hlt := z0c hi
 unfold live
 by_cases hij : i = j
 ·subst hij
  rw [z17 hi, zko (by omega)]
  constructor
  ·rintro ⟨c, h1, e, h2, h3⟩
   injection h1 with h1; injection h1 with h1
   injection h2 with h2; subst h2
   have h3 : c = b := h3
   exact .inl ⟨rfl, by omega⟩
  ·rintro (⟨_, rfl⟩ | ⟨h, _⟩)
   ·exact ⟨_, rfl, _, rfl, rfl⟩
   ·exact absurd rfl h
 ·rw [z0w hij, zbd hij]
  constructor
  ·exact fun h => .inr ⟨fun e => hij e.symm, h⟩
  ·rintro (⟨rfl, _⟩ | ⟨_, h⟩)
   ·exact absurd rfl hij
   ·exact h
theorem zto {i e0 t : Nat} {cs : List PV} (h : RelH P F H g w) (hi : H[i]? = some (.arr e0 0)) (hs : w.heap.size ≤ w'.heap.size) (ho : ∀ k, k < w.heap.size → w'.heap[k]? = w.heap[k]?) :
 (ctx P F H g w).Le (ctx P F (H.set i (.box t cs)) (g.set i (some w.heap.size)) w') := by
 have hlt := z0c hi
 have hne : ∀ {j : Nat} {e k : Nat}, H[j]? = some (.arr e k) → k ≠ 0 → i ≠ j := by
  rintro j e k hj hk rfl
  rw [hi] at hj; injection hj with hj; injection hj with _ hj; exact hk hj.symm
 have hlt' := z0c hi
 refine zco rfl ?_ ?_ ?_ (Z1t (fun k hk => by simpa using hk) (fun k hk hk2 => by
  by_cases hik : i = k
  ·subst hik; rw [z17 hi] at hk2; cases hk2
  ·rw [z0w hik] at hk2; exact ⟨hk2, zbd hik⟩) (fun k b' hkr hl => ho b' (h.fr k b' hl).2)) ((Keeps.of ho).B rfl) (Keeps.of ho).K
 ·rintro b off u ⟨h1, h2⟩
  have hb := zer h2
  refine ⟨?_, by rw [z4p (ho b hb)]; exact h2⟩
  rcases h1 with ⟨h1, h3⟩ | ⟨j, e, k, h1, h3, h4⟩
  ·refine .inl ⟨fun j hj => ?_, h3⟩
   rcases (z6z h.len hi).1 hj with ⟨_, rfl⟩ | ⟨_, hj⟩
   ·omega
   ·exact h1 j hj
  ·have hk : k ≠ 0 := by rintro rfl; simp at h4
   have hij := hne h1 hk
   exact .inr ⟨j, e, k, by rw [z0w hij]; exact h1, by rw [zbd hij]; exact h3, h4⟩
 ·rintro j b ⟨h1, h2⟩
  have hij : i ≠ j := by rintro rfl; exact h2 _ _ hi
  exact ⟨by rw [zbd hij]; exact h1, fun e k he => by rw [z0w hij] at he; exact h2 e k he⟩
 ·rintro j m A c sz ⟨h1, h2⟩
  refine ⟨by simpa using h1, fun e k he => ?_⟩
  have hij : i ≠ j := by rintro rfl; rw [z17 hi] at he; cases he
  rw [z0w hij] at he
  obtain ⟨h3, h4⟩ := h2 e k he
  refine ⟨h3, fun hm => ?_⟩
  obtain ⟨h5, h6⟩ := h4 hm
  refine ⟨h5, ?_⟩
  rw [zbd hij]
  rcases h6 with h6 | ⟨b, cells, h6, h7, h8, h9⟩
  ·exact .inl h6
  ·exact .inr ⟨b, cells, h6, h7, by rw [ho b (z1b h8)]; exact h8, h9⟩
theorem zvq {i e0 t : Nat} {cs : List PV} (h : RelH P F H g w) (hi : H[i]? = some (.arr e0 0)) (hs : w.heap.size ≤ w'.heap.size) (ho : ∀ k, k < w.heap.size → w'.heap[k]? = w.heap[k]?)
 (hok : entOk P (ctx P F (H.set i (.box t cs)) (g.set i (some w.heap.size)) w') w' (some w.heap.size) (.box t cs)) : RelH P F (H.set i (.box t cs)) (g.set i (some w.heap.size)) w' := by
 have hle := zto (cs := cs) (t := t) h hi hs ho
 have hlt := z0c hi
 refine z3e (by simp [h.len]) ?_ ?_ (fun b k hb => Nat.lt_of_lt_of_le (h.fb b k hb) hs) ⟨Nat.le_trans h.bs.1 hs, fun j b hj => by
  rcases (z6z h.len hi).1 hj with ⟨_, rfl⟩ | ⟨_, hj⟩
  ·exact h.bs.1
  ·exact h.bs.2 j b hj⟩ ?_
 ·intro j k b hj hk
  rcases (z6z h.len hi).1 hj with ⟨j1, j2⟩ | ⟨_, hj'⟩ <;> rcases (z6z h.len hi).1 hk with ⟨k1, k2⟩ | ⟨_, hk'⟩
  ·rw [j1, k1]
  ·have := (h.fr k _ hk').2; omega
  ·have := (h.fr j b hj').2; omega
  ·exact h.inj j k b hj' hk'
 ·intro j b hj
  rcases (z6z h.len hi).1 hj with ⟨rfl, rfl⟩ | ⟨_, hj⟩
  ·refine ⟨?_, z2h hok (by simp) rfl⟩
   cases hF : F w.heap.size with
   | none => rfl
   | some k => have := h.fb _ k hF; omega
  ·exact ⟨(h.fr j b hj).1, Nat.lt_of_lt_of_le (h.fr j b hj).2 hs⟩
 ·intro j e' hj
  by_cases hij : i = j
  ·subst hij
   rw [z17 hi] at hj; injection hj with hj; subst hj
   exact ⟨_, zko (by rw [h.len]; exact hlt), hok⟩
  ·rw [z0w hij] at hj
   obtain ⟨m, h1, h2⟩ := z6p h hj
   refine ⟨m, by rw [zbd hij]; exact h1, ?_⟩
   cases e' with
   | dead => trivial
   | reg => trivial
   | _ => exact h2.mono hle (fun b hb => ho b (z2h h2 (by simp) hb))
theorem zxh {i e0 t : Nat} {cs : List PV} (h : RelH P F H g w) (hi : H[i]? = some (.arr e0 0)) (hs : w.heap.size ≤ w'.heap.size) (ho : ∀ k, k < w.heap.size → w'.heap[k]? = w.heap[k]?)
 (h1 : w'.os = w.os) (h2 : w'.tape = w.tape) (h3 : w'.output = w.output) : Ext P F H g w (H.set i (.box t cs)) (g.set i (some w.heap.size)) w' := by
 refine ⟨h1, h2, h3, hs, fun b hb hl => ⟨ho b hb, fun j hj => ?_⟩, zto h hi hs ho, by simp⟩
 rcases (z6z h.len hi).1 hj with ⟨_, rfl⟩ | ⟨_, hj⟩
 ·omega
 ·exact hl j hj
theorem zws {t : TypeId} {z : Value} {k b i e0 : Nat} (hinf : Inf P t z k b) (ho : o.op = .alloc t) (hi : H[i]? = some (.arr e0 0)) : Op1 P o env H n (.rf i 0) (H.set i (.box t (z.cells.toList.map .v))) := by
 intro F g a w hr Kn Q hK
 have h3 : (execOp a.eval o).run P w = .ok (.value (.pointer (some ⟨w.heap.size, 0, none⟩))) (w.alloc (.cells z.cells t)) := by simp [execOp, ho, Instr.alloc, hinf.run_zero, newVar, newRow]
 unfold Oper.wp
 rw [h3]
 have hs : w.heap.size ≤ (w.alloc (.cells z.cells t)).heap.size := by simp
 have hold : ∀ k, k < w.heap.size → (w.alloc (.cells z.cells t)).heap[k]? = w.heap[k]? := fun k hk => z2n hk
 refine hK _ _ (g.set i (some w.heap.size)) ?_ (zvq hr.rel hi hs hold ?_) (zxh hr.rel hi hs hold rfl rfl rfl)
 ·refine vr_rf.2 ⟨w.heap.size, rfl, zko (by rw [hr.rel.len]; exact z0c hi), fun e k he => ?_⟩
  rw [z17 hi] at he; cases he
 ·refine ⟨w.heap.size, z.cells, rfl, z3j, by simp, fun j y hy => ?_⟩
  rw [List.getElem?_map, Option.map_eq_some_iff] at hy
  obtain ⟨v, h1, rfl⟩ := hy
  exact ⟨v, by simpa using h1, vr_v.2 rfl⟩
end Go.Proofs.YtmoijodjgkfhgaaGreat.Aw
