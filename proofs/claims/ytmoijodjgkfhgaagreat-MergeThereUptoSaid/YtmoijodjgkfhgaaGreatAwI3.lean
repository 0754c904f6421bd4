/- Aw: rows of texts that the library sorts, and takes what stands twice out of. -/
import Derived.Test.YtmoijodjgkfhgaaGreatAwI
import Derived.Sort.Grow
import Derived.Sort.EncStr
import Derived.Lib.SlicesCompact
namespace Go.Proofs.YtmoijodjgkfhgaaGreat.Aw
open Go Go.Sort
set_option linter.unusedVariables false
set_option linter.unusedSimpArgs false
variable {P : Program} {F : Fr} {H H' : List AEnt} {g g' : List (Option Nat)} {w w' : World} {env : List (Nat × PV)} {n : Nat} {o : Oper}
def sortS (l : List Str) : List Str := l.mergeSort fun x y => decide (x ≤ y)
def compS (l : List Str) : List Str := Lib.compact l
def Z07 (P : Program) (f : FuncId) : Prop :=
 (∀ (b cap : Nat) (zs : List Str) (w : World), Holds encStr w b 0 zs.toArray → b < w.heap.size → zs.length < 4611686018427387904 → Calls P f #[.slice (some ⟨b, 0, none⟩) zs.length cap] w fun e w' => e = .returned (.tuple #[]) ∧ ∃ n os, w' = grow (putRow encStr (Sort.ahead w n) b 0 (sortS zs).toArray) os) ∧
  ∀ (p : Option Addr) (cap : Nat) (w : World), Calls P f #[.slice p 0 cap] w fun e w' => e = .returned (.tuple #[]) ∧ w' = w
def zkd (P : Program) (f : FuncId) : Prop :=
 (∀ (b cap : Nat) (zs : List Str) (w : World), Holds encStr w b 0 zs.toArray → zs.length ≤ 9223372036854775807 → zs.length ≤ cap → Calls P f #[.slice (some ⟨b, 0, none⟩) zs.length cap] w fun e w' => e = .returned (.slice (some ⟨b, 0, none⟩) (compS zs).length cap) ∧
  ∃ q, w' = putRow encStr (Sort.ahead w q) b 0 (compS zs ++ List.replicate (zs.length - (compS zs).length) []).toArray) ∧
  ∀ (p : Option Addr) (cap : Nat) (w : World), Calls P f #[.slice p 0 cap] w fun e w' => e = .returned (.slice p 0 cap) ∧ w' = w
theorem zk2 (l : List Str) : (compS l).length ≤ l.length := by
 unfold compS Lib.compact Lib.compactUpTo
 rw [List.length_map]
 exact Nat.le_trans (List.length_filter_le _ _) (by simp)
theorem zxt {l : List Str} (h : l ≠ []) : compS l ≠ [] := by
 unfold compS Lib.compact Lib.compactUpTo
 intro hc
 rw [List.map_eq_nil_iff, List.filter_eq_nil_iff] at hc
 have hl : 0 < l.length := List.length_pos_iff.2 h
 exact hc 0 (by simpa using hl) (Lib.keeps_lt_one _ 0 (by omega))
theorem za9 (l : List Str) : (sortS l).length = l.length := List.length_mergeSort l
theorem zb0 (l : List Str) : flatM ofStr l = l.map ofStr := by
 unfold flatM
 induction l with
 | nil => rfl
 | cons x r ih => rw [List.map_cons, List.flatMap_cons, ih]; rfl
theorem zhc (a : Str) : (ofStr a).cells.length = 1 := rfl
theorem zyx {b e n : Nat} {cells : Array Value} (hb : w.heap[b]? = some (.cells cells e (0, 0))) (d : Array Str) : Wr b cells (putCells encStr 0 d cells) e w (putRow encStr (Sort.ahead w n) b 0 d) := by
 refine ⟨rfl, rfl, rfl, by simp [putRow, mapBlock, Sort.ahead], fun k hk => ?_, hb, ?_, by simp [putCells]⟩
 ·simp only [putRow, mapBlock, Sort.ahead, Array.getElem?_modify]
  rw [if_neg (fun h => hk h.symm)]
 ·simp only [putRow, mapBlock, Sort.ahead, Array.getElem?_modify, if_true, hb, Option.map_some]
  rfl
theorem put_get {d : Array Str} {cells : Array Value} (hd : d.size ≤ cells.size) {k : Nat} (hk : k < d.size) : (putCells encStr 0 d cells)[k]? = some (encStr d[k]!) := by
 have hlt : k < cells.size := by omega
 simp only [putCells, Array.getElem?_mapIdx, Array.getElem?_eq_getElem hlt, Option.map_some]
 rw [if_pos ⟨Nat.zero_le _, by omega⟩]; simp
theorem zgl (hr : RelH P F.fr H g w) {j e b : Nat} {l : List Str} (hj : H[j]? = some (.box e (l.map ofStr))) (hg : g[j]? = some (some b)) :
 ∃ cells, w.heap[b]? = some (.cells cells e (0, 0)) ∧ l.length ≤ cells.size ∧ Holds encStr w b 0 l.toArray := by
 obtain ⟨b', cells, h1, h2, h3, h4⟩ := hr.box j e _ hj
 rw [hg] at h1; injection h1 with h1; injection h1 with h1; subst h1
 rw [List.length_map] at h3
 refine ⟨cells, h2, h3, fun k hk => ?_⟩
 have hk' : k < l.length := by simpa using hk
 obtain ⟨u, h5, h6⟩ := h4 k (ofStr l[k]) (by rw [List.getElem?_map, List.getElem?_eq_getElem hk']; rfl)
 have hu := vr_v.1 h6
 subst hu
 refine ⟨?_, ?_⟩
 ·rw [z1y h2, Nat.zero_add, h5]
  simp only [encStr]
  rw [getElem!_pos l.toArray k (by simpa using hk')]; simp
 ·simp [World.frozen?, h2]
theorem zr9 (hr : RelH P F.fr H g w) {j e b n : Nat} {l l' t : List Str} {os : Array Obj} (hj : H[j]? = some (.box e (l.map ofStr))) (hg : g[j]? = some (some b)) (hn : l'.length + t.length ≤ l.length) :
 RelH P F.fr (H.set j (.box e (l'.map ofStr))) g (grow (putRow encStr (Sort.ahead w n) b 0 (l' ++ t).toArray) os) ∧ Ext P F.fr H g w (H.set j (.box e (l'.map ofStr))) g (grow (putRow encStr (Sort.ahead w n) b 0 (l' ++ t).toArray) os) := by
 obtain ⟨cells, h2, h3, _⟩ := zgl hr hj hg
 have hw := zyx (n := n) h2 (l' ++ t).toArray
 have hsz : (l' ++ t).toArray.size ≤ cells.size := by simp; omega
 have r1 := zgm hr hj hg hw (cs' := l'.map ofStr) (by rw [hw.sz, List.length_map]; omega) (fun k y hk => by
  rw [List.getElem?_map, Option.map_eq_some_iff] at hk
  obtain ⟨s, hs, rfl⟩ := hk
  have hlt := z0c hs
  refine ⟨_, put_get hsz (by simp; omega), vr_v.2 ?_⟩
  rw [getElem!_pos (l' ++ t).toArray k (by simp; omega)]
  have : (l' ++ t)[k]'(by simp; omega) = s := by
   rw [List.getElem_append_left hlt]
   rw [List.getElem?_eq_getElem hlt] at hs; injection hs
  simp [encStr, this])
 have x1 := zh8 hr hj hg hw (cs' := l'.map ofStr)
 have hs : (putRow encStr (Sort.ahead w n) b 0 (l' ++ t).toArray).heap.size ≤ (grow (putRow encStr (Sort.ahead w n) b 0 (l' ++ t).toArray) os).heap.size := by simp [grow]
 have ho : ∀ k, k < (putRow encStr (Sort.ahead w n) b 0 (l' ++ t).toArray).heap.size → (grow (putRow encStr (Sort.ahead w n) b 0 (l' ++ t).toArray) os).heap[k]? = (putRow encStr (Sort.ahead w n) b 0 (l' ++ t).toArray).heap[k]? := fun k hk => by
  simp only [grow]; exact Array.getElem?_append_left hk
 exact ⟨zcs r1 hs ho, x1.trans (zd0 r1 hs ho rfl rfl rfl)⟩
theorem set_same {j : Nat} {e : AEnt} (h : H[j]? = some e) : H.set j e = H := by
 apply List.ext_getElem?
 intro i
 by_cases hi : j = i
 ·subst hi; rw [z17 h, h]
 ·rw [z0w hi]
def zkm (l : List Str) : Option (List Str) := bif Nat.blt l.length 4611686018427387904 then some (sortS l) else none
theorem zf2 {l r : List Str} (h : zkm l = some r) : l.length < 4611686018427387904 ∧ r = sortS l := by
 unfold zkm at h
 cases hb : Nat.blt l.length 4611686018427387904 with
 | false => rw [hb] at h; cases h
 | true => rw [hb] at h; injection h with h; exact ⟨Nat.le_of_ble_eq_true hb, h.symm⟩
theorem zqt {l r : List Str} (h : zkm l = some r) : l.length = r.length := by rw [(zf2 h).2, za9]
section
variable {f : FuncId} {x : Operand} {types : Array TypeId} {e j kk : Nat} {l r : List Str}
theorem zra {a : Act} (hr : Rel P F ⟨env, H, n⟩ a w g) (hx : ev env x = some (.rs j 0 l.length e 1)) (hl : l ≠ []) : ∃ b cap, a.eval x = .slice (some ⟨b, 0, none⟩) l.length cap ∧ l.length ≤ cap ∧ l.length ≤ 9223372036854775807 ∧ g[j]? = some (some b) ∧ ∃ m, (ctx P F.fr H g w).K b m ∧ cap ≤ m := by
 obtain ⟨A, c, hu, hc, hcase⟩ := z9n (hr.opd hx)
 have hpos : 0 < l.length := List.length_pos_iff.2 hl
 rcases hcase with ⟨h0, _⟩ | ⟨_, b, m, h1, h2, h3, h4⟩
 ·omega
 ·subst h1
  exact ⟨b, c, hu, hc.1, hc.2, h2.1, m, h3, by omega⟩
theorem zhu {a : Act} (hen : z0z P f) (ho : o.op = .call { callee := .value (.func f), args := #[x], argTypes := types }) (w : World) : (execOp a.eval o).run P w = .ok (.enter f #[a.eval x]) w := by
 simp only [execOp, ho]
 simp [resolve, Deferred.ofValue, invoke, Act.eval, z2g hen]
theorem zsw (hs : Z07 P f) (hen : z0z P f) (ho : o.op = .call { callee := .value (.func f), args := #[x], argTypes := types }) (hx : ev env x = some (.rs j 0 kk e 1)) (hkk : kk = l.length) (hj : H[j]? = some (rowM ofStr e l)) (h : zkm l = some r) :
 Op1 P o env H n (.tup []) (H.set j (rowM ofStr e r)) := by
 subst hkk
 obtain ⟨hlt, rfl⟩ := zf2 h
 intro F g a w hr Kn Q hK
 unfold Oper.wp
 rw [zhu hen ho w]
 simp only [Oper.upon_enter]
 have hnil : VR (ctx P F.fr H g w) (.tup []) (.tuple #[]) := vr_tup.2 ⟨[], rfl, rfl, by simp⟩
 by_cases hl : l = []
 ·subst hl
  obtain ⟨A, c, hu, _⟩ := z9n (hr.opd hx)
  rw [hu]
  refine Calls.mono (hs.2 A c w) ?_
  rintro e' w' ⟨rfl, rfl⟩
  have hset : H.set j (rowM ofStr e (sortS [])) = H := set_same (by rw [hj, show sortS [] = [] from by simp [sortS]])
  rw [hset] at hK
  exact hK _ _ g hnil hr.rel .refl
 ·obtain ⟨b, cap, hu, h1, h2, h3, _⟩ := zra hr hx hl
  have hpos : 0 < l.length := List.length_pos_iff.2 hl
  have hne : sortS l ≠ [] := fun hq => by have := za9 l; rw [hq] at this; simp at this; omega
  have hj' : H[j]? = some (.box e (l.map ofStr)) := by
   rw [hj, z78 zhc rfl (List.getElem?_eq_getElem hpos), zb0]
  obtain ⟨cells, h5, h6, h7⟩ := zgl hr.rel hj' h3
  rw [hu]
  have hb : b < w.heap.size := by
   rcases Nat.lt_or_ge b w.heap.size with hb | hb
   ·exact hb
   ·rw [Array.getElem?_eq_none hb] at h5; cases h5
  refine Calls.mono (hs.1 b cap l w h7 hb hlt) ?_
  rintro e' w' ⟨rfl, n', os, rfl⟩
  have hp := zr9 (l' := sortS l) (t := []) (n := n') (os := os) hr.rel hj' h3 (by rw [za9]; simp)
  rw [List.append_nil] at hp
  rw [z78 zhc rfl (List.getElem?_eq_getElem (List.length_pos_iff.2 hne)), zb0] at hK
  exact hK _ _ g (vr_tup.2 ⟨[], rfl, rfl, by simp⟩) hp.1 hp.2
theorem zsz (hs : zkd P f) (hen : z0z P f) (ho : o.op = .call { callee := .value (.func f), args := #[x], argTypes := types }) (hx : ev env x = some (.rs j 0 kk e 1)) (hkk : kk = l.length) (hj : H[j]? = some (rowM ofStr e l)) :
 Op1 P o env H n (.rs j 0 (compS l).length e 1) (H.set j (rowM ofStr e (compS l))) := by
 subst hkk
 intro F g a w hr Kn Q hK
 unfold Oper.wp
 rw [zhu hen ho w]
 simp only [Oper.upon_enter]
 by_cases hl : l = []
 ·subst hl
  have hv := hr.opd hx
  obtain ⟨A, c, hu, _⟩ := z9n hv
  rw [hu] at hv ⊢
  refine Calls.mono (hs.2 A c w) ?_
  rintro e' w' ⟨rfl, rfl⟩
  have hset : H.set j (rowM ofStr e (compS [])) = H := set_same (by rw [hj]; rfl)
  rw [hset] at hK
  exact hK _ _ g hv hr.rel .refl
 ·obtain ⟨b, cap, hu, h1, h2, h3, m, h8, h9⟩ := zra hr hx hl
  have hpos : 0 < l.length := List.length_pos_iff.2 hl
  have hne := zxt hl
  have hj' : H[j]? = some (.box e (l.map ofStr)) := by
   rw [hj, z78 zhc rfl (List.getElem?_eq_getElem hpos), zb0]
  obtain ⟨cells, h5, h6, h7⟩ := zgl hr.rel hj' h3
  rw [hu]
  refine Calls.mono (hs.1 b cap l w h7 h2 h1) ?_
  rintro e' w' ⟨rfl, q, rfl⟩
  have hle := zk2 l
  have hp := zr9 (l' := compS l) (t := List.replicate (l.length - (compS l).length) []) (n := q) (os := #[]) hr.rel hj' h3 (by rw [List.length_replicate]; omega)
  rw [grow_empty] at hp
  rw [z78 zhc rfl (List.getElem?_eq_getElem (List.length_pos_iff.2 hne)), zb0] at hK
  have hlj := z0c hj
  refine hK _ _ g (vr_rs.2 ⟨_, cap, rfl, ⟨by omega, by omega⟩, fun h0 => absurd (List.eq_nil_of_length_eq_zero h0) hne, fun _ => ⟨b, m, rfl, ⟨h3, fun e1 k1 he => ?_⟩, ?_, by omega⟩⟩) hp.1 hp.2
  ·rw [z17 hj] at he; cases he
  ·obtain ⟨c0, t0, z0, k1, k2⟩ := h8
   rw [h5] at k1; injection k1 with k1; injection k1 with a1 a2 a3
   subst a1
   have hw := zyx (n := q) h5 (compS l ++ List.replicate (l.length - (compS l).length) []).toArray
   exact ⟨_, _, _, hw.there, by rw [hw.sz]; exact k2⟩
end
end Go.Proofs.YtmoijodjgkfhgaaGreat.Aw
