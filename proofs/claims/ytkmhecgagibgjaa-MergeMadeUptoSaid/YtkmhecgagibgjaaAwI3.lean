/- Aw: rows of texts that the library sorts, and takes what stands twice out of. -/
import Derived.Test.YtkmhecgagibgjaaAwI
import Derived.Sort.Grow
import Derived.Sort.EncStr
import Derived.Lib.SlicesCompact
namespace Go.Proofs.Ytkmhecgagibgjaa.Aw
open Go Go.Sort
set_option linter.unusedVariables false
set_option linter.unusedSimpArgs false
variable {P : Program} {F : Fr} {H H' : List AEnt} {g g' : List (Option Nat)} {w w' : World} {env : List (Nat × PV)} {n : Nat} {o : Oper}
def sortS (l : List Str) : List Str := l.mergeSort fun x y => decide (x ≤ y)
def compS (l : List Str) : List Str := Lib.compact l
def SortsS (P : Program) (f : FuncId) : Prop :=
  (∀ (b cap : Nat) (zs : List Str) (w : World), Holds encStr w b 0 zs.toArray → b < w.heap.size → zs.length < 4611686018427387904 → Calls P f #[.slice (some ⟨b, 0, none⟩) zs.length cap] w fun e w' => e = .returned (.tuple #[]) ∧ ∃ n os, w' = grow (putRow encStr (Sort.ahead w n) b 0 (sortS zs).toArray) os) ∧
    ∀ (p : Option Addr) (cap : Nat) (w : World), Calls P f #[.slice p 0 cap] w fun e w' => e = .returned (.tuple #[]) ∧ w' = w
def CompactsS (P : Program) (f : FuncId) : Prop :=
  (∀ (b cap : Nat) (zs : List Str) (w : World), Holds encStr w b 0 zs.toArray → zs.length ≤ 9223372036854775807 → zs.length ≤ cap → Calls P f #[.slice (some ⟨b, 0, none⟩) zs.length cap] w fun e w' => e = .returned (.slice (some ⟨b, 0, none⟩) (compS zs).length cap) ∧
      ∃ q, w' = putRow encStr (Sort.ahead w q) b 0 (compS zs ++ List.replicate (zs.length - (compS zs).length) []).toArray) ∧
    ∀ (p : Option Addr) (cap : Nat) (w : World), Calls P f #[.slice p 0 cap] w fun e w' => e = .returned (.slice p 0 cap) ∧ w' = w
theorem compS_len (l : List Str) : (compS l).length ≤ l.length := by
  unfold compS Lib.compact Lib.compactUpTo
  rw [List.length_map]
  exact Nat.le_trans (List.length_filter_le _ _) (by simp)
theorem compS_ne {l : List Str} (h : l ≠ []) : compS l ≠ [] := by
  unfold compS Lib.compact Lib.compactUpTo
  intro hc
  rw [List.map_eq_nil_iff, List.filter_eq_nil_iff] at hc
  have hl : 0 < l.length := List.length_pos_iff.2 h
  exact hc 0 (by simpa using hl) (Lib.keeps_lt_one _ 0 (by omega))
theorem sortS_len (l : List Str) : (sortS l).length = l.length := List.length_mergeSort l
theorem flatM_str (l : List Str) : flatM ofStr l = l.map ofStr := by
  unfold flatM
  induction l with
  | nil => rfl
  | cons x r ih => rw [List.map_cons, List.flatMap_cons, ih]; rfl
theorem csz_str (a : Str) : (ofStr a).cells.length = 1 := rfl
theorem wr_put {b e n : Nat} {cells : Array Value} (hb : w.heap[b]? = some (.cells cells e (0, 0))) (d : Array Str) : Wr b cells (putCells encStr 0 d cells) e w (putRow encStr (Sort.ahead w n) b 0 d) := by
  refine ⟨rfl, rfl, rfl, by simp [putRow, mapBlock, Sort.ahead], fun k hk => ?_, hb, ?_, by simp [putCells]⟩
  · simp only [putRow, mapBlock, Sort.ahead, Array.getElem?_modify]
    rw [if_neg (fun h => hk h.symm)]
  · simp only [putRow, mapBlock, Sort.ahead, Array.getElem?_modify, if_true, hb, Option.map_some]
    rfl
theorem put_get {d : Array Str} {cells : Array Value} (hd : d.size ≤ cells.size) {k : Nat} (hk : k < d.size) : (putCells encStr 0 d cells)[k]? = some (encStr d[k]!) := by
  have hlt : k < cells.size := by omega
  simp only [putCells, Array.getElem?_mapIdx, Array.getElem?_eq_getElem hlt, Option.map_some]
  rw [if_pos ⟨Nat.zero_le _, by omega⟩]; simp
theorem row_here (hr : RelH P F.fr H g w) {j e b : Nat} {l : List Str} (hj : H[j]? = some (.box e (l.map ofStr))) (hg : g[j]? = some (some b)) :
    ∃ cells, w.heap[b]? = some (.cells cells e (0, 0)) ∧ l.length ≤ cells.size ∧ Holds encStr w b 0 l.toArray := by
  obtain ⟨b', cells, h1, h2, h3, h4⟩ := hr.box j e _ hj
  rw [hg] at h1; injection h1 with h1; injection h1 with h1; subst h1
  rw [List.length_map] at h3
  refine ⟨cells, h2, h3, fun k hk => ?_⟩
  have hk' : k < l.length := by simpa using hk
  obtain ⟨u, h5, h6⟩ := h4 k (ofStr l[k]) (by rw [List.getElem?_map, List.getElem?_eq_getElem hk']; rfl)
  have hu := vr_v.1 h6
  subst hu
  refine ⟨?_, ?_⟩
  · rw [cell_row h2, Nat.zero_add, h5]
    simp only [encStr]
    rw [getElem!_pos l.toArray k (by simpa using hk')]; simp
  · simp [World.frozen?, h2]
theorem row_put (hr : RelH P F.fr H g w) {j e b n : Nat} {l l' t : List Str} {os : Array Obj} (hj : H[j]? = some (.box e (l.map ofStr))) (hg : g[j]? = some (some b)) (hn : l'.length + t.length ≤ l.length) :
    RelH P F.fr (H.set j (.box e (l'.map ofStr))) g (grow (putRow encStr (Sort.ahead w n) b 0 (l' ++ t).toArray) os) ∧ Ext P F.fr H g w (H.set j (.box e (l'.map ofStr))) g (grow (putRow encStr (Sort.ahead w n) b 0 (l' ++ t).toArray) os) := by
  obtain ⟨cells, h2, h3, _⟩ := row_here hr hj hg
  have hw := wr_put (n := n) h2 (l' ++ t).toArray
  have hsz : (l' ++ t).toArray.size ≤ cells.size := by simp; omega
  have r1 := rel_box hr hj hg hw (cs' := l'.map ofStr) (by rw [hw.sz, List.length_map]; omega) (fun k y hk => by
    rw [List.getElem?_map, Option.map_eq_some_iff] at hk
    obtain ⟨s, hs, rfl⟩ := hk
    have hlt := lt_of_getL hs
    refine ⟨_, put_get hsz (by simp; omega), vr_v.2 ?_⟩
    rw [getElem!_pos (l' ++ t).toArray k (by simp; omega)]
    have : (l' ++ t)[k]'(by simp; omega) = s := by
      rw [List.getElem_append_left hlt]
      rw [List.getElem?_eq_getElem hlt] at hs; injection hs
    simp [encStr, this])
  have x1 := ext_box hr hj hg hw (cs' := l'.map ofStr)
  have hs : (putRow encStr (Sort.ahead w n) b 0 (l' ++ t).toArray).heap.size ≤ (grow (putRow encStr (Sort.ahead w n) b 0 (l' ++ t).toArray) os).heap.size := by simp [grow]
  have ho : ∀ k, k < (putRow encStr (Sort.ahead w n) b 0 (l' ++ t).toArray).heap.size → (grow (putRow encStr (Sort.ahead w n) b 0 (l' ++ t).toArray) os).heap[k]? = (putRow encStr (Sort.ahead w n) b 0 (l' ++ t).toArray).heap[k]? := fun k hk => by
    simp only [grow]; exact Array.getElem?_append_left hk
  exact ⟨rel_grow r1 hs ho, x1.trans (ext_grow r1 hs ho rfl rfl rfl)⟩
theorem set_same {j : Nat} {e : AEnt} (h : H[j]? = some e) : H.set j e = H := by
  apply List.ext_getElem?
  intro i
  by_cases hi : j = i
  · subst hi; rw [set_get_eq h, h]
  · rw [set_get_ne hi]
def sortO (l : List Str) : Option (List Str) := bif Nat.blt l.length 4611686018427387904 then some (sortS l) else none
theorem sortO_some {l r : List Str} (h : sortO l = some r) : l.length < 4611686018427387904 ∧ r = sortS l := by
  unfold sortO at h
  cases hb : Nat.blt l.length 4611686018427387904 with
  | false => rw [hb] at h; cases h
  | true => rw [hb] at h; injection h with h; exact ⟨Nat.le_of_ble_eq_true hb, h.symm⟩
theorem sortO_len {l r : List Str} (h : sortO l = some r) : l.length = r.length := by rw [(sortO_some h).2, sortS_len]
section
variable {f : FuncId} {x : Operand} {types : Array TypeId} {e j kk : Nat} {l r : List Str}
theorem row_arg {a : Act} (hr : Rel P F ⟨env, H, n⟩ a w g) (hx : ev env x = some (.rs j 0 l.length e 1)) (hl : l ≠ []) : ∃ b cap, a.eval x = .slice (some ⟨b, 0, none⟩) l.length cap ∧ l.length ≤ cap ∧ l.length ≤ 9223372036854775807 ∧ g[j]? = some (some b) ∧ ∃ m, (ctx P F.fr H g w).K b m ∧ cap ≤ m := by
  obtain ⟨A, c, hu, hc, hcase⟩ := rs_get (hr.opd hx)
  have hpos : 0 < l.length := List.length_pos_iff.2 hl
  rcases hcase with ⟨h0, _⟩ | ⟨_, b, m, h1, h2, h3, h4⟩
  · omega
  · subst h1
    exact ⟨b, c, hu, hc.1, hc.2, h2.1, m, h3, by omega⟩
theorem run_call1 {a : Act} (hen : Enters P f) (ho : o.op = .call { callee := .value (.func f), args := #[x], argTypes := types }) (w : World) : (execOp a.eval o).run P w = .ok (.enter f #[a.eval x]) w := by
  simp only [execOp, ho]
  simp [resolve, Deferred.ofValue, invoke, Act.eval, run_callFunc hen]
theorem op1_rsort (hs : SortsS P f) (hen : Enters P f) (ho : o.op = .call { callee := .value (.func f), args := #[x], argTypes := types }) (hx : ev env x = some (.rs j 0 kk e 1)) (hkk : kk = l.length) (hj : H[j]? = some (rowM ofStr e l)) (h : sortO l = some r) :
    Op1 P o env H n (.tup []) (H.set j (rowM ofStr e r)) := by
  subst hkk
  obtain ⟨hlt, rfl⟩ := sortO_some h
  intro F g a w hr Kn Q hK
  unfold Oper.wp
  rw [run_call1 hen ho w]
  simp only [Oper.upon_enter]
  have hnil : VR (ctx P F.fr H g w) (.tup []) (.tuple #[]) := vr_tup.2 ⟨[], rfl, rfl, by simp⟩
  by_cases hl : l = []
  · subst hl
    obtain ⟨A, c, hu, _⟩ := rs_get (hr.opd hx)
    rw [hu]
    refine Calls.mono (hs.2 A c w) ?_
    rintro e' w' ⟨rfl, rfl⟩
    have hset : H.set j (rowM ofStr e (sortS [])) = H := set_same (by rw [hj, show sortS [] = [] from by simp [sortS]])
    rw [hset] at hK
    exact hK _ _ g hnil hr.rel .refl
  · obtain ⟨b, cap, hu, h1, h2, h3, _⟩ := row_arg hr hx hl
    have hpos : 0 < l.length := List.length_pos_iff.2 hl
    have hne : sortS l ≠ [] := fun hq => by have := sortS_len l; rw [hq] at this; simp at this; omega
    have hj' : H[j]? = some (.box e (l.map ofStr)) := by
      rw [hj, rowM_at csz_str rfl (List.getElem?_eq_getElem hpos), flatM_str]
    obtain ⟨cells, h5, h6, h7⟩ := row_here hr.rel hj' h3
    rw [hu]
    have hb : b < w.heap.size := by
      rcases Nat.lt_or_ge b w.heap.size with hb | hb
      · exact hb
      · rw [Array.getElem?_eq_none hb] at h5; cases h5
    refine Calls.mono (hs.1 b cap l w h7 hb hlt) ?_
    rintro e' w' ⟨rfl, n', os, rfl⟩
    have hp := row_put (l' := sortS l) (t := []) (n := n') (os := os) hr.rel hj' h3 (by rw [sortS_len]; simp)
    rw [List.append_nil] at hp
    rw [rowM_at csz_str rfl (List.getElem?_eq_getElem (List.length_pos_iff.2 hne)), flatM_str] at hK
    exact hK _ _ g (vr_tup.2 ⟨[], rfl, rfl, by simp⟩) hp.1 hp.2
theorem op1_rcomp (hs : CompactsS P f) (hen : Enters P f) (ho : o.op = .call { callee := .value (.func f), args := #[x], argTypes := types }) (hx : ev env x = some (.rs j 0 kk e 1)) (hkk : kk = l.length) (hj : H[j]? = some (rowM ofStr e l)) :
    Op1 P o env H n (.rs j 0 (compS l).length e 1) (H.set j (rowM ofStr e (compS l))) := by
  subst hkk
  intro F g a w hr Kn Q hK
  unfold Oper.wp
  rw [run_call1 hen ho w]
  simp only [Oper.upon_enter]
  by_cases hl : l = []
  · subst hl
    have hv := hr.opd hx
    obtain ⟨A, c, hu, _⟩ := rs_get hv
    rw [hu] at hv ⊢
    refine Calls.mono (hs.2 A c w) ?_
    rintro e' w' ⟨rfl, rfl⟩
    have hset : H.set j (rowM ofStr e (compS [])) = H := set_same (by rw [hj]; rfl)
    rw [hset] at hK
    exact hK _ _ g hv hr.rel .refl
  · obtain ⟨b, cap, hu, h1, h2, h3, m, h8, h9⟩ := row_arg hr hx hl
    have hpos : 0 < l.length := List.length_pos_iff.2 hl
    have hne := compS_ne hl
    have hj' : H[j]? = some (.box e (l.map ofStr)) := by
      rw [hj, rowM_at csz_str rfl (List.getElem?_eq_getElem hpos), flatM_str]
    obtain ⟨cells, h5, h6, h7⟩ := row_here hr.rel hj' h3
    rw [hu]
    refine Calls.mono (hs.1 b cap l w h7 h2 h1) ?_
    rintro e' w' ⟨rfl, q, rfl⟩
    have hle := compS_len l
    have hp := row_put (l' := compS l) (t := List.replicate (l.length - (compS l).length) []) (n := q) (os := #[]) hr.rel hj' h3 (by rw [List.length_replicate]; omega)
    rw [grow_empty] at hp
    rw [rowM_at csz_str rfl (List.getElem?_eq_getElem (List.length_pos_iff.2 hne)), flatM_str] at hK
    have hlj := lt_of_getL hj
    refine hK _ _ g (vr_rs.2 ⟨_, cap, rfl, ⟨by omega, by omega⟩, fun h0 => absurd (List.eq_nil_of_length_eq_zero h0) hne, fun _ => ⟨b, m, rfl, ⟨h3, fun e1 k1 he => ?_⟩, ?_, by omega⟩⟩) hp.1 hp.2
    · rw [set_get_eq hj] at he; cases he
    · obtain ⟨c0, t0, z0, k1, k2⟩ := h8
      rw [h5] at k1; injection k1 with k1; injection k1 with a1 a2 a3
      subst a1
      have hw := wr_put (n := q) h5 (compS l ++ List.replicate (l.length - (compS l).length) []).toArray
      exact ⟨_, _, _, hw.there, by rw [hw.sz]; exact k2⟩
end
end Go.Proofs.Ytkmhecgagibgjaa.Aw
