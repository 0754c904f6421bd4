/- Aw: a map that is laid and filled with one entry at once: what it holds is forgotten. -/
import Derived.Test.YthidgpcbnieleaaAw9
import Derived.Lib.ConvBytes
import Derived.WideMake
namespace Go.Proofs.Ythidgpcbnieleaa.Aw
open Go
set_option linter.unusedVariables false
set_option linter.unusedSimpArgs false
variable {P : Program} {H : List AEnt} {K : AExit → ASt → Prop} {ops : Array Oper} {o1 o2 : Oper} {rest : List Oper} {env : List (Nat × PV)} {n : Nat}
theorem zss {t kt et d : Nat} {s : ByteArray} {x : Value} (hg1 : o1.guard = none) (hg2 : o2.guard = none) (ho1 : o1.op = .makeMap t none) (hd1 : o1.dst = some d) (hn : Nat.blt d n = true)
 (ho2 : o2.op = .insert t (.tmp d) (.const (.string s)) (.const x)) (hd2 : o2.dst = none) (ht : P.underlying t = some (.map kt et)) (hk : P.underlying kt = some .string)
 (h : AO P ops rest ⟨(d, .junk) :: env, H ++ [.dead], n⟩ K) : AO P ops (o1 :: o2 :: rest) ⟨env, H, n⟩ K := by
 intro F g a w hr
 refine wpList_plain hg1 (fun K1 hK1 => ?_)
 have hsz := hr.size
 have hdn : d < a.tmps.size := by rw [hsz]; simpa [Nat.blt_eq] using hn
 unfold Oper.wp
 have hrun1 : (execOp a.eval o1).run P w = .ok (.value (.map (some w.heap.size))) (w.alloc (.map #[] 0)) := by
  simp [execOp, ho1, Instr.makeMap]
 rw [hrun1]
 simp only [Oper.upon_value]
 refine hK1 _ _ (wpList_plain hg2 (fun K2 hK2 => ?_))
 unfold Oper.wp
 have hev : (a.put o1.dst (.map (some w.heap.size))).eval (.tmp d) = .map (some w.heap.size) := by
  simp [Act.put, hd1, Act.eval, hdn]
 have hob : (w.alloc (.map #[] 0)).heap[w.heap.size]? = some (.map #[] 0) := z2o
 have hrun2 : (execOp (a.put o1.dst (.map (some w.heap.size))).eval o2).run P (w.alloc (.map #[] 0)) = .ok .skip { w.alloc (.map #[] 0) with heap := (w.alloc (.map #[] 0)).heap.setIfInBounds w.heap.size (.map #[{ key := .string s, val := x, born := 0 }] 1) } := by
  simp only [execOp, ho2]
  simp only [hev, z5x]
  simp only [Sem.run_bind, Sem.run_pure]
  rw [run_mapUpdate_first (P := P) (w := w.alloc (.map #[] 0)) (mty := t) (kt := kt) (et := et) (r := w.heap.size) (clock := 0) (s := s) (val := x) ht hk hob]
  rfl
 rw [hrun2]
 simp only [Oper.upon_skip]
 have hs : w.heap.size ≤ ((w.alloc (.map #[] 0)).heap.setIfInBounds w.heap.size (.map #[{ key := .string s, val := x, born := 0 }] 1)).size := by simp
 have hold : ∀ k, k < w.heap.size → ((w.alloc (.map #[] 0)).heap.setIfInBounds w.heap.size (.map #[{ key := .string s, val := x, born := 0 }] 1))[k]? = w.heap[k]? := fun k hk => by
  rw [Array.getElem?_setIfInBounds_ne (by omega)]; exact z2k hk
 have hle := z7e (w' := { w.alloc (.map #[] 0) with heap := (w.alloc (.map #[] 0)).heap.setIfInBounds w.heap.size (.map #[{ key := .string s, val := x, born := 0 }] 1) }) hr.rel .dead none (by simp) hs hold
 have hx := z43 (w' := { w.alloc (.map #[] 0) with heap := (w.alloc (.map #[] 0)).heap.setIfInBounds w.heap.size (.map #[{ key := .string s, val := x, born := 0 }] 1) }) hr.rel .dead none (by simp) hs hold rfl rfl rfl
 have hrel := z40 (w' := { w.alloc (.map #[] 0) with heap := (w.alloc (.map #[] 0)).heap.setIfInBounds w.heap.size (.map #[{ key := .string s, val := x, born := 0 }] 1) }) hr.rel .dead none (by simp) hs hold trivial
 have hput := hr.put (d := o1.dst) (by rw [hd1]; exact hn) (x := .junk) (v := .map (some w.heap.size)) z70 hrel hx
 refine hK2 _ _ (z32 (fun _ _ _ hp => hp.from hx) rest _ _ (h F (g ++ [none]) _ _ ?_))
 rw [hd2]
 have := hput
 rw [hd1] at this ⊢
 exact this
theorem zr2 {o : Oper} {src dst e : TypeId} {ds : TypeDesc} {x : Operand} {s : ByteArray} (hs : P.underlying src = some ds) (hd : P.underlying dst = some (.slice e)) (he : P.underlying e = some (.int .u8)) (ho : o.op = .convert src dst x) (hx : ev env x = some (.v (.string s))) (hsb : s.size ≤ 9223372036854775807) :
 Op1 P o env H n (.sl none e 1 (z6s s.data.toList)) (H ++ [.dead]) := by
 intro F g a w hr Kn Q hK
 have hv := hr.const hx
 unfold Oper.wp
 have hrun : (execOp a.eval o).run P w = .ok (.value (.slice (some ⟨w.heap.size, 0, none⟩) s.size (grownCap w s.size 0 e))) (Go.Lib.bytesWorld w e s) := by
  simp only [execOp, ho, hv]
  simp only [Sem.run_bind]
  rw [Go.Lib.run_convert_string_bytes w src dst e s hs hd he]
  rfl
 rw [hrun]
 have hsz : w.heap.size ≤ (Go.Lib.bytesWorld w e s).heap.size := by rw [Go.Lib.bytesWorld_size]; omega
 have hold : ∀ k, k < w.heap.size → (Go.Lib.bytesWorld w e s).heap[k]? = w.heap[k]? := fun k hk => Go.Lib.bytesWorld_at_old w e s k hk
 have hrel := z40 hr.rel .dead none (by simp) hsz hold trivial
 refine hK _ _ _ ?_ hrel (z43 hr.rel .dead none (by simp) hsz hold rfl rfl rfl)
 have hl : (z6s s.data.toList).length = s.size := by simp [z6s]
 have hge := grownCap_ge w s.size 0 e
 have hbs : s.data.size = s.size := rfl
 refine vr_sl.2 ⟨_, _, by rw [hl], ⟨by rw [hl]; exact ⟨hge, hsb⟩, fun _ => .inr ⟨_, 0, _, _, 0, rfl, hr.rel.bs.1, Go.Lib.bytesWorld_at_new w e s, by simp only [Go.Lib.bytesCells, Array.size_append, Array.size_map, Array.size_replicate]; omega, .inr (Nat.le_refl _), by simp⟩⟩, by simp, fun i p hp => ?_⟩
 have hi : i < s.size := by rw [← hl]; exact z0a hp
 have hp' : p = .v (.int .u8 (s.data.toList.getD i 0).toNat) := by
  have hi' : i < s.data.toList.length := by simpa using hi
  simp only [z6s, List.getElem?_map, List.getElem?_eq_getElem hi', Option.map_some, Option.some.injEq] at hp
  rw [← hp, List.getD_eq_getElem?_getD, List.getElem?_eq_getElem hi']; rfl
 subst hp'
 refine ⟨rfl, w.heap.size, 0, rfl, fun j y hy => ?_⟩
 cases j with
 | succ j => simp [PV.cells] at hy
 | zero =>
  simp only [PV.cells, List.getElem?_cons_zero, Option.some.injEq] at hy; subst hy
  refine ⟨_, ⟨⟨.inl ⟨fun i' hl => ?_, fun k hk => ?_⟩, fun _ => hr.rel.bs.1⟩, ?_⟩, vr_v.2 rfl⟩
  ·rcases (z4l hr.rel.len (by simp)).1 hl with hl | ⟨_, hl, _⟩
   ·have := (hr.rel.fr _ _ hl).2; omega
   ·cases hl
  ·have := hr.rel.fb _ _ hk; omega
  ·rw [show 0 + (i * 1 + 0) = i by omega]; exact Go.Lib.bytesWorld_cell w e s i hi
end Go.Proofs.Ythidgpcbnieleaa.Aw
