/- Aw: a map that is laid and filled with one entry at once: what it holds is forgotten. -/
import Derived.Test.YtiapdjdhaclmnaaAw9
import Derived.Lib.ConvBytes
import Derived.WideMake
namespace Go.Proofs.Ytiapdjdhaclmnaa.Aw
open Go
set_option linter.unusedVariables false
set_option linter.unusedSimpArgs false
variable {P : Program} {H : List AEnt} {K : AExit → ASt → Prop} {ops : Array Oper} {o1 o2 : Oper} {rest : List Oper} {env : List (Nat × PV)} {n : Nat}
theorem zwr {o : Oper} {src dst e : TypeId} {ds : TypeDesc} {x : Operand} {s : ByteArray} (hs : P.underlying src = some ds) (hd : P.underlying dst = some (.slice e)) (he : P.underlying e = some (.int .u8)) (ho : o.op = .convert src dst x) (hx : ev env x = some (.v (.string s))) (hsb : s.size ≤ 9223372036854775807) :
 Op1 P o env H n (.sl none e 1 (z85 s.data.toList)) (H ++ [.dead]) := by
 intro F g a w hr Kn Q hK
 have hv := hr.const hx
 unfold Oper.wp
 have hrun : (execOp a.eval o).run P w = .ok (.value (.slice (some ⟨w.heap.size, 0, none⟩) s.size (grownCap w s.size 0 e))) (Go.Lib.bytesWorld w e s) := by
  simp only [execOp, ho, hv]
  simp only [Sem.run_bind]
  rw [Go.Lib.run_convert_string_bytes w src dst e s hs hd he]
  rfl
 rw [hrun]
 have hsz : w.heap.size ≤ (Go.Lib.bytesWorld w e s).heap.size := by rw [Go.Lib.bytesWorld_size]; omega
 have hold : ∀ k, k < w.heap.size → (Go.Lib.bytesWorld w e s).heap[k]? = w.heap[k]? := fun k hk => Go.Lib.bytesWorld_at_old w e s k hk
 have hrel := z5j hr.rel .dead none (by simp) hsz hold trivial
 refine hK _ _ _ ?_ hrel (z5p hr.rel .dead none (by simp) hsz hold rfl rfl rfl)
 have hl : (z85 s.data.toList).length = s.size := by simp [z85]
 have hge := grownCap_ge w s.size 0 e
 have hbs : s.data.size = s.size := rfl
 refine vr_sl.2 ⟨_, _, by rw [hl], ⟨by rw [hl]; exact ⟨hge, hsb⟩, fun _ => .inr ⟨_, 0, _, _, 0, rfl, hr.rel.bs.1, Go.Lib.bytesWorld_at_new w e s, by simp only [Go.Lib.bytesCells, Array.size_append, Array.size_map, Array.size_replicate]; omega, .inr (Nat.le_refl _), by simp⟩⟩, by simp, fun i p hp => ?_⟩
 have hi : i < s.size := by rw [← hl]; exact z0p hp
 have hp' : p = .v (.int .u8 (s.data.toList.getD i 0).toNat) := by
  have hi' : i < s.data.toList.length := by simpa using hi
  simp only [z85, List.getElem?_map, List.getElem?_eq_getElem hi', Option.map_some, Option.some.injEq] at hp
  rw [← hp, List.getD_eq_getElem?_getD, List.getElem?_eq_getElem hi']; rfl
 subst hp'
 refine ⟨rfl, w.heap.size, 0, rfl, fun j y hy => ?_⟩
 cases j with
 | succ j => simp [PV.cells] at hy
 | zero =>
  simp only [PV.cells, List.getElem?_cons_zero, Option.some.injEq] at hy; subst hy
  refine ⟨_, ⟨⟨.inl ⟨fun i' hl => ?_, fun k hk => ?_⟩, fun _ => hr.rel.bs.1⟩, ?_⟩, vr_v.2 rfl⟩
  ·rcases (z59 hr.rel.len (by simp)).1 hl with hl | ⟨_, hl, _⟩
   ·have := (hr.rel.fr _ _ hl).2; omega
   ·cases hl
  ·have := hr.rel.fb _ _ hk; omega
  ·rw [show 0 + (i * 1 + 0) = i by omega]; exact Go.Lib.bytesWorld_cell w e s i hi
end Go.Proofs.Ytiapdjdhaclmnaa.Aw
