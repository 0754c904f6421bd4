/- Rows nobody writes again, made at any time; a row against nil. -/
import Derived.Test.YtigadhiciinicaaAwV
namespace Go.Proofs.Ytigadhiciinicaa
namespace Aw
open Go
set_option linter.unusedVariables false
set_option linter.unusedSimpArgs false
set_option maxRecDepth 4000
section Grow
variable {P : Program} {F : Lo} {H H' : List AEnt} {g g' : List (Option Nat)} {w w' : World}
theorem le_grow (h : RelH P F H g w) (hs : w.heap.size ≤ w'.heap.size) (ho : ∀ k, k < w.heap.size → w'.heap[k]? = w.heap[k]?) : (ctx P F H g w).Le (ctx P F H g w') := by
  have hG := le_G (P := P) (F := F) (F' := F) (H := H) (H' := H) (g := g) (g' := g) (w := w) (w' := w') (fun k hk => hk) (fun k _ h1 => ⟨h1, rfl⟩) (fun k b _ hl => ho b (h.fr k b hl).2)
  refine le_mk rfl ?_ ?_ ?_ hG ((Keeps.of ho).B rfl)
  · rintro b off u ⟨h1, h2⟩
    have hb := cell_lt h2
    exact ⟨h1, by rw [cell_same (ho b hb)]; exact h2⟩
  · exact fun i b h => h
  · rintro j m A c sz ⟨h1, h2⟩
    refine ⟨h1, fun e' k he => ?_⟩
    obtain ⟨h3, h4⟩ := h2 e' k he
    refine ⟨h3, fun hm => ?_⟩
    obtain ⟨h5, h6⟩ := h4 hm
    refine ⟨h5, ?_⟩
    rcases h6 with h6 | ⟨b, cells, h6, h7, h8, h9⟩
    · exact .inl h6
    · exact .inr ⟨b, cells, h6, h7, by rw [ho b (lt_of_get h8)]; exact h8, h9⟩
theorem rel_grow (h : RelH P F H g w) (hs : w.heap.size ≤ w'.heap.size) (ho : ∀ k, k < w.heap.size → w'.heap[k]? = w.heap[k]?) : RelH P F H g w' := by
  have hle := le_grow h hs ho
  refine rel_of_ok h.len h.inj (fun i b hi => ⟨(h.fr i b hi).1, Nat.lt_of_lt_of_le (h.fr i b hi).2 hs⟩) (fun b k hb => Nat.lt_of_lt_of_le (h.fb b k hb) hs) ⟨Nat.le_trans h.bs.1 hs, h.bs.2⟩ ?_
  intro i e' hi
  obtain ⟨n', h1, h2⟩ := rel_ok h hi
  refine ⟨n', h1, ?_⟩
  cases e' with
  | dead => trivial
  | reg => trivial
  | _ => exact h2.mono hle (fun b hb => ho b (block_lt_of_ok h2 (by simp) hb))
theorem ext_grow (h : RelH P F H g w) (hs : w.heap.size ≤ w'.heap.size) (ho : ∀ k, k < w.heap.size → w'.heap[k]? = w.heap[k]?)
    (h1 : w'.os = w.os) (h2 : w'.tape = w.tape) (h3 : w'.output = w.output) : Ext P F H g w H g w' :=
  ⟨h1, h2, h3, hs, fun b hb hl => ⟨ho b hb, hl⟩, le_grow h hs ho, Nat.le_refl _⟩
end Grow
variable {P : Program} {F : Fr} {H H' : List AEnt} {env : List (Nat × PV)} {n : Nat} {o : Oper}
end Aw
end Go.Proofs.Ytigadhiciinicaa
