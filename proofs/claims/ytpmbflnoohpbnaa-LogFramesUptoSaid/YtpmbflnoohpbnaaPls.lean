/- Texts and bytes are plain trees. -/
import Derived.Test.YtpmbflnoohpbnaaTy
import Derived.Test.YtpmbflnoohpbnaaAwS
namespace Go.Proofs.Ytpmbflnoohpbnaa
open Go Aw
set_option linter.unusedVariables false
set_option linter.unusedSimpArgs false
theorem pl_map {α : Type} {f : α → PV} (h : ∀ a, Pl (f a)) (l : List α) : PlL (l.map f) := PlL.of fun x hx => by
  obtain ⟨a, _, rfl⟩ := List.mem_map.1 hx
  exact h a
theorem pl_sl {α : Type} {f : α → PV} (h : ∀ a, Pl (f a)) {e : TypeId} {sz : Nat} (l : List α) : Pl (.sl none e sz (l.map f)) := .sl (pl_map h l)
theorem pl_str (s : Str) : Pl (ofStr s) := Pl.v
theorem pl_B (b : UInt8) : Pl (ofB b) := Pl.v
end Go.Proofs.Ytpmbflnoohpbnaa
