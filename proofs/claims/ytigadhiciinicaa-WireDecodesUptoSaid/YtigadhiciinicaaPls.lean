/- Values, records and terms are plain trees; those that hold no address. -/
import Derived.Test.YtigadhiciinicaaTy
import Derived.Test.YtigadhiciinicaaAwS
namespace Go.Proofs.Ytigadhiciinicaa
open Go Aw
set_option linter.unusedVariables false
set_option linter.unusedSimpArgs false
theorem pl_map {α : Type} {f : α → PV} (h : ∀ a, Pl (f a)) (l : List α) : PlL (l.map f) := PlL.of fun x hx => by
  obtain ⟨a, _, rfl⟩ := List.mem_map.1 hx
  exact h a
theorem pl_sl {α : Type} {f : α → PV} (h : ∀ a, Pl (f a)) {e : TypeId} {sz : Nat} (l : List α) : Pl (.sl none e sz (l.map f)) := .sl (pl_map h l)
theorem pl_str (s : Str) : Pl (ofStr s) := Pl.v
theorem pl_B (b : UInt8) : Pl (ofB b) := Pl.v
mutual
theorem pl_V : ∀ (x : V), Pl (ofV x)
  | .nil => by rw [ofV]; exact .v
  | .bool b => by rw [ofV]; exact .iface .v
  | .int i => by rw [ofV]; exact .iface .v
  | .float f => by rw [ofV]; exact .iface .v
  | .text s => by rw [ofV]; exact .iface (pl_str s)
  | .bytes b => by rw [ofV]; exact .iface (pl_sl pl_B b)
  | .ref r => by rw [ofV]; exact .iface .v
  | .list l => by rw [ofV]; exact .iface (.sl (pl_Vs l))
  | .dict l => by rw [ofV]; exact .iface (.sl (pl_Fs l))
  | .record c v l => by rw [ofV]; exact .iface (.pt (.agg (.cons (pl_str c) (.cons .v (.cons (.sl (pl_Fs l)) .nil)))))
  | .nothing => by rw [ofV]; exact .iface .v
  | .alien t => by rw [ofV]; exact .iface .junk
theorem pl_Vs : ∀ (l : List V), PlL (ofVs l)
  | [] => by rw [ofVs]; exact .nil
  | x :: r => by rw [ofVs]; exact .cons (pl_V x) (pl_Vs r)
theorem pl_Fs : ∀ (l : List (Str × V)), PlL (ofFs l)
  | [] => by rw [ofFs]; exact .nil
  | (s, x) :: r => by rw [ofFs]; exact .cons (.agg (.cons (pl_str s) (.cons (pl_V x) .nil))) (pl_Fs r)
end
/-! ### values without addresses -/
def V.flat : V → Bool
  | .bytes _ => false
  | .list _ => false
  | .dict _ => false
  | .record _ _ _ => false
  | _ => true
end Go.Proofs.Ytigadhiciinicaa
