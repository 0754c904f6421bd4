/- Values, records and terms are plain trees; those that hold no address. -/
import Derived.Test.YtiapdjdhaclmnaaTy
import Derived.Test.YtiapdjdhaclmnaaAwS
namespace Go.Proofs.Ytiapdjdhaclmnaa
open Go Aw
set_option linter.unusedVariables false
set_option linter.unusedSimpArgs false
theorem Z8d {α : Type} {f : α → PV} (h : ∀ a, Pl (f a)) (l : List α) : PlL (l.map f) := PlL.of fun x hx => by
 obtain ⟨a, _, rfl⟩ := List.mem_map.1 hx
 exact h a
theorem zn7 {α : Type} {f : α → PV} (h : ∀ a, Pl (f a)) {e : TypeId} {sz : Nat} (l : List α) : Pl (.sl none e sz (l.map f)) := .sl (Z8d h l)
theorem z8o (s : Str) : Pl (ofStr s) := Pl.v
theorem Zbo (b : UInt8) : Pl (ofB b) := Pl.v
mutual
theorem Zbn : ∀ (x : V), Pl (ofV x)
 | .nil => by rw [ofV]; exact .v
 | .bool b => by rw [ofV]; exact .iface .v
 | .int i => by rw [ofV]; exact .iface .v
 | .float f => by rw [ofV]; exact .iface .v
 | .text s => by rw [ofV]; exact .iface (z8o s)
 | .bytes b => by rw [ofV]; exact .iface (zn7 Zbo b)
 | .ref r => by rw [ofV]; exact .iface .v
 | .list l => by rw [ofV]; exact .iface (.sl (Z8e l))
 | .dict l => by rw [ofV]; exact .iface (.sl (Z4v l))
 | .record c v l => by rw [ofV]; exact .iface (.pt (.agg (.cons (z8o c) (.cons .v (.cons (.sl (Z4v l)) .nil)))))
 | .nothing => by rw [ofV]; exact .iface .v
 | .alien t => by rw [ofV]; exact .iface .junk
theorem Z8e : ∀ (l : List V), PlL (zwt l)
 | [] => by rw [zwt]; exact .nil
 | x :: r => by rw [zwt]; exact .cons (Zbn x) (Z8e r)
theorem Z4v : ∀ (l : List (Str × V)), PlL (zso l)
 | [] => by rw [zso]; exact .nil
 | (s, x) :: r => by rw [zso]; exact .cons (.agg (.cons (z8o s) (.cons (Zbn x) .nil))) (Z4v r)
end
theorem Z30 {cs : List PV} (h : Pl (.agg cs)) : PlL cs := by cases h; assumption
mutual
theorem zf7 : ∀ (t : Term), Pl (z0r t)
 | .mk k b i f t y r l d c v => by
  rw [z0r]
  exact .agg (.cons .v (.cons .v (.cons .v (.cons .v (.cons (z8o t) (.cons (zn7 Zbo y) (.cons .v (.cons (.sl (zpn l)) (.cons (.sl (zi0 d)) (.cons (z8o c) (.cons .v .nil)))))))))))
theorem zpn : ∀ (l : List Term), PlL (z57 l)
 | [] => by rw [z57]; exact .nil
 | x :: r => by rw [z57]; exact .cons (zf7 x) (zpn r)
theorem zi0 : ∀ (l : List (Str × Term)), PlL (z3h l)
 | [] => by rw [z3h]; exact .nil
 | (s, x) :: r => by
  rw [z3h]
  refine .cons (.agg (.cons (z8o s) ?_)) (zi0 r)
  have h := zf7 x
  cases x
  simp only [z0r] at h ⊢
  exact Z30 h
end
theorem zj5 (t : Term) : Pl (z0v t) := by rw [← z26]; exact zf7 t
theorem zz0 (p : Str × Term) : Pl (z0f p) := .agg (.cons (z8o _) (by
 have h := zf7 p.2
 rw [z26] at h ⊢
 exact Z30 h))
end Go.Proofs.Ytiapdjdhaclmnaa
