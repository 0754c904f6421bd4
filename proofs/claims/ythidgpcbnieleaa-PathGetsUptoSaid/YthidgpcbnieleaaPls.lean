/- Values, records and terms are plain trees; those that hold no address. -/
import Derived.Test.YthidgpcbnieleaaTy
import Derived.Test.YthidgpcbnieleaaAwS
namespace Go.Proofs.Ythidgpcbnieleaa
open Go Aw
set_option linter.unusedVariables false
set_option linter.unusedSimpArgs false
theorem Z0p {α : Type} {f : α → PV} (h : ∀ a, Pl (f a)) (l : List α) : PlL (l.map f) := PlL.of fun x hx => by
 obtain ⟨a, _, rfl⟩ := List.mem_map.1 hx
 exact h a
theorem Z3r {α : Type} {f : α → PV} (h : ∀ a, Pl (f a)) {e : TypeId} {sz : Nat} (l : List α) : Pl (.sl none e sz (l.map f)) := .sl (Z0p h l)
theorem zpw (s : Str) : Pl (z0k s) := Pl.v
theorem Z6h (b : UInt8) : Pl (ofB b) := Pl.v
mutual
theorem zzd : ∀ (x : V), Pl (ofV x)
 | .nil => by rw [ofV]; exact .v
 | .bool b => by rw [ofV]; exact .iface .v
 | .int i => by rw [ofV]; exact .iface .v
 | .float f => by rw [ofV]; exact .iface .v
 | .text s => by rw [ofV]; exact .iface (zpw s)
 | .bytes b => by rw [ofV]; exact .iface (Z3r Z6h b)
 | .ref r => by rw [ofV]; exact .iface .v
 | .list l => by rw [ofV]; exact .iface (.sl (Z0q l))
 | .dict l => by rw [ofV]; exact .iface (.sl (zxg l))
 | .record c v l => by rw [ofV]; exact .iface (.pt (.agg (.cons (zpw c) (.cons .v (.cons (.sl (zxg l)) .nil)))))
 | .nothing => by rw [ofV]; exact .iface .v
 | .alien t => by rw [ofV]; exact .iface .junk
theorem Z0q : ∀ (l : List V), PlL (zr8 l)
 | [] => by rw [zr8]; exact .nil
 | x :: r => by rw [zr8]; exact .cons (zzd x) (Z0q r)
theorem zxg : ∀ (l : List (Str × V)), PlL (znr l)
 | [] => by rw [znr]; exact .nil
 | (s, x) :: r => by rw [znr]; exact .cons (.agg (.cons (zpw s) (.cons (zzd x) .nil))) (zxg r)
end
def V.flat : V → Bool
 | .bytes _ => false
 | .list _ => false
 | .dict _ => false
 | .record _ _ _ => false
 | _ => true
def Z1c (v : V) : Option Unit := bif v.flat then some () else none
theorem zy7 {v : V} {u : Unit} (h : Z1c v = some u) : Sc (ofV v) := by
 cases v <;> first | (cases h; done) | skip
 all_goals rw [ofV]
 all_goals first | exact Sc.v | exact .iface Sc.v | exact .iface .junk
end Go.Proofs.Ythidgpcbnieleaa
