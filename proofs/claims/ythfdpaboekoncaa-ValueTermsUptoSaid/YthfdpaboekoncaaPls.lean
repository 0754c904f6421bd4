/- Values, records and terms are plain trees; those that hold no address. -/
import Derived.Test.YthfdpaboekoncaaTy
import Derived.Test.YthfdpaboekoncaaAwS
namespace Go.Proofs.Ythfdpaboekoncaa
open Go Aw
set_option linter.unusedVariables false
set_option linter.unusedSimpArgs false
theorem pl_map {α : Type} {f : α → PV} (h : ∀ a, Pl (f a)) (l : List α) : PlL (l.map f) := PlL.of fun x hx => by
  obtain ⟨a, _, rfl⟩ := List.mem_map.1 hx
  exact h a
theorem pl_sl {α : Type} {f : α → PV} (h : ∀ a, Pl (f a)) {e : TypeId} {sz : Nat} (l : List α) : Pl (.sl none e sz (l.map f)) := .sl (pl_map h l)
theorem pl_str (s : Str) : Pl (ofStr s) := Pl.v
theorem pl_B (b : UInt8) : Pl (ofB b) := Pl.v
mutual
theorem pl_V : ∀ (x : V), Pl (ofV x)
  | .nil => by rw [ofV]; exact .v
  | .bool b => by rw [ofV]; exact .iface .v
  | .int i => by rw [ofV]; exact .iface .v
  | .float f => by rw [ofV]; exact .iface .v
  | .text s => by rw [ofV]; exact .iface (pl_str s)
  | .bytes b => by rw [ofV]; exact .iface (pl_sl pl_B b)
  | .ref r => by rw [ofV]; exact .iface .v
  | .list l => by rw [ofV]; exact .iface (.sl (pl_Vs l))
  | .dict l => by rw [ofV]; exact .iface (.sl (pl_Fs l))
  | .record c v l => by rw [ofV]; exact .iface (.pt (.agg (.cons (pl_str c) (.cons .v (.cons (.sl (pl_Fs l)) .nil)))))
  | .nothing => by rw [ofV]; exact .iface .v
  | .alien t => by rw [ofV]; exact .iface .junk
theorem pl_Vs : ∀ (l : List V), PlL (ofVs l)
  | [] => by rw [ofVs]; exact .nil
  | x :: r => by rw [ofVs]; exact .cons (pl_V x) (pl_Vs r)
theorem pl_Fs : ∀ (l : List (Str × V)), PlL (ofFs l)
  | [] => by rw [ofFs]; exact .nil
  | (s, x) :: r => by rw [ofFs]; exact .cons (.agg (.cons (pl_str s) (.cons (pl_V x) .nil))) (pl_Fs r)
end
theorem pl_Fld (p : Str × V) : Pl (ofFld p) := .agg (.cons (pl_str _) (.cons (pl_V _) .nil))
theorem pl_Rec (r : Rec) : Pl (ofRec r) := .agg (.cons (pl_str _) (.cons .v (.cons (pl_sl pl_Fld _) .nil)))
theorem pl_RecP (p : Option Rec) : Pl (ofRecP p) := by
  cases p with
  | none => exact .v
  | some r => exact .pt (pl_Rec r)
theorem pl_agg {cs : List PV} (h : Pl (.agg cs)) : PlL cs := by cases h; assumption
mutual
theorem pl_Term : ∀ (t : Term), Pl (ofTerm t)
  | .mk k b i f t y r l d c v => by
    rw [ofTerm]
    exact .agg (.cons .v (.cons .v (.cons .v (.cons .v (.cons (pl_str t) (.cons (pl_sl pl_B y) (.cons .v (.cons (.sl (pl_Terms l)) (.cons (.sl (pl_Entries d)) (.cons (pl_str c) (.cons .v .nil)))))))))))
theorem pl_Terms : ∀ (l : List Term), PlL (ofTerms l)
  | [] => by rw [ofTerms]; exact .nil
  | x :: r => by rw [ofTerms]; exact .cons (pl_Term x) (pl_Terms r)
theorem pl_Entries : ∀ (l : List (Str × Term)), PlL (ofEntries l)
  | [] => by rw [ofEntries]; exact .nil
  | (s, x) :: r => by
    rw [ofEntries]
    refine .cons (.agg (.cons (pl_str s) ?_)) (pl_Entries r)
    have h := pl_Term x
    cases x
    simp only [ofTerm] at h ⊢
    exact pl_agg h
end
theorem pl_TermX (t : Term) : Pl (ofTermX t) := by rw [← ofTerm_eq]; exact pl_Term t
theorem pl_Entry (p : Str × Term) : Pl (ofEntry p) := .agg (.cons (pl_str _) (by
  have h := pl_Term p.2
  rw [ofTerm_eq] at h ⊢
  exact pl_agg h))
theorem pl_EntryX (p : Str × Term) : Pl (ofEntryX p) := by rw [← ofEntry_eq]; exact pl_Entry p
/-! ### values without addresses -/
def V.flat : V → Bool
  | .bytes _ => false
  | .list _ => false
  | .dict _ => false
  | .record _ _ _ => false
  | _ => true
def flatO (v : V) : Option Unit := bif v.flat then some () else none
theorem flat_sc {v : V} {u : Unit} (h : flatO v = some u) : Sc (ofV v) := by
  cases v <;> first | (cases h; done) | skip
  all_goals rw [ofV]
  all_goals first | exact Sc.v | exact .iface Sc.v | exact .iface .junk
end Go.Proofs.Ythfdpaboekoncaa
