/-
  NARROWER THAN 'FOR EVERY INPUT', by the rows' own cells (each row's printed sentence says how): MergeAsks: loops · MergeApart: loops · MergeThere: loops.
  DERIVED. THE GIVEN ROWS OF THIS SEAT. 3 by the template 'for every input the law returns true; each argument reads behind the call as it read before'; 0 by the template 'total and deterministic' (their statements: YtmoijodjgkfhgaaGreatTotals.lean).
  GIVEN WITH THE SEED: the statements are not yours to turn. If you find one false, say at which input.
  Laid BY PROGRAM, IN A SANDBOX (cutbox-rows.mjs): the forced cells as the released guide's own fill.sh prints them over the translation e7ac1bb4a32ccfe1… (all of the seat's roots in one cut). By AI agents, Wed Nov 11 2026. No macro, syntax, notation, axiom, sorry.
-/
import Derived.Test.YtmoijodjgkfhgaaGreatChecked
import GoSem.Claim
import GoSem.ClaimJoined
import GoSem.ClaimMapViews
import Derived.JoinedTies
import Derived.KernelRfl
namespace Go.Proofs.YtmoijodjgkfhgaaGreat
/- THE CELL 'sum', in the pinned program and in every row, IS THE sha256 OF THE DUMP (.gsa) THAT YtmoijodjgkfhgaaGreatProg.lean LOADS. Nothing in Lean hashes anything: it is a label: what it is worth is what the hold of that sum in a sandbox is worth. -/
noncomputable def Tryz.pinned : Pinned := { name := "ytmoijodjgkfhgaagreat", sum := "e7ac1bb4a32ccfe18c3812d9c4b3612051a702640f219e9b1d91de72965b03a9", checked := Tryz.checked }
namespace Rows
def none {H : Type} : Left H := { results := [], args := [] }

/-- 'tenonlaw24.MergeAsks': WHATEVER THE INPUT: true; the input reads as it did. -/
def mergeAsksSpec : ChangeSpec := { name := "mergeAsks", fn := fun _ => fun
  | [d1, d2, d3] => { results := [.lit (.bool true)], args := [d1, d2, d3] }
  | _ => none }
def mergeAsksRow : OpenClaim := { program := "ytmoijodjgkfhgaagreat", sum := "e7ac1bb4a32ccfe18c3812d9c4b3612051a702640f219e9b1d91de72965b03a9", func := "tenon/tenonlaw24.MergeAsks", spec := "mergeAsks", inPlace := ["math.Float64bits"], unfollowed := true, recurses := true, loops := true, apart := false }
def MergeAsksSaid : Prop := mergeAsksRow.holds Tryz.pinned (OpenSpec.ofChange mergeAsksSpec)

/-- ITS FALSE NEIGHBOUR: 'it returns false'. Refute it at one input. -/
def mergeAsksWrong : ChangeSpec := { name := "mergeAsks", fn := fun _ => fun
  | [d1, d2, d3] => { results := [.lit (.bool false)], args := [d1, d2, d3] }
  | _ => none }
def MergeAsksWrongFalsely : Prop := mergeAsksRow.holds Tryz.pinned (OpenSpec.ofChange mergeAsksWrong)

/-- 'tenonlaw24.MergeApart': WHATEVER THE INPUT: true; the input reads as it did. -/
def mergeApartSpec : ChangeSpec := { name := "mergeApart", fn := fun _ => fun
  | [d1, d2, d3] => { results := [.lit (.bool true)], args := [d1, d2, d3] }
  | _ => none }
def mergeApartRow : OpenClaim := { program := "ytmoijodjgkfhgaagreat", sum := "e7ac1bb4a32ccfe18c3812d9c4b3612051a702640f219e9b1d91de72965b03a9", func := "tenon/tenonlaw24.MergeApart", spec := "mergeApart", inPlace := ["math.Float64bits", "internal/bytealg.IndexByteString", "slices.overlaps[tenon/api.Field]"], unfollowed := true, recurses := true, loops := true, apart := false }
def MergeApartSaid : Prop := mergeApartRow.holds Tryz.pinned (OpenSpec.ofChange mergeApartSpec)

/-- ITS FALSE NEIGHBOUR: 'it returns false'. Refute it at one input. -/
def mergeApartWrong : ChangeSpec := { name := "mergeApart", fn := fun _ => fun
  | [d1, d2, d3] => { results := [.lit (.bool false)], args := [d1, d2, d3] }
  | _ => none }
def MergeApartWrongFalsely : Prop := mergeApartRow.holds Tryz.pinned (OpenSpec.ofChange mergeApartWrong)

/-- 'tenonlaw24.MergeThere': WHATEVER THE INPUT: true; the input reads as it did. -/
def mergeThereSpec : ChangeSpec := { name := "mergeThere", fn := fun _ => fun
  | [d1, d2, d3] => { results := [.lit (.bool true)], args := [d1, d2, d3] }
  | _ => none }
def mergeThereRow : OpenClaim := { program := "ytmoijodjgkfhgaagreat", sum := "e7ac1bb4a32ccfe18c3812d9c4b3612051a702640f219e9b1d91de72965b03a9", func := "tenon/tenonlaw24.MergeThere", spec := "mergeThere", inPlace := ["math.Float64bits", "internal/bytealg.IndexByteString", "slices.overlaps[tenon/api.Field]"], unfollowed := true, recurses := true, loops := true, apart := false }
def MergeThereSaid : Prop := mergeThereRow.holds Tryz.pinned (OpenSpec.ofChange mergeThereSpec)

/-- ITS FALSE NEIGHBOUR: 'it returns false'. Refute it at one input. -/
def mergeThereWrong : ChangeSpec := { name := "mergeThere", fn := fun _ => fun
  | [d1, d2, d3] => { results := [.lit (.bool false)], args := [d1, d2, d3] }
  | _ => none }
def MergeThereWrongFalsely : Prop := mergeThereRow.holds Tryz.pinned (OpenSpec.ofChange mergeThereWrong)

/- THE SECOND FORM. 'bulk': how many values and letters a reading holds, each counted each time it is reached (what is shared counts as often as it is met; a slice's spare places count too). A statement '..UptoSaid' is the law's where the arguments, and the package variables that the reading takes, are together of bulk at most 1048576: NARROWER than '..Said'. Prove '..Said' where nothing that the law and all that it calls make is longer than what came in: it says more and counts as full. Else prove '..UptoSaid'. A law counts once. -/
mutual
def uptoBulk {H : Type} : DataW H → Nat
  | .lit (.string bytes) => bytes.length + 1
  | .lit _ => 1
  | .nil => 1
  | .ptr d => uptoBulk d + 1
  | .slice elems spare => uptoBulkAll elems + uptoBulkAll spare + 1
  | .agg parts => uptoBulkAll parts + 1
  | .iface _ d => uptoBulk d + 1
  | .map entries => uptoBulkEntries entries + 1
  | .held _ => 1
def uptoBulkAll {H : Type} : List (DataW H) → Nat
  | [] => 0
  | d :: r => uptoBulk d + uptoBulkAll r
def uptoBulkEntries {H : Type} : List (Lit × DataW H) → Nat
  | [] => 0
  | x :: r => uptoBulkEntry x + uptoBulkEntries r
def uptoBulkEntry {H : Type} : Lit × DataW H → Nat
  | (.string bytes, d) => bytes.length + uptoBulk d + 1
  | (_, d) => uptoBulk d + 1
 end
def uptoSmall : (H : Type) → List (DataW H) → Bool := fun _ ds => decide (uptoBulkAll ds ≤ 1048576)
def OpenSpec.upto (s : _root_.Go.ChangeSpec) : _root_.Go.OpenSpec := { _root_.Go.OpenSpec.ofChange s with cond := some uptoSmall }

/-- 'tenonlaw24.MergeAsks', WHERE WHAT IT READS IS OF BULK AT MOST 1048576: true; the input reads as it did. -/
def mergeAsksUptoRow : OpenClaim := { program := "ytmoijodjgkfhgaagreat", sum := "e7ac1bb4a32ccfe18c3812d9c4b3612051a702640f219e9b1d91de72965b03a9", func := "tenon/tenonlaw24.MergeAsks", spec := "mergeAsks", inPlace := ["math.Float64bits"], unfollowed := true, recurses := true, loops := true, apart := false, narrowed := true }
def MergeAsksUptoSaid : Prop := mergeAsksUptoRow.holds Tryz.pinned (OpenSpec.upto mergeAsksSpec)

/-- 'tenonlaw24.MergeApart', WHERE WHAT IT READS IS OF BULK AT MOST 1048576: true; the input reads as it did. -/
def mergeApartUptoRow : OpenClaim := { program := "ytmoijodjgkfhgaagreat", sum := "e7ac1bb4a32ccfe18c3812d9c4b3612051a702640f219e9b1d91de72965b03a9", func := "tenon/tenonlaw24.MergeApart", spec := "mergeApart", inPlace := ["math.Float64bits", "internal/bytealg.IndexByteString", "slices.overlaps[tenon/api.Field]"], unfollowed := true, recurses := true, loops := true, apart := false, narrowed := true }
def MergeApartUptoSaid : Prop := mergeApartUptoRow.holds Tryz.pinned (OpenSpec.upto mergeApartSpec)

/-- 'tenonlaw24.MergeThere', WHERE WHAT IT READS IS OF BULK AT MOST 1048576: true; the input reads as it did. -/
def mergeThereUptoRow : OpenClaim := { program := "ytmoijodjgkfhgaagreat", sum := "e7ac1bb4a32ccfe18c3812d9c4b3612051a702640f219e9b1d91de72965b03a9", func := "tenon/tenonlaw24.MergeThere", spec := "mergeThere", inPlace := ["math.Float64bits", "internal/bytealg.IndexByteString", "slices.overlaps[tenon/api.Field]"], unfollowed := true, recurses := true, loops := true, apart := false, narrowed := true }
def MergeThereUptoSaid : Prop := mergeThereUptoRow.holds Tryz.pinned (OpenSpec.upto mergeThereSpec)

end Rows
end Go.Proofs.YtmoijodjgkfhgaaGreat
