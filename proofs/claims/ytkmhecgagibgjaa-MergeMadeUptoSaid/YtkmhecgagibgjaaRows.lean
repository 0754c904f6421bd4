/-
  NARROWER THAN 'FOR EVERY INPUT', by the rows' own cells (each row's printed sentence says how): MergeAlone: loops · MergeAgain: loops · MergeTurned: loops · MergeMade: loops.
  DERIVED. THE GIVEN ROWS OF THIS SEAT. 4 by the template 'for every input the law returns true; each argument reads behind the call as it read before'; 0 by the template 'total and deterministic' (their statements: YtkmhecgagibgjaaTotals.lean).
  GIVEN WITH THE SEED: the statements are not yours to turn. If you find one false, say at which input.
  Laid BY PROGRAM, IN A SANDBOX (cutbox-rows.mjs): the forced cells as the released guide's own fill.sh prints them over the translation 01df2ebe62202663… (all of the seat's roots in one cut). By AI agents, Wed Nov 11 2026. No macro, syntax, notation, axiom, sorry.
-/
import Derived.Test.YtkmhecgagibgjaaChecked
import GoSem.Claim
import GoSem.ClaimJoined
import GoSem.ClaimMapViews
import Derived.JoinedTies
import Derived.KernelRfl
namespace Go.Proofs.Ytkmhecgagibgjaa
/- THE CELL 'sum', in the pinned program and in every row, IS THE sha256 OF THE DUMP (.gsa) THAT YtkmhecgagibgjaaProg.lean LOADS. Nothing in Lean hashes anything: it is a label: what it is worth is what the hold of that sum in a sandbox is worth. -/
noncomputable def Try.pinned : Pinned := { name := "ytkmhecgagibgjaa", sum := "01df2ebe622026637a61d31e642c1079b5aac30406c2632f95b88a5f2b59efec", checked := Try.checked }
namespace Rows
def none {H : Type} : Left H := { results := [], args := [] }

/-- 'tenonlaw24.MergeAlone': WHATEVER THE INPUT: true; the input reads as it did. -/
def mergeAloneSpec : ChangeSpec := { name := "mergeAlone", fn := fun _ => fun
  | [d1, d2] => { results := [.lit (.bool true)], args := [d1, d2] }
  | _ => none }
def mergeAloneRow : OpenClaim := { program := "ytkmhecgagibgjaa", sum := "01df2ebe622026637a61d31e642c1079b5aac30406c2632f95b88a5f2b59efec", func := "tenon/tenonlaw24.MergeAlone", spec := "mergeAlone", inPlace := ["math.Float64bits"], unfollowed := true, recurses := true, loops := true, apart := false }
def MergeAloneSaid : Prop := mergeAloneRow.holds Try.pinned (OpenSpec.ofChange mergeAloneSpec)

/-- ITS FALSE NEIGHBOUR: 'it returns false'. Refute it at one input. -/
def mergeAloneWrong : ChangeSpec := { name := "mergeAlone", fn := fun _ => fun
  | [d1, d2] => { results := [.lit (.bool false)], args := [d1, d2] }
  | _ => none }
def MergeAloneWrongFalsely : Prop := mergeAloneRow.holds Try.pinned (OpenSpec.ofChange mergeAloneWrong)

/-- 'tenonlaw24.MergeAgain': WHATEVER THE INPUT: true; the input reads as it did. -/
def mergeAgainSpec : ChangeSpec := { name := "mergeAgain", fn := fun _ => fun
  | [d1, d2, d3] => { results := [.lit (.bool true)], args := [d1, d2, d3] }
  | _ => none }
def mergeAgainRow : OpenClaim := { program := "ytkmhecgagibgjaa", sum := "01df2ebe622026637a61d31e642c1079b5aac30406c2632f95b88a5f2b59efec", func := "tenon/tenonlaw24.MergeAgain", spec := "mergeAgain", inPlace := ["math.Float64bits"], unfollowed := true, recurses := true, loops := true, apart := false }
def MergeAgainSaid : Prop := mergeAgainRow.holds Try.pinned (OpenSpec.ofChange mergeAgainSpec)

/-- ITS FALSE NEIGHBOUR: 'it returns false'. Refute it at one input. -/
def mergeAgainWrong : ChangeSpec := { name := "mergeAgain", fn := fun _ => fun
  | [d1, d2, d3] => { results := [.lit (.bool false)], args := [d1, d2, d3] }
  | _ => none }
def MergeAgainWrongFalsely : Prop := mergeAgainRow.holds Try.pinned (OpenSpec.ofChange mergeAgainWrong)

/-- 'tenonlaw24.MergeTurned': WHATEVER THE INPUT: true; the input reads as it did. -/
def mergeTurnedSpec : ChangeSpec := { name := "mergeTurned", fn := fun _ => fun
  | [d1, d2, d3] => { results := [.lit (.bool true)], args := [d1, d2, d3] }
  | _ => none }
def mergeTurnedRow : OpenClaim := { program := "ytkmhecgagibgjaa", sum := "01df2ebe622026637a61d31e642c1079b5aac30406c2632f95b88a5f2b59efec", func := "tenon/tenonlaw24.MergeTurned", spec := "mergeTurned", inPlace := ["math.Float64bits"], unfollowed := true, recurses := true, loops := true, apart := false }
def MergeTurnedSaid : Prop := mergeTurnedRow.holds Try.pinned (OpenSpec.ofChange mergeTurnedSpec)

/-- ITS FALSE NEIGHBOUR: 'it returns false'. Refute it at one input. -/
def mergeTurnedWrong : ChangeSpec := { name := "mergeTurned", fn := fun _ => fun
  | [d1, d2, d3] => { results := [.lit (.bool false)], args := [d1, d2, d3] }
  | _ => none }
def MergeTurnedWrongFalsely : Prop := mergeTurnedRow.holds Try.pinned (OpenSpec.ofChange mergeTurnedWrong)

/-- 'tenonlaw24.MergeMade': WHATEVER THE INPUT: true; the input reads as it did. -/
def mergeMadeSpec : ChangeSpec := { name := "mergeMade", fn := fun _ => fun
  | [d1, d2, d3] => { results := [.lit (.bool true)], args := [d1, d2, d3] }
  | _ => none }
def mergeMadeRow : OpenClaim := { program := "ytkmhecgagibgjaa", sum := "01df2ebe622026637a61d31e642c1079b5aac30406c2632f95b88a5f2b59efec", func := "tenon/tenonlaw24.MergeMade", spec := "mergeMade", inPlace := ["math.Float64bits", "internal/bytealg.IndexByteString"], unfollowed := true, recurses := true, loops := true, apart := false }
def MergeMadeSaid : Prop := mergeMadeRow.holds Try.pinned (OpenSpec.ofChange mergeMadeSpec)

/-- ITS FALSE NEIGHBOUR: 'it returns false'. Refute it at one input. -/
def mergeMadeWrong : ChangeSpec := { name := "mergeMade", fn := fun _ => fun
  | [d1, d2, d3] => { results := [.lit (.bool false)], args := [d1, d2, d3] }
  | _ => none }
def MergeMadeWrongFalsely : Prop := mergeMadeRow.holds Try.pinned (OpenSpec.ofChange mergeMadeWrong)

/- THE SECOND FORM. 'bulk': how many values and letters a reading holds, each counted each time it is reached (what is shared counts as often as it is met; a slice's spare places count too). A statement '..UptoSaid' is the law's where the arguments, and the package variables that the reading takes, are together of bulk at most 1048576: NARROWER than '..Said'. Prove '..Said' where nothing that the law and all that it calls make is longer than what came in: it says more and counts as full. Else prove '..UptoSaid'. A law counts once. -/
mutual
def uptoBulk {H : Type} : DataW H → Nat
  | .lit (.string bytes) => bytes.length + 1
  | .lit _ => 1
  | .nil => 1
  | .ptr d => uptoBulk d + 1
  | .slice elems spare => uptoBulkAll elems + uptoBulkAll spare + 1
  | .agg parts => uptoBulkAll parts + 1
  | .iface _ d => uptoBulk d + 1
  | .map entries => uptoBulkEntries entries + 1
  | .held _ => 1
def uptoBulkAll {H : Type} : List (DataW H) → Nat
  | [] => 0
  | d :: r => uptoBulk d + uptoBulkAll r
def uptoBulkEntries {H : Type} : List (Lit × DataW H) → Nat
  | [] => 0
  | x :: r => uptoBulkEntry x + uptoBulkEntries r
def uptoBulkEntry {H : Type} : Lit × DataW H → Nat
  | (.string bytes, d) => bytes.length + uptoBulk d + 1
  | (_, d) => uptoBulk d + 1
 end
def uptoSmall : (H : Type) → List (DataW H) → Bool := fun _ ds => decide (uptoBulkAll ds ≤ 1048576)
def OpenSpec.upto (s : _root_.Go.ChangeSpec) : _root_.Go.OpenSpec := { _root_.Go.OpenSpec.ofChange s with cond := some uptoSmall }

/-- 'tenonlaw24.MergeAlone', WHERE WHAT IT READS IS OF BULK AT MOST 1048576: true; the input reads as it did. -/
def mergeAloneUptoRow : OpenClaim := { program := "ytkmhecgagibgjaa", sum := "01df2ebe622026637a61d31e642c1079b5aac30406c2632f95b88a5f2b59efec", func := "tenon/tenonlaw24.MergeAlone", spec := "mergeAlone", inPlace := ["math.Float64bits"], unfollowed := true, recurses := true, loops := true, apart := false, narrowed := true }
def MergeAloneUptoSaid : Prop := mergeAloneUptoRow.holds Try.pinned (OpenSpec.upto mergeAloneSpec)

/-- 'tenonlaw24.MergeAgain', WHERE WHAT IT READS IS OF BULK AT MOST 1048576: true; the input reads as it did. -/
def mergeAgainUptoRow : OpenClaim := { program := "ytkmhecgagibgjaa", sum := "01df2ebe622026637a61d31e642c1079b5aac30406c2632f95b88a5f2b59efec", func := "tenon/tenonlaw24.MergeAgain", spec := "mergeAgain", inPlace := ["math.Float64bits"], unfollowed := true, recurses := true, loops := true, apart := false, narrowed := true }
def MergeAgainUptoSaid : Prop := mergeAgainUptoRow.holds Try.pinned (OpenSpec.upto mergeAgainSpec)

/-- 'tenonlaw24.MergeTurned', WHERE WHAT IT READS IS OF BULK AT MOST 1048576: true; the input reads as it did. -/
def mergeTurnedUptoRow : OpenClaim := { program := "ytkmhecgagibgjaa", sum := "01df2ebe622026637a61d31e642c1079b5aac30406c2632f95b88a5f2b59efec", func := "tenon/tenonlaw24.MergeTurned", spec := "mergeTurned", inPlace := ["math.Float64bits"], unfollowed := true, recurses := true, loops := true, apart := false, narrowed := true }
def MergeTurnedUptoSaid : Prop := mergeTurnedUptoRow.holds Try.pinned (OpenSpec.upto mergeTurnedSpec)

/-- 'tenonlaw24.MergeMade', WHERE WHAT IT READS IS OF BULK AT MOST 1048576: true; the input reads as it did. -/
def mergeMadeUptoRow : OpenClaim := { program := "ytkmhecgagibgjaa", sum := "01df2ebe622026637a61d31e642c1079b5aac30406c2632f95b88a5f2b59efec", func := "tenon/tenonlaw24.MergeMade", spec := "mergeMade", inPlace := ["math.Float64bits", "internal/bytealg.IndexByteString"], unfollowed := true, recurses := true, loops := true, apart := false, narrowed := true }
def MergeMadeUptoSaid : Prop := mergeMadeUptoRow.holds Try.pinned (OpenSpec.upto mergeMadeSpec)

end Rows
end Go.Proofs.Ytkmhecgagibgjaa
