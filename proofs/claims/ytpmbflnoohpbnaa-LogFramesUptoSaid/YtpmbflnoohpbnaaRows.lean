/-
  No cell of these rows narrows 'for every input' (looked for: loops, veiled, ifaces, maps, wideKeys, modest, calm, conditions, laid).
  DERIVED. THE GIVEN ROWS OF THIS SEAT. 5 by the template 'for every input the law returns true; each argument reads behind the call as it read before'; 0 by the template 'total and deterministic' (their statements: YtpmbflnoohpbnaaTotals.lean).
  GIVEN WITH THE SEED: the statements are not yours to turn. If you find one false, say at which input.
  Laid BY PROGRAM, IN A SANDBOX (cutbox-rows.mjs): the forced cells as the released guide's own fill.sh prints them over the translation e6eb0b617f01143b… (all of the seat's roots in one cut). By AI agents, Wed Nov 11 2026. No macro, syntax, notation, axiom, sorry.
-/
import Derived.Test.YtpmbflnoohpbnaaChecked
import GoSem.Claim
import GoSem.ClaimJoined
import GoSem.ClaimMapViews
import Derived.JoinedTies
import Derived.KernelRfl
namespace Go.Proofs.Ytpmbflnoohpbnaa
/- THE CELL 'sum', in the pinned program and in every row, IS THE sha256 OF THE DUMP (.gsa) THAT YtpmbflnoohpbnaaProg.lean LOADS. Nothing in Lean hashes anything: it is a label: what it is worth is what the hold of that sum in a sandbox is worth. -/
noncomputable def Try.pinned : Pinned := { name := "ytpmbflnoohpbnaa", sum := "e6eb0b617f01143b96f4671b7d2cea0eac0e55e51dbf4949bccfe23ae989ad48", checked := Try.checked }
namespace Rows
def none {H : Type} : Left H := { results := [], args := [] }

/-- 'tenonlaw19.LogBegins': WHATEVER THE INPUT: true; the input reads as it did. -/
def logBeginsSpec : ChangeSpec := { name := "logBegins", fn := fun _ => fun
  | [d1, d2] => { results := [.lit (.bool true)], args := [d1, d2] }
  | _ => none }
def logBeginsRow : OpenClaim := { program := "ytpmbflnoohpbnaa", sum := "e6eb0b617f01143b96f4671b7d2cea0eac0e55e51dbf4949bccfe23ae989ad48", func := "tenon/tenonlaw19.LogBegins", spec := "logBegins", apart := false }
def LogBeginsSaid : Prop := logBeginsRow.holds Try.pinned (OpenSpec.ofChange logBeginsSpec)

/-- ITS FALSE NEIGHBOUR: 'it returns false'. Refute it at one input. -/
def logBeginsWrong : ChangeSpec := { name := "logBegins", fn := fun _ => fun
  | [d1, d2] => { results := [.lit (.bool false)], args := [d1, d2] }
  | _ => none }
def LogBeginsWrongFalsely : Prop := logBeginsRow.holds Try.pinned (OpenSpec.ofChange logBeginsWrong)

/-- 'tenonlaw19.LogByte': WHATEVER THE INPUT: true; the input reads as it did. -/
def logByteSpec : ChangeSpec := { name := "logByte", fn := fun _ => fun
  | [d1, d2, d3] => { results := [.lit (.bool true)], args := [d1, d2, d3] }
  | _ => none }
def logByteRow : OpenClaim := { program := "ytpmbflnoohpbnaa", sum := "e6eb0b617f01143b96f4671b7d2cea0eac0e55e51dbf4949bccfe23ae989ad48", func := "tenon/tenonlaw19.LogByte", spec := "logByte", apart := false }
def LogByteSaid : Prop := logByteRow.holds Try.pinned (OpenSpec.ofChange logByteSpec)

/-- ITS FALSE NEIGHBOUR: 'it returns false'. Refute it at one input. -/
def logByteWrong : ChangeSpec := { name := "logByte", fn := fun _ => fun
  | [d1, d2, d3] => { results := [.lit (.bool false)], args := [d1, d2, d3] }
  | _ => none }
def LogByteWrongFalsely : Prop := logByteRow.holds Try.pinned (OpenSpec.ofChange logByteWrong)

/-- 'tenonlaw19.LogFrames': WHATEVER THE INPUT: true; the input reads as it did. -/
def logFramesSpec : ChangeSpec := { name := "logFrames", fn := fun _ => fun
  | [d1, d2] => { results := [.lit (.bool true)], args := [d1, d2] }
  | _ => none }
def logFramesRow : OpenClaim := { program := "ytpmbflnoohpbnaa", sum := "e6eb0b617f01143b96f4671b7d2cea0eac0e55e51dbf4949bccfe23ae989ad48", func := "tenon/tenonlaw19.LogFrames", spec := "logFrames", apart := false }
def LogFramesSaid : Prop := logFramesRow.holds Try.pinned (OpenSpec.ofChange logFramesSpec)

/-- ITS FALSE NEIGHBOUR: 'it returns false'. Refute it at one input. -/
def logFramesWrong : ChangeSpec := { name := "logFrames", fn := fun _ => fun
  | [d1, d2] => { results := [.lit (.bool false)], args := [d1, d2] }
  | _ => none }
def LogFramesWrongFalsely : Prop := logFramesRow.holds Try.pinned (OpenSpec.ofChange logFramesWrong)

/-- 'tenonlaw19.LogParts': WHATEVER THE INPUT: true; the input reads as it did. -/
def logPartsSpec : ChangeSpec := { name := "logParts", fn := fun _ => fun
  | [d] => { results := [.lit (.bool true)], args := [d] }
  | _ => none }
def logPartsRow : OpenClaim := { program := "ytpmbflnoohpbnaa", sum := "e6eb0b617f01143b96f4671b7d2cea0eac0e55e51dbf4949bccfe23ae989ad48", func := "tenon/tenonlaw19.LogParts", spec := "logParts", unfollowed := true, recurses := true, apart := false }
def LogPartsSaid : Prop := logPartsRow.holds Try.pinned (OpenSpec.ofChange logPartsSpec)

/-- ITS FALSE NEIGHBOUR: 'it returns false'. Refute it at one input. -/
def logPartsWrong : ChangeSpec := { name := "logParts", fn := fun _ => fun
  | [d] => { results := [.lit (.bool false)], args := [d] }
  | _ => none }
def LogPartsWrongFalsely : Prop := logPartsRow.holds Try.pinned (OpenSpec.ofChange logPartsWrong)

/-- 'tenonlaw19.LogWrites': WHATEVER THE INPUT: true; the input reads as it did. -/
def logWritesSpec : ChangeSpec := { name := "logWrites", fn := fun _ => fun
  | [d1, d2, d3] => { results := [.lit (.bool true)], args := [d1, d2, d3] }
  | _ => none }
def logWritesRow : OpenClaim := { program := "ytpmbflnoohpbnaa", sum := "e6eb0b617f01143b96f4671b7d2cea0eac0e55e51dbf4949bccfe23ae989ad48", func := "tenon/tenonlaw19.LogWrites", spec := "logWrites", unfollowed := true, recurses := true, apart := false }
def LogWritesSaid : Prop := logWritesRow.holds Try.pinned (OpenSpec.ofChange logWritesSpec)

/-- ITS FALSE NEIGHBOUR: 'it returns false'. Refute it at one input. -/
def logWritesWrong : ChangeSpec := { name := "logWrites", fn := fun _ => fun
  | [d1, d2, d3] => { results := [.lit (.bool false)], args := [d1, d2, d3] }
  | _ => none }
def LogWritesWrongFalsely : Prop := logWritesRow.holds Try.pinned (OpenSpec.ofChange logWritesWrong)

/- THE SECOND FORM. 'bulk': how many values and letters a reading holds, each counted each time it is reached (what is shared counts as often as it is met; a slice's spare places count too). A statement '..UptoSaid' is the law's where the arguments, and the package variables that the reading takes, are together of bulk at most 1048576: NARROWER than '..Said'. Prove '..Said' where nothing that the law and all that it calls make is longer than what came in: it says more and counts as full. Else prove '..UptoSaid'. A law counts once. -/
mutual
def uptoBulk {H : Type} : DataW H → Nat
  | .lit (.string bytes) => bytes.length + 1
  | .lit _ => 1
  | .nil => 1
  | .ptr d => uptoBulk d + 1
  | .slice elems spare => uptoBulkAll elems + uptoBulkAll spare + 1
  | .agg parts => uptoBulkAll parts + 1
  | .iface _ d => uptoBulk d + 1
  | .map entries => uptoBulkEntries entries + 1
  | .held _ => 1
def uptoBulkAll {H : Type} : List (DataW H) → Nat
  | [] => 0
  | d :: r => uptoBulk d + uptoBulkAll r
def uptoBulkEntries {H : Type} : List (Lit × DataW H) → Nat
  | [] => 0
  | x :: r => uptoBulkEntry x + uptoBulkEntries r
def uptoBulkEntry {H : Type} : Lit × DataW H → Nat
  | (.string bytes, d) => bytes.length + uptoBulk d + 1
  | (_, d) => uptoBulk d + 1
 end
def uptoSmall : (H : Type) → List (DataW H) → Bool := fun _ ds => decide (uptoBulkAll ds ≤ 1048576)
def OpenSpec.upto (s : _root_.Go.ChangeSpec) : _root_.Go.OpenSpec := { _root_.Go.OpenSpec.ofChange s with cond := some uptoSmall }

/-- 'tenonlaw19.LogBegins', WHERE WHAT IT READS IS OF BULK AT MOST 1048576: true; the input reads as it did. -/
def logBeginsUptoRow : OpenClaim := { program := "ytpmbflnoohpbnaa", sum := "e6eb0b617f01143b96f4671b7d2cea0eac0e55e51dbf4949bccfe23ae989ad48", func := "tenon/tenonlaw19.LogBegins", spec := "logBegins", apart := false, narrowed := true }
def LogBeginsUptoSaid : Prop := logBeginsUptoRow.holds Try.pinned (OpenSpec.upto logBeginsSpec)

/-- 'tenonlaw19.LogByte', WHERE WHAT IT READS IS OF BULK AT MOST 1048576: true; the input reads as it did. -/
def logByteUptoRow : OpenClaim := { program := "ytpmbflnoohpbnaa", sum := "e6eb0b617f01143b96f4671b7d2cea0eac0e55e51dbf4949bccfe23ae989ad48", func := "tenon/tenonlaw19.LogByte", spec := "logByte", apart := false, narrowed := true }
def LogByteUptoSaid : Prop := logByteUptoRow.holds Try.pinned (OpenSpec.upto logByteSpec)

/-- 'tenonlaw19.LogFrames', WHERE WHAT IT READS IS OF BULK AT MOST 1048576: true; the input reads as it did. -/
def logFramesUptoRow : OpenClaim := { program := "ytpmbflnoohpbnaa", sum := "e6eb0b617f01143b96f4671b7d2cea0eac0e55e51dbf4949bccfe23ae989ad48", func := "tenon/tenonlaw19.LogFrames", spec := "logFrames", apart := false, narrowed := true }
def LogFramesUptoSaid : Prop := logFramesUptoRow.holds Try.pinned (OpenSpec.upto logFramesSpec)

/-- 'tenonlaw19.LogParts', WHERE WHAT IT READS IS OF BULK AT MOST 1048576: true; the input reads as it did. -/
def logPartsUptoRow : OpenClaim := { program := "ytpmbflnoohpbnaa", sum := "e6eb0b617f01143b96f4671b7d2cea0eac0e55e51dbf4949bccfe23ae989ad48", func := "tenon/tenonlaw19.LogParts", spec := "logParts", unfollowed := true, recurses := true, apart := false, narrowed := true }
def LogPartsUptoSaid : Prop := logPartsUptoRow.holds Try.pinned (OpenSpec.upto logPartsSpec)

/-- 'tenonlaw19.LogWrites', WHERE WHAT IT READS IS OF BULK AT MOST 1048576: true; the input reads as it did. -/
def logWritesUptoRow : OpenClaim := { program := "ytpmbflnoohpbnaa", sum := "e6eb0b617f01143b96f4671b7d2cea0eac0e55e51dbf4949bccfe23ae989ad48", func := "tenon/tenonlaw19.LogWrites", spec := "logWrites", unfollowed := true, recurses := true, apart := false, narrowed := true }
def LogWritesUptoSaid : Prop := logWritesUptoRow.holds Try.pinned (OpenSpec.upto logWritesSpec)

end Rows
end Go.Proofs.Ytpmbflnoohpbnaa
