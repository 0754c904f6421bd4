/-
  NARROWER THAN 'FOR EVERY INPUT', by the rows' own cells (each row's printed sentence says how): CheckParts: loops · CheckTypes: loops · CheckSound: loops · CheckNarrow: loops · CheckSubs: loops · CheckEither: loops.
  DERIVED. THE GIVEN ROWS OF THIS SEAT. 6 by the template 'for every input the law returns true; each argument reads behind the call as it read before'; 0 by the template 'total and deterministic' (their statements: YtiapdjdhaclmnaaTotals.lean).
  GIVEN WITH THE SEED: the statements are not yours to turn. If you find one false, say at which input.
  Laid BY PROGRAM, IN A SANDBOX (cutbox-rows.mjs): the forced cells as the released guide's own fill.sh prints them over the translation 7db99c20fd207902… (all of the seat's roots in one cut). By AI agents, Wed Nov 11 2026. No macro, syntax, notation, axiom, sorry.
-/
import Derived.Test.YtiapdjdhaclmnaaChecked
import GoSem.Claim
import GoSem.ClaimJoined
import GoSem.ClaimMapViews
import Derived.JoinedTies
import Derived.KernelRfl
namespace Go.Proofs.Ytiapdjdhaclmnaa
/- THE CELL 'sum', in the pinned program and in every row, IS THE sha256 OF THE DUMP (.gsa) THAT YtiapdjdhaclmnaaProg.lean LOADS. Nothing in Lean hashes anything: it is a label: what it is worth is what the hold of that sum in a sandbox is worth. -/
noncomputable def Try.pinned : Pinned := { name := "ytiapdjdhaclmnaa", sum := "7db99c20fd207902a2481131549f02e835afb1b34c2e3ffc9b49b56be1dbc0da", checked := Try.checked }
namespace Rows
def none {H : Type} : Left H := { results := [], args := [] }

/-- 'tenonlaw07.CheckParts': WHATEVER THE INPUT: true; the input reads as it did. -/
def checkPartsSpec : ChangeSpec := { name := "checkParts", fn := fun _ => fun
  | [d1, d2, d3] => { results := [.lit (.bool true)], args := [d1, d2, d3] }
  | _ => none }
def checkPartsRow : OpenClaim := { program := "ytiapdjdhaclmnaa", sum := "7db99c20fd207902a2481131549f02e835afb1b34c2e3ffc9b49b56be1dbc0da", func := "tenon/tenonlaw07.CheckParts", spec := "checkParts", inPlace := ["math.Float64bits"], unfollowed := true, recurses := true, loops := true, apart := false }
def CheckPartsSaid : Prop := checkPartsRow.holds Try.pinned (OpenSpec.ofChange checkPartsSpec)

/-- ITS FALSE NEIGHBOUR: 'it returns false'. Refute it at one input. -/
def checkPartsWrong : ChangeSpec := { name := "checkParts", fn := fun _ => fun
  | [d1, d2, d3] => { results := [.lit (.bool false)], args := [d1, d2, d3] }
  | _ => none }
def CheckPartsWrongFalsely : Prop := checkPartsRow.holds Try.pinned (OpenSpec.ofChange checkPartsWrong)

/-- 'tenonlaw07.CheckTypes': WHATEVER THE INPUT: true; the input reads as it did. -/
def checkTypesSpec : ChangeSpec := { name := "checkTypes", fn := fun _ => fun
  | [d1, d2] => { results := [.lit (.bool true)], args := [d1, d2] }
  | _ => none }
def checkTypesRow : OpenClaim := { program := "ytiapdjdhaclmnaa", sum := "7db99c20fd207902a2481131549f02e835afb1b34c2e3ffc9b49b56be1dbc0da", func := "tenon/tenonlaw07.CheckTypes", spec := "checkTypes", inPlace := ["math.Float64bits"], unfollowed := true, recurses := true, loops := true, apart := false }
def CheckTypesSaid : Prop := checkTypesRow.holds Try.pinned (OpenSpec.ofChange checkTypesSpec)

/-- ITS FALSE NEIGHBOUR: 'it returns false'. Refute it at one input. -/
def checkTypesWrong : ChangeSpec := { name := "checkTypes", fn := fun _ => fun
  | [d1, d2] => { results := [.lit (.bool false)], args := [d1, d2] }
  | _ => none }
def CheckTypesWrongFalsely : Prop := checkTypesRow.holds Try.pinned (OpenSpec.ofChange checkTypesWrong)

/-- 'tenonlaw07.CheckSound': WHATEVER THE INPUT: true; the input reads as it did. -/
def checkSoundSpec : ChangeSpec := { name := "checkSound", fn := fun _ => fun
  | [d1, d2, d3] => { results := [.lit (.bool true)], args := [d1, d2, d3] }
  | _ => none }
def checkSoundRow : OpenClaim := { program := "ytiapdjdhaclmnaa", sum := "7db99c20fd207902a2481131549f02e835afb1b34c2e3ffc9b49b56be1dbc0da", func := "tenon/tenonlaw07.CheckSound", spec := "checkSound", inPlace := ["math.Float64bits"], unfollowed := true, recurses := true, loops := true, apart := false }
def CheckSoundSaid : Prop := checkSoundRow.holds Try.pinned (OpenSpec.ofChange checkSoundSpec)

/-- ITS FALSE NEIGHBOUR: 'it returns false'. Refute it at one input. -/
def checkSoundWrong : ChangeSpec := { name := "checkSound", fn := fun _ => fun
  | [d1, d2, d3] => { results := [.lit (.bool false)], args := [d1, d2, d3] }
  | _ => none }
def CheckSoundWrongFalsely : Prop := checkSoundRow.holds Try.pinned (OpenSpec.ofChange checkSoundWrong)

/-- 'tenonlaw07.CheckNarrow': WHATEVER THE INPUT: true; the input reads as it did. -/
def checkNarrowSpec : ChangeSpec := { name := "checkNarrow", fn := fun _ => fun
  | [d1, d2] => { results := [.lit (.bool true)], args := [d1, d2] }
  | _ => none }
def checkNarrowRow : OpenClaim := { program := "ytiapdjdhaclmnaa", sum := "7db99c20fd207902a2481131549f02e835afb1b34c2e3ffc9b49b56be1dbc0da", func := "tenon/tenonlaw07.CheckNarrow", spec := "checkNarrow", inPlace := ["math.Float64bits"], unfollowed := true, recurses := true, loops := true, apart := false }
def CheckNarrowSaid : Prop := checkNarrowRow.holds Try.pinned (OpenSpec.ofChange checkNarrowSpec)

/-- ITS FALSE NEIGHBOUR: 'it returns false'. Refute it at one input. -/
def checkNarrowWrong : ChangeSpec := { name := "checkNarrow", fn := fun _ => fun
  | [d1, d2] => { results := [.lit (.bool false)], args := [d1, d2] }
  | _ => none }
def CheckNarrowWrongFalsely : Prop := checkNarrowRow.holds Try.pinned (OpenSpec.ofChange checkNarrowWrong)

/-- 'tenonlaw07.CheckSubs': WHATEVER THE INPUT: true; the input reads as it did. -/
def checkSubsSpec : ChangeSpec := { name := "checkSubs", fn := fun _ => fun
  | [d1, d2] => { results := [.lit (.bool true)], args := [d1, d2] }
  | _ => none }
def checkSubsRow : OpenClaim := { program := "ytiapdjdhaclmnaa", sum := "7db99c20fd207902a2481131549f02e835afb1b34c2e3ffc9b49b56be1dbc0da", func := "tenon/tenonlaw07.CheckSubs", spec := "checkSubs", inPlace := ["math.Float64bits"], unfollowed := true, recurses := true, loops := true, apart := false }
def CheckSubsSaid : Prop := checkSubsRow.holds Try.pinned (OpenSpec.ofChange checkSubsSpec)

/-- ITS FALSE NEIGHBOUR: 'it returns false'. Refute it at one input. -/
def checkSubsWrong : ChangeSpec := { name := "checkSubs", fn := fun _ => fun
  | [d1, d2] => { results := [.lit (.bool false)], args := [d1, d2] }
  | _ => none }
def CheckSubsWrongFalsely : Prop := checkSubsRow.holds Try.pinned (OpenSpec.ofChange checkSubsWrong)

/-- 'tenonlaw07.CheckEither': WHATEVER THE INPUT: true; the input reads as it did. -/
def checkEitherSpec : ChangeSpec := { name := "checkEither", fn := fun _ => fun
  | [d1, d2] => { results := [.lit (.bool true)], args := [d1, d2] }
  | _ => none }
def checkEitherRow : OpenClaim := { program := "ytiapdjdhaclmnaa", sum := "7db99c20fd207902a2481131549f02e835afb1b34c2e3ffc9b49b56be1dbc0da", func := "tenon/tenonlaw07.CheckEither", spec := "checkEither", inPlace := ["math.Float64bits"], unfollowed := true, recurses := true, loops := true, apart := false }
def CheckEitherSaid : Prop := checkEitherRow.holds Try.pinned (OpenSpec.ofChange checkEitherSpec)

/-- ITS FALSE NEIGHBOUR: 'it returns false'. Refute it at one input. -/
def checkEitherWrong : ChangeSpec := { name := "checkEither", fn := fun _ => fun
  | [d1, d2] => { results := [.lit (.bool false)], args := [d1, d2] }
  | _ => none }
def CheckEitherWrongFalsely : Prop := checkEitherRow.holds Try.pinned (OpenSpec.ofChange checkEitherWrong)

/- THE SECOND FORM. 'bulk': how many values and letters a reading holds, each counted each time it is reached (what is shared counts as often as it is met; a slice's spare places count too). A statement '..UptoSaid' is the law's where the arguments, and the package variables that the reading takes, are together of bulk at most 1048576: NARROWER than '..Said'. Prove '..Said' where nothing that the law and all that it calls make is longer than what came in: it says more and counts as full. Else prove '..UptoSaid'. A law counts once. -/
mutual
def uptoBulk {H : Type} : DataW H → Nat
  | .lit (.string bytes) => bytes.length + 1
  | .lit _ => 1
  | .nil => 1
  | .ptr d => uptoBulk d + 1
  | .slice elems spare => uptoBulkAll elems + uptoBulkAll spare + 1
  | .agg parts => uptoBulkAll parts + 1
  | .iface _ d => uptoBulk d + 1
  | .map entries => uptoBulkEntries entries + 1
  | .held _ => 1
def uptoBulkAll {H : Type} : List (DataW H) → Nat
  | [] => 0
  | d :: r => uptoBulk d + uptoBulkAll r
def uptoBulkEntries {H : Type} : List (Lit × DataW H) → Nat
  | [] => 0
  | x :: r => uptoBulkEntry x + uptoBulkEntries r
def uptoBulkEntry {H : Type} : Lit × DataW H → Nat
  | (.string bytes, d) => bytes.length + uptoBulk d + 1
  | (_, d) => uptoBulk d + 1
 end
def uptoSmall : (H : Type) → List (DataW H) → Bool := fun _ ds => decide (uptoBulkAll ds ≤ 1048576)
def OpenSpec.upto (s : _root_.Go.ChangeSpec) : _root_.Go.OpenSpec := { _root_.Go.OpenSpec.ofChange s with cond := some uptoSmall }

/-- 'tenonlaw07.CheckParts', WHERE WHAT IT READS IS OF BULK AT MOST 1048576: true; the input reads as it did. -/
def checkPartsUptoRow : OpenClaim := { program := "ytiapdjdhaclmnaa", sum := "7db99c20fd207902a2481131549f02e835afb1b34c2e3ffc9b49b56be1dbc0da", func := "tenon/tenonlaw07.CheckParts", spec := "checkParts", inPlace := ["math.Float64bits"], unfollowed := true, recurses := true, loops := true, apart := false, narrowed := true }
def CheckPartsUptoSaid : Prop := checkPartsUptoRow.holds Try.pinned (OpenSpec.upto checkPartsSpec)

/-- 'tenonlaw07.CheckTypes', WHERE WHAT IT READS IS OF BULK AT MOST 1048576: true; the input reads as it did. -/
def checkTypesUptoRow : OpenClaim := { program := "ytiapdjdhaclmnaa", sum := "7db99c20fd207902a2481131549f02e835afb1b34c2e3ffc9b49b56be1dbc0da", func := "tenon/tenonlaw07.CheckTypes", spec := "checkTypes", inPlace := ["math.Float64bits"], unfollowed := true, recurses := true, loops := true, apart := false, narrowed := true }
def CheckTypesUptoSaid : Prop := checkTypesUptoRow.holds Try.pinned (OpenSpec.upto checkTypesSpec)

/-- 'tenonlaw07.CheckSound', WHERE WHAT IT READS IS OF BULK AT MOST 1048576: true; the input reads as it did. -/
def checkSoundUptoRow : OpenClaim := { program := "ytiapdjdhaclmnaa", sum := "7db99c20fd207902a2481131549f02e835afb1b34c2e3ffc9b49b56be1dbc0da", func := "tenon/tenonlaw07.CheckSound", spec := "checkSound", inPlace := ["math.Float64bits"], unfollowed := true, recurses := true, loops := true, apart := false, narrowed := true }
def CheckSoundUptoSaid : Prop := checkSoundUptoRow.holds Try.pinned (OpenSpec.upto checkSoundSpec)

/-- 'tenonlaw07.CheckNarrow', WHERE WHAT IT READS IS OF BULK AT MOST 1048576: true; the input reads as it did. -/
def checkNarrowUptoRow : OpenClaim := { program := "ytiapdjdhaclmnaa", sum := "7db99c20fd207902a2481131549f02e835afb1b34c2e3ffc9b49b56be1dbc0da", func := "tenon/tenonlaw07.CheckNarrow", spec := "checkNarrow", inPlace := ["math.Float64bits"], unfollowed := true, recurses := true, loops := true, apart := false, narrowed := true }
def CheckNarrowUptoSaid : Prop := checkNarrowUptoRow.holds Try.pinned (OpenSpec.upto checkNarrowSpec)

/-- 'tenonlaw07.CheckSubs', WHERE WHAT IT READS IS OF BULK AT MOST 1048576: true; the input reads as it did. -/
def checkSubsUptoRow : OpenClaim := { program := "ytiapdjdhaclmnaa", sum := "7db99c20fd207902a2481131549f02e835afb1b34c2e3ffc9b49b56be1dbc0da", func := "tenon/tenonlaw07.CheckSubs", spec := "checkSubs", inPlace := ["math.Float64bits"], unfollowed := true, recurses := true, loops := true, apart := false, narrowed := true }
def CheckSubsUptoSaid : Prop := checkSubsUptoRow.holds Try.pinned (OpenSpec.upto checkSubsSpec)

/-- 'tenonlaw07.CheckEither', WHERE WHAT IT READS IS OF BULK AT MOST 1048576: true; the input reads as it did. -/
def checkEitherUptoRow : OpenClaim := { program := "ytiapdjdhaclmnaa", sum := "7db99c20fd207902a2481131549f02e835afb1b34c2e3ffc9b49b56be1dbc0da", func := "tenon/tenonlaw07.CheckEither", spec := "checkEither", inPlace := ["math.Float64bits"], unfollowed := true, recurses := true, loops := true, apart := false, narrowed := true }
def CheckEitherUptoSaid : Prop := checkEitherUptoRow.holds Try.pinned (OpenSpec.upto checkEitherSpec)

end Rows
end Go.Proofs.Ytiapdjdhaclmnaa
