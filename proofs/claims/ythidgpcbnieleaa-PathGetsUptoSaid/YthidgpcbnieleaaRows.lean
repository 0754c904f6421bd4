/-
  NARROWER THAN 'FOR EVERY INPUT', by the rows' own cells (each row's printed sentence says how): PathWalks: loops · PathFinds: loops · PathGets: loops.
  DERIVED. THE GIVEN ROWS OF THIS SEAT. 3 by the template 'for every input the law returns true; each argument reads behind the call as it read before'; 0 by the template 'total and deterministic' (their statements: YthidgpcbnieleaaTotals.lean).
  GIVEN WITH THE SEED: the statements are not yours to turn. If you find one false, say at which input.
  Laid BY PROGRAM, IN A SANDBOX (cutbox-rows.mjs): the forced cells as the released guide's own fill.sh prints them over the translation 486b4bfc6bb3b8eb… (all of the seat's roots in one cut). By AI agents, Wed Nov 11 2026. No macro, syntax, notation, axiom, sorry.
-/
import Derived.Test.YthidgpcbnieleaaChecked
import GoSem.Claim
import GoSem.ClaimJoined
import GoSem.ClaimMapViews
import Derived.JoinedTies
import Derived.KernelRfl
namespace Go.Proofs.Ythidgpcbnieleaa
/- THE CELL 'sum', in the pinned program and in every row, IS THE sha256 OF THE DUMP (.gsa) THAT YthidgpcbnieleaaProg.lean LOADS. Nothing in Lean hashes anything: it is a label: what it is worth is what the hold of that sum in a sandbox is worth. -/
noncomputable def Try.pinned : Pinned := { name := "ythidgpcbnieleaa", sum := "486b4bfc6bb3b8ebd9d1dff847c4256bed2721bf51ac1b8171cca5399c932a63", checked := Try.checked }
namespace Rows
def none {H : Type} : Left H := { results := [], args := [] }

/-- 'tenonlaw04.PathWalks': WHATEVER THE INPUT: true; the input reads as it did. -/
def pathWalksSpec : ChangeSpec := { name := "pathWalks", fn := fun _ => fun
  | [d1, d2] => { results := [.lit (.bool true)], args := [d1, d2] }
  | _ => none }
def pathWalksRow : OpenClaim := { program := "ythidgpcbnieleaa", sum := "486b4bfc6bb3b8ebd9d1dff847c4256bed2721bf51ac1b8171cca5399c932a63", func := "tenon/tenonlaw04.PathWalks", spec := "pathWalks", inPlace := ["math.Float64bits"], unfollowed := true, recurses := true, loops := true, apart := false }
def PathWalksSaid : Prop := pathWalksRow.holds Try.pinned (OpenSpec.ofChange pathWalksSpec)

/-- ITS FALSE NEIGHBOUR: 'it returns false'. Refute it at one input. -/
def pathWalksWrong : ChangeSpec := { name := "pathWalks", fn := fun _ => fun
  | [d1, d2] => { results := [.lit (.bool false)], args := [d1, d2] }
  | _ => none }
def PathWalksWrongFalsely : Prop := pathWalksRow.holds Try.pinned (OpenSpec.ofChange pathWalksWrong)

/-- 'tenonlaw04.PathFinds': WHATEVER THE INPUT: true; the input reads as it did. -/
def pathFindsSpec : ChangeSpec := { name := "pathFinds", fn := fun _ => fun
  | [d1, d2, d3] => { results := [.lit (.bool true)], args := [d1, d2, d3] }
  | _ => none }
def pathFindsRow : OpenClaim := { program := "ythidgpcbnieleaa", sum := "486b4bfc6bb3b8ebd9d1dff847c4256bed2721bf51ac1b8171cca5399c932a63", func := "tenon/tenonlaw04.PathFinds", spec := "pathFinds", inPlace := ["math.Float64bits"], unfollowed := true, recurses := true, loops := true, apart := false }
def PathFindsSaid : Prop := pathFindsRow.holds Try.pinned (OpenSpec.ofChange pathFindsSpec)

/-- ITS FALSE NEIGHBOUR: 'it returns false'. Refute it at one input. -/
def pathFindsWrong : ChangeSpec := { name := "pathFinds", fn := fun _ => fun
  | [d1, d2, d3] => { results := [.lit (.bool false)], args := [d1, d2, d3] }
  | _ => none }
def PathFindsWrongFalsely : Prop := pathFindsRow.holds Try.pinned (OpenSpec.ofChange pathFindsWrong)

/-- 'tenonlaw04.PathGets': WHATEVER THE INPUT: true; the input reads as it did. -/
def pathGetsSpec : ChangeSpec := { name := "pathGets", fn := fun _ => fun
  | [d1, d2, d3] => { results := [.lit (.bool true)], args := [d1, d2, d3] }
  | _ => none }
def pathGetsRow : OpenClaim := { program := "ythidgpcbnieleaa", sum := "486b4bfc6bb3b8ebd9d1dff847c4256bed2721bf51ac1b8171cca5399c932a63", func := "tenon/tenonlaw04.PathGets", spec := "pathGets", inPlace := ["internal/bytealg.IndexByteString", "slices.overlaps[tenon/api.Field]", "math.Float64bits"], unfollowed := true, recurses := true, loops := true, apart := false }
def PathGetsSaid : Prop := pathGetsRow.holds Try.pinned (OpenSpec.ofChange pathGetsSpec)

/-- ITS FALSE NEIGHBOUR: 'it returns false'. Refute it at one input. -/
def pathGetsWrong : ChangeSpec := { name := "pathGets", fn := fun _ => fun
  | [d1, d2, d3] => { results := [.lit (.bool false)], args := [d1, d2, d3] }
  | _ => none }
def PathGetsWrongFalsely : Prop := pathGetsRow.holds Try.pinned (OpenSpec.ofChange pathGetsWrong)

/- THE SECOND FORM. 'bulk': how many values and letters a reading holds, each counted each time it is reached (what is shared counts as often as it is met; a slice's spare places count too). A statement '..UptoSaid' is the law's where the arguments, and the package variables that the reading takes, are together of bulk at most 1048576: NARROWER than '..Said'. Prove '..Said' where nothing that the law and all that it calls make is longer than what came in: it says more and counts as full. Else prove '..UptoSaid'. A law counts once. -/
mutual
def uptoBulk {H : Type} : DataW H → Nat
  | .lit (.string bytes) => bytes.length + 1
  | .lit _ => 1
  | .nil => 1
  | .ptr d => uptoBulk d + 1
  | .slice elems spare => uptoBulkAll elems + uptoBulkAll spare + 1
  | .agg parts => uptoBulkAll parts + 1
  | .iface _ d => uptoBulk d + 1
  | .map entries => uptoBulkEntries entries + 1
  | .held _ => 1
def uptoBulkAll {H : Type} : List (DataW H) → Nat
  | [] => 0
  | d :: r => uptoBulk d + uptoBulkAll r
def uptoBulkEntries {H : Type} : List (Lit × DataW H) → Nat
  | [] => 0
  | x :: r => uptoBulkEntry x + uptoBulkEntries r
def uptoBulkEntry {H : Type} : Lit × DataW H → Nat
  | (.string bytes, d) => bytes.length + uptoBulk d + 1
  | (_, d) => uptoBulk d + 1
 end
def uptoSmall : (H : Type) → List (DataW H) → Bool := fun _ ds => decide (uptoBulkAll ds ≤ 1048576)
def OpenSpec.upto (s : _root_.Go.ChangeSpec) : _root_.Go.OpenSpec := { _root_.Go.OpenSpec.ofChange s with cond := some uptoSmall }

/-- 'tenonlaw04.PathWalks', WHERE WHAT IT READS IS OF BULK AT MOST 1048576: true; the input reads as it did. -/
def pathWalksUptoRow : OpenClaim := { program := "ythidgpcbnieleaa", sum := "486b4bfc6bb3b8ebd9d1dff847c4256bed2721bf51ac1b8171cca5399c932a63", func := "tenon/tenonlaw04.PathWalks", spec := "pathWalks", inPlace := ["math.Float64bits"], unfollowed := true, recurses := true, loops := true, apart := false, narrowed := true }
def PathWalksUptoSaid : Prop := pathWalksUptoRow.holds Try.pinned (OpenSpec.upto pathWalksSpec)

/-- 'tenonlaw04.PathFinds', WHERE WHAT IT READS IS OF BULK AT MOST 1048576: true; the input reads as it did. -/
def pathFindsUptoRow : OpenClaim := { program := "ythidgpcbnieleaa", sum := "486b4bfc6bb3b8ebd9d1dff847c4256bed2721bf51ac1b8171cca5399c932a63", func := "tenon/tenonlaw04.PathFinds", spec := "pathFinds", inPlace := ["math.Float64bits"], unfollowed := true, recurses := true, loops := true, apart := false, narrowed := true }
def PathFindsUptoSaid : Prop := pathFindsUptoRow.holds Try.pinned (OpenSpec.upto pathFindsSpec)

/-- 'tenonlaw04.PathGets', WHERE WHAT IT READS IS OF BULK AT MOST 1048576: true; the input reads as it did. -/
def pathGetsUptoRow : OpenClaim := { program := "ythidgpcbnieleaa", sum := "486b4bfc6bb3b8ebd9d1dff847c4256bed2721bf51ac1b8171cca5399c932a63", func := "tenon/tenonlaw04.PathGets", spec := "pathGets", inPlace := ["internal/bytealg.IndexByteString", "slices.overlaps[tenon/api.Field]", "math.Float64bits"], unfollowed := true, recurses := true, loops := true, apart := false, narrowed := true }
def PathGetsUptoSaid : Prop := pathGetsUptoRow.holds Try.pinned (OpenSpec.upto pathGetsSpec)

end Rows
end Go.Proofs.Ythidgpcbnieleaa
