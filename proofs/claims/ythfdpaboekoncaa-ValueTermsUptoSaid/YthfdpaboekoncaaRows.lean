/-
  NARROWER THAN 'FOR EVERY INPUT', by the rows' own cells (each row's printed sentence says how): ValueKinds: loops · ValueCopies: loops · ValueTerms: loops · ValueOrders: loops · ValueTotal: loops · ValueSizes: loops · ValueNever: loops · ValueBack: loops.
  DERIVED. THE GIVEN ROWS OF THIS SEAT. 8 by the template 'for every input the law returns true; each argument reads behind the call as it read before'; 0 by the template 'total and deterministic' (their statements: YthfdpaboekoncaaTotals.lean).
  GIVEN WITH THE SEED: the statements are not yours to turn. If you find one false, say at which input.
  Laid BY PROGRAM, IN A SANDBOX (cutbox-rows.mjs): the forced cells as the released guide's own fill.sh prints them over the translation 7564bbd46f9b6a5a… (all of the seat's roots in one cut). By AI agents, Wed Nov 11 2026. No macro, syntax, notation, axiom, sorry.
-/
import Derived.Test.YthfdpaboekoncaaChecked
import GoSem.Claim
import GoSem.ClaimJoined
import GoSem.ClaimMapViews
import Derived.JoinedTies
import Derived.KernelRfl
namespace Go.Proofs.Ythfdpaboekoncaa
/- THE CELL 'sum', in the pinned program and in every row, IS THE sha256 OF THE DUMP (.gsa) THAT YthfdpaboekoncaaProg.lean LOADS. Nothing in Lean hashes anything: it is a label: what it is worth is what the hold of that sum in a sandbox is worth. -/
noncomputable def Try.pinned : Pinned := { name := "ythfdpaboekoncaa", sum := "7564bbd46f9b6a5afa415710e49b4ec6778fd9dce01dba717f4cdb251c5696c2", checked := Try.checked }
namespace Rows
def none {H : Type} : Left H := { results := [], args := [] }

/-- 'tenonlaw01.ValueKinds': WHATEVER THE INPUT: true; the input reads as it did. -/
def valueKindsSpec : ChangeSpec := { name := "valueKinds", fn := fun _ => fun
  | [d] => { results := [.lit (.bool true)], args := [d] }
  | _ => none }
def valueKindsRow : OpenClaim := { program := "ythfdpaboekoncaa", sum := "7564bbd46f9b6a5afa415710e49b4ec6778fd9dce01dba717f4cdb251c5696c2", func := "tenon/tenonlaw01.ValueKinds", spec := "valueKinds", recurses := true, loops := true, apart := false }
def ValueKindsSaid : Prop := valueKindsRow.holds Try.pinned (OpenSpec.ofChange valueKindsSpec)

/-- ITS FALSE NEIGHBOUR: 'it returns false'. Refute it at one input. -/
def valueKindsWrong : ChangeSpec := { name := "valueKinds", fn := fun _ => fun
  | [d] => { results := [.lit (.bool false)], args := [d] }
  | _ => none }
def ValueKindsWrongFalsely : Prop := valueKindsRow.holds Try.pinned (OpenSpec.ofChange valueKindsWrong)

/-- 'tenonlaw01.ValueCopies': WHATEVER THE INPUT: true; the input reads as it did. -/
def valueCopiesSpec : ChangeSpec := { name := "valueCopies", fn := fun _ => fun
  | [d] => { results := [.lit (.bool true)], args := [d] }
  | _ => none }
def valueCopiesRow : OpenClaim := { program := "ythfdpaboekoncaa", sum := "7564bbd46f9b6a5afa415710e49b4ec6778fd9dce01dba717f4cdb251c5696c2", func := "tenon/tenonlaw01.ValueCopies", spec := "valueCopies", inPlace := ["math.Float64bits"], recurses := true, loops := true, apart := false }
def ValueCopiesSaid : Prop := valueCopiesRow.holds Try.pinned (OpenSpec.ofChange valueCopiesSpec)

/-- ITS FALSE NEIGHBOUR: 'it returns false'. Refute it at one input. -/
def valueCopiesWrong : ChangeSpec := { name := "valueCopies", fn := fun _ => fun
  | [d] => { results := [.lit (.bool false)], args := [d] }
  | _ => none }
def ValueCopiesWrongFalsely : Prop := valueCopiesRow.holds Try.pinned (OpenSpec.ofChange valueCopiesWrong)

/-- 'tenonlaw01.ValueTerms': WHATEVER THE INPUT: true; the input reads as it did. -/
def valueTermsSpec : ChangeSpec := { name := "valueTerms", fn := fun _ => fun
  | [d] => { results := [.lit (.bool true)], args := [d] }
  | _ => none }
def valueTermsRow : OpenClaim := { program := "ythfdpaboekoncaa", sum := "7564bbd46f9b6a5afa415710e49b4ec6778fd9dce01dba717f4cdb251c5696c2", func := "tenon/tenonlaw01.ValueTerms", spec := "valueTerms", inPlace := ["math.Float64bits"], recurses := true, loops := true, apart := false }
def ValueTermsSaid : Prop := valueTermsRow.holds Try.pinned (OpenSpec.ofChange valueTermsSpec)

/-- ITS FALSE NEIGHBOUR: 'it returns false'. Refute it at one input. -/
def valueTermsWrong : ChangeSpec := { name := "valueTerms", fn := fun _ => fun
  | [d] => { results := [.lit (.bool false)], args := [d] }
  | _ => none }
def ValueTermsWrongFalsely : Prop := valueTermsRow.holds Try.pinned (OpenSpec.ofChange valueTermsWrong)

/-- 'tenonlaw01.ValueOrders': WHATEVER THE INPUT: true; the input reads as it did. -/
def valueOrdersSpec : ChangeSpec := { name := "valueOrders", fn := fun _ => fun
  | [d1, d2] => { results := [.lit (.bool true)], args := [d1, d2] }
  | _ => none }
def valueOrdersRow : OpenClaim := { program := "ythfdpaboekoncaa", sum := "7564bbd46f9b6a5afa415710e49b4ec6778fd9dce01dba717f4cdb251c5696c2", func := "tenon/tenonlaw01.ValueOrders", spec := "valueOrders", inPlace := ["math.Float64bits"], unfollowed := true, recurses := true, loops := true, apart := false }
def ValueOrdersSaid : Prop := valueOrdersRow.holds Try.pinned (OpenSpec.ofChange valueOrdersSpec)

/-- ITS FALSE NEIGHBOUR: 'it returns false'. Refute it at one input. -/
def valueOrdersWrong : ChangeSpec := { name := "valueOrders", fn := fun _ => fun
  | [d1, d2] => { results := [.lit (.bool false)], args := [d1, d2] }
  | _ => none }
def ValueOrdersWrongFalsely : Prop := valueOrdersRow.holds Try.pinned (OpenSpec.ofChange valueOrdersWrong)

/-- 'tenonlaw01.ValueTotal': WHATEVER THE INPUT: true; the input reads as it did. -/
def valueTotalSpec : ChangeSpec := { name := "valueTotal", fn := fun _ => fun
  | [d1, d2, d3] => { results := [.lit (.bool true)], args := [d1, d2, d3] }
  | _ => none }
def valueTotalRow : OpenClaim := { program := "ythfdpaboekoncaa", sum := "7564bbd46f9b6a5afa415710e49b4ec6778fd9dce01dba717f4cdb251c5696c2", func := "tenon/tenonlaw01.ValueTotal", spec := "valueTotal", inPlace := ["math.Float64bits"], unfollowed := true, recurses := true, loops := true, apart := false }
def ValueTotalSaid : Prop := valueTotalRow.holds Try.pinned (OpenSpec.ofChange valueTotalSpec)

/-- ITS FALSE NEIGHBOUR: 'it returns false'. Refute it at one input. -/
def valueTotalWrong : ChangeSpec := { name := "valueTotal", fn := fun _ => fun
  | [d1, d2, d3] => { results := [.lit (.bool false)], args := [d1, d2, d3] }
  | _ => none }
def ValueTotalWrongFalsely : Prop := valueTotalRow.holds Try.pinned (OpenSpec.ofChange valueTotalWrong)

/-- 'tenonlaw01.ValueSizes': WHATEVER THE INPUT: true; the input reads as it did. -/
def valueSizesSpec : ChangeSpec := { name := "valueSizes", fn := fun _ => fun
  | [d1, d2] => { results := [.lit (.bool true)], args := [d1, d2] }
  | _ => none }
def valueSizesRow : OpenClaim := { program := "ythfdpaboekoncaa", sum := "7564bbd46f9b6a5afa415710e49b4ec6778fd9dce01dba717f4cdb251c5696c2", func := "tenon/tenonlaw01.ValueSizes", spec := "valueSizes", inPlace := ["math.Float64bits"], unfollowed := true, recurses := true, loops := true, apart := false }
def ValueSizesSaid : Prop := valueSizesRow.holds Try.pinned (OpenSpec.ofChange valueSizesSpec)

/-- ITS FALSE NEIGHBOUR: 'it returns false'. Refute it at one input. -/
def valueSizesWrong : ChangeSpec := { name := "valueSizes", fn := fun _ => fun
  | [d1, d2] => { results := [.lit (.bool false)], args := [d1, d2] }
  | _ => none }
def ValueSizesWrongFalsely : Prop := valueSizesRow.holds Try.pinned (OpenSpec.ofChange valueSizesWrong)

/-- 'tenonlaw01.ValueNever': WHATEVER THE INPUT: true; the input reads as it did. -/
def valueNeverSpec : ChangeSpec := { name := "valueNever", fn := fun _ => fun
  | [d1, d2, d3] => { results := [.lit (.bool true)], args := [d1, d2, d3] }
  | _ => none }
def valueNeverRow : OpenClaim := { program := "ythfdpaboekoncaa", sum := "7564bbd46f9b6a5afa415710e49b4ec6778fd9dce01dba717f4cdb251c5696c2", func := "tenon/tenonlaw01.ValueNever", spec := "valueNever", inPlace := ["math.Float64bits"], unfollowed := true, recurses := true, loops := true, apart := false }
def ValueNeverSaid : Prop := valueNeverRow.holds Try.pinned (OpenSpec.ofChange valueNeverSpec)

/-- ITS FALSE NEIGHBOUR: 'it returns false'. Refute it at one input. -/
def valueNeverWrong : ChangeSpec := { name := "valueNever", fn := fun _ => fun
  | [d1, d2, d3] => { results := [.lit (.bool false)], args := [d1, d2, d3] }
  | _ => none }
def ValueNeverWrongFalsely : Prop := valueNeverRow.holds Try.pinned (OpenSpec.ofChange valueNeverWrong)

/-- 'tenonlaw01.ValueBack': WHATEVER THE INPUT: true; the input reads as it did. -/
def valueBackSpec : ChangeSpec := { name := "valueBack", fn := fun _ => fun
  | [d] => { results := [.lit (.bool true)], args := [d] }
  | _ => none }
def valueBackRow : OpenClaim := { program := "ythfdpaboekoncaa", sum := "7564bbd46f9b6a5afa415710e49b4ec6778fd9dce01dba717f4cdb251c5696c2", func := "tenon/tenonlaw01.ValueBack", spec := "valueBack", inPlace := ["math.Float64bits"], unfollowed := true, recurses := true, loops := true, apart := false }
def ValueBackSaid : Prop := valueBackRow.holds Try.pinned (OpenSpec.ofChange valueBackSpec)

/-- ITS FALSE NEIGHBOUR: 'it returns false'. Refute it at one input. -/
def valueBackWrong : ChangeSpec := { name := "valueBack", fn := fun _ => fun
  | [d] => { results := [.lit (.bool false)], args := [d] }
  | _ => none }
def ValueBackWrongFalsely : Prop := valueBackRow.holds Try.pinned (OpenSpec.ofChange valueBackWrong)

/- THE SECOND FORM. 'bulk': how many values and letters a reading holds, each counted each time it is reached (what is shared counts as often as it is met; a slice's spare places count too). A statement '..UptoSaid' is the law's where the arguments, and the package variables that the reading takes, are together of bulk at most 1048576: NARROWER than '..Said'. Prove '..Said' where nothing that the law and all that it calls make is longer than what came in: it says more and counts as full. Else prove '..UptoSaid'. A law counts once. -/
mutual
def uptoBulk {H : Type} : DataW H → Nat
  | .lit (.string bytes) => bytes.length + 1
  | .lit _ => 1
  | .nil => 1
  | .ptr d => uptoBulk d + 1
  | .slice elems spare => uptoBulkAll elems + uptoBulkAll spare + 1
  | .agg parts => uptoBulkAll parts + 1
  | .iface _ d => uptoBulk d + 1
  | .map entries => uptoBulkEntries entries + 1
  | .held _ => 1
def uptoBulkAll {H : Type} : List (DataW H) → Nat
  | [] => 0
  | d :: r => uptoBulk d + uptoBulkAll r
def uptoBulkEntries {H : Type} : List (Lit × DataW H) → Nat
  | [] => 0
  | x :: r => uptoBulkEntry x + uptoBulkEntries r
def uptoBulkEntry {H : Type} : Lit × DataW H → Nat
  | (.string bytes, d) => bytes.length + uptoBulk d + 1
  | (_, d) => uptoBulk d + 1
 end
def uptoSmall : (H : Type) → List (DataW H) → Bool := fun _ ds => decide (uptoBulkAll ds ≤ 1048576)
def OpenSpec.upto (s : _root_.Go.ChangeSpec) : _root_.Go.OpenSpec := { _root_.Go.OpenSpec.ofChange s with cond := some uptoSmall }

/-- 'tenonlaw01.ValueKinds', WHERE WHAT IT READS IS OF BULK AT MOST 1048576: true; the input reads as it did. -/
def valueKindsUptoRow : OpenClaim := { program := "ythfdpaboekoncaa", sum := "7564bbd46f9b6a5afa415710e49b4ec6778fd9dce01dba717f4cdb251c5696c2", func := "tenon/tenonlaw01.ValueKinds", spec := "valueKinds", recurses := true, loops := true, apart := false, narrowed := true }
def ValueKindsUptoSaid : Prop := valueKindsUptoRow.holds Try.pinned (OpenSpec.upto valueKindsSpec)

/-- 'tenonlaw01.ValueCopies', WHERE WHAT IT READS IS OF BULK AT MOST 1048576: true; the input reads as it did. -/
def valueCopiesUptoRow : OpenClaim := { program := "ythfdpaboekoncaa", sum := "7564bbd46f9b6a5afa415710e49b4ec6778fd9dce01dba717f4cdb251c5696c2", func := "tenon/tenonlaw01.ValueCopies", spec := "valueCopies", inPlace := ["math.Float64bits"], recurses := true, loops := true, apart := false, narrowed := true }
def ValueCopiesUptoSaid : Prop := valueCopiesUptoRow.holds Try.pinned (OpenSpec.upto valueCopiesSpec)

/-- 'tenonlaw01.ValueTerms', WHERE WHAT IT READS IS OF BULK AT MOST 1048576: true; the input reads as it did. -/
def valueTermsUptoRow : OpenClaim := { program := "ythfdpaboekoncaa", sum := "7564bbd46f9b6a5afa415710e49b4ec6778fd9dce01dba717f4cdb251c5696c2", func := "tenon/tenonlaw01.ValueTerms", spec := "valueTerms", inPlace := ["math.Float64bits"], recurses := true, loops := true, apart := false, narrowed := true }
def ValueTermsUptoSaid : Prop := valueTermsUptoRow.holds Try.pinned (OpenSpec.upto valueTermsSpec)

/-- 'tenonlaw01.ValueOrders', WHERE WHAT IT READS IS OF BULK AT MOST 1048576: true; the input reads as it did. -/
def valueOrdersUptoRow : OpenClaim := { program := "ythfdpaboekoncaa", sum := "7564bbd46f9b6a5afa415710e49b4ec6778fd9dce01dba717f4cdb251c5696c2", func := "tenon/tenonlaw01.ValueOrders", spec := "valueOrders", inPlace := ["math.Float64bits"], unfollowed := true, recurses := true, loops := true, apart := false, narrowed := true }
def ValueOrdersUptoSaid : Prop := valueOrdersUptoRow.holds Try.pinned (OpenSpec.upto valueOrdersSpec)

/-- 'tenonlaw01.ValueTotal', WHERE WHAT IT READS IS OF BULK AT MOST 1048576: true; the input reads as it did. -/
def valueTotalUptoRow : OpenClaim := { program := "ythfdpaboekoncaa", sum := "7564bbd46f9b6a5afa415710e49b4ec6778fd9dce01dba717f4cdb251c5696c2", func := "tenon/tenonlaw01.ValueTotal", spec := "valueTotal", inPlace := ["math.Float64bits"], unfollowed := true, recurses := true, loops := true, apart := false, narrowed := true }
def ValueTotalUptoSaid : Prop := valueTotalUptoRow.holds Try.pinned (OpenSpec.upto valueTotalSpec)

/-- 'tenonlaw01.ValueSizes', WHERE WHAT IT READS IS OF BULK AT MOST 1048576: true; the input reads as it did. -/
def valueSizesUptoRow : OpenClaim := { program := "ythfdpaboekoncaa", sum := "7564bbd46f9b6a5afa415710e49b4ec6778fd9dce01dba717f4cdb251c5696c2", func := "tenon/tenonlaw01.ValueSizes", spec := "valueSizes", inPlace := ["math.Float64bits"], unfollowed := true, recurses := true, loops := true, apart := false, narrowed := true }
def ValueSizesUptoSaid : Prop := valueSizesUptoRow.holds Try.pinned (OpenSpec.upto valueSizesSpec)

/-- 'tenonlaw01.ValueNever', WHERE WHAT IT READS IS OF BULK AT MOST 1048576: true; the input reads as it did. -/
def valueNeverUptoRow : OpenClaim := { program := "ythfdpaboekoncaa", sum := "7564bbd46f9b6a5afa415710e49b4ec6778fd9dce01dba717f4cdb251c5696c2", func := "tenon/tenonlaw01.ValueNever", spec := "valueNever", inPlace := ["math.Float64bits"], unfollowed := true, recurses := true, loops := true, apart := false, narrowed := true }
def ValueNeverUptoSaid : Prop := valueNeverUptoRow.holds Try.pinned (OpenSpec.upto valueNeverSpec)

/-- 'tenonlaw01.ValueBack', WHERE WHAT IT READS IS OF BULK AT MOST 1048576: true; the input reads as it did. -/
def valueBackUptoRow : OpenClaim := { program := "ythfdpaboekoncaa", sum := "7564bbd46f9b6a5afa415710e49b4ec6778fd9dce01dba717f4cdb251c5696c2", func := "tenon/tenonlaw01.ValueBack", spec := "valueBack", inPlace := ["math.Float64bits"], unfollowed := true, recurses := true, loops := true, apart := false, narrowed := true }
def ValueBackUptoSaid : Prop := valueBackUptoRow.holds Try.pinned (OpenSpec.upto valueBackSpec)

end Rows
end Go.Proofs.Ythfdpaboekoncaa
