/-
  DERIVED. GIVEN WITH THE SEED: THE CARDS: each row of YthidgpcbnieleaaGreatDoorRows.lean that lists a variable, with what it lists TIED to the program's text (the seventh form; the later family's looks); each row that meets fmt, with fmt's text TOLD by the authors' own Lean function (tested against real Go, not proved from fmt's source: count such statements apart). THE CARD IS WHAT COUNTS. Prove the row's statement (the work); the ties are given (YthidgpcbnieleaaGreatDoorTie.lean); close each card by the builder's one call (the guide's Derived/Test/ToyasCard.lean, 'card_holds'). Laid BY PROGRAM, IN A SANDBOX (cutbox-door.mjs). By AI agents, Wed Nov 11 2026. No macro, syntax, notation, axiom, sorry.
-/
import Derived.Test.YthidgpcbnieleaaGreatDoorRows
import GoSem.ClaimSeven
namespace Go.Proofs.YthidgpcbnieleaaGreatDoor
namespace Rows

/-- THE TIED CARD OF 'tenonlaw04.PathPut'. -/
def pathPutCard : Claim7 := { stood := { row := pathPutRow, standIns := [], harness := (true, "87e58bb0e4c6a5875c5de5072f8354822cccea58bfb2eaa95f39cf575e827721"), looks := true }, kinds := [], alts := [], laidByText := true, laidKinds := [.data, .data, .data, .sentinel, .sentinel], laidTests := true, laidLooks := .later }
def PathPutCardSaid : Prop := Claim7.holds Tryz.pinned (.plain (OpenSpec.ofChange pathPutSpec)) pathPutCard

/-- THE TIED CARD OF 'tenonlaw04.PathBack'. -/
def pathBackCard : Claim7 := { stood := { row := pathBackRow, standIns := [], harness := (true, "87e58bb0e4c6a5875c5de5072f8354822cccea58bfb2eaa95f39cf575e827721"), looks := true }, kinds := [], alts := [], laidByText := true, laidKinds := [.data, .data, .data, .sentinel, .sentinel], laidTests := true, laidLooks := .later }
def PathBackCardSaid : Prop := Claim7.holds Tryz.pinned (.plain (OpenSpec.ofChange pathBackSpec)) pathBackCard

/-- THE TIED CARD OF 'tenonlaw04.PathEdits'. -/
def pathEditsCard : Claim7 := { stood := { row := pathEditsRow, standIns := [], harness := (true, "87e58bb0e4c6a5875c5de5072f8354822cccea58bfb2eaa95f39cf575e827721"), looks := true }, kinds := [], alts := [], laidByText := true, laidKinds := [.data, .data, .data, .sentinel, .sentinel], laidTests := true, laidLooks := .later }
def PathEditsCardSaid : Prop := Claim7.holds Tryz.pinned (.plain (OpenSpec.ofChange pathEditsSpec)) pathEditsCard

/-- THE TIED CARD OF 'tenonlaw04.PathThere'. -/
def pathThereCard : Claim7 := { stood := { row := pathThereRow, standIns := [], harness := (true, "87e58bb0e4c6a5875c5de5072f8354822cccea58bfb2eaa95f39cf575e827721"), looks := true }, kinds := [], alts := [], laidByText := true, laidKinds := [.data, .data, .data, .sentinel, .sentinel], laidTests := true, laidLooks := .later }
def PathThereCardSaid : Prop := Claim7.holds Tryz.pinned (.plain (OpenSpec.ofChange pathThereSpec)) pathThereCard

/-- THE TIED CARD OF 'tenonlaw04.PathAll'. -/
def pathAllCard : Claim7 := { stood := { row := pathAllRow, standIns := [], harness := (true, "87e58bb0e4c6a5875c5de5072f8354822cccea58bfb2eaa95f39cf575e827721"), looks := true }, kinds := [], alts := [], laidByText := true, laidKinds := [.data, .data, .data, .sentinel, .sentinel], laidTests := true, laidLooks := .later }
def PathAllCardSaid : Prop := Claim7.holds Tryz.pinned (.plain (OpenSpec.ofChange pathAllSpec)) pathAllCard

/-- THE SECOND FORM's CARD OF 'tenonlaw04.PathPut'. -/
def pathPutUptoCard : Claim7 := { stood := { row := pathPutUptoRow, standIns := [], harness := (true, "87e58bb0e4c6a5875c5de5072f8354822cccea58bfb2eaa95f39cf575e827721"), looks := true }, kinds := [], alts := [], laidByText := true, laidKinds := [.data, .data, .data, .sentinel, .sentinel], laidTests := true, laidLooks := .later }
def PathPutUptoCardSaid : Prop := Claim7.holds Tryz.pinned (.plain (OpenSpec.upto pathPutSpec)) pathPutUptoCard

/-- THE SECOND FORM's CARD OF 'tenonlaw04.PathBack'. -/
def pathBackUptoCard : Claim7 := { stood := { row := pathBackUptoRow, standIns := [], harness := (true, "87e58bb0e4c6a5875c5de5072f8354822cccea58bfb2eaa95f39cf575e827721"), looks := true }, kinds := [], alts := [], laidByText := true, laidKinds := [.data, .data, .data, .sentinel, .sentinel], laidTests := true, laidLooks := .later }
def PathBackUptoCardSaid : Prop := Claim7.holds Tryz.pinned (.plain (OpenSpec.upto pathBackSpec)) pathBackUptoCard

/-- THE SECOND FORM's CARD OF 'tenonlaw04.PathEdits'. -/
def pathEditsUptoCard : Claim7 := { stood := { row := pathEditsUptoRow, standIns := [], harness := (true, "87e58bb0e4c6a5875c5de5072f8354822cccea58bfb2eaa95f39cf575e827721"), looks := true }, kinds := [], alts := [], laidByText := true, laidKinds := [.data, .data, .data, .sentinel, .sentinel], laidTests := true, laidLooks := .later }
def PathEditsUptoCardSaid : Prop := Claim7.holds Tryz.pinned (.plain (OpenSpec.upto pathEditsSpec)) pathEditsUptoCard

/-- THE SECOND FORM's CARD OF 'tenonlaw04.PathThere'. -/
def pathThereUptoCard : Claim7 := { stood := { row := pathThereUptoRow, standIns := [], harness := (true, "87e58bb0e4c6a5875c5de5072f8354822cccea58bfb2eaa95f39cf575e827721"), looks := true }, kinds := [], alts := [], laidByText := true, laidKinds := [.data, .data, .data, .sentinel, .sentinel], laidTests := true, laidLooks := .later }
def PathThereUptoCardSaid : Prop := Claim7.holds Tryz.pinned (.plain (OpenSpec.upto pathThereSpec)) pathThereUptoCard

/-- THE SECOND FORM's CARD OF 'tenonlaw04.PathAll'. -/
def pathAllUptoCard : Claim7 := { stood := { row := pathAllUptoRow, standIns := [], harness := (true, "87e58bb0e4c6a5875c5de5072f8354822cccea58bfb2eaa95f39cf575e827721"), looks := true }, kinds := [], alts := [], laidByText := true, laidKinds := [.data, .data, .data, .sentinel, .sentinel], laidTests := true, laidLooks := .later }
def PathAllUptoCardSaid : Prop := Claim7.holds Tryz.pinned (.plain (OpenSpec.upto pathAllSpec)) pathAllUptoCard
end Rows
end Go.Proofs.YthidgpcbnieleaaGreatDoor
