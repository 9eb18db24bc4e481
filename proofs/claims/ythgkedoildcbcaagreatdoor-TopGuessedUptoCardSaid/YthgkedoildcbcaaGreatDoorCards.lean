/-
  DERIVED. GIVEN WITH THE SEED: THE CARDS: each row of YthgkedoildcbcaaGreatDoorRows.lean that lists a variable, with what it lists TIED to the program's text (the seventh form; the later family's looks); each row that meets fmt, with fmt's text TOLD by the authors' own Lean function (tested against real Go, not proved from fmt's source: count such statements apart). THE CARD IS WHAT COUNTS. Prove the row's statement (the work); the ties are given (YthgkedoildcbcaaGreatDoorTie.lean); close each card by the builder's one call (the guide's Derived/Test/ToyasCard.lean, 'card_holds'). Laid BY PROGRAM, IN A SANDBOX (cutbox-door.mjs). By AI agents, Wed Nov 11 2026. No macro, syntax, notation, axiom, sorry.
-/
import Derived.Test.YthgkedoildcbcaaGreatDoorRows
import GoSem.ClaimSeven
namespace Go.Proofs.YthgkedoildcbcaaGreatDoor
namespace Rows

/-- THE TIED CARD OF 'scripttop.TopFound'. -/
def topFoundCard : Claim7 := { stood := { row := topFoundRow, standIns := [], harness := (true, "fd131eb6cb1b48fb582368713823c7e498d487d83e9bedefeb9dae1347e2e260"), looks := true }, kinds := [], alts := [], laidByText := true, laidKinds := [.data, .data, .data, .sentinel, .sentinel], laidTests := true, laidLooks := .later }
def TopFoundCardSaid : Prop := Claim7.holds Tryz.pinned (.plain (OpenSpec.ofChange topFoundSpec)) topFoundCard

/-- THE TIED CARD OF 'scripttop.TopGuessed'. -/
def topGuessedCard : Claim7 := { stood := { row := topGuessedRow, standIns := [], harness := (true, "fd131eb6cb1b48fb582368713823c7e498d487d83e9bedefeb9dae1347e2e260"), looks := true }, kinds := [], alts := [], laidByText := true, laidKinds := [.data, .data, .data, .sentinel, .sentinel], laidTests := true, laidLooks := .later }
def TopGuessedCardSaid : Prop := Claim7.holds Tryz.pinned (.plain (OpenSpec.ofChange topGuessedSpec)) topGuessedCard

/-- THE SECOND FORM's CARD OF 'scripttop.TopFound'. -/
def topFoundUptoCard : Claim7 := { stood := { row := topFoundUptoRow, standIns := [], harness := (true, "fd131eb6cb1b48fb582368713823c7e498d487d83e9bedefeb9dae1347e2e260"), looks := true }, kinds := [], alts := [], laidByText := true, laidKinds := [.data, .data, .data, .sentinel, .sentinel], laidTests := true, laidLooks := .later }
def TopFoundUptoCardSaid : Prop := Claim7.holds Tryz.pinned (.plain (OpenSpec.upto topFoundSpec)) topFoundUptoCard

/-- THE SECOND FORM's CARD OF 'scripttop.TopGuessed'. -/
def topGuessedUptoCard : Claim7 := { stood := { row := topGuessedUptoRow, standIns := [], harness := (true, "fd131eb6cb1b48fb582368713823c7e498d487d83e9bedefeb9dae1347e2e260"), looks := true }, kinds := [], alts := [], laidByText := true, laidKinds := [.data, .data, .data, .sentinel, .sentinel], laidTests := true, laidLooks := .later }
def TopGuessedUptoCardSaid : Prop := Claim7.holds Tryz.pinned (.plain (OpenSpec.upto topGuessedSpec)) topGuessedUptoCard
end Rows
end Go.Proofs.YthgkedoildcbcaaGreatDoor
