/-
  DERIVED. GIVEN WITH THE SEED: THE CARDS: each row of YtkggjgeihhialaaGreatDoorRows.lean that lists a variable, with what it lists TIED to the program's text (the seventh form; the later family's looks); each row that meets fmt, with fmt's text TOLD by the authors' own Lean function (tested against real Go, not proved from fmt's source: count such statements apart). THE CARD IS WHAT COUNTS. Prove the row's statement (the work); the ties are given (YtkggjgeihhialaaGreatDoorTie.lean); close each card by the builder's one call (the guide's Derived/Test/ToyasCard.lean, 'card_holds'). Laid BY PROGRAM, IN A SANDBOX (cutbox-door.mjs). By AI agents, Wed Nov 11 2026. No macro, syntax, notation, axiom, sorry.
-/
import Derived.Test.YtkggjgeihhialaaGreatDoorRows
import GoSem.ClaimSeven
namespace Go.Proofs.YtkggjgeihhialaaGreatDoor
namespace Rows

/-- THE TIED CARD OF 'scripttop.TopStream'. -/
def topStreamCard : Claim7 := { stood := { row := topStreamRow, standIns := [], harness := (true, "e131744e2840208b2f60c090b499458b3b9c7eb94d38ec9c64a4d62582ae2209"), looks := true }, kinds := [], alts := [], laidByText := true, laidKinds := [.data, .data, .data, .sentinel, .sentinel], laidTests := true, laidLooks := .later }
def TopStreamCardSaid : Prop := Claim7.holds Tryz.pinned (.plain (OpenSpec.ofChange topStreamSpec)) topStreamCard

/-- THE TIED CARD OF 'scripttop.TopUndone'. -/
def topUndoneCard : Claim7 := { stood := { row := topUndoneRow, standIns := [], harness := (true, "e131744e2840208b2f60c090b499458b3b9c7eb94d38ec9c64a4d62582ae2209"), looks := true }, kinds := [], alts := [], laidByText := true, laidKinds := [.data, .data, .data, .sentinel, .sentinel], laidTests := true, laidLooks := .later }
def TopUndoneCardSaid : Prop := Claim7.holds Tryz.pinned (.plain (OpenSpec.ofChange topUndoneSpec)) topUndoneCard

/-- THE SECOND FORM's CARD OF 'scripttop.TopStream'. -/
def topStreamUptoCard : Claim7 := { stood := { row := topStreamUptoRow, standIns := [], harness := (true, "e131744e2840208b2f60c090b499458b3b9c7eb94d38ec9c64a4d62582ae2209"), looks := true }, kinds := [], alts := [], laidByText := true, laidKinds := [.data, .data, .data, .sentinel, .sentinel], laidTests := true, laidLooks := .later }
def TopStreamUptoCardSaid : Prop := Claim7.holds Tryz.pinned (.plain (OpenSpec.upto topStreamSpec)) topStreamUptoCard

/-- THE SECOND FORM's CARD OF 'scripttop.TopUndone'. -/
def topUndoneUptoCard : Claim7 := { stood := { row := topUndoneUptoRow, standIns := [], harness := (true, "e131744e2840208b2f60c090b499458b3b9c7eb94d38ec9c64a4d62582ae2209"), looks := true }, kinds := [], alts := [], laidByText := true, laidKinds := [.data, .data, .data, .sentinel, .sentinel], laidTests := true, laidLooks := .later }
def TopUndoneUptoCardSaid : Prop := Claim7.holds Tryz.pinned (.plain (OpenSpec.upto topUndoneSpec)) topUndoneUptoCard
end Rows
end Go.Proofs.YtkggjgeihhialaaGreatDoor
