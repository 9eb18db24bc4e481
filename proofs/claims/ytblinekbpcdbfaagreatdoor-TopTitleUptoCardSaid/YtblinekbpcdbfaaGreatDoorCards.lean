/-
  DERIVED. GIVEN WITH THE SEED: THE CARDS: each row of YtblinekbpcdbfaaGreatDoorRows.lean that lists a variable, with what it lists TIED to the program's text (the seventh form; the later family's looks); each row that meets fmt, with fmt's text TOLD by the authors' own Lean function (tested against real Go, not proved from fmt's source: count such statements apart). THE CARD IS WHAT COUNTS. Prove the row's statement (the work); the ties are given (YtblinekbpcdbfaaGreatDoorTie.lean); close each card by the builder's one call (the guide's Derived/Test/ToyasCard.lean, 'card_holds'). Laid BY PROGRAM, IN A SANDBOX (cutbox-door.mjs). By AI agents, Wed Nov 11 2026. No macro, syntax, notation, axiom, sorry.
-/
import Derived.Test.YtblinekbpcdbfaaGreatDoorRows
import GoSem.ClaimSeven
namespace Go.Proofs.YtblinekbpcdbfaaGreatDoor
namespace Rows

/-- THE TIED CARD OF 'scripttop.TopTitle'. -/
def topTitleCard : Claim7 := { stood := { row := topTitleRow, standIns := [], harness := (true, "5d35c29f161a2a108e81efe3c591dbb294e7c3ffa9412c65fcb4b44d0abd976e"), looks := true }, kinds := [], alts := [], laidByText := true, laidKinds := [.data, .data, .data, .sentinel, .sentinel], laidTests := true, laidLooks := .later }
def TopTitleCardSaid : Prop := Claim7.holds Tryz.pinned (.plain (OpenSpec.ofChange topTitleSpec)) topTitleCard

/-- THE TIED CARD OF 'scripttop.TopForms'. -/
def topFormsCard : Claim7 := { stood := { row := topFormsRow, standIns := [], harness := (true, "5d35c29f161a2a108e81efe3c591dbb294e7c3ffa9412c65fcb4b44d0abd976e"), looks := true }, kinds := [], alts := [], laidByText := true, laidKinds := [.data, .data, .data, .sentinel, .sentinel], laidTests := true, laidLooks := .later }
def TopFormsCardSaid : Prop := Claim7.holds Tryz.pinned (.plain (OpenSpec.ofChange topFormsSpec)) topFormsCard

/-- THE SECOND FORM's CARD OF 'scripttop.TopTitle'. -/
def topTitleUptoCard : Claim7 := { stood := { row := topTitleUptoRow, standIns := [], harness := (true, "5d35c29f161a2a108e81efe3c591dbb294e7c3ffa9412c65fcb4b44d0abd976e"), looks := true }, kinds := [], alts := [], laidByText := true, laidKinds := [.data, .data, .data, .sentinel, .sentinel], laidTests := true, laidLooks := .later }
def TopTitleUptoCardSaid : Prop := Claim7.holds Tryz.pinned (.plain (OpenSpec.upto topTitleSpec)) topTitleUptoCard

/-- THE SECOND FORM's CARD OF 'scripttop.TopForms'. -/
def topFormsUptoCard : Claim7 := { stood := { row := topFormsUptoRow, standIns := [], harness := (true, "5d35c29f161a2a108e81efe3c591dbb294e7c3ffa9412c65fcb4b44d0abd976e"), looks := true }, kinds := [], alts := [], laidByText := true, laidKinds := [.data, .data, .data, .sentinel, .sentinel], laidTests := true, laidLooks := .later }
def TopFormsUptoCardSaid : Prop := Claim7.holds Tryz.pinned (.plain (OpenSpec.upto topFormsSpec)) topFormsUptoCard
end Rows
end Go.Proofs.YtblinekbpcdbfaaGreatDoor
