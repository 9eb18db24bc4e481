/-
  DERIVED. GIVEN WITH THE SEED: THE CARDS: each row of YtmpdanibbbjehaaDoorRows.lean that lists a variable, with what it lists TIED to the program's text (the seventh form; the later family's looks); each row that meets fmt, with fmt's text TOLD by the authors' own Lean function (tested against real Go, not proved from fmt's source: count such statements apart). THE CARD IS WHAT COUNTS. Prove the row's statement (the work); the ties are given (YtmpdanibbbjehaaDoorTie.lean); close each card by the builder's one call (the guide's Derived/Test/ToyasCard.lean, 'card_holds'). Laid BY PROGRAM, IN A SANDBOX (cutbox-door.mjs). By AI agents, Wed Nov 11 2026. No macro, syntax, notation, axiom, sorry.
-/
import Derived.Test.YtmpdanibbbjehaaDoorRows
import GoSem.ClaimSeven
namespace Go.Proofs.YtmpdanibbbjehaaDoor
namespace Rows

/-- THE TIED CARD OF 'scriptlaw3.SetsynPrints'. -/
def setsynPrintsCard : Claim7 := { stood := { row := setsynPrintsRow, standIns := [], harness := (true, "21845caea7d30cd3de077b92c60733eb97acf71e16a6dea3b146139262488002"), looks := false }, kinds := [], alts := [], laidByText := true, laidKinds := [.data, .data, .data], laidTests := true, laidLooks := .later }
def SetsynPrintsCardSaid : Prop := Claim7.holds Tryd.pinned (.plain (OpenSpec.ofChange setsynPrintsSpec)) setsynPrintsCard

/-- THE SECOND FORM's CARD OF 'scriptlaw3.SetsynPrints'. -/
def setsynPrintsUptoCard : Claim7 := { stood := { row := setsynPrintsUptoRow, standIns := [], harness := (true, "21845caea7d30cd3de077b92c60733eb97acf71e16a6dea3b146139262488002"), looks := false }, kinds := [], alts := [], laidByText := true, laidKinds := [.data, .data, .data], laidTests := true, laidLooks := .later }
def SetsynPrintsUptoCardSaid : Prop := Claim7.holds Tryd.pinned (.plain (OpenSpec.upto setsynPrintsSpec)) setsynPrintsUptoCard
end Rows
end Go.Proofs.YtmpdanibbbjehaaDoor
