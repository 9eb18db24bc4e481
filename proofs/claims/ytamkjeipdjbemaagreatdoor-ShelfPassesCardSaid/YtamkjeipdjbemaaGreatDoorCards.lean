/-
  DERIVED. GIVEN WITH THE SEED: THE CARDS: each row of YtamkjeipdjbemaaGreatDoorRows.lean that lists a variable, with what it lists TIED to the program's text (the seventh form; the later family's looks); each row that meets fmt, with fmt's text TOLD by the authors' own Lean function (tested against real Go, not proved from fmt's source: count such statements apart). THE CARD IS WHAT COUNTS. Prove the row's statement (the work); the ties are given (YtamkjeipdjbemaaGreatDoorTie.lean); close each card by the builder's one call (the guide's Derived/Test/ToyasCard.lean, 'card_holds'). Laid BY PROGRAM, IN A SANDBOX (cutbox-door.mjs). By AI agents, Wed Nov 11 2026. No macro, syntax, notation, axiom, sorry.
-/
import Derived.Test.YtamkjeipdjbemaaGreatDoorRows
import GoSem.ClaimSeven
namespace Go.Proofs.YtamkjeipdjbemaaGreatDoor
namespace Rows

/-- THE TIED CARD OF 'scriptlaw16.ShelfPasses'. -/
def shelfPassesCard : Claim7 := { stood := { row := shelfPassesRow, standIns := [], harness := (true, "846c268c5a3817221f9d12cc269f61ac44b9a3e8bfa3007caf6867173f0c4daf"), looks := true }, kinds := [], alts := [], laidByText := true, laidKinds := [.data, .data, .data, .sentinel, .sentinel], laidTests := true, laidLooks := .later }
def ShelfPassesCardSaid : Prop := Claim7.holds Tryz.pinned (.plain (OpenSpec.ofChange shelfPassesSpec)) shelfPassesCard

/-- THE SECOND FORM's CARD OF 'scriptlaw16.ShelfPasses'. -/
def shelfPassesUptoCard : Claim7 := { stood := { row := shelfPassesUptoRow, standIns := [], harness := (true, "846c268c5a3817221f9d12cc269f61ac44b9a3e8bfa3007caf6867173f0c4daf"), looks := true }, kinds := [], alts := [], laidByText := true, laidKinds := [.data, .data, .data, .sentinel, .sentinel], laidTests := true, laidLooks := .later }
def ShelfPassesUptoCardSaid : Prop := Claim7.holds Tryz.pinned (.plain (OpenSpec.upto shelfPassesSpec)) shelfPassesUptoCard
end Rows
end Go.Proofs.YtamkjeipdjbemaaGreatDoor
