/-
  DERIVED. GIVEN WITH THE SEED: THE CARDS: each row of YthgkgcdnidkckaaDoorRows.lean that lists a variable, with what it lists TIED to the program's text (the seventh form; the later family's looks); each row that meets fmt, with fmt's text TOLD by the authors' own Lean function (tested against real Go, not proved from fmt's source: count such statements apart). THE CARD IS WHAT COUNTS. Prove the row's statement (the work); the ties are given (YthgkgcdnidkckaaDoorTie.lean); close each card by the builder's one call (the guide's Derived/Test/ToyasCard.lean, 'card_holds'). Laid BY PROGRAM, IN A SANDBOX (cutbox-door.mjs). By AI agents, Wed Nov 11 2026. No macro, syntax, notation, axiom, sorry.
-/
import Derived.Test.YthgkgcdnidkckaaDoorRows
import GoSem.ClaimSeven
namespace Go.Proofs.YthgkgcdnidkckaaDoor
namespace Rows

/-- THE TIED CARD OF 'scriptlaw1.RunesJoin'. -/
def runesJoinCard : Claim7 := { stood := { row := runesJoinRow, standIns := [], harness := (true, "cb272760e3da293a8bc67c621b40f6a4270b7a8fe82273da26cca71f1fa30c28"), looks := false }, kinds := [], alts := [], laidByText := true, laidKinds := [.data, .pinned], laidTests := true, laidLooks := .later }
def RunesJoinCardSaid : Prop := Claim7.holds Tryd.pinned (.plain (OpenSpec.ofChange runesJoinSpec)) runesJoinCard

/-- THE TIED CARD OF 'scriptlaw1.RunesTurn'. -/
def runesTurnCard : Claim7 := { stood := { row := runesTurnRow, standIns := [], harness := (true, "cb272760e3da293a8bc67c621b40f6a4270b7a8fe82273da26cca71f1fa30c28"), looks := false }, kinds := [], alts := [], laidByText := true, laidKinds := [.data, .pinned], laidTests := true, laidLooks := .later }
def RunesTurnCardSaid : Prop := Claim7.holds Tryd.pinned (.plain (OpenSpec.ofChange runesTurnSpec)) runesTurnCard

/-- THE TIED CARD OF 'scriptlaw1.RunesTell'. -/
def runesTellCard : Claim7 := { stood := { row := runesTellRow, standIns := [], harness := (true, "cb272760e3da293a8bc67c621b40f6a4270b7a8fe82273da26cca71f1fa30c28"), looks := false }, kinds := [], alts := [], laidByText := true, laidKinds := [.data, .pinned], laidTests := true, laidLooks := .later }
def RunesTellCardSaid : Prop := Claim7.holds Tryd.pinned (.plain (OpenSpec.ofChange runesTellSpec)) runesTellCard

/-- THE SECOND FORM's CARD OF 'scriptlaw1.RunesJoin'. -/
def runesJoinUptoCard : Claim7 := { stood := { row := runesJoinUptoRow, standIns := [], harness := (true, "cb272760e3da293a8bc67c621b40f6a4270b7a8fe82273da26cca71f1fa30c28"), looks := false }, kinds := [], alts := [], laidByText := true, laidKinds := [.data, .pinned], laidTests := true, laidLooks := .later }
def RunesJoinUptoCardSaid : Prop := Claim7.holds Tryd.pinned (.plain (OpenSpec.upto runesJoinSpec)) runesJoinUptoCard

/-- THE SECOND FORM's CARD OF 'scriptlaw1.RunesTurn'. -/
def runesTurnUptoCard : Claim7 := { stood := { row := runesTurnUptoRow, standIns := [], harness := (true, "cb272760e3da293a8bc67c621b40f6a4270b7a8fe82273da26cca71f1fa30c28"), looks := false }, kinds := [], alts := [], laidByText := true, laidKinds := [.data, .pinned], laidTests := true, laidLooks := .later }
def RunesTurnUptoCardSaid : Prop := Claim7.holds Tryd.pinned (.plain (OpenSpec.upto runesTurnSpec)) runesTurnUptoCard

/-- THE SECOND FORM's CARD OF 'scriptlaw1.RunesTell'. -/
def runesTellUptoCard : Claim7 := { stood := { row := runesTellUptoRow, standIns := [], harness := (true, "cb272760e3da293a8bc67c621b40f6a4270b7a8fe82273da26cca71f1fa30c28"), looks := false }, kinds := [], alts := [], laidByText := true, laidKinds := [.data, .pinned], laidTests := true, laidLooks := .later }
def RunesTellUptoCardSaid : Prop := Claim7.holds Tryd.pinned (.plain (OpenSpec.upto runesTellSpec)) runesTellUptoCard
end Rows
end Go.Proofs.YthgkgcdnidkckaaDoor
