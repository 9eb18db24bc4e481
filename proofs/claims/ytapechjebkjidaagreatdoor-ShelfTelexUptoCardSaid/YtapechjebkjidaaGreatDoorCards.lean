/-
  DERIVED. GIVEN WITH THE SEED: THE CARDS: each row of YtapechjebkjidaaGreatDoorRows.lean that lists a variable, with what it lists TIED to the program's text (the seventh form; the later family's looks); each row that meets fmt, with fmt's text TOLD by the authors' own Lean function (tested against real Go, not proved from fmt's source: count such statements apart). THE CARD IS WHAT COUNTS. Prove the row's statement (the work); the ties are given (YtapechjebkjidaaGreatDoorTie.lean); close each card by the builder's one call (the guide's Derived/Test/ToyasCard.lean, 'card_holds'). Laid BY PROGRAM, IN A SANDBOX (cutbox-door.mjs). By AI agents, Wed Nov 11 2026. No macro, syntax, notation, axiom, sorry.
-/
import Derived.Test.YtapechjebkjidaaGreatDoorRows
import GoSem.ClaimSeven
namespace Go.Proofs.YtapechjebkjidaaGreatDoor
namespace Rows

/-- THE TIED CARD OF 'scriptlaw16.ShelfGerman'. -/
def shelfGermanCard : Claim7 := { stood := { row := shelfGermanRow, standIns := [], harness := (true, "87e947b4b221674d1c6a458e09a7cf1dbadea0b8b6bbdf893f75e391e4d144d4"), looks := true }, kinds := [], alts := [], laidByText := true, laidKinds := [.data, .data, .data, .sentinel, .sentinel], laidTests := true, laidLooks := .later }
def ShelfGermanCardSaid : Prop := Claim7.holds Tryz.pinned (.plain (OpenSpec.ofChange shelfGermanSpec)) shelfGermanCard

/-- THE TIED CARD OF 'scriptlaw16.ShelfLeet'. -/
def shelfLeetCard : Claim7 := { stood := { row := shelfLeetRow, standIns := [], harness := (true, "87e947b4b221674d1c6a458e09a7cf1dbadea0b8b6bbdf893f75e391e4d144d4"), looks := true }, kinds := [], alts := [], laidByText := true, laidKinds := [.data, .data, .data, .sentinel, .sentinel], laidTests := true, laidLooks := .later }
def ShelfLeetCardSaid : Prop := Claim7.holds Tryz.pinned (.plain (OpenSpec.ofChange shelfLeetSpec)) shelfLeetCard

/-- THE TIED CARD OF 'scriptlaw16.ShelfBlanks'. -/
def shelfBlanksCard : Claim7 := { stood := { row := shelfBlanksRow, standIns := [], harness := (true, "87e947b4b221674d1c6a458e09a7cf1dbadea0b8b6bbdf893f75e391e4d144d4"), looks := true }, kinds := [], alts := [], laidByText := true, laidKinds := [.data, .data, .data, .sentinel, .sentinel], laidTests := true, laidLooks := .later }
def ShelfBlanksCardSaid : Prop := Claim7.holds Tryz.pinned (.plain (OpenSpec.ofChange shelfBlanksSpec)) shelfBlanksCard

/-- THE TIED CARD OF 'scriptlaw16.ShelfEdges'. -/
def shelfEdgesCard : Claim7 := { stood := { row := shelfEdgesRow, standIns := [], harness := (true, "87e947b4b221674d1c6a458e09a7cf1dbadea0b8b6bbdf893f75e391e4d144d4"), looks := true }, kinds := [], alts := [], laidByText := true, laidKinds := [.data, .data, .data, .sentinel, .sentinel], laidTests := true, laidLooks := .later }
def ShelfEdgesCardSaid : Prop := Claim7.holds Tryz.pinned (.plain (OpenSpec.ofChange shelfEdgesSpec)) shelfEdgesCard

/-- THE TIED CARD OF 'scriptlaw16.ShelfSigma'. -/
def shelfSigmaCard : Claim7 := { stood := { row := shelfSigmaRow, standIns := [], harness := (true, "87e947b4b221674d1c6a458e09a7cf1dbadea0b8b6bbdf893f75e391e4d144d4"), looks := true }, kinds := [], alts := [], laidByText := true, laidKinds := [.data, .data, .data, .sentinel, .sentinel], laidTests := true, laidLooks := .later }
def ShelfSigmaCardSaid : Prop := Claim7.holds Tryz.pinned (.plain (OpenSpec.ofChange shelfSigmaSpec)) shelfSigmaCard

/-- THE TIED CARD OF 'scriptlaw16.ShelfSqueeze'. -/
def shelfSqueezeCard : Claim7 := { stood := { row := shelfSqueezeRow, standIns := [], harness := (true, "87e947b4b221674d1c6a458e09a7cf1dbadea0b8b6bbdf893f75e391e4d144d4"), looks := true }, kinds := [], alts := [], laidByText := true, laidKinds := [.data, .data, .data, .sentinel, .sentinel], laidTests := true, laidLooks := .later }
def ShelfSqueezeCardSaid : Prop := Claim7.holds Tryz.pinned (.plain (OpenSpec.ofChange shelfSqueezeSpec)) shelfSqueezeCard

/-- THE TIED CARD OF 'scriptlaw16.ShelfSigns'. -/
def shelfSignsCard : Claim7 := { stood := { row := shelfSignsRow, standIns := [], harness := (true, "87e947b4b221674d1c6a458e09a7cf1dbadea0b8b6bbdf893f75e391e4d144d4"), looks := true }, kinds := [], alts := [], laidByText := true, laidKinds := [.data, .data, .data, .sentinel, .sentinel], laidTests := true, laidLooks := .later }
def ShelfSignsCardSaid : Prop := Claim7.holds Tryz.pinned (.plain (OpenSpec.ofChange shelfSignsSpec)) shelfSignsCard

/-- THE TIED CARD OF 'scriptlaw16.ShelfTelex'. -/
def shelfTelexCard : Claim7 := { stood := { row := shelfTelexRow, standIns := [], harness := (true, "87e947b4b221674d1c6a458e09a7cf1dbadea0b8b6bbdf893f75e391e4d144d4"), looks := true }, kinds := [], alts := [], laidByText := true, laidKinds := [.data, .data, .data, .sentinel, .sentinel], laidTests := true, laidLooks := .later }
def ShelfTelexCardSaid : Prop := Claim7.holds Tryz.pinned (.plain (OpenSpec.ofChange shelfTelexSpec)) shelfTelexCard

/-- THE TIED CARD OF 'scriptlaw16.ShelfDots'. -/
def shelfDotsCard : Claim7 := { stood := { row := shelfDotsRow, standIns := [], harness := (true, "87e947b4b221674d1c6a458e09a7cf1dbadea0b8b6bbdf893f75e391e4d144d4"), looks := true }, kinds := [], alts := [], laidByText := true, laidKinds := [.data, .data, .data, .sentinel, .sentinel], laidTests := true, laidLooks := .later }
def ShelfDotsCardSaid : Prop := Claim7.holds Tryz.pinned (.plain (OpenSpec.ofChange shelfDotsSpec)) shelfDotsCard

/-- THE TIED CARD OF 'scriptlaw16.ShelfQuotes'. -/
def shelfQuotesCard : Claim7 := { stood := { row := shelfQuotesRow, standIns := [], harness := (true, "87e947b4b221674d1c6a458e09a7cf1dbadea0b8b6bbdf893f75e391e4d144d4"), looks := true }, kinds := [], alts := [], laidByText := true, laidKinds := [.data, .data, .data, .sentinel, .sentinel], laidTests := true, laidLooks := .later }
def ShelfQuotesCardSaid : Prop := Claim7.holds Tryz.pinned (.plain (OpenSpec.ofChange shelfQuotesSpec)) shelfQuotesCard

/-- THE TIED CARD OF 'scriptlaw16.ShelfRovar'. -/
def shelfRovarCard : Claim7 := { stood := { row := shelfRovarRow, standIns := [], harness := (true, "87e947b4b221674d1c6a458e09a7cf1dbadea0b8b6bbdf893f75e391e4d144d4"), looks := true }, kinds := [], alts := [], laidByText := true, laidKinds := [.data, .data, .data, .sentinel, .sentinel], laidTests := true, laidLooks := .later }
def ShelfRovarCardSaid : Prop := Claim7.holds Tryz.pinned (.plain (OpenSpec.ofChange shelfRovarSpec)) shelfRovarCard

/-- THE TIED CARD OF 'scriptlaw16.ShelfVowels'. -/
def shelfVowelsCard : Claim7 := { stood := { row := shelfVowelsRow, standIns := [], harness := (true, "87e947b4b221674d1c6a458e09a7cf1dbadea0b8b6bbdf893f75e391e4d144d4"), looks := true }, kinds := [], alts := [], laidByText := true, laidKinds := [.data, .data, .data, .sentinel, .sentinel], laidTests := true, laidLooks := .later }
def ShelfVowelsCardSaid : Prop := Claim7.holds Tryz.pinned (.plain (OpenSpec.ofChange shelfVowelsSpec)) shelfVowelsCard

/-- THE TIED CARD OF 'scriptlaw16.ShelfMorse'. -/
def shelfMorseCard : Claim7 := { stood := { row := shelfMorseRow, standIns := [], harness := (true, "87e947b4b221674d1c6a458e09a7cf1dbadea0b8b6bbdf893f75e391e4d144d4"), looks := true }, kinds := [], alts := [], laidByText := true, laidKinds := [.data, .data, .data, .sentinel, .sentinel], laidTests := true, laidLooks := .later }
def ShelfMorseCardSaid : Prop := Claim7.holds Tryz.pinned (.plain (OpenSpec.ofChange shelfMorseSpec)) shelfMorseCard

/-- THE SECOND FORM's CARD OF 'scriptlaw16.ShelfGerman'. -/
def shelfGermanUptoCard : Claim7 := { stood := { row := shelfGermanUptoRow, standIns := [], harness := (true, "87e947b4b221674d1c6a458e09a7cf1dbadea0b8b6bbdf893f75e391e4d144d4"), looks := true }, kinds := [], alts := [], laidByText := true, laidKinds := [.data, .data, .data, .sentinel, .sentinel], laidTests := true, laidLooks := .later }
def ShelfGermanUptoCardSaid : Prop := Claim7.holds Tryz.pinned (.plain (OpenSpec.upto shelfGermanSpec)) shelfGermanUptoCard

/-- THE SECOND FORM's CARD OF 'scriptlaw16.ShelfLeet'. -/
def shelfLeetUptoCard : Claim7 := { stood := { row := shelfLeetUptoRow, standIns := [], harness := (true, "87e947b4b221674d1c6a458e09a7cf1dbadea0b8b6bbdf893f75e391e4d144d4"), looks := true }, kinds := [], alts := [], laidByText := true, laidKinds := [.data, .data, .data, .sentinel, .sentinel], laidTests := true, laidLooks := .later }
def ShelfLeetUptoCardSaid : Prop := Claim7.holds Tryz.pinned (.plain (OpenSpec.upto shelfLeetSpec)) shelfLeetUptoCard

/-- THE SECOND FORM's CARD OF 'scriptlaw16.ShelfBlanks'. -/
def shelfBlanksUptoCard : Claim7 := { stood := { row := shelfBlanksUptoRow, standIns := [], harness := (true, "87e947b4b221674d1c6a458e09a7cf1dbadea0b8b6bbdf893f75e391e4d144d4"), looks := true }, kinds := [], alts := [], laidByText := true, laidKinds := [.data, .data, .data, .sentinel, .sentinel], laidTests := true, laidLooks := .later }
def ShelfBlanksUptoCardSaid : Prop := Claim7.holds Tryz.pinned (.plain (OpenSpec.upto shelfBlanksSpec)) shelfBlanksUptoCard

/-- THE SECOND FORM's CARD OF 'scriptlaw16.ShelfEdges'. -/
def shelfEdgesUptoCard : Claim7 := { stood := { row := shelfEdgesUptoRow, standIns := [], harness := (true, "87e947b4b221674d1c6a458e09a7cf1dbadea0b8b6bbdf893f75e391e4d144d4"), looks := true }, kinds := [], alts := [], laidByText := true, laidKinds := [.data, .data, .data, .sentinel, .sentinel], laidTests := true, laidLooks := .later }
def ShelfEdgesUptoCardSaid : Prop := Claim7.holds Tryz.pinned (.plain (OpenSpec.upto shelfEdgesSpec)) shelfEdgesUptoCard

/-- THE SECOND FORM's CARD OF 'scriptlaw16.ShelfSigma'. -/
def shelfSigmaUptoCard : Claim7 := { stood := { row := shelfSigmaUptoRow, standIns := [], harness := (true, "87e947b4b221674d1c6a458e09a7cf1dbadea0b8b6bbdf893f75e391e4d144d4"), looks := true }, kinds := [], alts := [], laidByText := true, laidKinds := [.data, .data, .data, .sentinel, .sentinel], laidTests := true, laidLooks := .later }
def ShelfSigmaUptoCardSaid : Prop := Claim7.holds Tryz.pinned (.plain (OpenSpec.upto shelfSigmaSpec)) shelfSigmaUptoCard

/-- THE SECOND FORM's CARD OF 'scriptlaw16.ShelfSqueeze'. -/
def shelfSqueezeUptoCard : Claim7 := { stood := { row := shelfSqueezeUptoRow, standIns := [], harness := (true, "87e947b4b221674d1c6a458e09a7cf1dbadea0b8b6bbdf893f75e391e4d144d4"), looks := true }, kinds := [], alts := [], laidByText := true, laidKinds := [.data, .data, .data, .sentinel, .sentinel], laidTests := true, laidLooks := .later }
def ShelfSqueezeUptoCardSaid : Prop := Claim7.holds Tryz.pinned (.plain (OpenSpec.upto shelfSqueezeSpec)) shelfSqueezeUptoCard

/-- THE SECOND FORM's CARD OF 'scriptlaw16.ShelfSigns'. -/
def shelfSignsUptoCard : Claim7 := { stood := { row := shelfSignsUptoRow, standIns := [], harness := (true, "87e947b4b221674d1c6a458e09a7cf1dbadea0b8b6bbdf893f75e391e4d144d4"), looks := true }, kinds := [], alts := [], laidByText := true, laidKinds := [.data, .data, .data, .sentinel, .sentinel], laidTests := true, laidLooks := .later }
def ShelfSignsUptoCardSaid : Prop := Claim7.holds Tryz.pinned (.plain (OpenSpec.upto shelfSignsSpec)) shelfSignsUptoCard

/-- THE SECOND FORM's CARD OF 'scriptlaw16.ShelfTelex'. -/
def shelfTelexUptoCard : Claim7 := { stood := { row := shelfTelexUptoRow, standIns := [], harness := (true, "87e947b4b221674d1c6a458e09a7cf1dbadea0b8b6bbdf893f75e391e4d144d4"), looks := true }, kinds := [], alts := [], laidByText := true, laidKinds := [.data, .data, .data, .sentinel, .sentinel], laidTests := true, laidLooks := .later }
def ShelfTelexUptoCardSaid : Prop := Claim7.holds Tryz.pinned (.plain (OpenSpec.upto shelfTelexSpec)) shelfTelexUptoCard

/-- THE SECOND FORM's CARD OF 'scriptlaw16.ShelfDots'. -/
def shelfDotsUptoCard : Claim7 := { stood := { row := shelfDotsUptoRow, standIns := [], harness := (true, "87e947b4b221674d1c6a458e09a7cf1dbadea0b8b6bbdf893f75e391e4d144d4"), looks := true }, kinds := [], alts := [], laidByText := true, laidKinds := [.data, .data, .data, .sentinel, .sentinel], laidTests := true, laidLooks := .later }
def ShelfDotsUptoCardSaid : Prop := Claim7.holds Tryz.pinned (.plain (OpenSpec.upto shelfDotsSpec)) shelfDotsUptoCard

/-- THE SECOND FORM's CARD OF 'scriptlaw16.ShelfQuotes'. -/
def shelfQuotesUptoCard : Claim7 := { stood := { row := shelfQuotesUptoRow, standIns := [], harness := (true, "87e947b4b221674d1c6a458e09a7cf1dbadea0b8b6bbdf893f75e391e4d144d4"), looks := true }, kinds := [], alts := [], laidByText := true, laidKinds := [.data, .data, .data, .sentinel, .sentinel], laidTests := true, laidLooks := .later }
def ShelfQuotesUptoCardSaid : Prop := Claim7.holds Tryz.pinned (.plain (OpenSpec.upto shelfQuotesSpec)) shelfQuotesUptoCard

/-- THE SECOND FORM's CARD OF 'scriptlaw16.ShelfRovar'. -/
def shelfRovarUptoCard : Claim7 := { stood := { row := shelfRovarUptoRow, standIns := [], harness := (true, "87e947b4b221674d1c6a458e09a7cf1dbadea0b8b6bbdf893f75e391e4d144d4"), looks := true }, kinds := [], alts := [], laidByText := true, laidKinds := [.data, .data, .data, .sentinel, .sentinel], laidTests := true, laidLooks := .later }
def ShelfRovarUptoCardSaid : Prop := Claim7.holds Tryz.pinned (.plain (OpenSpec.upto shelfRovarSpec)) shelfRovarUptoCard

/-- THE SECOND FORM's CARD OF 'scriptlaw16.ShelfVowels'. -/
def shelfVowelsUptoCard : Claim7 := { stood := { row := shelfVowelsUptoRow, standIns := [], harness := (true, "87e947b4b221674d1c6a458e09a7cf1dbadea0b8b6bbdf893f75e391e4d144d4"), looks := true }, kinds := [], alts := [], laidByText := true, laidKinds := [.data, .data, .data, .sentinel, .sentinel], laidTests := true, laidLooks := .later }
def ShelfVowelsUptoCardSaid : Prop := Claim7.holds Tryz.pinned (.plain (OpenSpec.upto shelfVowelsSpec)) shelfVowelsUptoCard

/-- THE SECOND FORM's CARD OF 'scriptlaw16.ShelfMorse'. -/
def shelfMorseUptoCard : Claim7 := { stood := { row := shelfMorseUptoRow, standIns := [], harness := (true, "87e947b4b221674d1c6a458e09a7cf1dbadea0b8b6bbdf893f75e391e4d144d4"), looks := true }, kinds := [], alts := [], laidByText := true, laidKinds := [.data, .data, .data, .sentinel, .sentinel], laidTests := true, laidLooks := .later }
def ShelfMorseUptoCardSaid : Prop := Claim7.holds Tryz.pinned (.plain (OpenSpec.upto shelfMorseSpec)) shelfMorseUptoCard
end Rows
end Go.Proofs.YtapechjebkjidaaGreatDoor
