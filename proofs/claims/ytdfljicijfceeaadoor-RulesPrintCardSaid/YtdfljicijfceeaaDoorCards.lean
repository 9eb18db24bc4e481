/-
  DERIVED. GIVEN WITH THE SEED: THE CARDS: each row of YtdfljicijfceeaaDoorRows.lean that lists a variable, with what it lists TIED to the program's text (the seventh form; the later family's looks); each row that meets fmt, with fmt's text TOLD by the authors' own Lean function (tested against real Go, not proved from fmt's source: count such statements apart). THE CARD IS WHAT COUNTS. Prove the row's statement (the work); the ties are given (YtdfljicijfceeaaDoorTie.lean); close each card by the builder's one call (the guide's Derived/Test/ToyasCard.lean, 'card_holds'). Laid BY PROGRAM, IN A SANDBOX (cutbox-door.mjs). By AI agents, Wed Nov 11 2026. No macro, syntax, notation, axiom, sorry.
-/
import Derived.Test.YtdfljicijfceeaaDoorRows
import GoSem.ClaimSeven
namespace Go.Proofs.YtdfljicijfceeaaDoor
namespace Rows

/-- THE TIED CARD OF 'scriptlaw5.RulesPrint'. -/
def rulesPrintCard : Claim7 := { stood := { row := rulesPrintRow, standIns := [], harness := (true, "e8d00848c81251b474a2e9d58ecba606da806dcd87dc8674d4105854c463c8f7"), looks := false }, kinds := [], alts := [], laidByText := true, laidKinds := [.data, .data, .data, .data, .pinned], laidTests := true, laidLooks := .later }
def RulesPrintCardSaid : Prop := Claim7.holds Tryd.pinned (.plain (OpenSpec.ofChange rulesPrintSpec)) rulesPrintCard

/-- THE SECOND FORM's CARD OF 'scriptlaw5.RulesPrint'. -/
def rulesPrintUptoCard : Claim7 := { stood := { row := rulesPrintUptoRow, standIns := [], harness := (true, "e8d00848c81251b474a2e9d58ecba606da806dcd87dc8674d4105854c463c8f7"), looks := false }, kinds := [], alts := [], laidByText := true, laidKinds := [.data, .data, .data, .data, .pinned], laidTests := true, laidLooks := .later }
def RulesPrintUptoCardSaid : Prop := Claim7.holds Tryd.pinned (.plain (OpenSpec.upto rulesPrintSpec)) rulesPrintUptoCard
end Rows
end Go.Proofs.YtdfljicijfceeaaDoor
