/-
  DERIVED. GIVEN WITH THE SEED: THE CARDS: each row of YthnhbcohfoodlaaGreatDoorRows.lean that lists a variable, with what it lists TIED to the program's text (the seventh form; the later family's looks); each row that meets fmt, with fmt's text TOLD by the authors' own Lean function (tested against real Go, not proved from fmt's source: count such statements apart). THE CARD IS WHAT COUNTS. Prove the row's statement (the work); the ties are given (YthnhbcohfoodlaaGreatDoorTie.lean); close each card by the builder's one call (the guide's Derived/Test/ToyasCard.lean, 'card_holds'). Laid BY PROGRAM, IN A SANDBOX (cutbox-door.mjs). By AI agents, Wed Nov 11 2026. No macro, syntax, notation, axiom, sorry.
-/
import Derived.Test.YthnhbcohfoodlaaGreatDoorRows
import GoSem.ClaimSeven
namespace Go.Proofs.YthnhbcohfoodlaaGreatDoor
namespace Rows

/-- THE TIED CARD OF 'scriptlaw3.SetsynReads'. -/
def setsynReadsCard : Claim7 := { stood := { row := setsynReadsRow, standIns := [], harness := (true, "24db69ee841fe28810cb45acc7c566cbe2aa1737e028b33a93f6daadbae6eb1a"), looks := true }, kinds := [], alts := [], laidByText := true, laidKinds := [.data, .data, .data, .sentinel, .sentinel], laidTests := true, laidLooks := .later }
def SetsynReadsCardSaid : Prop := Claim7.holds Tryz.pinned (.plain (OpenSpec.ofChange setsynReadsSpec)) setsynReadsCard

/-- THE TIED CARD OF 'scriptlaw3.SetsynTurns'. -/
def setsynTurnsCard : Claim7 := { stood := { row := setsynTurnsRow, standIns := [], harness := (true, "24db69ee841fe28810cb45acc7c566cbe2aa1737e028b33a93f6daadbae6eb1a"), looks := true }, kinds := [], alts := [], laidByText := true, laidKinds := [.data, .data, .data, .sentinel, .sentinel], laidTests := true, laidLooks := .later }
def SetsynTurnsCardSaid : Prop := Claim7.holds Tryz.pinned (.plain (OpenSpec.ofChange setsynTurnsSpec)) setsynTurnsCard

/-- THE TIED CARD OF 'scriptlaw3.SetsynSigns'. -/
def setsynSignsCard : Claim7 := { stood := { row := setsynSignsRow, standIns := [], harness := (true, "24db69ee841fe28810cb45acc7c566cbe2aa1737e028b33a93f6daadbae6eb1a"), looks := true }, kinds := [], alts := [], laidByText := true, laidKinds := [.data, .data, .data, .sentinel, .sentinel], laidTests := true, laidLooks := .later }
def SetsynSignsCardSaid : Prop := Claim7.holds Tryz.pinned (.plain (OpenSpec.ofChange setsynSignsSpec)) setsynSignsCard

/-- THE TIED CARD OF 'scriptlaw5.RulesRead'. -/
def rulesReadCard : Claim7 := { stood := { row := rulesReadRow, standIns := [], harness := (true, "24db69ee841fe28810cb45acc7c566cbe2aa1737e028b33a93f6daadbae6eb1a"), looks := true }, kinds := [], alts := [], laidByText := true, laidKinds := [.data, .data, .data, .sentinel, .sentinel], laidTests := true, laidLooks := .later }
def RulesReadCardSaid : Prop := Claim7.holds Tryz.pinned (.plain (OpenSpec.ofChange rulesReadSpec)) rulesReadCard

/-- THE TIED CARD OF 'scriptlaw5.RulesJoin'. -/
def rulesJoinCard : Claim7 := { stood := { row := rulesJoinRow, standIns := [], harness := (true, "24db69ee841fe28810cb45acc7c566cbe2aa1737e028b33a93f6daadbae6eb1a"), looks := true }, kinds := [], alts := [], laidByText := true, laidKinds := [.data, .data, .data, .sentinel, .sentinel], laidTests := true, laidLooks := .later }
def RulesJoinCardSaid : Prop := Claim7.holds Tryz.pinned (.plain (OpenSpec.ofChange rulesJoinSpec)) rulesJoinCard

/-- THE TIED CARD OF 'scriptlaw5.RulesTurn'. -/
def rulesTurnCard : Claim7 := { stood := { row := rulesTurnRow, standIns := [], harness := (true, "24db69ee841fe28810cb45acc7c566cbe2aa1737e028b33a93f6daadbae6eb1a"), looks := true }, kinds := [], alts := [], laidByText := true, laidKinds := [.data, .data, .data, .data, .sentinel, .sentinel, .pinned], laidTests := true, laidLooks := .later }
def RulesTurnCardSaid : Prop := Claim7.holds Tryz.pinned (.plain (OpenSpec.ofChange rulesTurnSpec)) rulesTurnCard

/-- THE TIED CARD OF 'scriptlaw6.ResolveWritten'. -/
def resolveWrittenCard : Claim7 := { stood := { row := resolveWrittenRow, standIns := [], harness := (true, "24db69ee841fe28810cb45acc7c566cbe2aa1737e028b33a93f6daadbae6eb1a"), looks := true }, kinds := [], alts := [], laidByText := true, laidKinds := [.data, .data, .data, .data, .sentinel, .sentinel, .pinned], laidTests := true, laidLooks := .later }
def ResolveWrittenCardSaid : Prop := Claim7.holds Tryz.pinned (.plain (OpenSpec.ofChange resolveWrittenSpec)) resolveWrittenCard

/-- THE SECOND FORM's CARD OF 'scriptlaw3.SetsynReads'. -/
def setsynReadsUptoCard : Claim7 := { stood := { row := setsynReadsUptoRow, standIns := [], harness := (true, "24db69ee841fe28810cb45acc7c566cbe2aa1737e028b33a93f6daadbae6eb1a"), looks := true }, kinds := [], alts := [], laidByText := true, laidKinds := [.data, .data, .data, .sentinel, .sentinel], laidTests := true, laidLooks := .later }
def SetsynReadsUptoCardSaid : Prop := Claim7.holds Tryz.pinned (.plain (OpenSpec.upto setsynReadsSpec)) setsynReadsUptoCard

/-- THE SECOND FORM's CARD OF 'scriptlaw3.SetsynTurns'. -/
def setsynTurnsUptoCard : Claim7 := { stood := { row := setsynTurnsUptoRow, standIns := [], harness := (true, "24db69ee841fe28810cb45acc7c566cbe2aa1737e028b33a93f6daadbae6eb1a"), looks := true }, kinds := [], alts := [], laidByText := true, laidKinds := [.data, .data, .data, .sentinel, .sentinel], laidTests := true, laidLooks := .later }
def SetsynTurnsUptoCardSaid : Prop := Claim7.holds Tryz.pinned (.plain (OpenSpec.upto setsynTurnsSpec)) setsynTurnsUptoCard

/-- THE SECOND FORM's CARD OF 'scriptlaw3.SetsynSigns'. -/
def setsynSignsUptoCard : Claim7 := { stood := { row := setsynSignsUptoRow, standIns := [], harness := (true, "24db69ee841fe28810cb45acc7c566cbe2aa1737e028b33a93f6daadbae6eb1a"), looks := true }, kinds := [], alts := [], laidByText := true, laidKinds := [.data, .data, .data, .sentinel, .sentinel], laidTests := true, laidLooks := .later }
def SetsynSignsUptoCardSaid : Prop := Claim7.holds Tryz.pinned (.plain (OpenSpec.upto setsynSignsSpec)) setsynSignsUptoCard

/-- THE SECOND FORM's CARD OF 'scriptlaw5.RulesRead'. -/
def rulesReadUptoCard : Claim7 := { stood := { row := rulesReadUptoRow, standIns := [], harness := (true, "24db69ee841fe28810cb45acc7c566cbe2aa1737e028b33a93f6daadbae6eb1a"), looks := true }, kinds := [], alts := [], laidByText := true, laidKinds := [.data, .data, .data, .sentinel, .sentinel], laidTests := true, laidLooks := .later }
def RulesReadUptoCardSaid : Prop := Claim7.holds Tryz.pinned (.plain (OpenSpec.upto rulesReadSpec)) rulesReadUptoCard

/-- THE SECOND FORM's CARD OF 'scriptlaw5.RulesJoin'. -/
def rulesJoinUptoCard : Claim7 := { stood := { row := rulesJoinUptoRow, standIns := [], harness := (true, "24db69ee841fe28810cb45acc7c566cbe2aa1737e028b33a93f6daadbae6eb1a"), looks := true }, kinds := [], alts := [], laidByText := true, laidKinds := [.data, .data, .data, .sentinel, .sentinel], laidTests := true, laidLooks := .later }
def RulesJoinUptoCardSaid : Prop := Claim7.holds Tryz.pinned (.plain (OpenSpec.upto rulesJoinSpec)) rulesJoinUptoCard

/-- THE SECOND FORM's CARD OF 'scriptlaw5.RulesTurn'. -/
def rulesTurnUptoCard : Claim7 := { stood := { row := rulesTurnUptoRow, standIns := [], harness := (true, "24db69ee841fe28810cb45acc7c566cbe2aa1737e028b33a93f6daadbae6eb1a"), looks := true }, kinds := [], alts := [], laidByText := true, laidKinds := [.data, .data, .data, .data, .sentinel, .sentinel, .pinned], laidTests := true, laidLooks := .later }
def RulesTurnUptoCardSaid : Prop := Claim7.holds Tryz.pinned (.plain (OpenSpec.upto rulesTurnSpec)) rulesTurnUptoCard

/-- THE SECOND FORM's CARD OF 'scriptlaw6.ResolveWritten'. -/
def resolveWrittenUptoCard : Claim7 := { stood := { row := resolveWrittenUptoRow, standIns := [], harness := (true, "24db69ee841fe28810cb45acc7c566cbe2aa1737e028b33a93f6daadbae6eb1a"), looks := true }, kinds := [], alts := [], laidByText := true, laidKinds := [.data, .data, .data, .data, .sentinel, .sentinel, .pinned], laidTests := true, laidLooks := .later }
def ResolveWrittenUptoCardSaid : Prop := Claim7.holds Tryz.pinned (.plain (OpenSpec.upto resolveWrittenSpec)) resolveWrittenUptoCard
end Rows
end Go.Proofs.YthnhbcohfoodlaaGreatDoor
