/-
  No cell of these rows narrows 'for every input' (looked for: loops, veiled, ifaces, maps, wideKeys, modest, calm, conditions, laid).
  DERIVED. THE GIVEN ROWS OF THIS SEAT. 3 by the template 'for every input the law returns true; each argument reads behind the call as it read before'; 0 by the template 'total and deterministic' (their statements: YthcjiainpaebfaaTotals.lean).
  GIVEN WITH THE SEED: the statements are not yours to turn. If you find one false, say at which input.
  Laid BY PROGRAM, IN A SANDBOX (cutbox-rows.mjs): the forced cells as the released guide's own fill.sh prints them over the translation dc908d0b0c15dafd… (all of the seat's roots in one cut). By AI agents, Wed Nov 11 2026. No macro, syntax, notation, axiom, sorry.
-/
import Derived.Test.YthcjiainpaebfaaChecked
import GoSem.Claim
import GoSem.ClaimJoined
import GoSem.ClaimMapViews
import Derived.JoinedTies
import Derived.KernelRfl
namespace Go.Proofs.Ythcjiainpaebfaa
/- THE CELL 'sum', in the pinned program and in every row, IS THE sha256 OF THE DUMP (.gsa) THAT YthcjiainpaebfaaProg.lean LOADS. Nothing in Lean hashes anything: it is a label: what it is worth is what the hold of that sum in a sandbox is worth. -/
noncomputable def Try.pinned : Pinned := { name := "ythcjiainpaebfaa", sum := "dc908d0b0c15dafd287258f5a57adcb9e1b94dedf418a1af5b7702e29971eb1b", checked := Try.checked }
namespace Rows
def none {H : Type} : Left H := { results := [], args := [] }

/-- 'scriptlaw6.ResolveTells': WHATEVER THE INPUT: true; the input reads as it did. -/
def resolveTellsSpec : ChangeSpec := { name := "resolveTells", fn := fun _ => fun
  | [d] => { results := [.lit (.bool true)], args := [d] }
  | _ => none }
def resolveTellsRow : OpenClaim := { program := "ythcjiainpaebfaa", sum := "dc908d0b0c15dafd287258f5a57adcb9e1b94dedf418a1af5b7702e29971eb1b", func := "scriptshift/scriptlaw6.ResolveTells", spec := "resolveTells", unfollowed := true, recurses := true, apart := false }
def ResolveTellsSaid : Prop := resolveTellsRow.holds Try.pinned (OpenSpec.ofChange resolveTellsSpec)

/-- ITS FALSE NEIGHBOUR: 'it returns false'. Refute it at one input. -/
def resolveTellsWrong : ChangeSpec := { name := "resolveTells", fn := fun _ => fun
  | [d] => { results := [.lit (.bool false)], args := [d] }
  | _ => none }
def ResolveTellsWrongFalsely : Prop := resolveTellsRow.holds Try.pinned (OpenSpec.ofChange resolveTellsWrong)

/-- 'scriptlaw6.ResolveTurned': WHATEVER THE INPUT: true; the input reads as it did. -/
def resolveTurnedSpec : ChangeSpec := { name := "resolveTurned", fn := fun _ => fun
  | [d] => { results := [.lit (.bool true)], args := [d] }
  | _ => none }
def resolveTurnedRow : OpenClaim := { program := "ythcjiainpaebfaa", sum := "dc908d0b0c15dafd287258f5a57adcb9e1b94dedf418a1af5b7702e29971eb1b", func := "scriptshift/scriptlaw6.ResolveTurned", spec := "resolveTurned", unfollowed := true, recurses := true, apart := false }
def ResolveTurnedSaid : Prop := resolveTurnedRow.holds Try.pinned (OpenSpec.ofChange resolveTurnedSpec)

/-- ITS FALSE NEIGHBOUR: 'it returns false'. Refute it at one input. -/
def resolveTurnedWrong : ChangeSpec := { name := "resolveTurned", fn := fun _ => fun
  | [d] => { results := [.lit (.bool false)], args := [d] }
  | _ => none }
def ResolveTurnedWrongFalsely : Prop := resolveTurnedRow.holds Try.pinned (OpenSpec.ofChange resolveTurnedWrong)

/-- 'scriptlaw6.ResolveVars': WHATEVER THE INPUT: true; the input reads as it did. -/
def resolveVarsSpec : ChangeSpec := { name := "resolveVars", fn := fun _ => fun
  | [d] => { results := [.lit (.bool true)], args := [d] }
  | _ => none }
def resolveVarsRow : OpenClaim := { program := "ythcjiainpaebfaa", sum := "dc908d0b0c15dafd287258f5a57adcb9e1b94dedf418a1af5b7702e29971eb1b", func := "scriptshift/scriptlaw6.ResolveVars", spec := "resolveVars", unfollowed := true, recurses := true, apart := false }
def ResolveVarsSaid : Prop := resolveVarsRow.holds Try.pinned (OpenSpec.ofChange resolveVarsSpec)

/-- ITS FALSE NEIGHBOUR: 'it returns false'. Refute it at one input. -/
def resolveVarsWrong : ChangeSpec := { name := "resolveVars", fn := fun _ => fun
  | [d] => { results := [.lit (.bool false)], args := [d] }
  | _ => none }
def ResolveVarsWrongFalsely : Prop := resolveVarsRow.holds Try.pinned (OpenSpec.ofChange resolveVarsWrong)

/- THE SECOND FORM. 'bulk': how many values and letters a reading holds, each counted each time it is reached (what is shared counts as often as it is met; a slice's spare places count too). A statement '..UptoSaid' is the law's where the arguments, and the package variables that the reading takes, are together of bulk at most 1048576: NARROWER than '..Said'. Prove '..Said' where nothing that the law and all that it calls make is longer than what came in: it says more and counts as full. Else prove '..UptoSaid'. A law counts once. -/
mutual
def uptoBulk {H : Type} : DataW H → Nat
  | .lit (.string bytes) => bytes.length + 1
  | .lit _ => 1
  | .nil => 1
  | .ptr d => uptoBulk d + 1
  | .slice elems spare => uptoBulkAll elems + uptoBulkAll spare + 1
  | .agg parts => uptoBulkAll parts + 1
  | .iface _ d => uptoBulk d + 1
  | .map entries => uptoBulkEntries entries + 1
  | .held _ => 1
def uptoBulkAll {H : Type} : List (DataW H) → Nat
  | [] => 0
  | d :: r => uptoBulk d + uptoBulkAll r
def uptoBulkEntries {H : Type} : List (Lit × DataW H) → Nat
  | [] => 0
  | x :: r => uptoBulkEntry x + uptoBulkEntries r
def uptoBulkEntry {H : Type} : Lit × DataW H → Nat
  | (.string bytes, d) => bytes.length + uptoBulk d + 1
  | (_, d) => uptoBulk d + 1
 end
def uptoSmall : (H : Type) → List (DataW H) → Bool := fun _ ds => decide (uptoBulkAll ds ≤ 1048576)
def OpenSpec.upto (s : _root_.Go.ChangeSpec) : _root_.Go.OpenSpec := { _root_.Go.OpenSpec.ofChange s with cond := some uptoSmall }

/-- 'scriptlaw6.ResolveTells', WHERE WHAT IT READS IS OF BULK AT MOST 1048576: true; the input reads as it did. -/
def resolveTellsUptoRow : OpenClaim := { program := "ythcjiainpaebfaa", sum := "dc908d0b0c15dafd287258f5a57adcb9e1b94dedf418a1af5b7702e29971eb1b", func := "scriptshift/scriptlaw6.ResolveTells", spec := "resolveTells", unfollowed := true, recurses := true, apart := false, narrowed := true }
def ResolveTellsUptoSaid : Prop := resolveTellsUptoRow.holds Try.pinned (OpenSpec.upto resolveTellsSpec)

/-- 'scriptlaw6.ResolveTurned', WHERE WHAT IT READS IS OF BULK AT MOST 1048576: true; the input reads as it did. -/
def resolveTurnedUptoRow : OpenClaim := { program := "ythcjiainpaebfaa", sum := "dc908d0b0c15dafd287258f5a57adcb9e1b94dedf418a1af5b7702e29971eb1b", func := "scriptshift/scriptlaw6.ResolveTurned", spec := "resolveTurned", unfollowed := true, recurses := true, apart := false, narrowed := true }
def ResolveTurnedUptoSaid : Prop := resolveTurnedUptoRow.holds Try.pinned (OpenSpec.upto resolveTurnedSpec)

/-- 'scriptlaw6.ResolveVars', WHERE WHAT IT READS IS OF BULK AT MOST 1048576: true; the input reads as it did. -/
def resolveVarsUptoRow : OpenClaim := { program := "ythcjiainpaebfaa", sum := "dc908d0b0c15dafd287258f5a57adcb9e1b94dedf418a1af5b7702e29971eb1b", func := "scriptshift/scriptlaw6.ResolveVars", spec := "resolveVars", unfollowed := true, recurses := true, apart := false, narrowed := true }
def ResolveVarsUptoSaid : Prop := resolveVarsUptoRow.holds Try.pinned (OpenSpec.upto resolveVarsSpec)

end Rows
end Go.Proofs.Ythcjiainpaebfaa
