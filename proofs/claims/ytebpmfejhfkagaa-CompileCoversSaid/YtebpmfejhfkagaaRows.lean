/-
  No cell of these rows narrows 'for every input' (looked for: loops, veiled, ifaces, maps, wideKeys, modest, calm, conditions, laid).
  DERIVED. THE GIVEN ROWS OF THIS SEAT. 3 by the template 'for every input the law returns true; each argument reads behind the call as it read before'; 0 by the template 'total and deterministic' (their statements: YtebpmfejhfkagaaTotals.lean).
  GIVEN WITH THE SEED: the statements are not yours to turn. If you find one false, say at which input.
  Laid BY PROGRAM, IN A SANDBOX (cutbox-rows.mjs): the forced cells as the released guide's own fill.sh prints them over the translation 926d0d71567fc1bc… (all of the seat's roots in one cut). By AI agents, Wed Nov 11 2026. No macro, syntax, notation, axiom, sorry.
-/
import Derived.Test.YtebpmfejhfkagaaChecked
import GoSem.Claim
import GoSem.ClaimJoined
import GoSem.ClaimMapViews
import Derived.JoinedTies
import Derived.KernelRfl
namespace Go.Proofs.Ytebpmfejhfkagaa
/- THE CELL 'sum', in the pinned program and in every row, IS THE sha256 OF THE DUMP (.gsa) THAT YtebpmfejhfkagaaProg.lean LOADS. Nothing in Lean hashes anything: it is a label: what it is worth is what the hold of that sum in a sandbox is worth. -/
noncomputable def Try.pinned : Pinned := { name := "ytebpmfejhfkagaa", sum := "926d0d71567fc1bc61c343e4a505fe893d65a9e338c39ec0311a0ce6a19e80cd", checked := Try.checked }
namespace Rows
def none {H : Type} : Left H := { results := [], args := [] }

/-- 'scriptlaw10.CompileTells': WHATEVER THE INPUT: true; the input reads as it did. -/
def compileTellsSpec : ChangeSpec := { name := "compileTells", fn := fun _ => fun
  | [d] => { results := [.lit (.bool true)], args := [d] }
  | _ => none }
def compileTellsRow : OpenClaim := { program := "ytebpmfejhfkagaa", sum := "926d0d71567fc1bc61c343e4a505fe893d65a9e338c39ec0311a0ce6a19e80cd", func := "scriptshift/scriptlaw10.CompileTells", spec := "compileTells", unfollowed := true, recurses := true, apart := false }
def CompileTellsSaid : Prop := compileTellsRow.holds Try.pinned (OpenSpec.ofChange compileTellsSpec)

/-- ITS FALSE NEIGHBOUR: 'it returns false'. Refute it at one input. -/
def compileTellsWrong : ChangeSpec := { name := "compileTells", fn := fun _ => fun
  | [d] => { results := [.lit (.bool false)], args := [d] }
  | _ => none }
def CompileTellsWrongFalsely : Prop := compileTellsRow.holds Try.pinned (OpenSpec.ofChange compileTellsWrong)

/-- 'scriptlaw10.CompileCovers': WHATEVER THE INPUT: true; the input reads as it did. -/
def compileCoversSpec : ChangeSpec := { name := "compileCovers", fn := fun _ => fun
  | [d] => { results := [.lit (.bool true)], args := [d] }
  | _ => none }
def compileCoversRow : OpenClaim := { program := "ytebpmfejhfkagaa", sum := "926d0d71567fc1bc61c343e4a505fe893d65a9e338c39ec0311a0ce6a19e80cd", func := "scriptshift/scriptlaw10.CompileCovers", spec := "compileCovers", unfollowed := true, recurses := true, apart := false }
def CompileCoversSaid : Prop := compileCoversRow.holds Try.pinned (OpenSpec.ofChange compileCoversSpec)

/-- ITS FALSE NEIGHBOUR: 'it returns false'. Refute it at one input. -/
def compileCoversWrong : ChangeSpec := { name := "compileCovers", fn := fun _ => fun
  | [d] => { results := [.lit (.bool false)], args := [d] }
  | _ => none }
def CompileCoversWrongFalsely : Prop := compileCoversRow.holds Try.pinned (OpenSpec.ofChange compileCoversWrong)

/-- 'scriptlaw10.CompileFinds': WHATEVER THE INPUT: true; the input reads as it did. -/
def compileFindsSpec : ChangeSpec := { name := "compileFinds", fn := fun _ => fun
  | [d1, d2] => { results := [.lit (.bool true)], args := [d1, d2] }
  | _ => none }
def compileFindsRow : OpenClaim := { program := "ytebpmfejhfkagaa", sum := "926d0d71567fc1bc61c343e4a505fe893d65a9e338c39ec0311a0ce6a19e80cd", func := "scriptshift/scriptlaw10.CompileFinds", spec := "compileFinds", unfollowed := true, recurses := true, apart := false }
def CompileFindsSaid : Prop := compileFindsRow.holds Try.pinned (OpenSpec.ofChange compileFindsSpec)

/-- ITS FALSE NEIGHBOUR: 'it returns false'. Refute it at one input. -/
def compileFindsWrong : ChangeSpec := { name := "compileFinds", fn := fun _ => fun
  | [d1, d2] => { results := [.lit (.bool false)], args := [d1, d2] }
  | _ => none }
def CompileFindsWrongFalsely : Prop := compileFindsRow.holds Try.pinned (OpenSpec.ofChange compileFindsWrong)

/- THE SECOND FORM. 'bulk': how many values and letters a reading holds, each counted each time it is reached (what is shared counts as often as it is met; a slice's spare places count too). A statement '..UptoSaid' is the law's where the arguments, and the package variables that the reading takes, are together of bulk at most 1048576: NARROWER than '..Said'. Prove '..Said' where nothing that the law and all that it calls make is longer than what came in: it says more and counts as full. Else prove '..UptoSaid'. A law counts once. -/
mutual
def uptoBulk {H : Type} : DataW H → Nat
  | .lit (.string bytes) => bytes.length + 1
  | .lit _ => 1
  | .nil => 1
  | .ptr d => uptoBulk d + 1
  | .slice elems spare => uptoBulkAll elems + uptoBulkAll spare + 1
  | .agg parts => uptoBulkAll parts + 1
  | .iface _ d => uptoBulk d + 1
  | .map entries => uptoBulkEntries entries + 1
  | .held _ => 1
def uptoBulkAll {H : Type} : List (DataW H) → Nat
  | [] => 0
  | d :: r => uptoBulk d + uptoBulkAll r
def uptoBulkEntries {H : Type} : List (Lit × DataW H) → Nat
  | [] => 0
  | x :: r => uptoBulkEntry x + uptoBulkEntries r
def uptoBulkEntry {H : Type} : Lit × DataW H → Nat
  | (.string bytes, d) => bytes.length + uptoBulk d + 1
  | (_, d) => uptoBulk d + 1
 end
def uptoSmall : (H : Type) → List (DataW H) → Bool := fun _ ds => decide (uptoBulkAll ds ≤ 1048576)
def OpenSpec.upto (s : _root_.Go.ChangeSpec) : _root_.Go.OpenSpec := { _root_.Go.OpenSpec.ofChange s with cond := some uptoSmall }

/-- 'scriptlaw10.CompileTells', WHERE WHAT IT READS IS OF BULK AT MOST 1048576: true; the input reads as it did. -/
def compileTellsUptoRow : OpenClaim := { program := "ytebpmfejhfkagaa", sum := "926d0d71567fc1bc61c343e4a505fe893d65a9e338c39ec0311a0ce6a19e80cd", func := "scriptshift/scriptlaw10.CompileTells", spec := "compileTells", unfollowed := true, recurses := true, apart := false, narrowed := true }
def CompileTellsUptoSaid : Prop := compileTellsUptoRow.holds Try.pinned (OpenSpec.upto compileTellsSpec)

/-- 'scriptlaw10.CompileCovers', WHERE WHAT IT READS IS OF BULK AT MOST 1048576: true; the input reads as it did. -/
def compileCoversUptoRow : OpenClaim := { program := "ytebpmfejhfkagaa", sum := "926d0d71567fc1bc61c343e4a505fe893d65a9e338c39ec0311a0ce6a19e80cd", func := "scriptshift/scriptlaw10.CompileCovers", spec := "compileCovers", unfollowed := true, recurses := true, apart := false, narrowed := true }
def CompileCoversUptoSaid : Prop := compileCoversUptoRow.holds Try.pinned (OpenSpec.upto compileCoversSpec)

/-- 'scriptlaw10.CompileFinds', WHERE WHAT IT READS IS OF BULK AT MOST 1048576: true; the input reads as it did. -/
def compileFindsUptoRow : OpenClaim := { program := "ytebpmfejhfkagaa", sum := "926d0d71567fc1bc61c343e4a505fe893d65a9e338c39ec0311a0ce6a19e80cd", func := "scriptshift/scriptlaw10.CompileFinds", spec := "compileFinds", unfollowed := true, recurses := true, apart := false, narrowed := true }
def CompileFindsUptoSaid : Prop := compileFindsUptoRow.holds Try.pinned (OpenSpec.upto compileFindsSpec)

end Rows
end Go.Proofs.Ytebpmfejhfkagaa
