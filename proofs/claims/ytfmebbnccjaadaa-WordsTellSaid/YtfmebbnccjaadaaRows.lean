/-
  No cell of these rows narrows 'for every input' (looked for: loops, veiled, ifaces, maps, wideKeys, modest, calm, conditions, laid).
  DERIVED. THE GIVEN ROWS OF THIS SEAT. 7 by the template 'for every input the law returns true; each argument reads behind the call as it read before'; 0 by the template 'total and deterministic' (their statements: YtfmebbnccjaadaaTotals.lean).
  GIVEN WITH THE SEED: the statements are not yours to turn. If you find one false, say at which input.
  Laid BY PROGRAM, IN A SANDBOX (cutbox-rows.mjs): the forced cells as the released guide's own fill.sh prints them over the translation a080ae3ccb4e5772… (all of the seat's roots in one cut). By AI agents, Wed Nov 11 2026. No macro, syntax, notation, axiom, sorry.
-/
import Derived.Test.YtfmebbnccjaadaaChecked
import GoSem.Claim
import GoSem.ClaimJoined
import GoSem.ClaimMapViews
import Derived.JoinedTies
import Derived.KernelRfl
namespace Go.Proofs.Ytfmebbnccjaadaa
/- THE CELL 'sum', in the pinned program and in every row, IS THE sha256 OF THE DUMP (.gsa) THAT YtfmebbnccjaadaaProg.lean LOADS. Nothing in Lean hashes anything: it is a label: what it is worth is what the hold of that sum in a sandbox is worth. -/
noncomputable def Try.pinned : Pinned := { name := "ytfmebbnccjaadaa", sum := "a080ae3ccb4e577244596759ac778bfa697312474ffe67ea3e39052a8a6f6b50", checked := Try.checked }
namespace Rows
def none {H : Type} : Left H := { results := [], args := [] }

/-- 'scriptlaw11.VmRuns': WHATEVER THE INPUT: true; the input reads as it did. -/
def vmRunsSpec : ChangeSpec := { name := "vmRuns", fn := fun _ => fun
  | [d1, d2] => { results := [.lit (.bool true)], args := [d1, d2] }
  | _ => none }
def vmRunsRow : OpenClaim := { program := "ytfmebbnccjaadaa", sum := "a080ae3ccb4e577244596759ac778bfa697312474ffe67ea3e39052a8a6f6b50", func := "scriptshift/scriptlaw11.VmRuns", spec := "vmRuns", unfollowed := true, recurses := true, apart := false }
def VmRunsSaid : Prop := vmRunsRow.holds Try.pinned (OpenSpec.ofChange vmRunsSpec)

/-- ITS FALSE NEIGHBOUR: 'it returns false'. Refute it at one input. -/
def vmRunsWrong : ChangeSpec := { name := "vmRuns", fn := fun _ => fun
  | [d1, d2] => { results := [.lit (.bool false)], args := [d1, d2] }
  | _ => none }
def VmRunsWrongFalsely : Prop := vmRunsRow.holds Try.pinned (OpenSpec.ofChange vmRunsWrong)

/-- 'scriptlaw15.AlignTells': WHATEVER THE INPUT: true; the input reads as it did. -/
def alignTellsSpec : ChangeSpec := { name := "alignTells", fn := fun _ => fun
  | [d1, d2] => { results := [.lit (.bool true)], args := [d1, d2] }
  | _ => none }
def alignTellsRow : OpenClaim := { program := "ytfmebbnccjaadaa", sum := "a080ae3ccb4e577244596759ac778bfa697312474ffe67ea3e39052a8a6f6b50", func := "scriptshift/scriptlaw15.AlignTells", spec := "alignTells", unfollowed := true, recurses := true, apart := false }
def AlignTellsSaid : Prop := alignTellsRow.holds Try.pinned (OpenSpec.ofChange alignTellsSpec)

/-- ITS FALSE NEIGHBOUR: 'it returns false'. Refute it at one input. -/
def alignTellsWrong : ChangeSpec := { name := "alignTells", fn := fun _ => fun
  | [d1, d2] => { results := [.lit (.bool false)], args := [d1, d2] }
  | _ => none }
def AlignTellsWrongFalsely : Prop := alignTellsRow.holds Try.pinned (OpenSpec.ofChange alignTellsWrong)

/-- 'scriptlaw20.FindTells': WHATEVER THE INPUT: true; the input reads as it did. -/
def findTellsSpec : ChangeSpec := { name := "findTells", fn := fun _ => fun
  | [d1, d2, d3] => { results := [.lit (.bool true)], args := [d1, d2, d3] }
  | _ => none }
def findTellsRow : OpenClaim := { program := "ytfmebbnccjaadaa", sum := "a080ae3ccb4e577244596759ac778bfa697312474ffe67ea3e39052a8a6f6b50", func := "scriptshift/scriptlaw20.FindTells", spec := "findTells", unfollowed := true, recurses := true, apart := false }
def FindTellsSaid : Prop := findTellsRow.holds Try.pinned (OpenSpec.ofChange findTellsSpec)

/-- ITS FALSE NEIGHBOUR: 'it returns false'. Refute it at one input. -/
def findTellsWrong : ChangeSpec := { name := "findTells", fn := fun _ => fun
  | [d1, d2, d3] => { results := [.lit (.bool false)], args := [d1, d2, d3] }
  | _ => none }
def FindTellsWrongFalsely : Prop := findTellsRow.holds Try.pinned (OpenSpec.ofChange findTellsWrong)

/-- 'scriptlaw13.ChainTells': WHATEVER THE INPUT: true; the input reads as it did. -/
def chainTellsSpec : ChangeSpec := { name := "chainTells", fn := fun _ => fun
  | [d1, d2, d3] => { results := [.lit (.bool true)], args := [d1, d2, d3] }
  | _ => none }
def chainTellsRow : OpenClaim := { program := "ytfmebbnccjaadaa", sum := "a080ae3ccb4e577244596759ac778bfa697312474ffe67ea3e39052a8a6f6b50", func := "scriptshift/scriptlaw13.ChainTells", spec := "chainTells", unfollowed := true, recurses := true, apart := false }
def ChainTellsSaid : Prop := chainTellsRow.holds Try.pinned (OpenSpec.ofChange chainTellsSpec)

/-- ITS FALSE NEIGHBOUR: 'it returns false'. Refute it at one input. -/
def chainTellsWrong : ChangeSpec := { name := "chainTells", fn := fun _ => fun
  | [d1, d2, d3] => { results := [.lit (.bool false)], args := [d1, d2, d3] }
  | _ => none }
def ChainTellsWrongFalsely : Prop := chainTellsRow.holds Try.pinned (OpenSpec.ofChange chainTellsWrong)

/-- 'scriptlaw21.LiveTells': WHATEVER THE INPUT: true; the input reads as it did. -/
def liveTellsSpec : ChangeSpec := { name := "liveTells", fn := fun _ => fun
  | [d1, d2] => { results := [.lit (.bool true)], args := [d1, d2] }
  | _ => none }
def liveTellsRow : OpenClaim := { program := "ytfmebbnccjaadaa", sum := "a080ae3ccb4e577244596759ac778bfa697312474ffe67ea3e39052a8a6f6b50", func := "scriptshift/scriptlaw21.LiveTells", spec := "liveTells", unfollowed := true, recurses := true, apart := false }
def LiveTellsSaid : Prop := liveTellsRow.holds Try.pinned (OpenSpec.ofChange liveTellsSpec)

/-- ITS FALSE NEIGHBOUR: 'it returns false'. Refute it at one input. -/
def liveTellsWrong : ChangeSpec := { name := "liveTells", fn := fun _ => fun
  | [d1, d2] => { results := [.lit (.bool false)], args := [d1, d2] }
  | _ => none }
def LiveTellsWrongFalsely : Prop := liveTellsRow.holds Try.pinned (OpenSpec.ofChange liveTellsWrong)

/-- 'scriptlaw21.LiveShows': WHATEVER THE INPUT: true; the input reads as it did. -/
def liveShowsSpec : ChangeSpec := { name := "liveShows", fn := fun _ => fun
  | [d1, d2, d3] => { results := [.lit (.bool true)], args := [d1, d2, d3] }
  | _ => none }
def liveShowsRow : OpenClaim := { program := "ytfmebbnccjaadaa", sum := "a080ae3ccb4e577244596759ac778bfa697312474ffe67ea3e39052a8a6f6b50", func := "scriptshift/scriptlaw21.LiveShows", spec := "liveShows", unfollowed := true, recurses := true, apart := false }
def LiveShowsSaid : Prop := liveShowsRow.holds Try.pinned (OpenSpec.ofChange liveShowsSpec)

/-- ITS FALSE NEIGHBOUR: 'it returns false'. Refute it at one input. -/
def liveShowsWrong : ChangeSpec := { name := "liveShows", fn := fun _ => fun
  | [d1, d2, d3] => { results := [.lit (.bool false)], args := [d1, d2, d3] }
  | _ => none }
def LiveShowsWrongFalsely : Prop := liveShowsRow.holds Try.pinned (OpenSpec.ofChange liveShowsWrong)

/-- 'scriptlaw17.WordsTell': WHATEVER THE INPUT: true; the input reads as it did. -/
def wordsTellSpec : ChangeSpec := { name := "wordsTell", fn := fun _ => fun
  | [d1, d2, d3] => { results := [.lit (.bool true)], args := [d1, d2, d3] }
  | _ => none }
def wordsTellRow : OpenClaim := { program := "ytfmebbnccjaadaa", sum := "a080ae3ccb4e577244596759ac778bfa697312474ffe67ea3e39052a8a6f6b50", func := "scriptshift/scriptlaw17.WordsTell", spec := "wordsTell", unfollowed := true, recurses := true, apart := false }
def WordsTellSaid : Prop := wordsTellRow.holds Try.pinned (OpenSpec.ofChange wordsTellSpec)

/-- ITS FALSE NEIGHBOUR: 'it returns false'. Refute it at one input. -/
def wordsTellWrong : ChangeSpec := { name := "wordsTell", fn := fun _ => fun
  | [d1, d2, d3] => { results := [.lit (.bool false)], args := [d1, d2, d3] }
  | _ => none }
def WordsTellWrongFalsely : Prop := wordsTellRow.holds Try.pinned (OpenSpec.ofChange wordsTellWrong)

/- THE SECOND FORM. 'bulk': how many values and letters a reading holds, each counted each time it is reached (what is shared counts as often as it is met; a slice's spare places count too). A statement '..UptoSaid' is the law's where the arguments, and the package variables that the reading takes, are together of bulk at most 1048576: NARROWER than '..Said'. Prove '..Said' where nothing that the law and all that it calls make is longer than what came in: it says more and counts as full. Else prove '..UptoSaid'. A law counts once. -/
mutual
def uptoBulk {H : Type} : DataW H → Nat
  | .lit (.string bytes) => bytes.length + 1
  | .lit _ => 1
  | .nil => 1
  | .ptr d => uptoBulk d + 1
  | .slice elems spare => uptoBulkAll elems + uptoBulkAll spare + 1
  | .agg parts => uptoBulkAll parts + 1
  | .iface _ d => uptoBulk d + 1
  | .map entries => uptoBulkEntries entries + 1
  | .held _ => 1
def uptoBulkAll {H : Type} : List (DataW H) → Nat
  | [] => 0
  | d :: r => uptoBulk d + uptoBulkAll r
def uptoBulkEntries {H : Type} : List (Lit × DataW H) → Nat
  | [] => 0
  | x :: r => uptoBulkEntry x + uptoBulkEntries r
def uptoBulkEntry {H : Type} : Lit × DataW H → Nat
  | (.string bytes, d) => bytes.length + uptoBulk d + 1
  | (_, d) => uptoBulk d + 1
 end
def uptoSmall : (H : Type) → List (DataW H) → Bool := fun _ ds => decide (uptoBulkAll ds ≤ 1048576)
def OpenSpec.upto (s : _root_.Go.ChangeSpec) : _root_.Go.OpenSpec := { _root_.Go.OpenSpec.ofChange s with cond := some uptoSmall }

/-- 'scriptlaw11.VmRuns', WHERE WHAT IT READS IS OF BULK AT MOST 1048576: true; the input reads as it did. -/
def vmRunsUptoRow : OpenClaim := { program := "ytfmebbnccjaadaa", sum := "a080ae3ccb4e577244596759ac778bfa697312474ffe67ea3e39052a8a6f6b50", func := "scriptshift/scriptlaw11.VmRuns", spec := "vmRuns", unfollowed := true, recurses := true, apart := false, narrowed := true }
def VmRunsUptoSaid : Prop := vmRunsUptoRow.holds Try.pinned (OpenSpec.upto vmRunsSpec)

/-- 'scriptlaw15.AlignTells', WHERE WHAT IT READS IS OF BULK AT MOST 1048576: true; the input reads as it did. -/
def alignTellsUptoRow : OpenClaim := { program := "ytfmebbnccjaadaa", sum := "a080ae3ccb4e577244596759ac778bfa697312474ffe67ea3e39052a8a6f6b50", func := "scriptshift/scriptlaw15.AlignTells", spec := "alignTells", unfollowed := true, recurses := true, apart := false, narrowed := true }
def AlignTellsUptoSaid : Prop := alignTellsUptoRow.holds Try.pinned (OpenSpec.upto alignTellsSpec)

/-- 'scriptlaw20.FindTells', WHERE WHAT IT READS IS OF BULK AT MOST 1048576: true; the input reads as it did. -/
def findTellsUptoRow : OpenClaim := { program := "ytfmebbnccjaadaa", sum := "a080ae3ccb4e577244596759ac778bfa697312474ffe67ea3e39052a8a6f6b50", func := "scriptshift/scriptlaw20.FindTells", spec := "findTells", unfollowed := true, recurses := true, apart := false, narrowed := true }
def FindTellsUptoSaid : Prop := findTellsUptoRow.holds Try.pinned (OpenSpec.upto findTellsSpec)

/-- 'scriptlaw13.ChainTells', WHERE WHAT IT READS IS OF BULK AT MOST 1048576: true; the input reads as it did. -/
def chainTellsUptoRow : OpenClaim := { program := "ytfmebbnccjaadaa", sum := "a080ae3ccb4e577244596759ac778bfa697312474ffe67ea3e39052a8a6f6b50", func := "scriptshift/scriptlaw13.ChainTells", spec := "chainTells", unfollowed := true, recurses := true, apart := false, narrowed := true }
def ChainTellsUptoSaid : Prop := chainTellsUptoRow.holds Try.pinned (OpenSpec.upto chainTellsSpec)

/-- 'scriptlaw21.LiveTells', WHERE WHAT IT READS IS OF BULK AT MOST 1048576: true; the input reads as it did. -/
def liveTellsUptoRow : OpenClaim := { program := "ytfmebbnccjaadaa", sum := "a080ae3ccb4e577244596759ac778bfa697312474ffe67ea3e39052a8a6f6b50", func := "scriptshift/scriptlaw21.LiveTells", spec := "liveTells", unfollowed := true, recurses := true, apart := false, narrowed := true }
def LiveTellsUptoSaid : Prop := liveTellsUptoRow.holds Try.pinned (OpenSpec.upto liveTellsSpec)

/-- 'scriptlaw21.LiveShows', WHERE WHAT IT READS IS OF BULK AT MOST 1048576: true; the input reads as it did. -/
def liveShowsUptoRow : OpenClaim := { program := "ytfmebbnccjaadaa", sum := "a080ae3ccb4e577244596759ac778bfa697312474ffe67ea3e39052a8a6f6b50", func := "scriptshift/scriptlaw21.LiveShows", spec := "liveShows", unfollowed := true, recurses := true, apart := false, narrowed := true }
def LiveShowsUptoSaid : Prop := liveShowsUptoRow.holds Try.pinned (OpenSpec.upto liveShowsSpec)

/-- 'scriptlaw17.WordsTell', WHERE WHAT IT READS IS OF BULK AT MOST 1048576: true; the input reads as it did. -/
def wordsTellUptoRow : OpenClaim := { program := "ytfmebbnccjaadaa", sum := "a080ae3ccb4e577244596759ac778bfa697312474ffe67ea3e39052a8a6f6b50", func := "scriptshift/scriptlaw17.WordsTell", spec := "wordsTell", unfollowed := true, recurses := true, apart := false, narrowed := true }
def WordsTellUptoSaid : Prop := wordsTellUptoRow.holds Try.pinned (OpenSpec.upto wordsTellSpec)

end Rows
end Go.Proofs.Ytfmebbnccjaadaa
