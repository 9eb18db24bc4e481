/-
  No cell of these rows narrows 'for every input' (looked for: loops, veiled, ifaces, maps, wideKeys, modest, calm, conditions, laid).
  DERIVED. THE GIVEN ROWS OF THIS SEAT. 3 by the template 'for every input the law returns true; each argument reads behind the call as it read before'; 0 by the template 'total and deterministic' (their statements: YthgkgcdnidkckaaTotals.lean).
  GIVEN WITH THE SEED: the statements are not yours to turn. If you find one false, say at which input.
  Laid BY PROGRAM, IN A SANDBOX (cutbox-rows.mjs): the forced cells as the released guide's own fill.sh prints them over the translation b5ee0c48a2debd82… (all of the seat's roots in one cut). By AI agents, Wed Nov 11 2026. No macro, syntax, notation, axiom, sorry.
-/
import Derived.Test.YthgkgcdnidkckaaChecked
import GoSem.Claim
import GoSem.ClaimJoined
import GoSem.ClaimMapViews
import Derived.JoinedTies
import Derived.KernelRfl
namespace Go.Proofs.Ythgkgcdnidkckaa
/- THE CELL 'sum', in the pinned program and in every row, IS THE sha256 OF THE DUMP (.gsa) THAT YthgkgcdnidkckaaProg.lean LOADS. Nothing in Lean hashes anything: it is a label: what it is worth is what the hold of that sum in a sandbox is worth. -/
noncomputable def Try.pinned : Pinned := { name := "ythgkgcdnidkckaa", sum := "b5ee0c48a2debd829d1443dd799470735d581834e3d95b85039f2ec8d5214636", checked := Try.checked }
namespace Rows
def none {H : Type} : Left H := { results := [], args := [] }

/-- 'scriptlaw1.RunesPlaces': WHATEVER THE INPUT: true; the input reads as it did. -/
def runesPlacesSpec : ChangeSpec := { name := "runesPlaces", fn := fun _ => fun
  | [d] => { results := [.lit (.bool true)], args := [d] }
  | _ => none }
def runesPlacesRow : OpenClaim := { program := "ythgkgcdnidkckaa", sum := "b5ee0c48a2debd829d1443dd799470735d581834e3d95b85039f2ec8d5214636", func := "scriptshift/scriptlaw1.RunesPlaces", spec := "runesPlaces", apart := false }
def RunesPlacesSaid : Prop := runesPlacesRow.holds Try.pinned (OpenSpec.ofChange runesPlacesSpec)

/-- ITS FALSE NEIGHBOUR: 'it returns false'. Refute it at one input. -/
def runesPlacesWrong : ChangeSpec := { name := "runesPlaces", fn := fun _ => fun
  | [d] => { results := [.lit (.bool false)], args := [d] }
  | _ => none }
def RunesPlacesWrongFalsely : Prop := runesPlacesRow.holds Try.pinned (OpenSpec.ofChange runesPlacesWrong)

/-- 'scriptlaw21.LiveBack': WHATEVER THE INPUT: true; the input reads as it did. -/
def liveBackSpec : ChangeSpec := { name := "liveBack", fn := fun _ => fun
  | [d1, d2] => { results := [.lit (.bool true)], args := [d1, d2] }
  | _ => none }
def liveBackRow : OpenClaim := { program := "ythgkgcdnidkckaa", sum := "b5ee0c48a2debd829d1443dd799470735d581834e3d95b85039f2ec8d5214636", func := "scriptshift/scriptlaw21.LiveBack", spec := "liveBack", apart := false }
def LiveBackSaid : Prop := liveBackRow.holds Try.pinned (OpenSpec.ofChange liveBackSpec)

/-- ITS FALSE NEIGHBOUR: 'it returns false'. Refute it at one input. -/
def liveBackWrong : ChangeSpec := { name := "liveBack", fn := fun _ => fun
  | [d1, d2] => { results := [.lit (.bool false)], args := [d1, d2] }
  | _ => none }
def LiveBackWrongFalsely : Prop := liveBackRow.holds Try.pinned (OpenSpec.ofChange liveBackWrong)

/-- 'scriptlaw21.LiveClear': WHATEVER THE INPUT: true; the input reads as it did. -/
def liveClearSpec : ChangeSpec := { name := "liveClear", fn := fun _ => fun
  | [d1, d2] => { results := [.lit (.bool true)], args := [d1, d2] }
  | _ => none }
def liveClearRow : OpenClaim := { program := "ythgkgcdnidkckaa", sum := "b5ee0c48a2debd829d1443dd799470735d581834e3d95b85039f2ec8d5214636", func := "scriptshift/scriptlaw21.LiveClear", spec := "liveClear", apart := false }
def LiveClearSaid : Prop := liveClearRow.holds Try.pinned (OpenSpec.ofChange liveClearSpec)

/-- ITS FALSE NEIGHBOUR: 'it returns false'. Refute it at one input. -/
def liveClearWrong : ChangeSpec := { name := "liveClear", fn := fun _ => fun
  | [d1, d2] => { results := [.lit (.bool false)], args := [d1, d2] }
  | _ => none }
def LiveClearWrongFalsely : Prop := liveClearRow.holds Try.pinned (OpenSpec.ofChange liveClearWrong)

/- THE SECOND FORM. 'bulk': how many values and letters a reading holds, each counted each time it is reached (what is shared counts as often as it is met; a slice's spare places count too). A statement '..UptoSaid' is the law's where the arguments, and the package variables that the reading takes, are together of bulk at most 1048576: NARROWER than '..Said'. Prove '..Said' where nothing that the law and all that it calls make is longer than what came in: it says more and counts as full. Else prove '..UptoSaid'. A law counts once. -/
mutual
def uptoBulk {H : Type} : DataW H → Nat
  | .lit (.string bytes) => bytes.length + 1
  | .lit _ => 1
  | .nil => 1
  | .ptr d => uptoBulk d + 1
  | .slice elems spare => uptoBulkAll elems + uptoBulkAll spare + 1
  | .agg parts => uptoBulkAll parts + 1
  | .iface _ d => uptoBulk d + 1
  | .map entries => uptoBulkEntries entries + 1
  | .held _ => 1
def uptoBulkAll {H : Type} : List (DataW H) → Nat
  | [] => 0
  | d :: r => uptoBulk d + uptoBulkAll r
def uptoBulkEntries {H : Type} : List (Lit × DataW H) → Nat
  | [] => 0
  | x :: r => uptoBulkEntry x + uptoBulkEntries r
def uptoBulkEntry {H : Type} : Lit × DataW H → Nat
  | (.string bytes, d) => bytes.length + uptoBulk d + 1
  | (_, d) => uptoBulk d + 1
 end
def uptoSmall : (H : Type) → List (DataW H) → Bool := fun _ ds => decide (uptoBulkAll ds ≤ 1048576)
def OpenSpec.upto (s : _root_.Go.ChangeSpec) : _root_.Go.OpenSpec := { _root_.Go.OpenSpec.ofChange s with cond := some uptoSmall }

/-- 'scriptlaw1.RunesPlaces', WHERE WHAT IT READS IS OF BULK AT MOST 1048576: true; the input reads as it did. -/
def runesPlacesUptoRow : OpenClaim := { program := "ythgkgcdnidkckaa", sum := "b5ee0c48a2debd829d1443dd799470735d581834e3d95b85039f2ec8d5214636", func := "scriptshift/scriptlaw1.RunesPlaces", spec := "runesPlaces", apart := false, narrowed := true }
def RunesPlacesUptoSaid : Prop := runesPlacesUptoRow.holds Try.pinned (OpenSpec.upto runesPlacesSpec)

/-- 'scriptlaw21.LiveBack', WHERE WHAT IT READS IS OF BULK AT MOST 1048576: true; the input reads as it did. -/
def liveBackUptoRow : OpenClaim := { program := "ythgkgcdnidkckaa", sum := "b5ee0c48a2debd829d1443dd799470735d581834e3d95b85039f2ec8d5214636", func := "scriptshift/scriptlaw21.LiveBack", spec := "liveBack", apart := false, narrowed := true }
def LiveBackUptoSaid : Prop := liveBackUptoRow.holds Try.pinned (OpenSpec.upto liveBackSpec)

/-- 'scriptlaw21.LiveClear', WHERE WHAT IT READS IS OF BULK AT MOST 1048576: true; the input reads as it did. -/
def liveClearUptoRow : OpenClaim := { program := "ythgkgcdnidkckaa", sum := "b5ee0c48a2debd829d1443dd799470735d581834e3d95b85039f2ec8d5214636", func := "scriptshift/scriptlaw21.LiveClear", spec := "liveClear", apart := false, narrowed := true }
def LiveClearUptoSaid : Prop := liveClearUptoRow.holds Try.pinned (OpenSpec.upto liveClearSpec)

end Rows
end Go.Proofs.Ythgkgcdnidkckaa
