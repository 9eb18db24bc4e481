/- ShelfGerman: the closed facts of its row. -/
import Derived.Test.YtapechjebkjidaaGreatDoorRows
import Derived.JoinedCond
namespace Go.Proofs.YtapechjebkjidaaGreatDoor
theorem shelfgerman_joined : joinedFacts Tryz.pinned.checked.prog 3 Tryz.f3 (OpenSpec.ofChange Rows.shelfGermanSpec).bare Rows.shelfGermanRow = true := by kernel_rfl
end Go.Proofs.YtapechjebkjidaaGreatDoor
