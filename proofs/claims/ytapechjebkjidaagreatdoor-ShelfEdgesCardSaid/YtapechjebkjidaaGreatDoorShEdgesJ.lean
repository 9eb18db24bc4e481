/- ShelfEdges: the closed facts of its row. -/
import Derived.Test.YtapechjebkjidaaGreatDoorRows
import Derived.JoinedCond
namespace Go.Proofs.YtapechjebkjidaaGreatDoor
theorem shelfedges_joined : joinedFacts Tryz.pinned.checked.prog 6 Tryz.f6 (OpenSpec.ofChange Rows.shelfEdgesSpec).bare Rows.shelfEdgesRow = true := by kernel_rfl
end Go.Proofs.YtapechjebkjidaaGreatDoor
