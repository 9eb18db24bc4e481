/- ShelfRovar: the closed facts of its row. -/
import Derived.Test.YtapechjebkjidaaGreatDoorRows
import Derived.JoinedCond
namespace Go.Proofs.YtapechjebkjidaaGreatDoor
theorem shelfrovar_joined : joinedFacts Tryz.pinned.checked.prog 13 Tryz.f13 (OpenSpec.ofChange Rows.shelfRovarSpec).bare Rows.shelfRovarRow = true := by kernel_rfl
end Go.Proofs.YtapechjebkjidaaGreatDoor
