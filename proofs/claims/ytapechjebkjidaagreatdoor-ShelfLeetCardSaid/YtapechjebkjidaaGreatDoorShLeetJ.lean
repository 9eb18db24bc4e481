/- ShelfLeet: the closed facts of its row. -/
import Derived.Test.YtapechjebkjidaaGreatDoorRows
import Derived.JoinedCond
namespace Go.Proofs.YtapechjebkjidaaGreatDoor
theorem shelfleet_joined : joinedFacts Tryz.pinned.checked.prog 4 Tryz.f4 (OpenSpec.ofChange Rows.shelfLeetSpec).bare Rows.shelfLeetRow = true := by kernel_rfl
end Go.Proofs.YtapechjebkjidaaGreatDoor
