/- ShelfPasses: the closed facts of its row. -/
import Derived.Test.YtamkjeipdjbemaaGreatDoorRows
import Derived.JoinedCond
namespace Go.Proofs.YtamkjeipdjbemaaGreatDoor
theorem shelfpasses_joined : joinedFacts Tryz.pinned.checked.prog 3 Tryz.f3 (OpenSpec.ofChange Rows.shelfPassesSpec).bare Rows.shelfPassesRow = true := by kernel_rfl
end Go.Proofs.YtamkjeipdjbemaaGreatDoor
