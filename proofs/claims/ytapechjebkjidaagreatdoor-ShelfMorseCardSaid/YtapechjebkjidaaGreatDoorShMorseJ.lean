/- ShelfMorse: the closed facts of its row. -/
import Derived.Test.YtapechjebkjidaaGreatDoorRows
import Derived.JoinedCond
namespace Go.Proofs.YtapechjebkjidaaGreatDoor
theorem shelfmorse_joined : joinedFacts Tryz.pinned.checked.prog 15 Tryz.f15 (OpenSpec.ofChange Rows.shelfMorseSpec).bare Rows.shelfMorseRow = true := by kernel_rfl
end Go.Proofs.YtapechjebkjidaaGreatDoor
