/- ShelfDots: the closed facts of its row. -/
import Derived.Test.YtapechjebkjidaaGreatDoorRows
import Derived.JoinedCond
namespace Go.Proofs.YtapechjebkjidaaGreatDoor
theorem shelfdots_joined : joinedFacts Tryz.pinned.checked.prog 11 Tryz.f11 (OpenSpec.ofChange Rows.shelfDotsSpec).bare Rows.shelfDotsRow = true := by kernel_rfl
end Go.Proofs.YtapechjebkjidaaGreatDoor
