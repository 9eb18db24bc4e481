/- ShelfBlanks: the closed facts of its row. -/
import Derived.Test.YtapechjebkjidaaGreatDoorRows
import Derived.JoinedCond
namespace Go.Proofs.YtapechjebkjidaaGreatDoor
theorem shelfblanks_joined : joinedFacts Tryz.pinned.checked.prog 5 Tryz.f5 (OpenSpec.ofChange Rows.shelfBlanksSpec).bare Rows.shelfBlanksRow = true := by kernel_rfl
end Go.Proofs.YtapechjebkjidaaGreatDoor
