/- ShelfSigns: the closed facts of its row. -/
import Derived.Test.YtapechjebkjidaaGreatDoorRows
import Derived.JoinedCond
namespace Go.Proofs.YtapechjebkjidaaGreatDoor
theorem shelfsigns_joined : joinedFacts Tryz.pinned.checked.prog 9 Tryz.f9 (Rows.OpenSpec.upto Rows.shelfSignsSpec).bare Rows.shelfSignsUptoRow = true := by kernel_rfl
end Go.Proofs.YtapechjebkjidaaGreatDoor
