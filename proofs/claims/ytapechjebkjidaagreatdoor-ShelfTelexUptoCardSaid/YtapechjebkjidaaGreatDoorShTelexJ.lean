/- ShelfTelex: the closed facts of its row. -/
import Derived.Test.YtapechjebkjidaaGreatDoorRows
import Derived.JoinedCond
namespace Go.Proofs.YtapechjebkjidaaGreatDoor
theorem shelftelex_joined : joinedFacts Tryz.pinned.checked.prog 10 Tryz.f10 (Rows.OpenSpec.upto Rows.shelfTelexSpec).bare Rows.shelfTelexUptoRow = true := by kernel_rfl
end Go.Proofs.YtapechjebkjidaaGreatDoor
