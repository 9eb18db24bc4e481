/- ShelfQuotes: the closed facts of its row. -/
import Derived.Test.YtapechjebkjidaaGreatDoorRows
import Derived.JoinedCond
namespace Go.Proofs.YtapechjebkjidaaGreatDoor
theorem shelfquotes_joined : joinedFacts Tryz.pinned.checked.prog 12 Tryz.f12 (OpenSpec.ofChange Rows.shelfQuotesSpec).bare Rows.shelfQuotesRow = true := by kernel_rfl
end Go.Proofs.YtapechjebkjidaaGreatDoor
