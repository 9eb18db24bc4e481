/- ShelfSigma: the closed facts of its row. -/
import Derived.Test.YtapechjebkjidaaGreatDoorRows
import Derived.JoinedCond
namespace Go.Proofs.YtapechjebkjidaaGreatDoor
theorem shelfsigma_joined : joinedFacts Tryz.pinned.checked.prog 7 Tryz.f7 (OpenSpec.ofChange Rows.shelfSigmaSpec).bare Rows.shelfSigmaRow = true := by kernel_rfl
end Go.Proofs.YtapechjebkjidaaGreatDoor
