/- ShelfSqueeze: the closed facts of its row. -/
import Derived.Test.YtapechjebkjidaaGreatDoorRows
import Derived.JoinedCond
namespace Go.Proofs.YtapechjebkjidaaGreatDoor
theorem shelfsqueeze_joined : joinedFacts Tryz.pinned.checked.prog 8 Tryz.f8 (OpenSpec.ofChange Rows.shelfSqueezeSpec).bare Rows.shelfSqueezeRow = true := by kernel_rfl
end Go.Proofs.YtapechjebkjidaaGreatDoor
