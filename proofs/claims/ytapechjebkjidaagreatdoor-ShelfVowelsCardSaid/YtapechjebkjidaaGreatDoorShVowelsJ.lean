/- ShelfVowels: the closed facts of its row. -/
import Derived.Test.YtapechjebkjidaaGreatDoorRows
import Derived.JoinedCond
namespace Go.Proofs.YtapechjebkjidaaGreatDoor
theorem shelfvowels_joined : joinedFacts Tryz.pinned.checked.prog 14 Tryz.f14 (OpenSpec.ofChange Rows.shelfVowelsSpec).bare Rows.shelfVowelsRow = true := by kernel_rfl
end Go.Proofs.YtapechjebkjidaaGreatDoor
