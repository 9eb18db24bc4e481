/- TopUndone: the closed facts of its row. -/
import Derived.Test.YtkggjgeihhialaaGreatDoorRows
import Derived.JoinedCond
namespace Go.Proofs.YtkggjgeihhialaaGreatDoor
theorem topundone_joined : joinedFacts Tryz.pinned.checked.prog 4 Tryz.f4 (Rows.OpenSpec.upto Rows.topUndoneSpec).bare Rows.topUndoneUptoRow = true := by kernel_rfl
end Go.Proofs.YtkggjgeihhialaaGreatDoor
