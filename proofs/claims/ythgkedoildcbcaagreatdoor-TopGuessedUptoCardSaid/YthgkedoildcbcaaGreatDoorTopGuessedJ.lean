/- TopGuessed: the closed facts of its row. -/
import Derived.Test.YthgkedoildcbcaaGreatDoorRows
import Derived.JoinedCond
namespace Go.Proofs.YthgkedoildcbcaaGreatDoor
theorem topguessedwalk_joined : joinedFacts Tryz.pinned.checked.prog 4 Tryz.f4 (Rows.OpenSpec.upto Rows.topGuessedSpec).bare Rows.topGuessedUptoRow = true := by kernel_rfl
end Go.Proofs.YthgkedoildcbcaaGreatDoor
