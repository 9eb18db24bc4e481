/- TopFound: the closed facts of its row. -/
import Derived.Test.YthgkedoildcbcaaGreatDoorRows
import Derived.JoinedCond
namespace Go.Proofs.YthgkedoildcbcaaGreatDoor
theorem topfoundwalk_joined : joinedFacts Tryz.pinned.checked.prog 3 Tryz.f3 (Rows.OpenSpec.upto Rows.topFoundSpec).bare Rows.topFoundUptoRow = true := by kernel_rfl
end Go.Proofs.YthgkedoildcbcaaGreatDoor
