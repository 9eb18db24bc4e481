/- TopStream: the closed facts of its row. -/
import Derived.Test.YtkggjgeihhialaaGreatDoorRows
import Derived.JoinedCond
namespace Go.Proofs.YtkggjgeihhialaaGreatDoor
theorem topstreamwalk_joined : joinedFacts Tryz.pinned.checked.prog 3 Tryz.f3 (Rows.OpenSpec.upto Rows.topStreamSpec).bare Rows.topStreamUptoRow = true := by kernel_rfl
end Go.Proofs.YtkggjgeihhialaaGreatDoor
