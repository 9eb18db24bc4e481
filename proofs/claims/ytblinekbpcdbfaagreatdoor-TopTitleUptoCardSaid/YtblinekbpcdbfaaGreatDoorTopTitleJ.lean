/- TopTitle: the closed facts of its row. -/
import Derived.Test.YtblinekbpcdbfaaGreatDoorRows
import Derived.JoinedCond
namespace Go.Proofs.YtblinekbpcdbfaaGreatDoor
theorem toptitle_joined : joinedFacts Tryz.pinned.checked.prog 3 Tryz.f3 (Rows.OpenSpec.upto Rows.topTitleSpec).bare Rows.topTitleUptoRow = true := by kernel_rfl
end Go.Proofs.YtblinekbpcdbfaaGreatDoor
