/- A short name. -/
import Derived.Lib.Hide
namespace Go.Proofs.YtkggjgeihhialaaGreatDoor
abbrev qqh:=@Lib.hid
end Go.Proofs.YtkggjgeihhialaaGreatDoor
