/- A short name. -/
import Derived.Lib.Hide
namespace Go.Proofs.YthgkedoildcbcaaGreatDoor
abbrev qqh:=@Lib.hid
end Go.Proofs.YthgkedoildcbcaaGreatDoor
