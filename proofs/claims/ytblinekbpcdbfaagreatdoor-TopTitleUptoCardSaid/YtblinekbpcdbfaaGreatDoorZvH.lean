/- A short name. -/
import Derived.Lib.Hide
import Derived.Below
namespace Go.Proofs.YtblinekbpcdbfaaGreatDoor
theorem qql {n:Nat}:n≤n:=Nat.le_refl n
theorem qqb {n:Nat} {w:World}:Go.RowKit.Below n w w:=Go.RowKit.Below.refl n w
abbrev qqh:=@Lib.hid
end Go.Proofs.YtblinekbpcdbfaaGreatDoor
