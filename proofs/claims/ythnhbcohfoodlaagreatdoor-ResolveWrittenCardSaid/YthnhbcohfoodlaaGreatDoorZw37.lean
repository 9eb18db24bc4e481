/- PrintRef0 -/
import Derived.Test.YthnhbcohfoodlaaGreatDoorZw25
import Derived.Deep.CutBlock
import Derived.Deep.DeepCutAuto
import Derived.Deep.RegionHeldLaw
namespace Go.Proofs.YthnhbcohfoodlaaGreatDoor
open Go.RowKit
def q7 (w : World) (g gp : Nat) (cs : Array Value) (wx : World) : Prop :=
  au wx g 25 #[.int .i64 0, .int .i64 0] ∧ au wx gp 98 cs ∧ Below w.heap.size w wx
section
variable {w wx w2 : World} {g gp : Nat} {cs : Array Value}
theorem q7.drew (h : q7 w g gp cs wx) : q7 w g gp cs wx.drew := ⟨h.1, h.2.1, h.2.2.drew⟩
theorem q7.alloc (h : q7 w g gp cs wx) (o : Obj) : q7 w g gp cs (wx.alloc o) := ⟨au.alloc h.1 o, au.alloc h.2.1 o, h.2.2.alloc h.2.2.size o⟩
theorem q7.below (h : q7 w g gp cs wx) (hb : Below wx.heap.size wx w2) : q7 w g gp cs w2 := ⟨au.below h.1 hb h.1.lt, au.below h.2.1 hb h.2.1.lt, h.2.2.trans (hb.mono h.2.2.size)⟩
theorem q7.app (h : q7 w g gp cs wx) {base n : Nat} {v v' : Value} {xs : List Value} {W : List (List UInt8)} (ho : eY wx base v W) (hbz : w.heap.size ≤ base) (ha : bg base 9 1 v wx n xs v' w2) : q7 w g gp cs w2 :=
  ⟨au.mJ h.1 ho (by decide) ha, au.mJ h.2.1 ho (by decide) ha, h.2.2.trans (ha.below h.2.2.size (mN ho hbz))⟩
end
end Go.Proofs.YthnhbcohfoodlaaGreatDoor
