/- OneLaw -/
import Derived.Test.YthnhbcohfoodlaaGreatDoorZk2
import Derived.Test.YthnhbcohfoodlaaGreatDoorZk5
namespace Go.Proofs.YthnhbcohfoodlaaGreatDoor
open Go.RowKit
def byteAt (s : ByteArray) (p : Nat) : Int := ((s.get! p).toNat : Int)
theorem byteAt_eq (s : ByteArray) (p : Nat) (h : p < s.size) : ((s[p]'h).toNat : Int) = byteAt s p := by
  unfold byteAt
  have e := get_at s p h
  rw [Nat.add_zero] at e
  rw [e]
def part (s : ByteArray) (p : Nat) (x0 : Int) : Nat → Int
  | 0 => x0
  | k + 1 => part s p x0 k * 64 + byteAt s (p + (k + 1)) % 64
end Go.Proofs.YthnhbcohfoodlaaGreatDoor
