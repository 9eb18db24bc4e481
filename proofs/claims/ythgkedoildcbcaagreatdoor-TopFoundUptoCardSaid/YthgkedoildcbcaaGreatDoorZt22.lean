/- Builder -/
import Derived.Test.YthgkedoildcbcaaGreatDoorShelfM
import Derived.Test.YthgkedoildcbcaaGreatDoorZt6
namespace Go.Proofs.YthgkedoildcbcaaGreatDoor
open Go.RowKit Go.Shelf
abbrev adD (b:Nat) (w w':World):Prop:=Lib.OthersKept 5 (some b) w w'
theorem byteCells_append (a b:List UInt8):Lib.byteCells (a++b)=Lib.byteCells a++Lib.byteCells b:=by simp [Lib.byteCells]
end Go.Proofs.YthgkedoildcbcaaGreatDoor
