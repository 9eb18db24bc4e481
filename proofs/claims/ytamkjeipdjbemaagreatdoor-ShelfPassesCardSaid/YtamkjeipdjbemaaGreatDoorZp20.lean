import Derived.Lib.RuneBytes
import Derived.Test.YtamkjeipdjbemaaGreatDoorZp18
import Derived.Lib.FrozenHead
import Derived.Lib.FrozenHead2
import Derived.Test.YtamkjeipdjbemaaGreatDoorZp14
import Derived.Lib.RuneCountTail
import Derived.Lib.MapLaws
import Derived.Test.YtamkjeipdjbemaaGreatDoorZp13
namespace Go.Proofs.YtamkjeipdjbemaaGreatDoor
open Go.RowKit
abbrev Word:=List UInt8
def At (L:List Int) (p:Nat) (X:List Int):Prop:=∃ pre post,L=pre++(X++post)∧pre.length=p
end Go.Proofs.YtamkjeipdjbemaaGreatDoor
