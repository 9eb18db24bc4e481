/- FileText + RulesText -/
import Derived.Test.YtapechjebkjidaaGreatDoorZs5
import Derived.Lib.RuneBytes
import Derived.Test.YtapechjebkjidaaGreatDoorZs8
import Derived.Test.YtapechjebkjidaaGreatDoorZs17
import Derived.Lib.FrozenHead
import Derived.Lib.FrozenHead2
import Derived.Test.YtapechjebkjidaaGreatDoorShelfM
import Derived.Test.YtapechjebkjidaaGreatDoorZs10
import Derived.Test.YtapechjebkjidaaGreatDoorZs13
import Derived.Test.YtapechjebkjidaaGreatDoorZs9
import Derived.Test.YtapechjebkjidaaGreatDoorZs11
namespace Go.Proofs.YtapechjebkjidaaGreatDoor
open Go.RowKit
abbrev Word:=List UInt8
def At (L:List Int) (p:Nat) (X:List Int):Prop:=∃ pre post,L=pre++(X++post)∧pre.length=p
section
variable {L : List Int} {p : Nat} {X Y : List Int}
theorem At.lt {x:Int} (h:At L p (x::X)):p<L.length:=by
 obtain⟨pre,post,e,hl⟩:=h;rw [e,← hl,List.length_append,List.length_append,List.length_cons];omega
theorem At.of (h:At L p X) (e:X=Y):At L p Y:=e ▸ h
end
end Go.Proofs.YtapechjebkjidaaGreatDoor
