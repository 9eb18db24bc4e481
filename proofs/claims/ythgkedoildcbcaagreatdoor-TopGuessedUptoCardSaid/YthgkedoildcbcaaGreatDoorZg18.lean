/- FileText + RulesText -/
import Derived.Test.YthgkedoildcbcaaGreatDoorZg6
import Derived.Lib.RuneBytes
import Derived.Test.YthgkedoildcbcaaGreatDoorZg8
import Derived.Test.YthgkedoildcbcaaGreatDoorShelfM
import Derived.Lib.FrozenHead
import Derived.Lib.FrozenHead2
import Derived.Test.YthgkedoildcbcaaGreatDoorZg10
import Derived.Test.YthgkedoildcbcaaGreatDoorZg13
import Derived.Test.YthgkedoildcbcaaGreatDoorZg9
import Derived.Test.YthgkedoildcbcaaGreatDoorZg2
import Derived.Lib.RuneCountTail
import Derived.Lib.MapLaws
import Derived.Test.YthgkedoildcbcaaGreatDoorZg11
namespace Go.Proofs.YthgkedoildcbcaaGreatDoor
open Go.RowKit
abbrev Word:=List UInt8
def At (L:List Int) (p:Nat) (X:List Int):Prop:=∃ pre post,L=pre++(X++post)∧pre.length=p
section
variable {L : List Int} {p : Nat} {X Y : List Int}
theorem At.lt {x:Int} (h:At L p (x::X)):p<L.length:=by
 obtain⟨pre,post,e,hl⟩:=h;rw [e,← hl,List.length_append,List.length_append,List.length_cons];omega
end
end Go.Proofs.YthgkedoildcbcaaGreatDoor
