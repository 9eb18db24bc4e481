/- FileText + RulesText -/
import Derived.Test.YthgkedoildcbcaaGreatDoorZt6
import Derived.Lib.RuneBytes
import Derived.Test.YthgkedoildcbcaaGreatDoorZt8
import Derived.Test.YthgkedoildcbcaaGreatDoorZt22
import Derived.Lib.FrozenHead
import Derived.Lib.FrozenHead2
import Derived.Test.YthgkedoildcbcaaGreatDoorShelfM
import Derived.Test.YthgkedoildcbcaaGreatDoorZt10
import Derived.Test.YthgkedoildcbcaaGreatDoorZt13
import Derived.Test.YthgkedoildcbcaaGreatDoorZt9
import Derived.Test.YthgkedoildcbcaaGreatDoorZt11
namespace Go.Proofs.YthgkedoildcbcaaGreatDoor
open Go.RowKit
abbrev Word:=List UInt8
def At (L:List Int) (p:Nat) (X:List Int):Prop:=∃ pre post,L=pre++(X++post)∧pre.length=p
section
variable {L : List Int} {p : Nat} {X Y : List Int}
theorem At.left (h:At L p (X++Y)):At L p X:=by
 obtain⟨pre,post,e,hl⟩:=h;exact⟨pre,Y++post,by rw [e,List.append_assoc],hl⟩
theorem At.right (h:At L p (X++Y)):At L (p+X.length) Y:=by
 obtain⟨pre,post,e,hl⟩:=h;exact⟨pre++X,post,by rw [e];simp,by rw [List.length_append,hl]⟩
theorem At.lt {x:Int} (h:At L p (x::X)):p<L.length:=by
 obtain⟨pre,post,e,hl⟩:=h;rw [e,← hl,List.length_append,List.length_append,List.length_cons];omega
theorem At.le (h:At L p X):p+X.length≤L.length:=by
 obtain⟨pre,post,e,hl⟩:=h;rw [e,← hl,List.length_append,List.length_append];omega
theorem At.of (h:At L p X) (e:X=Y):At L p Y:=e ▸ h
end
end Go.Proofs.YthgkedoildcbcaaGreatDoor
