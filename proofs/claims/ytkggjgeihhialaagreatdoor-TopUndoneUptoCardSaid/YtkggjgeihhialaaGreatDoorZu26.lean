/- FileText + RulesText -/
import Derived.Test.YtkggjgeihhialaaGreatDoorZu6
import Derived.Lib.RuneBytes
import Derived.Test.YtkggjgeihhialaaGreatDoorZu8
import Derived.Test.YtkggjgeihhialaaGreatDoorShelfM
import Derived.Lib.FrozenHead
import Derived.Lib.FrozenHead2
import Derived.Test.YtkggjgeihhialaaGreatDoorZu10
import Derived.Test.YtkggjgeihhialaaGreatDoorZu13
import Derived.Test.YtkggjgeihhialaaGreatDoorZu9
import Derived.Test.YtkggjgeihhialaaGreatDoorZu2
import Derived.Lib.RuneCountTail
import Derived.Lib.MapLaws
import Derived.Test.YtkggjgeihhialaaGreatDoorZu11
namespace Go.Proofs.YtkggjgeihhialaaGreatDoor
open Go.RowKit
abbrev Word:=List UInt8
def At (L:List Int) (p:Nat) (X:List Int):Prop:=∃ pre post,L=pre++(X++post)∧pre.length=p
section
variable {L : List Int} {p : Nat} {X Y : List Int}
theorem At.left (h:At L p (X++Y)):At L p X:=by
 obtain⟨pre,post,e,hl⟩:=h;exact⟨pre,Y++post,by rw [e,List.append_assoc],hl⟩
theorem At.lt {x:Int} (h:At L p (x::X)):p<L.length:=by
 obtain⟨pre,post,e,hl⟩:=h;rw [e,← hl,List.length_append,List.length_append,List.length_cons];omega
end
end Go.Proofs.YtkggjgeihhialaaGreatDoor
