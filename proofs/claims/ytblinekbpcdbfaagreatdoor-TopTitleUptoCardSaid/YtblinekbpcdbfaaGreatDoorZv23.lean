/- FileText + RulesText -/
import Derived.Test.YtblinekbpcdbfaaGreatDoorZv7
import Derived.Lib.RuneBytes
import Derived.Test.YtblinekbpcdbfaaGreatDoorZv9
import Derived.Test.YtblinekbpcdbfaaGreatDoorShelfM
import Derived.Lib.FrozenHead
import Derived.Lib.FrozenHead2
import Derived.Test.YtblinekbpcdbfaaGreatDoorZv11
import Derived.Test.YtblinekbpcdbfaaGreatDoorZv13
import Derived.Test.YtblinekbpcdbfaaGreatDoorZv10
import Derived.Test.YtblinekbpcdbfaaGreatDoorZv3
import Derived.Lib.RuneCountTail
import Derived.Lib.MapLaws
import Derived.Test.YtblinekbpcdbfaaGreatDoorZv12
namespace Go.Proofs.YtblinekbpcdbfaaGreatDoor
open Go.RowKit
abbrev Word:=List UInt8
def At (L:List Int) (p:Nat) (X:List Int):Prop:=∃ pre post,L=pre++(X++post)∧pre.length=p
section
variable {L : List Int} {p : Nat} {X Y : List Int}
theorem At.lt {x:Int} (h:At L p (x::X)):p<L.length:=by
 obtain⟨pre,post,e,hl⟩:=h;rw [e,← hl,List.length_append,List.length_append,List.length_cons];omega
end
end Go.Proofs.YtblinekbpcdbfaaGreatDoor
