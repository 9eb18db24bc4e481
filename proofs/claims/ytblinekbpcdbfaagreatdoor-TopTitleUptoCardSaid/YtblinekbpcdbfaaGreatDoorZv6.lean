/- MapKeys -/
import Derived.Test.YtblinekbpcdbfaaGreatDoorRows
import Derived.WalkKit
import Derived.WalkSpells
import Derived.Maps.OwnSet
import Derived.Maps.OwnOps
import Derived.StringKeys
namespace Go.Proofs.YtblinekbpcdbfaaGreatDoor
open Go.RowKit Go.Maps
def Raw (v:Value):Option (DataW Value × List MemPlace):=some (.held v,[])
def ur:DataW Value:=.held (.slice none 0 0)
def eX (s:ByteArray):Lit:=.string s.data.toList
theorem CI {s t:ByteArray} (h:eX s=eX t):s=t:=by
 unfold eX at h;injection h with h;exact ByteArray.ext (Array.ext' h)
theorem uO (s:ByteArray):WideAt.IsKeyLit (eX s):=by simp [eX,WideAt.IsKeyLit]
theorem jF {s:ByteArray} (hs:s.size≤maxLen):keyOf Tryz.prog 9 (.string s)=some (eX s):=WideMaps.keyOf_string_mk Tryz.underlying9 hs
theorem ig:Keyed Tryz.prog 9:=string_keyed Tryz.underlying9
theorem OT (w:World):(zeroValue 22).run Tryz.prog w=.ok (.slice none 0 0) w:=by kernel_rfl
theorem bQ {H:Type} {P:Program} (w:World) {ops:Array Oper} {rest:List Oper} {o:Oper} {a:Act} {Q:Exit→Act→World→Prop}
    (hg:o.guard=none) (m x v:Operand) (t:TypeId) (hop:o.op=Op.insert t m x v)
    (k e:TypeId) (K:Keyed P k) (ht:P.underlying t=some (.map k e)) (R:Value→Option (DataW H × List MemPlace)) (b n:Nat) (D:DataW H)
    (hm:a.eval m=.map (some b)) (hown:w.ownsMap P k R b n D) (hn:n<maxLen) (key val:Value) (kl:Lit) (hx:a.eval x=key) (hv:a.eval v=val) (hkey:keyOf P k key=some kl)
    (d:DataW H) (ps:List MemPlace) (hval:R val=some (d,ps))
    (hK:∀ w',w'.ownsMap P k R b (n+1) (D.put kl d)→w.grownBy w' (some b)→wpList P ops Q rest (a.put o.dst undef) w') :
    wpList P ops Q (o::rest) a w:=by
 refine wpList_plain hg fun K' hK'=>?_;obtain⟨w',hrun,r1,r2⟩:=hown.update K ht hn hkey hval;unfold Oper.wp;simp [execOp,hop,hm,hx,hv,hrun,Result.andThen];exact hK' _ _ (hK w' r1 r2)
theorem wA {w:World} {ops:Array Oper} {rest:List Oper} {o:Oper} {a:Act} {Q:Exit→Act→World→Prop} (hg:o.guard=none) (m x:Operand) (t e:TypeId) (hop:o.op=Op.lookup t m x true) (ht : Tryz.prog.underlying t=some (.map 9 e))
    {z:Value} (hz:(zeroValue e).run Tryz.prog w=.ok z w) (b n:Nat) (D:DataW Value) (hm:a.eval m=.map (some b)) (hown:w.ownsMap Tryz.prog 9 Raw b n D) (s:ByteArray) (hx:a.eval x=.string s) (hs:s.size≤maxLen) (u:Value) (q:Bool)
    (h1:D.atKey (eX s) (.held z)=.held u) (h2:has D (eX s)=q) (hK:wpList Tryz.prog ops Q rest (a.put o.dst (.tuple #[u,.bool q])) w):wpList Tryz.prog ops Q (o::rest) a w :=
  wpList_lookup_own_ok w hg m x _ hop 9 e ig ht Raw hz (.held z) [] rfl b n D hm hown (.string s) (eX s) hx (jF hs) (fun v ps hv=>by
    rw [h1]at hv
    unfold Raw at hv
    injection hv with hv
    injection hv with hv
    injection hv with hv
    subst hv
    rw [h2]
    exact hK)
end Go.Proofs.YtblinekbpcdbfaaGreatDoor
