/- RefWrong -/
import Derived.Test.YtapechjebkjidaaGreatDoorZs22
import Derived.Deep.CutBlock
import Derived.Deep.RegionLaw
import Derived.Deep.RegionHeldLaw
namespace Go.Proofs.YtapechjebkjidaaGreatDoor
open Go.RowKit Go.Maps
def uh (B lo:Nat) (w:World) (l:List aI) (back:Bool) (e:Ending):Prop :=
  ∃ cs:List Value,cs.length=3∧e=.returned (.tuple #[.agg cs.toArray,.agg #[.int .i64 (cT back l).2.1,.int .i64 (cT back l).2.2]])∧dP w (Fr B lo) (cT back l).1 cs
def vA (w:World) (sb:Nat) (u0 u1 u2:Value) (wx:World):Prop :=
  ak wx w.heap.size 47 aC∧ak wx (w.heap.size+1) 51 #[.int .i64 0,.int .i64 0]∧ak wx sb 47 #[u0,u1,u2]∧Below w.heap.size w wx
section
variable {w wx w2 : World} {sb : Nat} {u0 u1 u2 : Value}
theorem vA.below (h:vA w sb u0 u1 u2 wx) (hb:Below wx.heap.size wx w2):vA w sb u0 u1 u2 w2 :=
  ⟨ak.below h.1 hb h.1.lt,ak.below h.2.1 hb h.2.1.lt,ak.below h.2.2.1 hb h.2.2.1.lt,h.2.2.2.trans (hb.mono h.2.2.2.size)⟩
theorem vA.alloc (h:vA w sb u0 u1 u2 wx) (o:Obj):vA w sb u0 u1 u2 (wx.alloc o):=h.below ((Below.refl _ _).alloc (Nat.le_refl _) o)
theorem vA.app (h:vA w sb u0 u1 u2 wx) {base sz n m:Nat} {e:TypeId} {v v':Value} {xs ys:List Value} (ho:wx.ownsRow base e sz v n xs) (h1 : 47 ≠ e) (h2 : 51 ≠ e) (hb:w.heap.size≤base) (ha:aS base e sz v wx m ys v' w2):vA w sb u0 u1 u2 w2 :=
  ⟨bH h.1 ho h1 ha,bH h.2.1 ho h2 ha,bH h.2.2.1 ho h1 ha,h.2.2.2.trans (ha.below h.2.2.2.size (jD ho hb))⟩
theorem vA.set (h:vA w sb u0 u1 u2 wx) {g i:Nat} {u:Value} (hg:w.heap.size+2≤g) (hs:g≠sb):vA w sb u0 u1 u2 (wx.setCell ⟨g,i,none⟩ u) :=
  ⟨av h.1 (by omega),av h.2.1 (by omega),av h.2.2.1 (by omega),h.2.2.2.setCell (by simp only;omega) _⟩
end
def Ue (B lo:Nat) (op:Bool) (A:List au) (P:List cE) (vp:Value) (wx:World):Prop :=
  (op=false∧A = []∧ClD B lo P vp wx)∨(op=true∧A ≠ []∧∃ va,KV B lo va A P vp wx)
theorem Ue.below {B lo:Nat} {op:Bool} {A:List au} {P:List cE} {vp:Value} {wx w2:World} (h:Ue B lo op A P vp wx) (hb:Below wx.heap.size wx w2):Ue B lo op A P vp w2:=by
 rcases h with ⟨h1,h2,h3⟩ | ⟨h1,h2,va,h3⟩;exact .inl ⟨h1,h2,h3.below hb⟩;exact .inr ⟨h1,h2,va,h3.below hb⟩
theorem Ue.set {B lo g i:Nat} {op:Bool} {A:List au} {P:List cE} {vp u:Value} {wx:World} (h:Ue B lo op A P vp wx) (h1:B≤g) (h2:g<lo):Ue B lo op A P vp (wx.setCell ⟨g,i,none⟩ u):=by
 rcases h with ⟨g1,g2,h3⟩ | ⟨g1,g2,va,h3⟩;exact .inl ⟨g1,g2,cL.set h3 h1 h2⟩;exact .inr ⟨g1,g2,va,h3.set h1 h2⟩
theorem mh {w:World} {B s g i:Nat} {u:Value} (h0:B≤g) (h2:g<s):ag w (Fr B s) (w.setCell ⟨g,i,none⟩ u) (Fr B s) :=
  ag.setCell u (fun b hb=>by rcases hb with h | h <;> dsimp only <;> omega) (fun _ h _=>h)
end Go.Proofs.YtapechjebkjidaaGreatDoor
