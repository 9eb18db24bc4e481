/- RefWrong + Forth -/
import Derived.Test.YtblinekbpcdbfaaGreatDoorZv21
import Derived.Deep.CutBlock
import Derived.Deep.RegionLaw
import Derived.Deep.RegionHeldLaw
import Derived.Test.YtblinekbpcdbfaaGreatDoorZv24
set_option maxHeartbeats 3200000
set_option maxRecDepth 100000
namespace Go.Proofs.YtblinekbpcdbfaaGreatDoor
open Go.RowKit Go.Maps
def MA (B lo:Nat) (w:World) (l:List aG) (back:Bool) (e:Ending):Prop :=
  ∃ cs:List Value,cs.length=3∧e=.returned (.tuple #[.agg cs.toArray,.agg #[.int .i64 (dQ back l).2.1,.int .i64 (dQ back l).2.2]])∧ia w (Fr B lo) (dQ back l).1 cs
def JF (w:World) (sb:Nat) (u0 u1 u2:Value) (wx:World):Prop :=
  aj wx w.heap.size 47 aI∧aj wx (w.heap.size+1) 38 #[.int .i64 0,.int .i64 0]∧aj wx sb 47 #[u0,u1,u2]∧Below w.heap.size w wx
section
variable {w wx w2 : World} {sb : Nat} {u0 u1 u2 : Value}
theorem JF.below (h:JF w sb u0 u1 u2 wx) (hb:Below wx.heap.size wx w2):JF w sb u0 u1 u2 w2 :=
  ⟨aj.below h.1 hb h.1.lt,aj.below h.2.1 hb h.2.1.lt,aj.below h.2.2.1 hb h.2.2.1.lt,h.2.2.2.trans (hb.mono h.2.2.2.size)⟩
theorem JF.set (h:JF w sb u0 u1 u2 wx) {g i:Nat} {u:Value} (hg:w.heap.size+2≤g) (hs:g≠sb):JF w sb u0 u1 u2 (wx.setCell ⟨g,i,none⟩ u) :=
  ⟨au h.1 (by omega),au h.2.1 (by omega),au h.2.2.1 (by omega),h.2.2.2.setCell (by simp only;omega) _⟩
end
def Ud (B lo:Nat) (op:Bool) (A:List aB) (P:List cA) (vp:Value) (wx:World):Prop :=
  (op=false∧A = []∧ClD B lo P vp wx)∨(op=true∧A ≠ []∧∃ va,KI B lo va A P vp wx)
theorem Ud.below {B lo:Nat} {op:Bool} {A:List aB} {P:List cA} {vp:Value} {wx w2:World} (h:Ud B lo op A P vp wx) (hb:Below wx.heap.size wx w2):Ud B lo op A P vp w2:=by
 rcases h with ⟨h1,h2,h3⟩ | ⟨h1,h2,va,h3⟩;exact .inl ⟨h1,h2,h3.below hb⟩;exact .inr ⟨h1,h2,va,h3.below hb⟩
theorem Ud.set {B lo g i:Nat} {op:Bool} {A:List aB} {P:List cA} {vp u:Value} {wx:World} (h:Ud B lo op A P vp wx) (h1:B≤g) (h2:g<lo):Ud B lo op A P vp (wx.setCell ⟨g,i,none⟩ u):=by
 rcases h with ⟨g1,g2,h3⟩ | ⟨g1,g2,va,h3⟩;exact .inl ⟨g1,g2,cM.set h3 h1 h2⟩;exact .inr ⟨g1,g2,va,h3.set h1 h2⟩
theorem xN {w:World} {B s g i:Nat} {u:Value} (h0:B≤g) (h2:g<s):ag w (Fr B s) (w.setCell ⟨g,i,none⟩ u) (Fr B s) :=
  ag.setCell u (fun b hb=>by rcases hb with h | h <;> dsimp only <;> omega) (fun _ h _=>h)
theorem JG (B:Nat) (A:Option Addr) (n c:Nat) (l:List aG) (w:World) (hn:n≤maxLen) (hB:B≤w.heap.size) (hl:G8 w B A n l) :
    Calls Tryz.prog 34 #[.slice A n c] w fun e w'=>rJ B w.heap.size w' l e∧Below w.heap.size w w':=by
 by_cases hw:(fu l).1=0;exact BC B A n c l w hn hB hl hw;exact uh B A n c l w hn hB hl hw
theorem CE (l:List aG):(dQ true l).2=(dQ false l).2:=by
 by_cases hw:(fu l).1=0
 ·rcases zX l l.length with ⟨s,t,h1,h2,_⟩ | ⟨e,h1,h2⟩
  ·rw [oo hw h1,oo hw h2]
  rw [jU hw qql h1,jU hw qql h2]
 rw [jZ hw,jZ hw]
theorem tV {w:World} {X:Nat→Prop} {s:bS} {cs:List Value} (h:ia w X s cs):∃ A1 n1 c1 A2 n2 c2,cs = [.bool s.only?,.slice A1 n1 c1,.slice A2 n2 c2]:=by
 obtain⟨u,v,rfl,⟨A1,n1,c1,rfl,_⟩,⟨A2,n2,c2,rfl,_⟩⟩:=h;exact⟨_,_,_,_,_,_,rfl⟩
theorem Jz (B:Nat) (A:Option Addr) (n c:Nat) (l:List aG) (w:World) (hn:n≤maxLen) (hB:B≤w.heap.size) (hl:G8 w B A n l) :
    Calls Tryz.prog 14 #[.slice A n c] w fun e w'=>MA B w.heap.size w' l false e∧Below w.heap.size w w':=by
 have pJ:=qqh (fun(w':World) (hb:Below w.heap.size w w')=>JG B A n c l w' hn (Nat.le_trans hB hb.size) (G8.weak (gC (hb.mono hB) qql) hl))
 have fQ:=qqh (show aj ((w.alloc (.cells aI 47)).alloc (.cells #[.int .i64 0,.int .i64 0] 38)) w.heap.size 47 aI∧aj ((w.alloc (.cells aI 47)).alloc (.cells #[.int .i64 0,.int .i64 0] 38)) (w.heap.size+1) 38 #[.int .i64 0,.int .i64 0]∧Below w.heap.size w ((w.alloc (.cells aI 47)).alloc (.cells #[.int .i64 0,.int .i64 0] 38)) from
   ⟨aj.alloc (aj.new _ _ _) _,by simpa using aj.new (w.alloc (.cells aI 47)) 38 #[.int .i64 0,.int .i64 0],(qqb.alloc qql _).alloc (by simp) _⟩)
 clear hl hn;go_enter Tryz.func14,Tryz.ntmps14;go_wp2_with fail;refine(pJ.out _ fQ.out.2.2).mono ?_;rintro e w1 ⟨⟨cs,ds,_,_,rfl,hcs,hds⟩,aT⟩;obtain⟨A1,n1,c1,A2,n2,c2,rfl⟩:=tV hcs;obtain⟨B1,m1,d1,B2,m2,d2,rfl⟩:=tV hds;rw [show((w.alloc (.cells aI 47)).alloc (.cells #[.int .i64 0,.int .i64 0] 38)).heap.size=w.heap.size+2 by simp]at hcs hds;have Oy:=qqh hcs;have Rs:=qqh (And.intro (aj.below fQ.out.1 aT fQ.out.1.lt) (And.intro (aj.below fQ.out.2.1 aT fQ.out.2.1.lt) (fQ.out.2.2.trans (aT.mono fQ.out.2.2.size))));have hgt:=Nat.lt_of_lt_of_le fQ.out.2.1.lt aT.size;clear hcs hds aT;go_upto_region 2 with fail;obtain⟨hx,hy,fq⟩:=Rs.out;have hcs:=Oy.out;have HFE:=qqh (CE l);clear Rs Oy pJ fQ;have HPO:Hid (∀ (w':World) (cs:List Value),cs.length=3→ia w' (Fr B w.heap.size) (dQ false l).1 cs→MA B w.heap.size w' l false (.returned (.tuple #[.agg cs.toArray,.agg #[.int .i64 (dQ false l).2.1,.int .i64 (dQ false l).2.2]]))):=fun w' cs h3 h=>⟨cs,h3,rfl,h⟩;generalize hRA:dQ false l=RA at *;generalize hRB:dQ true l=RB at *;have bP:Below w1.heap.size w1 (((w1.alloc (.cells #[.bool RA.1.only?,.slice A1 n1 c1,.slice A2 n2 c2] 47)).alloc (.cells #[.bool RB.1.only?,.slice B1 m1 d1,.slice B2 m2 d2] 47)).alloc (.cells #[.int .i64 RA.2.1,.int .i64 RA.2.2] 38)):=((qqb.alloc qql _).alloc (by simp) _).alloc (by simp;omega) _;have UF:=aj.alloc (aj.alloc (aj.new w1 47 #[.bool RA.1.only?,.slice A1 n1 c1,.slice A2 n2 c2]) (.cells #[.bool RB.1.only?,.slice B1 m1 d1,.slice B2 m2 d2] 47)) (.cells #[.int .i64 RA.2.1,.int .i64 RA.2.2] 38)
 have hq1:=aj.alloc (aj.new (w1.alloc (.cells #[.bool RA.1.only?,.slice A1 n1 c1,.slice A2 n2 c2] 47)) 47 #[.bool RB.1.only?,.slice B1 m1 d1,.slice B2 m2 d2]) (.cells #[.int .i64 RA.2.1,.int .i64 RA.2.2] 38);have ON:=aj.new ((w1.alloc (.cells #[.bool RA.1.only?,.slice A1 n1 c1,.slice A2 n2 c2] 47)).alloc (.cells #[.bool RB.1.only?,.slice B1 m1 d1,.slice B2 m2 d2] 47)) 38 #[.int .i64 RA.2.1,.int .i64 RA.2.2];rw [show(w1.alloc (.cells #[.bool RA.1.only?,.slice A1 n1 c1,.slice A2 n2 c2] 47)).heap.size=w1.heap.size+1 by simp]at hq1;rw [show((w1.alloc (.cells #[.bool RA.1.only?,.slice A1 n1 c1,.slice A2 n2 c2] 47)).alloc (.cells #[.bool RB.1.only?,.slice B1 m1 d1,.slice B2 m2 d2] 47)).heap.size=w1.heap.size+1+1 by simp]at ON;have hx3:=aj.below hx bP hx.lt;have Wx:=aj.below hy bP hy.lt;have UE:=fq.trans (bP.mono fq.size);have WL:=hcs.keep (ag.below (X':=Fr B (w.heap.size+2)) bP (fun _ h _=>h));clear hx hy fq hcs bP;generalize ((w1.alloc (.cells #[.bool RA.1.only?,.slice A1 n1 c1,.slice A2 n2 c2] 47)).alloc (.cells #[.bool RB.1.only?,.slice B1 m1 d1,.slice B2 m2 d2] 47)).alloc (.cells #[.int .i64 RA.2.1,.int .i64 RA.2.2] 38)=W3 at *;have a0:W3.cell? ⟨w.heap.size,0,none⟩=some (.bool false):=hx3.cell 0;have a1:W3.cell? ⟨w.heap.size,1,none⟩=some (.slice none 0 0):=hx3.cell 1;have a2:W3.cell? ⟨w.heap.size,2,none⟩=some (.slice none 0 0):=hx3.cell 2;have b0:W3.cell? ⟨w.heap.size+1,0,none⟩=some (.int .i64 0):=Wx.cell 0;have b1:W3.cell? ⟨w.heap.size+1,1,none⟩=some (.int .i64 0):=Wx.cell 1
 have e0:W3.cell? ⟨w1.heap.size,0,none⟩=some (.bool RA.1.only?):=UF.cell 0;have e1:W3.cell? ⟨w1.heap.size,1,none⟩=some (.slice A1 n1 c1):=UF.cell 1;have e2:W3.cell? ⟨w1.heap.size,2,none⟩=some (.slice A2 n2 c2):=UF.cell 2;have g0:W3.cell? ⟨w1.heap.size+1+1,0,none⟩=some (.int .i64 RA.2.1):=ON.cell 0;have g1:W3.cell? ⟨w1.heap.size+1+1,1,none⟩=some (.int .i64 RA.2.2):=ON.cell 1;have f0:=hx3.frozen 0;have f1:=hx3.frozen 1;have f2:=hx3.frozen 2;have f3:=Wx.frozen 0;have f4:=Wx.frozen 1;have n0:¬ w.heap.size=w1.heap.size:=(by omega);have n1':¬ w.heap.size=w1.heap.size+1:=(by omega);have n2':¬ w.heap.size=w1.heap.size+1+1:=(by omega);have n3:¬ w.heap.size+1=w1.heap.size:=(by omega);have n4:¬ w.heap.size+1=w1.heap.size+1:=(by omega);have n5:¬ w.heap.size+1=w1.heap.size+1+1:=(by omega);have qY:=qqh UE;have Oy:=qqh WL;clear UF hq1 ON hx3 Wx UE WL hRA hRB;go_region
 all_goals
   go_wp2_with fail
   have fq:=((((qY.out.setCell (p:=⟨w.heap.size,0,none⟩) (by simp) (.bool RA.1.only?)).setCell (p:=⟨w.heap.size,1,none⟩) (by simp) (.slice A1 n1 c1)).setCell (p:=⟨w.heap.size,2,none⟩) (by simp) (.slice A2 n2 c2)).setCell (p:=⟨w.heap.size+1,0,none⟩) (by simp) (.int .i64 RA.2.1)).setCell (p:=⟨w.heap.size+1,1,none⟩) (by simp) (.int .i64 RA.2.2)
   have Vy:ag W3 (Fr B (w.heap.size+2)) (((((W3.setCell ⟨w.heap.size,0,none⟩ (.bool RA.1.only?)).setCell ⟨w.heap.size,1,none⟩ (.slice A1 n1 c1)).setCell ⟨w.heap.size,2,none⟩ (.slice A2 n2 c2)).setCell ⟨w.heap.size+1,0,none⟩ (.int .i64 RA.2.1)).setCell ⟨w.heap.size+1,1,none⟩ (.int .i64 RA.2.2)) (Fr B (w.heap.size+2)) :=
     ((((xN (by omega) (by omega)).trans (xN (by omega) (by omega))).trans (xN (by omega) (by omega))).trans (xN (by omega) (by omega))).trans (xN (by omega) (by omega))
   have Nu:=qqh (HPO.out _ _ rfl (Oy.out.keep (Vy.trans (ag.below qqb.drew (fun _ h _=>h.imp id (fun h=>by omega))))))
   have LK:=qqh fq.drew
   clear fq Vy
   refine bodyPost_ret (v:=.tuple #[.agg #[.bool RA.1.only?,.slice A1 n1 c1,.slice A2 n2 c2],.agg #[.int .i64 RA.2.1,.int .i64 RA.2.2]]) (by simp [results,Tryz.results14,go_sem,a0,a1,a2,b0,b1]) rfl ⟨?_,?_⟩
   · exact Nu.out
   · exact LK.out
end Go.Proofs.YtblinekbpcdbfaaGreatDoor
