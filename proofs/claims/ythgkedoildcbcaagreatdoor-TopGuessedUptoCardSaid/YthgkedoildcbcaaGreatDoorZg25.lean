/- RefWrong + Forth -/
import Derived.Test.YthgkedoildcbcaaGreatDoorZg21
import Derived.Deep.CutBlock
import Derived.Deep.RegionLaw
import Derived.Deep.RegionHeldLaw
import Derived.Test.YthgkedoildcbcaaGreatDoorZg24
set_option maxHeartbeats 3200000
set_option maxRecDepth 100000
namespace Go.Proofs.YthgkedoildcbcaaGreatDoor
open Go.RowKit Go.Maps
def rq (B lo:Nat) (w:World) (l:List aH) (back:Bool) (e:Ending):Prop :=
  ∃ cs:List Value,cs.length=3∧e=.returned (.tuple #[.agg cs.toArray,.agg #[.int .i64 (cG back l).2.1,.int .i64 (cG back l).2.2]])∧gv w (Fr B lo) (cG back l).1 cs
def I4 (w:World) (sb:Nat) (u0 u1 u2:Value) (wx:World):Prop :=
  ai wx w.heap.size 53 aD∧ai wx (w.heap.size+1) 32 #[.int .i64 0,.int .i64 0]∧ai wx sb 53 #[u0,u1,u2]∧Below w.heap.size w wx
section
variable {w wx w2 : World} {sb : Nat} {u0 u1 u2 : Value}
theorem I4.below (h:I4 w sb u0 u1 u2 wx) (hb:Below wx.heap.size wx w2):I4 w sb u0 u1 u2 w2 :=
  ⟨ai.below h.1 hb h.1.lt,ai.below h.2.1 hb h.2.1.lt,ai.below h.2.2.1 hb h.2.2.1.lt,h.2.2.2.trans (hb.mono h.2.2.2.size)⟩
theorem I4.set (h:I4 w sb u0 u1 u2 wx) {g i:Nat} {u:Value} (hg:w.heap.size+2≤g) (hs:g≠sb):I4 w sb u0 u1 u2 (wx.setCell ⟨g,i,none⟩ u) :=
  ⟨au h.1 (by omega),au h.2.1 (by omega),au h.2.2.1 (by omega),h.2.2.2.setCell (by simp only;omega) _⟩
end
def Sh (B lo:Nat) (op:Bool) (A:List ax) (P:List cB) (vp:Value) (wx:World):Prop :=
  (op=false∧A = []∧ClD B lo P vp wx)∨(op=true∧A ≠ []∧∃ va,Jt B lo va A P vp wx)
theorem Sh.below {B lo:Nat} {op:Bool} {A:List ax} {P:List cB} {vp:Value} {wx w2:World} (h:Sh B lo op A P vp wx) (hb:Below wx.heap.size wx w2):Sh B lo op A P vp w2:=by
 rcases h with ⟨h1,h2,h3⟩ | ⟨h1,h2,va,h3⟩;exact .inl ⟨h1,h2,h3.below hb⟩;exact .inr ⟨h1,h2,va,h3.below hb⟩
theorem Sh.set {B lo g i:Nat} {op:Bool} {A:List ax} {P:List cB} {vp u:Value} {wx:World} (h:Sh B lo op A P vp wx) (h1:B≤g) (h2:g<lo):Sh B lo op A P vp (wx.setCell ⟨g,i,none⟩ u):=by
 rcases h with ⟨g1,g2,h3⟩ | ⟨g1,g2,va,h3⟩;exact .inl ⟨g1,g2,cR.set h3 h1 h2⟩;exact .inr ⟨g1,g2,va,h3.set h1 h2⟩
theorem lz {w:World} {B s g i:Nat} {u:Value} (h0:B≤g) (h2:g<s):aa w (Fr B s) (w.setCell ⟨g,i,none⟩ u) (Fr B s) :=
  aa.setCell u (fun b hb=>by rcases hb with h | h <;> dsimp only <;> omega) (fun _ h _=>h)
theorem yD (B:Nat) (A:Option Addr) (n c:Nat) (l:List aH) (w:World) (hn:n≤maxLen) (hB:B≤w.heap.size) (hl:AV w B A n l) :
    Calls Tryz.prog 37 #[.slice A n c] w fun e w'=>qN B w.heap.size w' l e∧Below w.heap.size w w':=by
 by_cases hw:(fl l).1=0;exact zJ B A n c l w hn hB hl hw;exact tB B A n c l w hn hB hl hw
theorem sy (l:List aH):(cG true l).2=(cG false l).2:=by
 by_cases hw:(fl l).1=0
 ·rcases yR l l.length with ⟨s,t,h1,h2,_⟩ | ⟨e,h1,h2⟩
  ·rw [oc hw h1,oc hw h2]
  rw [jM hw (Nat.le_refl _) h1,jM hw (Nat.le_refl _) h2]
 rw [jL hw,jL hw]
theorem kQ {w:World} {X:Nat→Prop} {s:bS} {cs:List Value} (h:gv w X s cs):∃ A1 n1 c1 A2 n2 c2,cs = [.bool s.only?,.slice A1 n1 c1,.slice A2 n2 c2]:=by
 obtain⟨u,v,rfl,⟨A1,n1,c1,rfl,_⟩,⟨A2,n2,c2,rfl,_⟩⟩:=h;exact⟨_,_,_,_,_,_,rfl⟩
theorem yK (B:Nat) (A:Option Addr) (n c:Nat) (l:List aH) (w:World) (hn:n≤maxLen) (hB:B≤w.heap.size) (hl:AV w B A n l) :
    Calls Tryz.prog 14 #[.slice A n c] w fun e w'=>rq B w.heap.size w' l false e∧Below w.heap.size w w':=by
 have kF:=qqh (fun(w':World) (hb:Below w.heap.size w w')=>yD B A n c l w' hn (Nat.le_trans hB hb.size) (AV.weak (eO (hb.mono hB) (Nat.le_refl _)) hl))
 have fB:=qqh (show ai ((w.alloc (.cells aD 53)).alloc (.cells #[.int .i64 0,.int .i64 0] 32)) w.heap.size 53 aD∧ai ((w.alloc (.cells aD 53)).alloc (.cells #[.int .i64 0,.int .i64 0] 32)) (w.heap.size+1) 32 #[.int .i64 0,.int .i64 0]∧Below w.heap.size w ((w.alloc (.cells aD 53)).alloc (.cells #[.int .i64 0,.int .i64 0] 32)) from
   ⟨ai.alloc (ai.new _ _ _) _,by simpa using ai.new (w.alloc (.cells aD 53)) 32 #[.int .i64 0,.int .i64 0],((Below.refl _ _).alloc (Nat.le_refl _) _).alloc (by simp) _⟩)
 clear hl hn;go_enter Tryz.func14,Tryz.ntmps14;go_wp2_with fail;refine(kF.out _ fB.out.2.2).mono ?_;rintro e w1 ⟨⟨cs,ds,_,_,rfl,hcs,hds⟩,aP⟩;obtain⟨A1,n1,c1,A2,n2,c2,rfl⟩:=kQ hcs;obtain⟨B1,m1,d1,B2,m2,d2,rfl⟩:=kQ hds;rw [show((w.alloc (.cells aD 53)).alloc (.cells #[.int .i64 0,.int .i64 0] 32)).heap.size=w.heap.size+2 by simp]at hcs hds;have DY:=qqh hcs;have N3:=qqh (And.intro (ai.below fB.out.1 aP fB.out.1.lt) (And.intro (ai.below fB.out.2.1 aP fB.out.2.1.lt) (fB.out.2.2.trans (aP.mono fB.out.2.2.size))));have hgt:=Nat.lt_of_lt_of_le fB.out.2.1.lt aP.size;clear hcs hds aP;go_upto_region 2 with fail;obtain⟨hx,hy,dV⟩:=N3.out;have hcs:=DY.out;have HFE:=qqh (sy l);clear N3 DY kF fB;have YX:Hid (∀ (w':World) (cs:List Value),cs.length=3→gv w' (Fr B w.heap.size) (cG false l).1 cs→rq B w.heap.size w' l false (.returned (.tuple #[.agg cs.toArray,.agg #[.int .i64 (cG false l).2.1,.int .i64 (cG false l).2.2]]))):=fun w' cs h3 h=>⟨cs,h3,rfl,h⟩;generalize hRA:cG false l=RA at *;generalize Za:cG true l=RB at *;have bL:Below w1.heap.size w1 (((w1.alloc (.cells #[.bool RA.1.only?,.slice A1 n1 c1,.slice A2 n2 c2] 53)).alloc (.cells #[.bool RB.1.only?,.slice B1 m1 d1,.slice B2 m2 d2] 53)).alloc (.cells #[.int .i64 RA.2.1,.int .i64 RA.2.2] 32)):=(((Below.refl _ _).alloc (Nat.le_refl _) _).alloc (by simp) _).alloc (by simp;omega) _;have KM:=ai.alloc (ai.alloc (ai.new w1 53 #[.bool RA.1.only?,.slice A1 n1 c1,.slice A2 n2 c2]) (.cells #[.bool RB.1.only?,.slice B1 m1 d1,.slice B2 m2 d2] 53)) (.cells #[.int .i64 RA.2.1,.int .i64 RA.2.2] 32)
 have hq1:=ai.alloc (ai.new (w1.alloc (.cells #[.bool RA.1.only?,.slice A1 n1 c1,.slice A2 n2 c2] 53)) 53 #[.bool RB.1.only?,.slice B1 m1 d1,.slice B2 m2 d2]) (.cells #[.int .i64 RA.2.1,.int .i64 RA.2.2] 32);have F9:=ai.new ((w1.alloc (.cells #[.bool RA.1.only?,.slice A1 n1 c1,.slice A2 n2 c2] 53)).alloc (.cells #[.bool RB.1.only?,.slice B1 m1 d1,.slice B2 m2 d2] 53)) 32 #[.int .i64 RA.2.1,.int .i64 RA.2.2];rw [show(w1.alloc (.cells #[.bool RA.1.only?,.slice A1 n1 c1,.slice A2 n2 c2] 53)).heap.size=w1.heap.size+1 by simp]at hq1;rw [show((w1.alloc (.cells #[.bool RA.1.only?,.slice A1 n1 c1,.slice A2 n2 c2] 53)).alloc (.cells #[.bool RB.1.only?,.slice B1 m1 d1,.slice B2 m2 d2] 53)).heap.size=w1.heap.size+1+1 by simp]at F9;have hx3:=ai.below hx bL hx.lt;have Mc:=ai.below hy bL hy.lt;have JB:=dV.trans (bL.mono dV.size);have JV:=hcs.keep (aa.below (X':=Fr B (w.heap.size+2)) bL (fun _ h _=>h));clear hx hy dV hcs bL;generalize ((w1.alloc (.cells #[.bool RA.1.only?,.slice A1 n1 c1,.slice A2 n2 c2] 53)).alloc (.cells #[.bool RB.1.only?,.slice B1 m1 d1,.slice B2 m2 d2] 53)).alloc (.cells #[.int .i64 RA.2.1,.int .i64 RA.2.2] 32)=W3 at *;have a0:W3.cell? ⟨w.heap.size,0,none⟩=some (.bool false):=hx3.cell 0;have a1:W3.cell? ⟨w.heap.size,1,none⟩=some (.slice none 0 0):=hx3.cell 1;have a2:W3.cell? ⟨w.heap.size,2,none⟩=some (.slice none 0 0):=hx3.cell 2;have b0:W3.cell? ⟨w.heap.size+1,0,none⟩=some (.int .i64 0):=Mc.cell 0;have b1:W3.cell? ⟨w.heap.size+1,1,none⟩=some (.int .i64 0):=Mc.cell 1
 have e0:W3.cell? ⟨w1.heap.size,0,none⟩=some (.bool RA.1.only?):=KM.cell 0;have e1:W3.cell? ⟨w1.heap.size,1,none⟩=some (.slice A1 n1 c1):=KM.cell 1;have e2:W3.cell? ⟨w1.heap.size,2,none⟩=some (.slice A2 n2 c2):=KM.cell 2;have g0:W3.cell? ⟨w1.heap.size+1+1,0,none⟩=some (.int .i64 RA.2.1):=F9.cell 0;have g1:W3.cell? ⟨w1.heap.size+1+1,1,none⟩=some (.int .i64 RA.2.2):=F9.cell 1;have f0:=hx3.frozen 0;have f1:=hx3.frozen 1;have f2:=hx3.frozen 2;have f3:=Mc.frozen 0;have f4:=Mc.frozen 1;have n0:¬ w.heap.size=w1.heap.size:=(by omega);have n1':¬ w.heap.size=w1.heap.size+1:=(by omega);have RW:¬ w.heap.size=w1.heap.size+1+1:=(by omega);have n3:¬ w.heap.size+1=w1.heap.size:=(by omega);have n4:¬ w.heap.size+1=w1.heap.size+1:=(by omega);have n5:¬ w.heap.size+1=w1.heap.size+1+1:=(by omega);have tV:=qqh JB;have DY:=qqh JV;clear KM hq1 F9 hx3 Mc JB JV hRA Za;go_region
 all_goals
   go_wp2_with fail
   have dV:=((((tV.out.setCell (p:=⟨w.heap.size,0,none⟩) (by simp) (.bool RA.1.only?)).setCell (p:=⟨w.heap.size,1,none⟩) (by simp) (.slice A1 n1 c1)).setCell (p:=⟨w.heap.size,2,none⟩) (by simp) (.slice A2 n2 c2)).setCell (p:=⟨w.heap.size+1,0,none⟩) (by simp) (.int .i64 RA.2.1)).setCell (p:=⟨w.heap.size+1,1,none⟩) (by simp) (.int .i64 RA.2.2)
   have Pe:aa W3 (Fr B (w.heap.size+2)) (((((W3.setCell ⟨w.heap.size,0,none⟩ (.bool RA.1.only?)).setCell ⟨w.heap.size,1,none⟩ (.slice A1 n1 c1)).setCell ⟨w.heap.size,2,none⟩ (.slice A2 n2 c2)).setCell ⟨w.heap.size+1,0,none⟩ (.int .i64 RA.2.1)).setCell ⟨w.heap.size+1,1,none⟩ (.int .i64 RA.2.2)) (Fr B (w.heap.size+2)) :=
     ((((lz (by omega) (by omega)).trans (lz (by omega) (by omega))).trans (lz (by omega) (by omega))).trans (lz (by omega) (by omega))).trans (lz (by omega) (by omega))
   have Ib:=qqh (YX.out _ _ rfl (DY.out.keep (Pe.trans (aa.below (Below.refl _ _).drew (fun _ h _=>h.imp id (fun h=>by omega))))))
   have Ea:=qqh dV.drew
   clear dV Pe
   refine bodyPost_ret (v:=.tuple #[.agg #[.bool RA.1.only?,.slice A1 n1 c1,.slice A2 n2 c2],.agg #[.int .i64 RA.2.1,.int .i64 RA.2.2]]) (by simp [results,Tryz.results14,go_sem,a0,a1,a2,b0,b1]) rfl ⟨?_,?_⟩
   · exact Ib.out
   · exact Ea.out
theorem La (B:Nat) (A:Option Addr) (n c:Nat) (l:List aH) (w:World) (hn:n≤maxLen) (hB:B≤w.heap.size) (hl:AV w B A n l) :
    Calls Tryz.prog 16 #[.slice A n c] w fun e w'=>rq B w.heap.size w' l true e∧Below w.heap.size w w':=by
 have kF:=qqh (fun(w':World) (hb:Below w.heap.size w w')=>yD B A n c l w' hn (Nat.le_trans hB hb.size) (AV.weak (eO (hb.mono hB) (Nat.le_refl _)) hl))
 have fB:=qqh (show ai ((w.alloc (.cells aD 53)).alloc (.cells #[.int .i64 0,.int .i64 0] 32)) w.heap.size 53 aD∧ai ((w.alloc (.cells aD 53)).alloc (.cells #[.int .i64 0,.int .i64 0] 32)) (w.heap.size+1) 32 #[.int .i64 0,.int .i64 0]∧Below w.heap.size w ((w.alloc (.cells aD 53)).alloc (.cells #[.int .i64 0,.int .i64 0] 32)) from
   ⟨ai.alloc (ai.new _ _ _) _,by simpa using ai.new (w.alloc (.cells aD 53)) 32 #[.int .i64 0,.int .i64 0],((Below.refl _ _).alloc (Nat.le_refl _) _).alloc (by simp) _⟩)
 clear hl hn;go_enter Tryz.func16,Tryz.ntmps16;go_wp2_with fail;refine(kF.out _ fB.out.2.2).mono ?_;rintro e w1 ⟨⟨cs,ds,_,_,rfl,hcs,hds⟩,aP⟩;obtain⟨A1,n1,c1,A2,n2,c2,rfl⟩:=kQ hcs;obtain⟨B1,m1,d1,B2,m2,d2,rfl⟩:=kQ hds;rw [show((w.alloc (.cells aD 53)).alloc (.cells #[.int .i64 0,.int .i64 0] 32)).heap.size=w.heap.size+2 by simp]at hcs hds;have DY:=qqh hds;have N3:=qqh (And.intro (ai.below fB.out.1 aP fB.out.1.lt) (And.intro (ai.below fB.out.2.1 aP fB.out.2.1.lt) (fB.out.2.2.trans (aP.mono fB.out.2.2.size))));have hgt:=Nat.lt_of_lt_of_le fB.out.2.1.lt aP.size;clear hcs hds aP;go_upto_region 2 with fail;obtain⟨hx,hy,dV⟩:=N3.out;have hcs:=DY.out;have HFE:=qqh (sy l);clear N3 DY kF fB;have YX:Hid (∀ (w':World) (cs:List Value),cs.length=3→gv w' (Fr B w.heap.size) (cG true l).1 cs→rq B w.heap.size w' l true (.returned (.tuple #[.agg cs.toArray,.agg #[.int .i64 (cG false l).2.1,.int .i64 (cG false l).2.2]]))):=fun w' cs h3 h=>⟨cs,h3,by rw [HFE.out],h⟩;generalize hRA:cG false l=RA at *;generalize Za:cG true l=RB at *;have bL:Below w1.heap.size w1 (((w1.alloc (.cells #[.bool RA.1.only?,.slice A1 n1 c1,.slice A2 n2 c2] 53)).alloc (.cells #[.bool RB.1.only?,.slice B1 m1 d1,.slice B2 m2 d2] 53)).alloc (.cells #[.int .i64 RA.2.1,.int .i64 RA.2.2] 32)):=(((Below.refl _ _).alloc (Nat.le_refl _) _).alloc (by simp) _).alloc (by simp;omega) _
 have KM:=ai.alloc (ai.alloc (ai.new w1 53 #[.bool RA.1.only?,.slice A1 n1 c1,.slice A2 n2 c2]) (.cells #[.bool RB.1.only?,.slice B1 m1 d1,.slice B2 m2 d2] 53)) (.cells #[.int .i64 RA.2.1,.int .i64 RA.2.2] 32);have hq1:=ai.alloc (ai.new (w1.alloc (.cells #[.bool RA.1.only?,.slice A1 n1 c1,.slice A2 n2 c2] 53)) 53 #[.bool RB.1.only?,.slice B1 m1 d1,.slice B2 m2 d2]) (.cells #[.int .i64 RA.2.1,.int .i64 RA.2.2] 32);have F9:=ai.new ((w1.alloc (.cells #[.bool RA.1.only?,.slice A1 n1 c1,.slice A2 n2 c2] 53)).alloc (.cells #[.bool RB.1.only?,.slice B1 m1 d1,.slice B2 m2 d2] 53)) 32 #[.int .i64 RA.2.1,.int .i64 RA.2.2];rw [show(w1.alloc (.cells #[.bool RA.1.only?,.slice A1 n1 c1,.slice A2 n2 c2] 53)).heap.size=w1.heap.size+1 by simp]at hq1;rw [show((w1.alloc (.cells #[.bool RA.1.only?,.slice A1 n1 c1,.slice A2 n2 c2] 53)).alloc (.cells #[.bool RB.1.only?,.slice B1 m1 d1,.slice B2 m2 d2] 53)).heap.size=w1.heap.size+1+1 by simp]at F9;have hx3:=ai.below hx bL hx.lt;have Mc:=ai.below hy bL hy.lt;have JB:=dV.trans (bL.mono dV.size);have JV:=hcs.keep (aa.below (X':=Fr B (w.heap.size+2)) bL (fun _ h _=>h));clear hx hy dV hcs bL;generalize ((w1.alloc (.cells #[.bool RA.1.only?,.slice A1 n1 c1,.slice A2 n2 c2] 53)).alloc (.cells #[.bool RB.1.only?,.slice B1 m1 d1,.slice B2 m2 d2] 53)).alloc (.cells #[.int .i64 RA.2.1,.int .i64 RA.2.2] 32)=W3 at *;have a0:W3.cell? ⟨w.heap.size,0,none⟩=some (.bool false):=hx3.cell 0;have a1:W3.cell? ⟨w.heap.size,1,none⟩=some (.slice none 0 0):=hx3.cell 1
 have a2:W3.cell? ⟨w.heap.size,2,none⟩=some (.slice none 0 0):=hx3.cell 2;have b0:W3.cell? ⟨w.heap.size+1,0,none⟩=some (.int .i64 0):=Mc.cell 0;have b1:W3.cell? ⟨w.heap.size+1,1,none⟩=some (.int .i64 0):=Mc.cell 1;have e0:W3.cell? ⟨w1.heap.size+1,0,none⟩=some (.bool RB.1.only?):=hq1.cell 0;have e1:W3.cell? ⟨w1.heap.size+1,1,none⟩=some (.slice B1 m1 d1):=hq1.cell 1;have e2:W3.cell? ⟨w1.heap.size+1,2,none⟩=some (.slice B2 m2 d2):=hq1.cell 2;have g0:W3.cell? ⟨w1.heap.size+1+1,0,none⟩=some (.int .i64 RA.2.1):=F9.cell 0;have g1:W3.cell? ⟨w1.heap.size+1+1,1,none⟩=some (.int .i64 RA.2.2):=F9.cell 1;have f0:=hx3.frozen 0;have f1:=hx3.frozen 1;have f2:=hx3.frozen 2;have f3:=Mc.frozen 0;have f4:=Mc.frozen 1;have n0:¬ w.heap.size=w1.heap.size:=(by omega);have n1':¬ w.heap.size=w1.heap.size+1:=(by omega);have RW:¬ w.heap.size=w1.heap.size+1+1:=(by omega);have n3:¬ w.heap.size+1=w1.heap.size:=(by omega);have n4:¬ w.heap.size+1=w1.heap.size+1:=(by omega);have n5:¬ w.heap.size+1=w1.heap.size+1+1:=(by omega);have tV:=qqh JB;have DY:=qqh JV;clear KM hq1 F9 hx3 Mc JB JV hRA Za;go_region
 all_goals
   go_wp2_with fail
   have dV:=((((tV.out.setCell (p:=⟨w.heap.size,0,none⟩) (by simp) (.bool RB.1.only?)).setCell (p:=⟨w.heap.size,1,none⟩) (by simp) (.slice B1 m1 d1)).setCell (p:=⟨w.heap.size,2,none⟩) (by simp) (.slice B2 m2 d2)).setCell (p:=⟨w.heap.size+1,0,none⟩) (by simp) (.int .i64 RA.2.1)).setCell (p:=⟨w.heap.size+1,1,none⟩) (by simp) (.int .i64 RA.2.2)
   have Pe:aa W3 (Fr B (w.heap.size+2)) (((((W3.setCell ⟨w.heap.size,0,none⟩ (.bool RB.1.only?)).setCell ⟨w.heap.size,1,none⟩ (.slice B1 m1 d1)).setCell ⟨w.heap.size,2,none⟩ (.slice B2 m2 d2)).setCell ⟨w.heap.size+1,0,none⟩ (.int .i64 RA.2.1)).setCell ⟨w.heap.size+1,1,none⟩ (.int .i64 RA.2.2)) (Fr B (w.heap.size+2)) :=
     ((((lz (by omega) (by omega)).trans (lz (by omega) (by omega))).trans (lz (by omega) (by omega))).trans (lz (by omega) (by omega))).trans (lz (by omega) (by omega))
   have Ib:=qqh (YX.out _ _ rfl (DY.out.keep (Pe.trans (aa.below (Below.refl _ _).drew (fun _ h _=>h.imp id (fun h=>by omega))))))
   have Ea:=qqh dV.drew
   clear dV Pe
   refine bodyPost_ret (v:=.tuple #[.agg #[.bool RB.1.only?,.slice B1 m1 d1,.slice B2 m2 d2],.agg #[.int .i64 RA.2.1,.int .i64 RA.2.2]]) (by simp [results,Tryz.results16,go_sem,a0,a1,a2,b0,b1]) rfl ⟨?_,?_⟩
   · exact Ib.out
   · exact Ea.out
end Go.Proofs.YthgkedoildcbcaaGreatDoor
