/- RefWrong + Forth -/
import Derived.Test.YthgkedoildcbcaaGreatDoorZt20
import Derived.Deep.CutBlock
import Derived.Deep.RegionLaw
import Derived.Deep.RegionHeldLaw
import Derived.Test.YthgkedoildcbcaaGreatDoorZt23
set_option maxHeartbeats 3200000
set_option maxRecDepth 100000
namespace Go.Proofs.YthgkedoildcbcaaGreatDoor
open Go.RowKit Go.Maps
def tg (B lo:Nat) (w:World) (l:List aF) (back:Bool) (e:Ending):Prop :=
  ∃ cs:List Value,cs.length=3∧e=.returned (.tuple #[.agg cs.toArray,.agg #[.int .i64 (dD back l).2.1,.int .i64 (dD back l).2.2]])∧ij w (Fr B lo) (dD back l).1 cs
def vE (w:World) (sb:Nat) (u0 u1 u2:Value) (wx:World):Prop :=
  ai wx w.heap.size 53 aC∧ai wx (w.heap.size+1) 32 #[.int .i64 0,.int .i64 0]∧ai wx sb 53 #[u0,u1,u2]∧Below w.heap.size w wx
section
variable {w wx w2 : World} {sb : Nat} {u0 u1 u2 : Value}
theorem vE.below (h:vE w sb u0 u1 u2 wx) (hb:Below wx.heap.size wx w2):vE w sb u0 u1 u2 w2 :=
  ⟨ai.below h.1 hb h.1.lt,ai.below h.2.1 hb h.2.1.lt,ai.below h.2.2.1 hb h.2.2.1.lt,h.2.2.2.trans (hb.mono h.2.2.2.size)⟩
theorem vE.alloc (h:vE w sb u0 u1 u2 wx) (o:Obj):vE w sb u0 u1 u2 (wx.alloc o):=h.below ((Below.refl _ _).alloc (Nat.le_refl _) o)
theorem vE.app (h:vE w sb u0 u1 u2 wx) {base sz n m:Nat} {e:TypeId} {v v':Value} {xs ys:List Value} (ho:wx.ownsRow base e sz v n xs) (h1 : 53 ≠ e) (h2 : 32 ≠ e) (hb:w.heap.size≤base) (ha:aR base e sz v wx m ys v' w2):vE w sb u0 u1 u2 w2 :=
  ⟨bM h.1 ho h1 ha,bM h.2.1 ho h2 ha,bM h.2.2.1 ho h1 ha,h.2.2.2.trans (ha.below h.2.2.2.size (iE ho hb))⟩
theorem vE.set (h:vE w sb u0 u1 u2 wx) {g i:Nat} {u:Value} (hg:w.heap.size+2≤g) (hs:g≠sb):vE w sb u0 u1 u2 (wx.setCell ⟨g,i,none⟩ u) :=
  ⟨av h.1 (by omega),av h.2.1 (by omega),av h.2.2.1 (by omega),h.2.2.2.setCell (by simp only;omega) _⟩
end
def TY (B lo:Nat) (op:Bool) (A:List aj) (P:List cn) (vp:Value) (wx:World):Prop :=
  (op=false∧A = []∧Yq B lo P vp wx)∨(op=true∧A ≠ []∧∃ va,Ea B lo va A P vp wx)
theorem TY.below {B lo:Nat} {op:Bool} {A:List aj} {P:List cn} {vp:Value} {wx w2:World} (h:TY B lo op A P vp wx) (hb:Below wx.heap.size wx w2):TY B lo op A P vp w2:=by
 rcases h with ⟨h1,h2,h3⟩ | ⟨h1,h2,va,h3⟩;exact .inl ⟨h1,h2,h3.below hb⟩;exact .inr ⟨h1,h2,va,h3.below hb⟩
theorem TY.set {B lo g i:Nat} {op:Bool} {A:List aj} {P:List cn} {vp u:Value} {wx:World} (h:TY B lo op A P vp wx) (h1:B≤g) (h2:g<lo):TY B lo op A P vp (wx.setCell ⟨g,i,none⟩ u):=by
 rcases h with ⟨g1,g2,h3⟩ | ⟨g1,g2,va,h3⟩;exact .inl ⟨g1,g2,cS.set h3 h1 h2⟩;exact .inr ⟨g1,g2,va,h3.set h1 h2⟩
theorem Yq.row {B lo:Nat} {P:List cn} {vp:Value} {wx:World} (h:Yq B lo P vp wx):∀ b,vp.ownBlock=some b→lo≤b∧b<wx.heap.size:=by
 obtain⟨_,_,⟨_,_,_,_,o3⟩,_⟩:=h;exact fun b hb=>aQ o3 hb
theorem Ea.row {B lo:Nat} {va vp:Value} {A:List aj} {P:List cn} {wx:World} (h:Ea B lo va A P vp wx):(∀ b,va.ownBlock=some b→lo≤b∧b<wx.heap.size)∧(∀ b,vp.ownBlock=some b→lo≤b∧b<wx.heap.size):=by
 obtain⟨⟨_,_,_,_,o1⟩,_,_,_,_,o3⟩:=h;exact⟨fun b hb=>aQ o1 hb,fun b hb=>aQ o3 hb⟩
theorem mH {w:World} {B s g i:Nat} {u:Value} (h0:B≤g) (h2:g<s):af w (Fr B s) (w.setCell ⟨g,i,none⟩ u) (Fr B s) :=
  af.setCell u (fun b hb=>by rcases hb with h | h <;> dsimp only <;> omega) (fun _ h _=>h)
theorem AG (B:Nat) (A:Option Addr) (n c:Nat) (l:List aF) (w:World) (hn:n≤maxLen) (hB:B≤w.heap.size) (hl:Ee w B A n l) :
    Calls Tryz.prog 37 #[.slice A n c] w fun e w'=>sO B w.heap.size w' l e∧Below w.heap.size w w':=by
 by_cases hw:(fP l).1=0;exact Cn B A n c l w hn hB hl hw;exact vT B A n c l w hn hB hl hw
theorem uz (l:List aF):(dD true l).2=(dD false l).2:=by
 by_cases hw:(fP l).1=0
 ·rcases AP l l.length with ⟨s,t,h1,h2,_⟩ | ⟨e,h1,h2⟩
  ·rw [pS hw h1,pS hw h2]
  rw [kP hw (Nat.le_refl _) h1,kP hw (Nat.le_refl _) h2]
 rw [kJ hw,kJ hw]
theorem iT {w:World} {X:Nat→Prop} {s:b8} {cs:List Value} (h:ij w X s cs):∃ A1 n1 c1 A2 n2 c2,cs = [.bool s.only?,.slice A1 n1 c1,.slice A2 n2 c2]:=by
 obtain⟨u,v,rfl,⟨A1,n1,c1,rfl,_⟩,⟨A2,n2,c2,rfl,_⟩⟩:=h;exact⟨_,_,_,_,_,_,rfl⟩
theorem Ak (B:Nat) (A:Option Addr) (n c:Nat) (l:List aF) (w:World) (hn:n≤maxLen) (hB:B≤w.heap.size) (hl:Ee w B A n l) :
    Calls Tryz.prog 14 #[.slice A n c] w fun e w'=>tg B w.heap.size w' l false e∧Below w.heap.size w w':=by
 have oe:=qqh (fun(w':World) (hb:Below w.heap.size w w')=>AG B A n c l w' hn (Nat.le_trans hB hb.size) (Ee.weak (gn (hb.mono hB) (Nat.le_refl _)) hl))
 have fZ:=qqh (show ai ((w.alloc (.cells aC 53)).alloc (.cells #[.int .i64 0,.int .i64 0] 32)) w.heap.size 53 aC∧ai ((w.alloc (.cells aC 53)).alloc (.cells #[.int .i64 0,.int .i64 0] 32)) (w.heap.size+1) 32 #[.int .i64 0,.int .i64 0]∧Below w.heap.size w ((w.alloc (.cells aC 53)).alloc (.cells #[.int .i64 0,.int .i64 0] 32)) from
   ⟨ai.alloc (ai.new _ _ _) _,by simpa using ai.new (w.alloc (.cells aC 53)) 32 #[.int .i64 0,.int .i64 0],((Below.refl _ _).alloc (Nat.le_refl _) _).alloc (by simp) _⟩)
 clear hl hn;go_enter Tryz.func14,Tryz.ntmps14;go_wp2_with fail;refine(oe.out _ fZ.out.2.2).mono ?_;rintro e w1 ⟨⟨cs,ds,_,_,rfl,hcs,hds⟩,aW⟩;obtain⟨A1,n1,c1,A2,n2,c2,rfl⟩:=iT hcs;obtain⟨B1,m1,d1,B2,m2,d2,rfl⟩:=iT hds;rw [show((w.alloc (.cells aC 53)).alloc (.cells #[.int .i64 0,.int .i64 0] 32)).heap.size=w.heap.size+2 by simp]at hcs hds;have FC:=qqh hcs;have G8:=qqh (And.intro (ai.below fZ.out.1 aW fZ.out.1.lt) (And.intro (ai.below fZ.out.2.1 aW fZ.out.2.1.lt) (fZ.out.2.2.trans (aW.mono fZ.out.2.2.size))));have hgt:=Nat.lt_of_lt_of_le fZ.out.2.1.lt aW.size;clear hcs hds aW;go_upto_region 2 with fail;obtain⟨hx,hy,eX⟩:=G8.out;have hcs:=FC.out;have HFE:=qqh (uz l);clear G8 FC oe fZ;have QC:Hid (∀ (w':World) (cs:List Value),cs.length=3→ij w' (Fr B w.heap.size) (dD false l).1 cs→tg B w.heap.size w' l false (.returned (.tuple #[.agg cs.toArray,.agg #[.int .i64 (dD false l).2.1,.int .i64 (dD false l).2.2]]))):=fun w' cs h3 h=>⟨cs,h3,rfl,h⟩;generalize hRA:dD false l=RA at *;generalize hRB:dD true l=RB at *;have bN:Below w1.heap.size w1 (((w1.alloc (.cells #[.bool RA.1.only?,.slice A1 n1 c1,.slice A2 n2 c2] 53)).alloc (.cells #[.bool RB.1.only?,.slice B1 m1 d1,.slice B2 m2 d2] 53)).alloc (.cells #[.int .i64 RA.2.1,.int .i64 RA.2.2] 32)):=(((Below.refl _ _).alloc (Nat.le_refl _) _).alloc (by simp) _).alloc (by simp;omega) _;have Q5:=ai.alloc (ai.alloc (ai.new w1 53 #[.bool RA.1.only?,.slice A1 n1 c1,.slice A2 n2 c2]) (.cells #[.bool RB.1.only?,.slice B1 m1 d1,.slice B2 m2 d2] 53)) (.cells #[.int .i64 RA.2.1,.int .i64 RA.2.2] 32)
 have hq1:=ai.alloc (ai.new (w1.alloc (.cells #[.bool RA.1.only?,.slice A1 n1 c1,.slice A2 n2 c2] 53)) 53 #[.bool RB.1.only?,.slice B1 m1 d1,.slice B2 m2 d2]) (.cells #[.int .i64 RA.2.1,.int .i64 RA.2.2] 32);have Hj:=ai.new ((w1.alloc (.cells #[.bool RA.1.only?,.slice A1 n1 c1,.slice A2 n2 c2] 53)).alloc (.cells #[.bool RB.1.only?,.slice B1 m1 d1,.slice B2 m2 d2] 53)) 32 #[.int .i64 RA.2.1,.int .i64 RA.2.2];rw [show(w1.alloc (.cells #[.bool RA.1.only?,.slice A1 n1 c1,.slice A2 n2 c2] 53)).heap.size=w1.heap.size+1 by simp]at hq1;rw [show((w1.alloc (.cells #[.bool RA.1.only?,.slice A1 n1 c1,.slice A2 n2 c2] 53)).alloc (.cells #[.bool RB.1.only?,.slice B1 m1 d1,.slice B2 m2 d2] 53)).heap.size=w1.heap.size+1+1 by simp]at Hj;have hx3:=ai.below hx bN hx.lt;have Mg:=ai.below hy bN hy.lt;have NH:=eX.trans (bN.mono eX.size);have Nl:=hcs.keep (af.below (X':=Fr B (w.heap.size+2)) bN (fun _ h _=>h));clear hx hy eX hcs bN;generalize ((w1.alloc (.cells #[.bool RA.1.only?,.slice A1 n1 c1,.slice A2 n2 c2] 53)).alloc (.cells #[.bool RB.1.only?,.slice B1 m1 d1,.slice B2 m2 d2] 53)).alloc (.cells #[.int .i64 RA.2.1,.int .i64 RA.2.2] 32)=W3 at *;have a0:W3.cell? ⟨w.heap.size,0,none⟩=some (.bool false):=hx3.cell 0;have a1:W3.cell? ⟨w.heap.size,1,none⟩=some (.slice none 0 0):=hx3.cell 1;have a2:W3.cell? ⟨w.heap.size,2,none⟩=some (.slice none 0 0):=hx3.cell 2;have b0:W3.cell? ⟨w.heap.size+1,0,none⟩=some (.int .i64 0):=Mg.cell 0;have b1:W3.cell? ⟨w.heap.size+1,1,none⟩=some (.int .i64 0):=Mg.cell 1
 have e0:W3.cell? ⟨w1.heap.size,0,none⟩=some (.bool RA.1.only?):=Q5.cell 0;have e1:W3.cell? ⟨w1.heap.size,1,none⟩=some (.slice A1 n1 c1):=Q5.cell 1;have e2:W3.cell? ⟨w1.heap.size,2,none⟩=some (.slice A2 n2 c2):=Q5.cell 2;have g0:W3.cell? ⟨w1.heap.size+1+1,0,none⟩=some (.int .i64 RA.2.1):=Hj.cell 0;have g1:W3.cell? ⟨w1.heap.size+1+1,1,none⟩=some (.int .i64 RA.2.2):=Hj.cell 1;have f0:=hx3.frozen 0;have f1:=hx3.frozen 1;have f2:=hx3.frozen 2;have f3:=Mg.frozen 0;have f4:=Mg.frozen 1;have n0:¬ w.heap.size=w1.heap.size:=(by omega);have n1':¬ w.heap.size=w1.heap.size+1:=(by omega);have n2':¬ w.heap.size=w1.heap.size+1+1:=(by omega);have n3:¬ w.heap.size+1=w1.heap.size:=(by omega);have n4:¬ w.heap.size+1=w1.heap.size+1:=(by omega);have n5:¬ w.heap.size+1=w1.heap.size+1+1:=(by omega);have wA:=qqh NH;have FC:=qqh Nl;clear Q5 hq1 Hj hx3 Mg NH Nl hRA hRB;go_region
 all_goals
   go_wp2_with fail
   have eX:=((((wA.out.setCell (p:=⟨w.heap.size,0,none⟩) (by simp) (.bool RA.1.only?)).setCell (p:=⟨w.heap.size,1,none⟩) (by simp) (.slice A1 n1 c1)).setCell (p:=⟨w.heap.size,2,none⟩) (by simp) (.slice A2 n2 c2)).setCell (p:=⟨w.heap.size+1,0,none⟩) (by simp) (.int .i64 RA.2.1)).setCell (p:=⟨w.heap.size+1,1,none⟩) (by simp) (.int .i64 RA.2.2)
   have Qb:af W3 (Fr B (w.heap.size+2)) (((((W3.setCell ⟨w.heap.size,0,none⟩ (.bool RA.1.only?)).setCell ⟨w.heap.size,1,none⟩ (.slice A1 n1 c1)).setCell ⟨w.heap.size,2,none⟩ (.slice A2 n2 c2)).setCell ⟨w.heap.size+1,0,none⟩ (.int .i64 RA.2.1)).setCell ⟨w.heap.size+1,1,none⟩ (.int .i64 RA.2.2)) (Fr B (w.heap.size+2)) :=
     ((((mH (by omega) (by omega)).trans (mH (by omega) (by omega))).trans (mH (by omega) (by omega))).trans (mH (by omega) (by omega))).trans (mH (by omega) (by omega))
   have Jy:=qqh (QC.out _ _ rfl (FC.out.keep (Qb.trans (af.below (Below.refl _ _).drew (fun _ h _=>h.imp id (fun h=>by omega))))))
   have Gj:=qqh eX.drew
   clear eX Qb
   refine bodyPost_ret (v:=.tuple #[.agg #[.bool RA.1.only?,.slice A1 n1 c1,.slice A2 n2 c2],.agg #[.int .i64 RA.2.1,.int .i64 RA.2.2]]) (by simp [results,Tryz.results14,go_sem,a0,a1,a2,b0,b1]) rfl ⟨?_,?_⟩
   · exact Jy.out
   · exact Gj.out
theorem DJ (B:Nat) (A:Option Addr) (n c:Nat) (l:List aF) (w:World) (hn:n≤maxLen) (hB:B≤w.heap.size) (hl:Ee w B A n l) :
    Calls Tryz.prog 16 #[.slice A n c] w fun e w'=>tg B w.heap.size w' l true e∧Below w.heap.size w w':=by
 have oe:=qqh (fun(w':World) (hb:Below w.heap.size w w')=>AG B A n c l w' hn (Nat.le_trans hB hb.size) (Ee.weak (gn (hb.mono hB) (Nat.le_refl _)) hl))
 have fZ:=qqh (show ai ((w.alloc (.cells aC 53)).alloc (.cells #[.int .i64 0,.int .i64 0] 32)) w.heap.size 53 aC∧ai ((w.alloc (.cells aC 53)).alloc (.cells #[.int .i64 0,.int .i64 0] 32)) (w.heap.size+1) 32 #[.int .i64 0,.int .i64 0]∧Below w.heap.size w ((w.alloc (.cells aC 53)).alloc (.cells #[.int .i64 0,.int .i64 0] 32)) from
   ⟨ai.alloc (ai.new _ _ _) _,by simpa using ai.new (w.alloc (.cells aC 53)) 32 #[.int .i64 0,.int .i64 0],((Below.refl _ _).alloc (Nat.le_refl _) _).alloc (by simp) _⟩)
 clear hl hn;go_enter Tryz.func16,Tryz.ntmps16;go_wp2_with fail;refine(oe.out _ fZ.out.2.2).mono ?_;rintro e w1 ⟨⟨cs,ds,_,_,rfl,hcs,hds⟩,aW⟩;obtain⟨A1,n1,c1,A2,n2,c2,rfl⟩:=iT hcs;obtain⟨B1,m1,d1,B2,m2,d2,rfl⟩:=iT hds;rw [show((w.alloc (.cells aC 53)).alloc (.cells #[.int .i64 0,.int .i64 0] 32)).heap.size=w.heap.size+2 by simp]at hcs hds;have FC:=qqh hds;have G8:=qqh (And.intro (ai.below fZ.out.1 aW fZ.out.1.lt) (And.intro (ai.below fZ.out.2.1 aW fZ.out.2.1.lt) (fZ.out.2.2.trans (aW.mono fZ.out.2.2.size))));have hgt:=Nat.lt_of_lt_of_le fZ.out.2.1.lt aW.size;clear hcs hds aW;go_upto_region 2 with fail;obtain⟨hx,hy,eX⟩:=G8.out;have hcs:=FC.out;have HFE:=qqh (uz l);clear G8 FC oe fZ;have QC:Hid (∀ (w':World) (cs:List Value),cs.length=3→ij w' (Fr B w.heap.size) (dD true l).1 cs→tg B w.heap.size w' l true (.returned (.tuple #[.agg cs.toArray,.agg #[.int .i64 (dD false l).2.1,.int .i64 (dD false l).2.2]]))):=fun w' cs h3 h=>⟨cs,h3,by rw [HFE.out],h⟩;generalize hRA:dD false l=RA at *;generalize hRB:dD true l=RB at *;have bN:Below w1.heap.size w1 (((w1.alloc (.cells #[.bool RA.1.only?,.slice A1 n1 c1,.slice A2 n2 c2] 53)).alloc (.cells #[.bool RB.1.only?,.slice B1 m1 d1,.slice B2 m2 d2] 53)).alloc (.cells #[.int .i64 RA.2.1,.int .i64 RA.2.2] 32)):=(((Below.refl _ _).alloc (Nat.le_refl _) _).alloc (by simp) _).alloc (by simp;omega) _
 have Q5:=ai.alloc (ai.alloc (ai.new w1 53 #[.bool RA.1.only?,.slice A1 n1 c1,.slice A2 n2 c2]) (.cells #[.bool RB.1.only?,.slice B1 m1 d1,.slice B2 m2 d2] 53)) (.cells #[.int .i64 RA.2.1,.int .i64 RA.2.2] 32);have hq1:=ai.alloc (ai.new (w1.alloc (.cells #[.bool RA.1.only?,.slice A1 n1 c1,.slice A2 n2 c2] 53)) 53 #[.bool RB.1.only?,.slice B1 m1 d1,.slice B2 m2 d2]) (.cells #[.int .i64 RA.2.1,.int .i64 RA.2.2] 32);have Hj:=ai.new ((w1.alloc (.cells #[.bool RA.1.only?,.slice A1 n1 c1,.slice A2 n2 c2] 53)).alloc (.cells #[.bool RB.1.only?,.slice B1 m1 d1,.slice B2 m2 d2] 53)) 32 #[.int .i64 RA.2.1,.int .i64 RA.2.2];rw [show(w1.alloc (.cells #[.bool RA.1.only?,.slice A1 n1 c1,.slice A2 n2 c2] 53)).heap.size=w1.heap.size+1 by simp]at hq1;rw [show((w1.alloc (.cells #[.bool RA.1.only?,.slice A1 n1 c1,.slice A2 n2 c2] 53)).alloc (.cells #[.bool RB.1.only?,.slice B1 m1 d1,.slice B2 m2 d2] 53)).heap.size=w1.heap.size+1+1 by simp]at Hj;have hx3:=ai.below hx bN hx.lt;have Mg:=ai.below hy bN hy.lt;have NH:=eX.trans (bN.mono eX.size);have Nl:=hcs.keep (af.below (X':=Fr B (w.heap.size+2)) bN (fun _ h _=>h));clear hx hy eX hcs bN;generalize ((w1.alloc (.cells #[.bool RA.1.only?,.slice A1 n1 c1,.slice A2 n2 c2] 53)).alloc (.cells #[.bool RB.1.only?,.slice B1 m1 d1,.slice B2 m2 d2] 53)).alloc (.cells #[.int .i64 RA.2.1,.int .i64 RA.2.2] 32)=W3 at *;have a0:W3.cell? ⟨w.heap.size,0,none⟩=some (.bool false):=hx3.cell 0;have a1:W3.cell? ⟨w.heap.size,1,none⟩=some (.slice none 0 0):=hx3.cell 1
 have a2:W3.cell? ⟨w.heap.size,2,none⟩=some (.slice none 0 0):=hx3.cell 2;have b0:W3.cell? ⟨w.heap.size+1,0,none⟩=some (.int .i64 0):=Mg.cell 0;have b1:W3.cell? ⟨w.heap.size+1,1,none⟩=some (.int .i64 0):=Mg.cell 1;have e0:W3.cell? ⟨w1.heap.size+1,0,none⟩=some (.bool RB.1.only?):=hq1.cell 0;have e1:W3.cell? ⟨w1.heap.size+1,1,none⟩=some (.slice B1 m1 d1):=hq1.cell 1;have e2:W3.cell? ⟨w1.heap.size+1,2,none⟩=some (.slice B2 m2 d2):=hq1.cell 2;have g0:W3.cell? ⟨w1.heap.size+1+1,0,none⟩=some (.int .i64 RA.2.1):=Hj.cell 0;have g1:W3.cell? ⟨w1.heap.size+1+1,1,none⟩=some (.int .i64 RA.2.2):=Hj.cell 1;have f0:=hx3.frozen 0;have f1:=hx3.frozen 1;have f2:=hx3.frozen 2;have f3:=Mg.frozen 0;have f4:=Mg.frozen 1;have n0:¬ w.heap.size=w1.heap.size:=(by omega);have n1':¬ w.heap.size=w1.heap.size+1:=(by omega);have n2':¬ w.heap.size=w1.heap.size+1+1:=(by omega);have n3:¬ w.heap.size+1=w1.heap.size:=(by omega);have n4:¬ w.heap.size+1=w1.heap.size+1:=(by omega);have n5:¬ w.heap.size+1=w1.heap.size+1+1:=(by omega);have wA:=qqh NH;have FC:=qqh Nl;clear Q5 hq1 Hj hx3 Mg NH Nl hRA hRB;go_region
 all_goals
   go_wp2_with fail
   have eX:=((((wA.out.setCell (p:=⟨w.heap.size,0,none⟩) (by simp) (.bool RB.1.only?)).setCell (p:=⟨w.heap.size,1,none⟩) (by simp) (.slice B1 m1 d1)).setCell (p:=⟨w.heap.size,2,none⟩) (by simp) (.slice B2 m2 d2)).setCell (p:=⟨w.heap.size+1,0,none⟩) (by simp) (.int .i64 RA.2.1)).setCell (p:=⟨w.heap.size+1,1,none⟩) (by simp) (.int .i64 RA.2.2)
   have Qb:af W3 (Fr B (w.heap.size+2)) (((((W3.setCell ⟨w.heap.size,0,none⟩ (.bool RB.1.only?)).setCell ⟨w.heap.size,1,none⟩ (.slice B1 m1 d1)).setCell ⟨w.heap.size,2,none⟩ (.slice B2 m2 d2)).setCell ⟨w.heap.size+1,0,none⟩ (.int .i64 RA.2.1)).setCell ⟨w.heap.size+1,1,none⟩ (.int .i64 RA.2.2)) (Fr B (w.heap.size+2)) :=
     ((((mH (by omega) (by omega)).trans (mH (by omega) (by omega))).trans (mH (by omega) (by omega))).trans (mH (by omega) (by omega))).trans (mH (by omega) (by omega))
   have Jy:=qqh (QC.out _ _ rfl (FC.out.keep (Qb.trans (af.below (Below.refl _ _).drew (fun _ h _=>h.imp id (fun h=>by omega))))))
   have Gj:=qqh eX.drew
   clear eX Qb
   refine bodyPost_ret (v:=.tuple #[.agg #[.bool RB.1.only?,.slice B1 m1 d1,.slice B2 m2 d2],.agg #[.int .i64 RA.2.1,.int .i64 RA.2.2]]) (by simp [results,Tryz.results16,go_sem,a0,a1,a2,b0,b1]) rfl ⟨?_,?_⟩
   · exact Jy.out
   · exact Gj.out
end Go.Proofs.YthgkedoildcbcaaGreatDoor
