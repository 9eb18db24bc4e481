/- Forth -/
import Derived.Test.YtkggjgeihhialaaGreatDoorZs23
set_option maxHeartbeats 3200000
set_option maxRecDepth 100000
namespace Go.Proofs.YtkggjgeihhialaaGreatDoor
open Go.RowKit Go.Maps
theorem GQ (B:Nat) (A:Option Addr) (n c:Nat) (l:List aF) (w:World) (hn:n≤maxLen) (hB:B≤w.heap.size) (hl:Dt w B A n l) :
    Calls Tryz.prog 44 #[.slice A n c] w fun e w'=>qK B w.heap.size w' l e∧Below w.heap.size w w':=by
 by_cases hw:(fm l).1=0;exact yR B A n c l w hn hB hl hw;exact sN B A n c l w hn hB hl hw
theorem Bj (l:List aF):(dM true l).2=(dM false l).2:=by
 by_cases hw:(fm l).1=0
 ·rcases x7 l l.length with ⟨s,t,h1,h2,_⟩ | ⟨e,h1,h2⟩
  ·rw [ny hw h1,ny hw h2]
  rw [jM hw (Nat.le_refl _) h1,jM hw (Nat.le_refl _) h2]
 rw [jO hw,jO hw]
theorem rX {w:World} {X:Nat→Prop} {s:bC} {cs:List Value} (h:ek w X s cs):∃ A1 n1 c1 A2 n2 c2,cs = [.bool s.only?,.slice A1 n1 c1,.slice A2 n2 c2]:=by
 obtain⟨u,v,rfl,⟨A1,n1,c1,rfl,_⟩,⟨A2,n2,c2,rfl,_⟩⟩:=h;exact⟨_,_,_,_,_,_,rfl⟩
theorem xR (B:Nat) (A:Option Addr) (n c:Nat) (l:List aF) (w:World) (hn:n≤maxLen) (hB:B≤w.heap.size) (hl:Dt w B A n l) :
    Calls Tryz.prog 16 #[.slice A n c] w fun e w'=>Dk B w.heap.size w' l false e∧Below w.heap.size w w':=by
 have mw:=qqh (fun(w':World) (hb:Below w.heap.size w w')=>GQ B A n c l w' hn (Nat.le_trans hB hb.size) (Dt.weak (fS (hb.mono hB) (Nat.le_refl _)) hl))
 have fO:=qqh (show aj ((w.alloc (.cells aH 27)).alloc (.cells #[.int .i64 0,.int .i64 0] 38)) w.heap.size 27 aH∧aj ((w.alloc (.cells aH 27)).alloc (.cells #[.int .i64 0,.int .i64 0] 38)) (w.heap.size+1) 38 #[.int .i64 0,.int .i64 0]∧Below w.heap.size w ((w.alloc (.cells aH 27)).alloc (.cells #[.int .i64 0,.int .i64 0] 38)) from
   ⟨aj.alloc (aj.new _ _ _) _,by simpa using aj.new (w.alloc (.cells aH 27)) 38 #[.int .i64 0,.int .i64 0],((Below.refl _ _).alloc (Nat.le_refl _) _).alloc (by simp) _⟩)
 clear hl hn;go_enter Tryz.func16,Tryz.ntmps16;go_wp2_with fail;refine(mw.out _ fO.out.2.2).mono ?_;rintro e w1 ⟨⟨cs,ds,_,_,rfl,hcs,hds⟩,aT⟩;obtain⟨A1,n1,c1,A2,n2,c2,rfl⟩:=rX hcs;obtain⟨B1,m1,d1,B2,m2,d2,rfl⟩:=rX hds;rw [show((w.alloc (.cells aH 27)).alloc (.cells #[.int .i64 0,.int .i64 0] 38)).heap.size=w.heap.size+2 by simp]at hcs hds;have Mt:=qqh hcs;have OD:=qqh (And.intro (aj.below fO.out.1 aT fO.out.1.lt) (And.intro (aj.below fO.out.2.1 aT fO.out.2.1.lt) (fO.out.2.2.trans (aT.mono fO.out.2.2.size))));have hgt:=Nat.lt_of_lt_of_le fO.out.2.1.lt aT.size;clear hcs hds aT;go_upto_region 2 with fail;obtain⟨hx,hy,eD⟩:=OD.out;have hcs:=Mt.out;have Y2:=qqh (Bj l);clear OD Mt mw fO;have HPO:Hid (∀ (w':World) (cs:List Value),cs.length=3→ek w' (Fr B w.heap.size) (dM false l).1 cs→Dk B w.heap.size w' l false (.returned (.tuple #[.agg cs.toArray,.agg #[.int .i64 (dM false l).2.1,.int .i64 (dM false l).2.2]]))):=fun w' cs h3 h=>⟨cs,h3,rfl,h⟩;generalize hRA:dM false l=RA at *;generalize hRB:dM true l=RB at *;have bJ:Below w1.heap.size w1 (((w1.alloc (.cells #[.bool RA.1.only?,.slice A1 n1 c1,.slice A2 n2 c2] 27)).alloc (.cells #[.bool RB.1.only?,.slice B1 m1 d1,.slice B2 m2 d2] 27)).alloc (.cells #[.int .i64 RA.2.1,.int .i64 RA.2.2] 38)):=(((Below.refl _ _).alloc (Nat.le_refl _) _).alloc (by simp) _).alloc (by simp;omega) _;have Qh:=aj.alloc (aj.alloc (aj.new w1 27 #[.bool RA.1.only?,.slice A1 n1 c1,.slice A2 n2 c2]) (.cells #[.bool RB.1.only?,.slice B1 m1 d1,.slice B2 m2 d2] 27)) (.cells #[.int .i64 RA.2.1,.int .i64 RA.2.2] 38)
 have hq1:=aj.alloc (aj.new (w1.alloc (.cells #[.bool RA.1.only?,.slice A1 n1 c1,.slice A2 n2 c2] 27)) 27 #[.bool RB.1.only?,.slice B1 m1 d1,.slice B2 m2 d2]) (.cells #[.int .i64 RA.2.1,.int .i64 RA.2.2] 38);have MP:=aj.new ((w1.alloc (.cells #[.bool RA.1.only?,.slice A1 n1 c1,.slice A2 n2 c2] 27)).alloc (.cells #[.bool RB.1.only?,.slice B1 m1 d1,.slice B2 m2 d2] 27)) 38 #[.int .i64 RA.2.1,.int .i64 RA.2.2];rw [show(w1.alloc (.cells #[.bool RA.1.only?,.slice A1 n1 c1,.slice A2 n2 c2] 27)).heap.size=w1.heap.size+1 by simp]at hq1;rw [show((w1.alloc (.cells #[.bool RA.1.only?,.slice A1 n1 c1,.slice A2 n2 c2] 27)).alloc (.cells #[.bool RB.1.only?,.slice B1 m1 d1,.slice B2 m2 d2] 27)).heap.size=w1.heap.size+1+1 by simp]at MP;have hx3:=aj.below hx bJ hx.lt;have TC:=aj.below hy bJ hy.lt;have Tz:=eD.trans (bJ.mono eD.size);have SK:=hcs.keep (aa.below (X':=Fr B (w.heap.size+2)) bJ (fun _ h _=>h));clear hx hy eD hcs bJ;generalize ((w1.alloc (.cells #[.bool RA.1.only?,.slice A1 n1 c1,.slice A2 n2 c2] 27)).alloc (.cells #[.bool RB.1.only?,.slice B1 m1 d1,.slice B2 m2 d2] 27)).alloc (.cells #[.int .i64 RA.2.1,.int .i64 RA.2.2] 38)=W3 at *;have a0:W3.cell? ⟨w.heap.size,0,none⟩=some (.bool false):=hx3.cell 0;have a1:W3.cell? ⟨w.heap.size,1,none⟩=some (.slice none 0 0):=hx3.cell 1;have a2:W3.cell? ⟨w.heap.size,2,none⟩=some (.slice none 0 0):=hx3.cell 2;have b0:W3.cell? ⟨w.heap.size+1,0,none⟩=some (.int .i64 0):=TC.cell 0;have b1:W3.cell? ⟨w.heap.size+1,1,none⟩=some (.int .i64 0):=TC.cell 1
 have e0:W3.cell? ⟨w1.heap.size,0,none⟩=some (.bool RA.1.only?):=Qh.cell 0;have e1:W3.cell? ⟨w1.heap.size,1,none⟩=some (.slice A1 n1 c1):=Qh.cell 1;have e2:W3.cell? ⟨w1.heap.size,2,none⟩=some (.slice A2 n2 c2):=Qh.cell 2;have g0:W3.cell? ⟨w1.heap.size+1+1,0,none⟩=some (.int .i64 RA.2.1):=MP.cell 0;have g1:W3.cell? ⟨w1.heap.size+1+1,1,none⟩=some (.int .i64 RA.2.2):=MP.cell 1;have f0:=hx3.frozen 0;have f1:=hx3.frozen 1;have f2:=hx3.frozen 2;have f3:=TC.frozen 0;have f4:=TC.frozen 1;have n0:¬ w.heap.size=w1.heap.size:=(by omega);have n1':¬ w.heap.size=w1.heap.size+1:=(by omega);have n2':¬ w.heap.size=w1.heap.size+1+1:=(by omega);have n3:¬ w.heap.size+1=w1.heap.size:=(by omega);have n4:¬ w.heap.size+1=w1.heap.size+1:=(by omega);have n5:¬ w.heap.size+1=w1.heap.size+1+1:=(by omega);have wG:=qqh Tz;have Mt:=qqh SK;clear Qh hq1 MP hx3 TC Tz SK hRA hRB;go_region
 all_goals
   go_wp2_with fail
   have eD:=((((wG.out.setCell (p:=⟨w.heap.size,0,none⟩) (by simp) (.bool RA.1.only?)).setCell (p:=⟨w.heap.size,1,none⟩) (by simp) (.slice A1 n1 c1)).setCell (p:=⟨w.heap.size,2,none⟩) (by simp) (.slice A2 n2 c2)).setCell (p:=⟨w.heap.size+1,0,none⟩) (by simp) (.int .i64 RA.2.1)).setCell (p:=⟨w.heap.size+1,1,none⟩) (by simp) (.int .i64 RA.2.2)
   have Wf:aa W3 (Fr B (w.heap.size+2)) (((((W3.setCell ⟨w.heap.size,0,none⟩ (.bool RA.1.only?)).setCell ⟨w.heap.size,1,none⟩ (.slice A1 n1 c1)).setCell ⟨w.heap.size,2,none⟩ (.slice A2 n2 c2)).setCell ⟨w.heap.size+1,0,none⟩ (.int .i64 RA.2.1)).setCell ⟨w.heap.size+1,1,none⟩ (.int .i64 RA.2.2)) (Fr B (w.heap.size+2)) :=
     ((((uO (by omega) (by omega)).trans (uO (by omega) (by omega))).trans (uO (by omega) (by omega))).trans (uO (by omega) (by omega))).trans (uO (by omega) (by omega))
   have Lm:=qqh (HPO.out _ _ rfl (Mt.out.keep (Wf.trans (aa.below (Below.refl _ _).drew (fun _ h _=>h.imp id (fun h=>by omega))))))
   have KF:=qqh eD.drew
   clear eD Wf
   refine bodyPost_ret (v:=.tuple #[.agg #[.bool RA.1.only?,.slice A1 n1 c1,.slice A2 n2 c2],.agg #[.int .i64 RA.2.1,.int .i64 RA.2.2]]) (by simp [results,Tryz.results16,go_sem,a0,a1,a2,b0,b1]) rfl ⟨?_,?_⟩
   · exact Lm.out
   · exact KF.out
end Go.Proofs.YtkggjgeihhialaaGreatDoor
