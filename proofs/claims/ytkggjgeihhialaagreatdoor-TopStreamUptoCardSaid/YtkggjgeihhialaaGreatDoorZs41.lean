/- RdItems + RdSideFr + RdSide + SynRead -/
import Derived.Test.YtkggjgeihhialaaGreatDoorZs39
import Derived.Test.YtkggjgeihhialaaGreatDoorZs40
import Derived.Test.YtkggjgeihhialaaGreatDoorZs33
import Derived.Test.YtkggjgeihhialaaGreatDoorZs6
set_option maxHeartbeats 12800000
set_option maxRecDepth 100000
namespace Go.Proofs.YtkggjgeihhialaaGreatDoor
open Go.RowKit
def Qy (w:World) (C:Nat) (A:Option Addr) (n c:Nat) (L:List Int) (r:jP (List aE × Int)) (e:Ending) (w':World):Prop :=
  match r with
  | .ok ((l,cu),j)=>(∃ v,e=.returned (.tuple #[v,.int .i64 cu])∧fZ w.heap.size C w' v l∧l.length≤20)∧ay w' C A n c L j∧aZ w C w'
  | .error (x,p)=>e=aW x p∧aZ w C w'
theorem DP {L:List Int} {f i:Nat} {out:List aE} {cur:Int} (h:b7 L (aB L i) out cur=.ok none):cI L (f+1) i out cur=.ok ((out,cur),aB L i):=by rw [cI,h]
theorem DN {L:List Int} {f i:Nat} {out:List aE} {cur:Int} {e:Int × Nat} (h:b7 L (aB L i) out cur=.error e):cI L (f+1) i out cur=.error e:=by rw [cI,h]
theorem AX {L:List Int} {f i j:Nat} {out o:List aE} {cur c:Int} (h:b7 L (aB L i) out cur=.ok (some ((o,c),j))):cI L (f+1) i out cur=if 20<o.length then .error (5,aB L i)else cI L f j o c:=by rw [cI,h]
theorem KI (w:World) (C:Nat) (A:Option Addr) (n c:Nat) (L:List Int) (i:Nat) (h:ay w C A n c L i) (hL:fN L) (hn:n≤100000) :
    Calls Tryz.prog 101 #[.pointer (some ⟨C,0,none⟩)] w (Qy w C A n c L (cA L i)):=by
 obtain⟨i0,Je,z0,z1,z2⟩:=info_parts yd;have hl:=h.len;have HL:=qqh hL;have gD:=qqh (fun(W:World) (m:Nat) (h:ay W C A n c L m)=>cK W C A n c L m h);have HC:=qqh h;have Vj:=qqh (ia.start h);have hi:=h.le;obtain⟨R,hR⟩:∃ R,cA L i=R:=⟨_,rfl⟩;rw [hR];have HR:=qqh hR;clear h hL hR;go_enter Tryz.func101,Tryz.ntmps101;go_wp2_with fail;refine(jj _ C A n c L i HC.out).mono ?_;rintro e w1 ⟨rfl,hc1,aT⟩;have HJ1:=qqh (Vj.out.but hc1 aT);have bR:=qqh aT;clear hc1 aT;go_wp2_with fail;go_loopw [2,3] (fun v2 v3 wr=>∃ (f j0:Nat) (l:List aE) (cu:Int),j0≤n∧n+1≤f+j0∧R=cI L f j0 l cu∧l.length≤20 ∧ -1≤cu∧cu≤20∧v3=.int .i64 cu∧fZ w.heap.size C wr v2 l∧ia w.heap.size wr C A n c L (aB L j0)∧aZ w C wr) (fun _ _ wr=>n - (match wr.cell? ⟨C,1,none⟩with | some (.int _ j)=>j.toNat | _=>0));(case atStart=>exact⟨L.length+1,i,[],-1,hi,by omega,HR.out.symm,by simp,by decide,by decide,rfl,fZ.nil _ _ _,HJ1.out,bR.out⟩);obtain⟨f0,j0,l,cu,hj0,hf,aY,QF,Jq,Lf,rfl,hown,sI,zz⟩:=hrel;obtain⟨f,rfl⟩:∃ f,f0=f+1:=⟨f0 - 1,by omega⟩;obtain⟨a,ha⟩:∃ a,aB L j0=a:=⟨_,rfl⟩;have Nr:j0≤a:=(by rw [← ha];exact dm L j0);have ep:=qqh aY;have HA:=qqh ha;rw [ha]at sI;have HJ:=qqh sI;have HB:=qqh zz;have HO:=qqh hown;have nT:=qqh (sI.cur.blk.cell 1);have k1:=sI.cur.blk.cell 1;have han:=sI.cur.le;obtain⟨Av,cv,rfl,su⟩:=hown.form;obtain⟨x,hx⟩:∃ x,pk L a=x:=⟨_,rfl⟩;have HX:=qqh hx
 have HP:=qqh (fun(W:World) (h:ay W C A n c L a)=>show Calls Tryz.prog 41 #[.pointer (some ⟨C,0,none⟩)] W fun e w'=>e=.returned (.int .i32 x)∧ay w' C A n c L a∧aZ W C w' by have:=gD.out W a h;rwa [hx]at this);have Vv:IntKind.i64.wrap ((a:Int)+1)=(a:Int)+1:=wrap_small _ (by omega) (by omega);clear aY ha sI zz hown hx;go_upto_block 2 with (go_at_call 41;refine(HP.out _ HJ.out.cur).mono ?_;rintro e w3 ⟨rfl,kR,bJ⟩);have kY:=qqh (HJ.out.but kR bJ);have bN:=qqh (HB.out.trans bJ);have nX:=qqh (HO.out.but bJ HJ.out.lt);clear kR bJ;go_cut [2,3] (fun v2 v3 wx=>∃ (o:List aE) (c':Int) (j:Nat),b7 L a l cu=.ok (some ((o,c'),j))∧j≤n ∧ -1≤c'∧c'≤20∧o.length≤100100∧v3=.int .i64 c'∧fZ w.heap.size C wx v2 o∧ia w.heap.size wx C A n c L j∧aZ w C wx);case first=>
  have abG:l.length≤20:=QF;have halt:0≤x→a<n:=fun h=>(by rw [← hl];exact bu (by rw [HX.out];omega));have kf:=qqh (fun(e:Int × Nat) (he:b7 L a l cu=.error e)=>show R=.error e from ep.out.trans (DN (by rw [HA.out];exact he)));have Bd:=qqh (fun(he:b7 L a l cu=.ok none)=>show R=.ok ((l,cu),a) by have:=ep.out.trans (DP (by rw [HA.out];exact he));rwa [HA.out]at this);clear ep HP gD;by_cases tv:x=124
  ·as_aux_lemma=>
    subst tv;by_cases hc:0≤cu
    ·have eH:=qqh (kf.out (5,a) (by unfold b7;rw [if_pos HX.out,if_pos hc]));go_wp2_with fail;refine(bT 5 a _).mono ?_;rintro e w5 ⟨rfl,rfl⟩;go_wp2_with fail;rw [eH.out];exact⟨rfl,rfl,bN.out⟩
    have tS:=qqh (show b7 L a l cu=.ok (some ((l,(l.length:Int)),a+1)) by unfold b7;rw [if_pos HX.out,if_neg hc]);have hg:decide ((0:Int)≤cu)=false:=decide_eq_false hc;obtain⟨d1,d2,d3,d4⟩:=kY.out.cur.step (halt (by decide));have DW:=qqh (kY.out.but d3 d4);have ej:=qqh (bN.out.trans d4);have od:=qqh (nX.out.but d4 kY.out.lt);have hlt:=halt (by decide);clear d3 d4;go_wp2_with fail;go_meet;exact⟨l,l.length,a+1,tS.out,hlt,by omega,by omega,by omega,rfl,od.out,DW.out,ej.out⟩
  have afZ:(x == 124)=false:=(by rw [beq_eq_false_iff_ne];exact tv);by_cases j5:x=91
  ·as_aux_lemma=>
    subst j5;have wF:=qqh (show b7 L a l cu=(match bE L 20 a with | .error e=>.error e | .ok (s,j)=>.ok (some ((l++[⟨2,0,s,ey⟩],cu),j))) by unfold b7;rw [if_neg (by rw [HX.out];decide),if_pos HX.out];cases bE L 20 a <;> rfl);have fk:=qqh (show Calls Tryz.prog 68 #[.pointer (some ⟨C,0,none⟩),.int .i64 1] w3 (eo w3 C A n c L (bE L 20 a)) from tY 20 1 w3 C A n c L a rfl (by decide) kY.out.cur HL.out hn);cases hs:bE L 20 a with
    | error e0=>
     obtain⟨y,p⟩:=e0;have eH:=qqh (kf.out (y,p) (by rw [wF.out,hs]));rw [hs]at fk;clear hs wF;go_wp2_with fail;refine fk.out.mono ?_;rintro e w5 ⟨he,cY⟩;unfold aW at he;subst he;have cZ:=qqh (bN.out.trans cY);clear cY;go_wp2_with fail;rw [eH.out];exact⟨rfl,rfl,cZ.out⟩
    | ok q=>
     obtain⟨t,j⟩:=q;have tS:=qqh (show b7 L a l cu=.ok (some ((l++[⟨2,0,t,ey⟩],cu),j)) by rw [wF.out,hs]);have oX:=qqh (kK HL.out.ok 20 _ _ _ hs).2;rw [hs]at fk;clear hs wF;go_wp2_with fail;refine fk.out.mono ?_;rintro e w5 ⟨⟨B,m,d,rfl,hr,hd⟩,kX,cY⟩;have Fc:=qqh (kY.out.but kX cY);have cZ:=qqh (bN.out.trans cY);have tM:=qqh (nX.out.but cY kY.out.lt);have abm:m≤200:=(by have h1:=hr.1;rw [bA]at h1;have h2:=oX.out.size;omega);have hjn:=kX.le;have EL:=bN.out.1;have ZK:=kY.out.lt;have dR:=(Below.refl w5.heap.size w5).alloc (Nat.le_refl _) (.cells #[.int .i64 2,.int .i32 0,.slice B m d,.string ⟨#[]⟩] 172)
     have HZ:=qqh (show gQ (w5.alloc (.cells #[.int .i64 2,.int .i32 0,.slice B m d,.string ⟨#[]⟩] 172)) (uI w.heap.size C (.slice Av l.length cv)) ⟨2,0,t,ey⟩ [.int .i64 2,.int .i32 0,.slice B m d,.string ⟨#[]⟩] from
       ⟨B,m,d,rfl,(hr.lift (X':=uI w.heap.size C (.slice Av l.length cv)) (fun b (h:w3.heap.size≤b)=>⟨by omega,by omega,nX.out.apart h⟩)).keep (aa.any dR),hd,by simp only [maxLen];omega⟩)
     have xy:=qqh (tM.out.below dR);have EP:=cZ.out.1;have lQ:=qqh (cZ.out.trans (aZ.below (w:=w5) C dR));have ze:=qqh (Fc.out.below (dR.mono EP));have hsz:=lQ.out.1;obtain⟨ys,sD,ei⟩:=xy.out.push ⟨2,0,t,ey⟩ HZ.out rfl;have O0:=qqh sD;have wX:=qqh ei;have CL:=qqh (Rd.new w5 172 4 1 [.int .i64 2,.int .i32 0,.slice B m d,.string ⟨#[]⟩] rfl);have qb:=qqh (gQ.one HZ.out);clear hr hd kX cY dR sD ei fk;go_wp2_with (at_builtin;refine ai _ rfl (.tmp 43) (.tmp 49) 99 rfl w.heap.size 172 i0 _ 4 56 Tryz.underlying99 Je z0 z1 z2 rfl (by decide) _ _ _ rfl O0.out (w5.heap.size+1) (some ⟨w5.heap.size,0,none⟩) 1 1 [.int .i64 2,.int .i32 0,.slice B m d,.string ⟨#[]⟩] rfl CL.out qb.out (by simp only [maxLen];omega) (by omega) hsz ?_);intro v' w9 an;have cF:=an.below hsz O0.out;have GP:=qqh (ze.out.below cF);have eE:=qqh (eY lQ.out cF);have gV:=qqh (wX.out v' w9 an);clear an cF;go_wp2_with fail;go_meet;exact⟨_,cu,j,tS.out,hjn,Jq,Lf,by simp;omega,rfl,gV.out,GP.out,eE.out⟩
  have q91:(x == 91)=false:=(by rw [beq_eq_false_iff_ne];exact j5);by_cases kD:x=36∧jN (pk L (a+1))=true
  ·as_aux_lemma=>
    obtain⟨IN,MN⟩:=kD;subst IN;have hlt:=halt (by decide);have Se:=qqh (fun(W:World)=>show Calls Tryz.prog 117 #[.int .i32 (pk L (a+1))] W fun e w'=>e=.returned (.bool true)∧w'=W by have:=yJ (pk L (a+1)) W;rwa [MN]at this);have wF:=qqh (show b7 L a l cu=(match gv L (a+1)with | .error e=>.error e | .ok (q,j)=>.ok (some ((l++[⟨3,0,[],q⟩],cu),j))) by unfold b7;rw [HX.out,if_neg tv,if_neg j5,if_pos ⟨rfl,MN⟩];cases gv L (a+1) <;> rfl);go_wp2_with fail;refine(lB _ C A n c L a 1 kY.out.cur (by decide)).mono ?_;rintro e w4 ⟨rfl,kM,hb4⟩;have DW:=qqh (kY.out.but kM hb4);have ej:=qqh (bN.out.trans hb4);have od:=qqh (nX.out.but hb4 kY.out.lt);clear kM hb4;go_wp2_with fail;refine(Se.out _).mono ?_;rintro e w4b ⟨rfl,EP⟩;subst EP;obtain⟨d1,d2,d3,d4⟩:=DW.out.cur.step hlt;have Fc:=qqh (DW.out.but d3 d4);have cZ:=qqh (ej.out.trans d4);have tM:=qqh (od.out.but d4 DW.out.lt);clear d3 d4;have Cg:=qqh (FG _ C A n c L (a+1) Fc.out.cur (by omega));cases hs:gv L (a+1)with
    | error e0=>
     obtain⟨y,p⟩:=e0;have eH:=qqh (kf.out (y,p) (by rw [wF.out,hs]));rw [hs]at Cg;clear hs wF;go_wp2_with fail;refine Cg.out.mono ?_;rintro e w6 ⟨he,dR⟩;unfold aW at he;subst he;have gG:=qqh (cZ.out.trans dR);clear dR;go_wp2_with fail;rw [eH.out];exact⟨rfl,rfl,gG.out⟩
    | ok q=>
     obtain⟨t,j⟩:=q;have tS:=qqh (show b7 L a l cu=.ok (some ((l++[⟨3,0,[],t⟩],cu),j)) by rw [wF.out,hs]);rw [hs]at Cg;clear hs wF;go_wp2_with fail;refine Cg.out.mono ?_;rintro e w6 ⟨rfl,CU,dR⟩;have ze:=qqh (Fc.out.but CU dR);have gG:=qqh (cZ.out.trans dR);have xy:=qqh (tM.out.but dR Fc.out.lt);have hjn:=CU.le;have gH:=(Below.refl w6.heap.size w6).alloc (Nat.le_refl _) (.cells #[.int .i64 3,.int .i32 0,.slice none 0 0,.string t] 172)
     have HZ:=qqh (show gQ (w6.alloc (.cells #[.int .i64 3,.int .i32 0,.slice none 0 0,.string t] 172)) (uI w.heap.size C (.slice Av l.length cv)) ⟨3,0,[],t⟩ [.int .i64 3,.int .i32 0,.slice none 0 0,.string t] from
       ⟨none,0,0,rfl,⟨rfl,fun h=>absurd h (by omega)⟩,Nat.le_refl _,Nat.zero_le _⟩)
     have Mb:=qqh (xy.out.below gH);have hw6:=gG.out.1;have lQ:=qqh (gG.out.trans (aZ.below (w:=w6) C gH));have Uv:=qqh (ze.out.below (gH.mono hw6));have hsz:=lQ.out.1;obtain⟨ys,sD,ei⟩:=Mb.out.push ⟨3,0,[],t⟩ HZ.out rfl;have O0:=qqh sD;have wX:=qqh ei;have CL:=qqh (Rd.new w6 172 4 1 [.int .i64 3,.int .i32 0,.slice none 0 0,.string t] rfl);have qb:=qqh (gQ.one HZ.out);clear CU dR gH sD ei Cg;go_wp2_with (at_builtin;refine ai _ rfl (.tmp 70) (.tmp 74) 99 rfl w.heap.size 172 i0 _ 4 56 Tryz.underlying99 Je z0 z1 z2 rfl (by decide) _ _ _ rfl O0.out (w6.heap.size+1) (some ⟨w6.heap.size,0,none⟩) 1 1 [.int .i64 3,.int .i32 0,.slice none 0 0,.string t] rfl CL.out qb.out (by simp only [maxLen];omega) (by omega) hsz ?_);intro v' w9 an;have cF:=an.below hsz O0.out;have GP:=qqh (Uv.out.below cF);have eE:=qqh (eY lQ.out cF);have gV:=qqh (wX.out v' w9 an);clear an cF;go_wp2_with fail;go_meet;exact⟨_,cu,j,tS.out,hjn,Jq,Lf,by simp;omega,rfl,gV.out,GP.out,eE.out⟩
  by_cases wT:x=39
  ·as_aux_lemma=>
    subst wT;have hlt:=halt (by decide);have HQ:=qqh (IZ w3 C A n c L a kY.out.cur hlt hn);have wF:=qqh (show b7 L a l cu=(match fU L a with | .error e=>.error e | .ok (q,j)=>.ok (some ((l++q,cu),j))) by unfold b7;rw [HX.out,if_neg tv,if_neg j5,if_neg kD,if_pos rfl];cases fU L a <;> rfl);go_wp2_with fail;refine HQ.out.mono ?_;rintro e w5 (⟨hq,⟨B,m,d,rfl,hr,hd,hm⟩,kX,cY⟩ | ⟨hq,he,cY⟩)
    ·have tS:=qqh (show b7 L a l cu=.ok (some ((l++(aL L (a+1) (aC kE L (a+1))).map lM,cu),aC kE L (a+1)+1)) by rw [wF.out];unfold fU;rw [if_pos hq]);generalize aC kE L (a+1)=r at *;generalize aL L (a+1) r=rs at *;have XD:rs.length=m:=by
      have h1:=hr.1;have h2:∀ l:List Int,(gF l).length=l.length*4:=by
       intro l;induction l with
       | nil=>rfl
       | cons y l ih=>show([_,_,_,_]++gF l).length=_;rw [List.length_append,ih];simp;omega
      rw [h2]at h1;omega
     have Fc:=qqh (kY.out.but kX cY);have cZ:=qqh (bN.out.trans cY);have tM:=qqh (nX.out.but cY kY.out.lt);have hjn:=kX.le;have hsz:=cZ.out.1;obtain⟨ys,sD,ei⟩:=tM.out.SV rs;rw [XD]at ei;have O0:=qqh sD;have wX:=qqh ei;have mw:=qqh hr.of;have qb:=qqh (show ∀ u∈gF rs,u.oneCell'=true by
      intro u hu;unfold gF at hu;obtain⟨y,_,hy⟩:=List.mem_flatMap.1 hu;exact OK y u hy)
     clear hr hd kX cY sD ei HQ wF;go_wp2_with (at_builtin;refine ai _ rfl (.tmp 79) (.tmp 81) 99 rfl w.heap.size 172 i0 _ 4 56 Tryz.underlying99 Je z0 z1 z2 rfl (by decide) _ _ _ rfl O0.out w5.heap.size B m d (gF rs) rfl mw.out qb.out (by simp only [maxLen];omega) (by omega) hsz ?_);intro v' w9 an;have cF:=an.below hsz O0.out;have GP:=qqh (Fc.out.below cF);have eE:=qqh (eY cZ.out cF);have gV:=qqh (wX.out v' w9 an);clear an cF;go_wp2_with fail;go_meet;exact⟨_,cu,r+1,tS.out,hjn,Jq,Lf,by simp;omega,rfl,gV.out,GP.out,eE.out⟩
    unfold aW at he;subst he;have eH:=qqh (kf.out (2,aC kE L (a+1)) (by rw [wF.out];unfold fU;rw [if_neg hq]));have cZ:=qqh (bN.out.trans cY);clear cY;go_wp2_with fail;rw [eH.out];exact⟨rfl,rfl,cZ.out⟩
  have q39:(x == 39)=false:=(by rw [beq_eq_false_iff_ne];exact wT);by_cases wL:x=92∨cW x=true
  ·have wF:=qqh (show b7 L a l cu=(match cT L a with | .error e=>.error e | .ok (y,j)=>if cV y=true then .ok (some ((l++[lM y],cu),j))else .error (3,a)) by unfold b7;rw [HX.out,if_neg tv,if_neg j5,if_neg kD,if_neg wT,if_pos wL];cases cT L a <;> rfl);have EK:=qqh (fun(W:World) (h:ay W C A n c L a)=>B8 W C A n c L a h HL.out);by_cases PS:x=92
   ·as_aux_lemma=>
    subst PS;have ze:=kY;have gG:=bN;have xy:=nX;cases hs:cT L a with
    | error e0=>
     obtain⟨y,p⟩:=e0;have eH:=qqh (kf.out (y,p) (by rw [wF.out,hs]));rw [hs]at EK;clear hs wF;go_wp2_with fail;refine(EK.out _ ze.out.cur).mono ?_;rintro e w7 ⟨he,gH⟩;unfold aW at he;subst he;have jq:=qqh (gG.out.trans gH);clear gH;go_wp2_with fail;rw [eH.out];exact⟨rfl,rfl,jq.out⟩
    | ok q=>
     obtain⟨y,j⟩:=q;rw [hs]at EK;have wJ:=qqh (show b7 L a l cu=if cV y=true then .ok (some ((l++[lM y],cu),j))else .error (3,a) by rw [wF.out,hs]);clear hs wF;go_wp2_with fail;refine(EK.out _ ze.out.cur).mono ?_;rintro e w7 ⟨rfl,qf,gH⟩;have Uv:=qqh (ze.out.but qf gH);have jq:=qqh (gG.out.trans gH);have Mb:=qqh (xy.out.but gH ze.out.lt);have hjn:=qf.le;clear qf gH;cases hr:cV y with
     | false=>
      have eH:=qqh (kf.out (3,a) (by rw [wJ.out,hr];rfl));have xJ:=qqh (fun(W:World)=>show Calls Tryz.prog 50 #[.int .i32 y] W fun e w'=>e=.returned (.bool false)∧W=w' by have:=gn y W;rwa [hr]at this);clear hr;go_wp2_with fail;refine(xJ.out _).mono ?_;rintro e w8 ⟨rfl,L9⟩;subst L9;go_wp2_with fail;refine(bT 3 a _).mono ?_;rintro e w9 ⟨rfl,rfl⟩;go_wp2_with fail;rw [eH.out];exact⟨rfl,rfl,jq.out⟩
     | true=>
      have tS:=qqh (show b7 L a l cu=.ok (some ((l++[lM y],cu),j)) by rw [wJ.out,hr];rfl);have xJ:=qqh (fun(W:World)=>show Calls Tryz.prog 50 #[.int .i32 y] W fun e w'=>e=.returned (.bool true)∧W=w' by have:=gn y W;rwa [hr]at this);clear hr;have fW:=(Below.refl w7.heap.size w7).alloc (Nat.le_refl _) (.cells #[.int .i64 1,.int .i32 y,.slice none 0 0,.string ⟨#[]⟩] 172);have HZ:=qqh (zQ (w7.alloc (.cells #[.int .i64 1,.int .i32 y,.slice none 0 0,.string ⟨#[]⟩] 172)) (uI w.heap.size C (.slice Av l.length cv)) y);have J0:=qqh (Mb.out.below fW);have XE:=jq.out.1;have lQ:=qqh (jq.out.trans (aZ.below (w:=w7) C fW));have ZC:=qqh (Uv.out.below (fW.mono XE));have hsz:=lQ.out.1;obtain⟨ys,fP,ei⟩:=J0.out.push (lM y) HZ.out rfl;have xB:=qqh fP;have wX:=qqh ei;have CL:=qqh (Rd.new w7 172 4 1 [.int .i64 1,.int .i32 y,.slice none 0 0,.string ⟨#[]⟩] rfl);have qb:=qqh (gQ.one HZ.out);clear fW fP ei EK;go_wp2_with fail;refine(xJ.out _).mono ?_;rintro e w8 ⟨rfl,L9⟩;subst L9;go_wp2_with (at_builtin;refine ai _ rfl (.tmp 99) (.tmp 102) 99 rfl w.heap.size 172 i0 _ 4 56 Tryz.underlying99 Je z0 z1 z2 rfl (by decide) _ _ _ rfl xB.out (w7.heap.size+1) (some ⟨w7.heap.size,0,none⟩) 1 1 [.int .i64 1,.int .i32 y,.slice none 0 0,.string ⟨#[]⟩] rfl CL.out qb.out (by simp only [maxLen];omega) (by omega) hsz ?_);intro v' w9 an;have cF:=an.below hsz xB.out;have GP:=qqh (ZC.out.below cF);have eE:=qqh (eY lQ.out cF);have gV:=qqh (wX.out v' w9 an);clear an cF;go_wp2_with fail;go_meet;exact⟨_,cu,j,tS.out,hjn,Jq,Lf,by simp;omega,rfl,gV.out,GP.out,eE.out⟩
   as_aux_lemma=>
   have q92:(x == 92)=false:=(by rw [beq_eq_false_iff_ne];exact PS);have De:cW x=true:=wL.resolve_left PS;have IN:x≠36:=(by rintro rfl;exact absurd De (by decide));have q36:(x == 36)=false:=(by rw [beq_eq_false_iff_ne];exact IN);have sn:=qqh (fun(W:World)=>show Calls Tryz.prog 113 #[.int .i32 x] W fun e w'=>e=.returned (.bool true)∧Below W.heap.size W w' by
    have:=nx (pk L a) W (HL.out.pk a);rwa [HX.out,De]at this)
   go_wp2_with fail;refine(sn.out _).mono ?_;rintro e w6 ⟨rfl,dR⟩;have ze:=qqh (kY.out.but (kY.out.cur.below dR) (aZ.below C dR));have gG:=qqh (bN.out.trans (aZ.below C dR));have xy:=qqh (nX.out.below dR);clear dR De;cases hs:cT L a with
   | error e0=>
    obtain⟨y,p⟩:=e0;have eH:=qqh (kf.out (y,p) (by rw [wF.out,hs]));rw [hs]at EK;clear hs wF;go_wp2_with fail;refine(EK.out _ ze.out.cur).mono ?_;rintro e w7 ⟨he,gH⟩;unfold aW at he;subst he;have jq:=qqh (gG.out.trans gH);clear gH;go_wp2_with fail;rw [eH.out];exact⟨rfl,rfl,jq.out⟩
   | ok q=>
    obtain⟨y,j⟩:=q;rw [hs]at EK;have wJ:=qqh (show b7 L a l cu=if cV y=true then .ok (some ((l++[lM y],cu),j))else .error (3,a) by rw [wF.out,hs]);clear hs wF;go_wp2_with fail;refine(EK.out _ ze.out.cur).mono ?_;rintro e w7 ⟨rfl,qf,gH⟩;have Uv:=qqh (ze.out.but qf gH);have jq:=qqh (gG.out.trans gH);have Mb:=qqh (xy.out.but gH ze.out.lt);have hjn:=qf.le;clear qf gH;cases hr:cV y with
    | false=>
     have eH:=qqh (kf.out (3,a) (by rw [wJ.out,hr];rfl));have xJ:=qqh (fun(W:World)=>show Calls Tryz.prog 50 #[.int .i32 y] W fun e w'=>e=.returned (.bool false)∧W=w' by have:=gn y W;rwa [hr]at this);clear hr;go_wp2_with fail;refine(xJ.out _).mono ?_;rintro e w8 ⟨rfl,L9⟩;subst L9;go_wp2_with fail;refine(bT 3 a _).mono ?_;rintro e w9 ⟨rfl,rfl⟩;go_wp2_with fail;rw [eH.out];exact⟨rfl,rfl,jq.out⟩
    | true=>
     have tS:=qqh (show b7 L a l cu=.ok (some ((l++[lM y],cu),j)) by rw [wJ.out,hr];rfl);have xJ:=qqh (fun(W:World)=>show Calls Tryz.prog 50 #[.int .i32 y] W fun e w'=>e=.returned (.bool true)∧W=w' by have:=gn y W;rwa [hr]at this);clear hr;have fW:=(Below.refl w7.heap.size w7).alloc (Nat.le_refl _) (.cells #[.int .i64 1,.int .i32 y,.slice none 0 0,.string ⟨#[]⟩] 172);have HZ:=qqh (zQ (w7.alloc (.cells #[.int .i64 1,.int .i32 y,.slice none 0 0,.string ⟨#[]⟩] 172)) (uI w.heap.size C (.slice Av l.length cv)) y);have J0:=qqh (Mb.out.below fW);have XE:=jq.out.1;have lQ:=qqh (jq.out.trans (aZ.below (w:=w7) C fW));have ZC:=qqh (Uv.out.below (fW.mono XE));have hsz:=lQ.out.1;obtain⟨ys,fP,ei⟩:=J0.out.push (lM y) HZ.out rfl;have xB:=qqh fP;have wX:=qqh ei;have CL:=qqh (Rd.new w7 172 4 1 [.int .i64 1,.int .i32 y,.slice none 0 0,.string ⟨#[]⟩] rfl);have qb:=qqh (gQ.one HZ.out);clear fW fP ei EK;go_wp2_with fail;refine(xJ.out _).mono ?_;rintro e w8 ⟨rfl,L9⟩;subst L9;go_wp2_with (at_builtin;refine ai _ rfl (.tmp 99) (.tmp 102) 99 rfl w.heap.size 172 i0 _ 4 56 Tryz.underlying99 Je z0 z1 z2 rfl (by decide) _ _ _ rfl xB.out (w7.heap.size+1) (some ⟨w7.heap.size,0,none⟩) 1 1 [.int .i64 1,.int .i32 y,.slice none 0 0,.string ⟨#[]⟩] rfl CL.out qb.out (by simp only [maxLen];omega) (by omega) hsz ?_);intro v' w9 an;have cF:=an.below hsz xB.out;have GP:=qqh (ZC.out.below cF);have eE:=qqh (eY lQ.out cF);have gV:=qqh (wX.out v' w9 an);clear an cF;go_wp2_with fail;go_meet;exact⟨_,cu,j,tS.out,hjn,Jq,Lf,by simp;omega,rfl,gV.out,GP.out,eE.out⟩
  as_aux_lemma=>
   have eH:=qqh (Bd.out (by unfold b7;rw [HX.out,if_neg tv,if_neg j5,if_neg kD,if_neg wT,if_neg wL]));have q92:(x == 92)=false:=(by rw [beq_eq_false_iff_ne];exact fun h=>wL (.inl h));have sn:=qqh (fun(W:World)=>show Calls Tryz.prog 113 #[.int .i32 x] W fun e w'=>e=.returned (.bool false)∧Below W.heap.size W w' by
    have:=nx (pk L a) W (HL.out.pk a);rwa [HX.out,show cW x=false from by rw [Bool.eq_false_iff];exact fun h=>wL (.inr h)]at this)
   by_cases IN:x=36
   ·subst IN;have MN:jN (pk L (a+1))=false:=(by rw [Bool.eq_false_iff];exact fun h=>kD ⟨rfl,h⟩);have Se:=qqh (fun(W:World)=>show Calls Tryz.prog 117 #[.int .i32 (pk L (a+1))] W fun e w'=>e=.returned (.bool false)∧w'=W by have:=yJ (pk L (a+1)) W;rwa [MN]at this);go_wp2_with fail;refine(lB _ C A n c L a 1 kY.out.cur (by decide)).mono ?_;rintro e w4 ⟨rfl,kM,hb4⟩;have DW:=qqh (kY.out.but kM hb4);have ej:=qqh (bN.out.trans hb4);have od:=qqh (nX.out.but hb4 kY.out.lt);clear kM hb4;go_wp2_with fail;refine(Se.out _).mono ?_;rintro e w5 ⟨rfl,EP⟩;subst EP;go_wp2_with fail;refine(sn.out _).mono ?_;rintro e w6 ⟨rfl,dR⟩;have ze:=qqh (DW.out.but (DW.out.cur.below dR) (aZ.below C dR));have gG:=qqh (ej.out.trans (aZ.below C dR));have xy:=qqh (od.out.below dR);clear dR;go_wp2_with fail;go_ret2;rw [eH.out];exact⟨⟨_,rfl,xy.out,QF⟩,ze.out.cur,gG.out⟩
   have q36:(x == 36)=false:=(by rw [beq_eq_false_iff_ne];exact IN);go_wp2_with fail;refine(sn.out _).mono ?_;rintro e w6 ⟨rfl,dR⟩;have ze:=qqh (kY.out.but (kY.out.cur.below dR) (aZ.below C dR));have gG:=qqh (bN.out.trans (aZ.below C dR));have xy:=qqh (nX.out.below dR);clear dR;go_wp2_with fail;go_ret2;rw [eH.out];exact⟨⟨_,rfl,xy.out,QF⟩,ze.out.cur,gG.out⟩
 obtain⟨o,c',j,hel,hjn,hc0,hc1,hol,rfl,ho,sI,zz⟩:=hcut;have hst:=ep.out.trans (AX (by rw [HA.out];exact hel));rw [HA.out]at hst;have haj:=(vk HL.out.ok hel).1;obtain⟨Ao,co,rfl,_⟩:=ho.form;have ZW:=qqh ho;have HJJ:=qqh sI;have ME:=qqh zz;clear hel ho sI zz k1;by_cases h20:20<o.length
 ·rw [if_pos h20]at hst;have fk:=qqh hst;have hg:decide ((20:Int)<(o.length:Int))=true:=decide_eq_true (by omega);generalize o.length=ol at *;clear hst;go_wp2_with fail;refine(bT 5 a _).mono ?_;rintro e w5 ⟨rfl,rfl⟩;go_wp2_with fail;rw [fk.out];exact⟨rfl,rfl,ME.out⟩
 rw [if_neg h20]at hst;have fk:=qqh hst;have hg:decide ((20:Int)<(o.length:Int))=false:=decide_eq_false (by omega);have pM:=qqh (jj _ C A n c L j HJJ.out.cur);have Pp:=qqh (dm L j);clear hst;go_wp2_with fail;refine pM.out.mono ?_;rintro e w5 ⟨rfl,kX,cY⟩;have Fc:=qqh (HJJ.out.but kX cY);have cZ:=qqh (ME.out.trans cY);have tM:=qqh (ZW.out.but cY HJJ.out.lt);clear kX cY;go_wp2_with fail;refine⟨⟨f,j,o,c',hjn,by omega,fk.out,by omega,hc0,hc1,rfl,tM.out,Fc.out,cZ.out⟩,?_⟩;have e1:w5.cell? ⟨C,1,none⟩=some (.int .i64 ((aB L j:Nat):Int)):=Fc.out.cur.blk.cell 1;have e2:=nT.out;have hle:=Fc.out.cur.le;have hge:=Pp.out;rw [e1,e2];simp only [Int.toNat_natCast,List.getElem?_toArray,List.getElem?_cons_succ,List.getElem?_cons_zero];omega
def cN (w:World) (X:Nat→Prop) (u:Value) (l:List aE):Prop:=∃ A n c,u=.slice A n c∧bh (gQ w X) w X 4 A n l∧n≤c∧n≤100
theorem cN.keep {w w':World} {X X':Nat→Prop} (hk:aa w X w' X') {u:Value} {l:List aE} (h:cN w X u l):cN w' X' u l:=by
 obtain⟨A,n,c,e,h1,h2⟩:=h;exact⟨A,n,c,e,h1.keep hk (gQ.keep hk),h2⟩
theorem cN.nil (w:World) (X:Nat→Prop):cN w X (.slice none 0 0) []:=⟨none,0,0,rfl,⟨[],rfl,rfl,by simp,by simp,⟨by simp,fun h=>absurd h (Nat.lt_irrefl 0)⟩⟩,Nat.le_refl _,Nat.zero_le _⟩
theorem cN.of {w:World} {lo TF C:Nat} {v:Value} {l:List aE} (h:fZ lo C w v l) (hn:l.length≤20) (hlo:TF≤lo) (hC:C<lo):cN w (fun b=>TF≤b∧b≠C) v l:=by
 obtain⟨A,c,rfl,hc⟩:=h.form;have hh:=h;obtain⟨css,g1,g2,g3,g4⟩:=hh;refine⟨A,_,c,rfl,bX.done h (gQ.keep (aa.refl (fun b hb=>⟨Nat.le_trans hlo hb.1,hb.2.1⟩))) (fun b hb=>?_),hc,by omega⟩;have:=(aU g4 hb).1;exact⟨by omega,by omega⟩
theorem cN.form {w:World} {X:Nat→Prop} {u:Value} {l:List aE} (h:cN w X u l):∃ A n c,u=.slice A n c∧l.length=n:=by
 obtain⟨A,n,c,e,h1,_⟩:=h;exact⟨A,n,c,e,h1.len⟩
structure uM (w:World) (C:Nat) (A:Option Addr) (n c:Nat) (L:List Int) (wr:World) (j:Nat) (cs:Array Value):Prop where
  cur:ia w.heap.size wr C A n c L j
  but:aZ w C wr
  box:aj wr (w.heap.size+1) 101 cs
  res:aj wr w.heap.size 101 #[.bool false,.bool false,.slice none 0 0,.slice none 0 0,.slice none 0 0,.int .i64 0]
section
variable {w wr w' : World} {C : Nat} {A : Option Addr} {n c : Nat} {L : List Int} {j j' : Nat} {cs : Array Value}
theorem uM.step (h:uM w C A n c L wr j cs) (hc:ay w' C A n c L j') (hb:aZ wr C w'):uM w C A n c L w' j' cs:=by
 have hC:=h.cur.lt;exact⟨h.cur.but hc hb,h.but.trans hb,(hb.2.2.2.2 _ h.box.lt (by omega)).trans h.box,(hb.2.2.2.2 _ h.res.lt (by omega)).trans h.res⟩
theorem uM.put (h:uM w C A n c L wr j cs) (k:Nat) (u:Value):uM w C A n c L (wr.setCell ⟨w.heap.size+1,k,none⟩ u) j (cs.setIfInBounds k u):=by
 have hb:=(aZ.set wr (w.heap.size+1) k u);have aQ:=hb.to (B:=w.heap.size) h.but.1 (Nat.le_succ _);exact⟨h.cur.below aQ,eY h.but aQ,h.box.put k u,(hb.2.2.2.2 _ h.res.lt (by omega)).trans h.res⟩
theorem cN.step {u:Value} {l:List aE} {lo:Nat} (h:cN wr (fun b=>lo≤b∧b≠C) u l) (hb:aZ wr C w'):cN w' (fun b=>lo≤b∧b≠C) u l:=h.keep (hb.keeps (fun _ h=>h.2) (fun _ h _=>h))
theorem cN.put {u x:Value} {l:List aE} {lo k:Nat} (h:cN wr (fun b=>lo+2≤b∧b≠C) u l):cN (wr.setCell ⟨lo+1,k,none⟩ x) (fun b=>lo+2≤b∧b≠C) u l :=
  h.keep (aa.setCell x (fun b hb=>by have:=hb.1;show b≠lo+1;omega) (fun _ h _=>h))
end
def P6 (w:World) (C:Nat) (A:Option Addr) (n c:Nat) (L:List Int) (r:jP bO) (e:Ending) (w':World):Prop :=
  match r with
  | .ok (d,j)=>(∃ u1 u2 u3,e=.returned (.agg #[.bool d.start,.bool d.fin,u1,u2,u3,.int .i64 d.af])∧cN w' (fun b=>w.heap.size+2≤b∧b≠C) u1 d.before∧cN w' (fun b=>w.heap.size+2≤b∧b≠C) u2 d.source∧cN w' (fun b=>w.heap.size+2≤b∧b≠C) u3 d.after)∧ay w' C A n c L j∧aZ w C w'
  | .error (x,p)=>e=aW x p∧aZ w C w'
theorem oN {L:List Int} {j:Nat} {l:List aE} {cu:Int}:∀ (f:Nat) (i:Nat) (out:List aE) (cur:Int),out.length≤20 → -1≤cur→cur≤20→cI L f i out cur=.ok ((l,cu),j) → -1≤cu∧cu≤20:=by
 intro f;induction f with
 | zero=>intro i out cur _ _ _ h;rw [cI]at h;cases h
 | succ f ih=>
  intro i out cur hn h1 h2 h;rw [cI]at h;cases he:b7 L (aB L i) out cur with
  | error e=>rw [he]at h;cases h
  | ok q=>
   rw [he]at h;cases q with
   | none=>simp only at h;injection h with h;injection h with h h3;injection h with h4 h5;omega
   | some q=>
    obtain⟨⟨o,c⟩,k⟩:=q;simp only at h;by_cases h20:20<o.length
    ·rw [if_pos h20]at h;cases h
    rw [if_neg h20]at h;refine ih k o c (by omega) ?_ ?_ h <;>
    ·unfold b7 at he;(repeat' (split at he));(all_goals first | (cases he;done) | (injection he with he;cases he;done) | (injection he with he;injection he with he;injection he with h3 h4;injection h3 with h5 h6;omega))
theorem xF {L:List Int} {i a0 a1:Nat} {e:Int × Nat} (h0:aB L i=a0) (h1:a1=if pk L a0=94 then a0+1 else a0) (h:dI L (decide (pk L a0=94)) a1=.error e):dG L i=.error e:=by unfold dG;rw [h0,← h1,h]
theorem wZ {L:List Int} {i a0 a1 j:Nat} {b s:List aE} {c:Int} {e:Int × Nat} (h0:aB L i=a0) (h1:a1=if pk L a0=94 then a0+1 else a0) (h:dI L (decide (pk L a0=94)) a1=.ok ((b,s,c),j)) (ht:dZ L j=.error e):dG L i=.error e:=by unfold dG;rw [h0,← h1,h];simp only;rw [ht]
theorem EN {L:List Int} {i a0 a1 j k:Nat} {b s a:List aE} {c:Int} {fin:Bool} (h0:aB L i=a0) (h1:a1=if pk L a0=94 then a0+1 else a0) (h:dI L (decide (pk L a0=94)) a1=.ok ((b,s,c),j)) (ht:dZ L j=.ok ((a,fin),k)):dG L i=.ok (⟨decide (pk L a0=94),fin,b,s,a,c⟩,aB L k):=by unfold dG;rw [h0,← h1,h];simp only;rw [ht]
theorem GD {L:List Int} {st:Bool} {a j:Nat} {l:List aE} {c:Int} (h:cA L a=.ok ((l,c),j)) (h1:pk L j=123) (h2:0≤c):dI L st a=.error (8,a):=by unfold dI;rw [h];simp only;rw [if_pos h1,if_pos h2]
theorem DC {L:List Int} {st:Bool} {a j:Nat} {l:List aE} {c:Int} {e:Int × Nat} (h:cA L a=.ok ((l,c),j)) (h1:pk L j=123) (h2:¬ 0≤c) (h3:cA L (j+1)=.error e):dI L st a=.error e:=by unfold dI;rw [h];simp only;rw [if_pos h1,if_neg h2,h3]
theorem Ji {L:List Int} {st:Bool} {a j k:Nat} {l l2:List aE} {c c2:Int} (h:cA L a=.ok ((l,c),j)) (h1:pk L j=123) (h2:¬ 0≤c) (h3:cA L (j+1)=.ok ((l2,c2),k)):dI L st a=.ok ((l,l2,c2),k):=by unfold dI;rw [h];simp only;rw [if_pos h1,if_neg h2,h3]
theorem ID {L:List Int} {a j:Nat} {l:List aE} {c:Int} (h:cA L a=.ok ((l,c),j)) (h1:pk L j≠123):dI L true a=.error (2,j):=by unfold dI;rw [h];simp only;rw [if_neg h1];rfl
theorem K1 {L:List Int} {a j:Nat} {l:List aE} {c:Int} (h:cA L a=.ok ((l,c),j)) (h1:pk L j≠123):dI L false a=.ok (([],l,c),j):=by unfold dI;rw [h];simp only;rw [if_neg h1];rfl
theorem DB {L:List Int} {j:Nat} {e:Int × Nat} (h1:pk L j=125) (h:cA L (j+1)=.error e):dZ L j=.error e:=by unfold dZ;rw [if_pos h1,h]
theorem Ig {L:List Int} {j k:Nat} {l:List aE} {c:Int} (h1:pk L j=125) (h:cA L (j+1)=.ok ((l,c),k)):dZ L j=(if 0≤c then .error (8,j+1)else if pk L k=36 then .ok ((l,true),k+1)else .ok ((l,false),k)):=by unfold dZ;rw [if_pos h1,h]
theorem Ot {L:List Int} {j:Nat} (h1:pk L j≠125):dZ L j=.ok (([],false),j):=by unfold dZ;rw [if_neg h1]
theorem JO (w:World) (C:Nat) (A:Option Addr) (n c:Nat) (L:List Int) (i:Nat) (h:ay w C A n c L i):uM w C A n c L ((w.alloc (.cells #[.bool false,.bool false,.slice none 0 0,.slice none 0 0,.slice none 0 0,.int .i64 0] 101)).alloc (.cells #[.bool false,.bool false,.slice none 0 0,.slice none 0 0,.slice none 0 0,.int .i64 (-1)] 101)) i #[.bool false,.bool false,.slice none 0 0,.slice none 0 0,.slice none 0 0,.int .i64 (-1)]:=by
 have hb:Below w.heap.size w ((w.alloc (.cells #[.bool false,.bool false,.slice none 0 0,.slice none 0 0,.slice none 0 0,.int .i64 0] 101)).alloc (.cells #[.bool false,.bool false,.slice none 0 0,.slice none 0 0,.slice none 0 0,.int .i64 (-1)] 101)):=((Below.refl _ _).alloc (Nat.le_refl _) _).alloc (by simp) _;refine⟨(ia.start h).below hb,aZ.below C hb,?_,(aj.new w _ _).alloc _⟩;have:=aj.new (w.alloc (.cells #[.bool false,.bool false,.slice none 0 0,.slice none 0 0,.slice none 0 0,.int .i64 0] 101)) 101 #[.bool false,.bool false,.slice none 0 0,.slice none 0 0,.slice none 0 0,.int .i64 (-1)];simpa using this
theorem N8 {w wr:World} {C:Nat} {A:Option Addr} {n c:Nat} {L:List Int} {j:Nat} {cs:Array Value} (h:uM w C A n c L wr j cs) (v0 v1 v2 v3 v4 v5:Value) :
    ay ((((((wr.setCell ⟨w.heap.size,0,none⟩ v0).setCell ⟨w.heap.size,1,none⟩ v1).setCell ⟨w.heap.size,2,none⟩ v2).setCell ⟨w.heap.size,3,none⟩ v3).setCell ⟨w.heap.size,4,none⟩ v4).setCell ⟨w.heap.size,5,none⟩ v5) C A n c L j ∧
    aZ w C ((((((wr.setCell ⟨w.heap.size,0,none⟩ v0).setCell ⟨w.heap.size,1,none⟩ v1).setCell ⟨w.heap.size,2,none⟩ v2).setCell ⟨w.heap.size,3,none⟩ v3).setCell ⟨w.heap.size,4,none⟩ v4).setCell ⟨w.heap.size,5,none⟩ v5) ∧
    aj ((((((wr.setCell ⟨w.heap.size,0,none⟩ v0).setCell ⟨w.heap.size,1,none⟩ v1).setCell ⟨w.heap.size,2,none⟩ v2).setCell ⟨w.heap.size,3,none⟩ v3).setCell ⟨w.heap.size,4,none⟩ v4).setCell ⟨w.heap.size,5,none⟩ v5) w.heap.size 101 #[v0,v1,v2,v3,v4,v5] ∧
    aa wr (fun b=>w.heap.size+2≤b∧b≠C) ((((((wr.setCell ⟨w.heap.size,0,none⟩ v0).setCell ⟨w.heap.size,1,none⟩ v1).setCell ⟨w.heap.size,2,none⟩ v2).setCell ⟨w.heap.size,3,none⟩ v3).setCell ⟨w.heap.size,4,none⟩ v4).setCell ⟨w.heap.size,5,none⟩ v5) (fun b=>w.heap.size+2≤b∧b≠C):=by
 have hz:=h.but.1;have one:∀ (W:World) (k:Nat) (v:Value),Below w.heap.size wr W→w.heap.size≤W.heap.size→Below w.heap.size wr (W.setCell ⟨w.heap.size,k,none⟩ v):=fun W k v hb hs=>hb.trans ((aZ.set W w.heap.size k v).to hs (Nat.le_refl _));have kp:∀ (W:World) (k:Nat) (v:Value),aa W (fun b=>w.heap.size+2≤b∧b≠C) (W.setCell ⟨w.heap.size,k,none⟩ v) (fun b=>w.heap.size+2≤b∧b≠C):=fun W k v=>aa.setCell v (fun b hb=>by have:=hb.1;show b≠w.heap.size;omega) (fun _ h _=>h);have b0:=one wr 0 v0 (Below.refl _ _) hz;have b1:=one _ 1 v1 b0 (by simpa using hz);have b2:=one _ 2 v2 b1 (by simpa using hz);have b3:=one _ 3 v3 b2 (by simpa using hz);have b4:=one _ 4 v4 b3 (by simpa using hz);have b5:=one _ 5 v5 b4 (by simpa using hz);have r0:=h.res.put 0 v0;have r1:=r0.put 1 v1;have r2:=r1.put 2 v2;have r3:=r2.put 3 v3;have r4:=r3.put 4 v4;have r5:=r4.put 5 v5;exact⟨(h.cur.below b5).cur,eY h.but b5,r5,(((((kp _ 0 v0).trans (kp _ 1 v1)).trans (kp _ 2 v2)).trans (kp _ 3 v3)).trans (kp _ 4 v4)).trans (kp _ 5 v5)⟩
theorem MI (w:World) (C:Nat) (A:Option Addr) (n c:Nat) (L:List Int) (i:Nat) (h:ay w C A n c L i) (hL:fN L) (hn:n≤100000) :
    Calls Tryz.prog 72 #[.pointer (some ⟨C,0,none⟩)] w (P6 w C A n c L (dG L i)):=by
 have hl:=h.len;have HL:=qqh hL;have gD:=qqh (fun(W:World) (m:Nat) (h:ay W C A n c L m)=>cK W C A n c L m h);have OO:=qqh (fun(W:World) (m:Nat) (h:ay W C A n c L m)=>KI W C A n c L m h hL hn);have pM:=qqh (fun(W:World) (m:Nat) (h:ay W C A n c L m)=>jj W C A n c L m h);have hi:=h.le;have qR:=qqh (JO w C A n c L i h);obtain⟨R,hR⟩:∃ R,dG L i=R:=⟨_,rfl⟩;rw [hR];obtain⟨a0,ha0⟩:∃ a0,aB L i=a0:=⟨_,rfl⟩;have WA:=qqh ha0;have HR:=qqh hR;clear h hL hR ha0;go_enter Tryz.func72,Tryz.ntmps72;go_wp2_with fail;refine(pM.out _ i qR.out.cur.cur).mono ?_;rintro e w1 ⟨rfl,hc1,aT⟩;rw [WA.out]at hc1;have fK:=qqh (qR.out.step hc1 aT);clear hc1 aT;go_upto_if 14 with (go_at_call 41;refine(gD.out _ a0 fK.out.cur.cur).mono ?_;rintro e w2 ⟨rfl,hc2,aQ⟩);have eT:=qqh (fK.out.step hc2 aQ);clear hc2 aQ;go_cut [] (fun wx=>∃ a1:Nat,a1=(if pk L a0=94 then a0+1 else a0)∧uM w C A n c L wx a1 #[.bool (decide (pk L a0=94)),.bool false,.slice none 0 0,.slice none 0 0,.slice none 0 0,.int .i64 (-1)]);case first=>
  by_cases mJ:pk L a0=94
  ·obtain⟨d1,d2,d3,d4⟩:=eT.out.cur.cur.step (by rw [← hl];exact bu (by omega));have eF:=qqh (eT.out.step d3 d4);have z0:=eF.out.box.frozen 0;have z1:=eF.out.box.cell 0;have gW:=qqh (eF.out.put 0 (.bool true));have Vv:IntKind.i64.wrap ((a0:Int)+1)=(a0:Int)+1:=wrap_small _ (by have:=eT.out.cur.cur.le;omega) (by have:=eT.out.cur.cur.le;omega);have H94:=qqh mJ;rw [mJ];clear d3 d4 mJ;go_wp2_with fail;go_meet;refine⟨a0+1,by rw [if_pos H94.out],?_⟩;rw [show decide (pk L a0=94)=true from decide_eq_true H94.out];exact gW.out
  have q94:(pk L a0 == 94)=false:=(by rw [beq_eq_false_iff_ne];exact mJ);go_wp2_with fail;go_meet;refine⟨a0,by rw [if_neg mJ],?_⟩;rw [show decide (pk L a0=94)=false from decide_eq_false mJ];exact eT.out
 obtain⟨a1,lP,hf⟩:=hcut;have oo:=qqh lP;have Qx:=qqh hf;have afw:=hf.cur.cur.le;clear lP hf;obtain⟨st,hst⟩:∃ st,decide (pk L a0=94)=st:=⟨_,rfl⟩;have fk:=qqh hst;rw [hst]at Qx;have c1:=Qx.out.cur.cur.blk.cell 1;have O4:=qqh (fun(e:Int × Nat) (he:dI L st a1=.error e)=>show R=.error e from HR.out.symm.trans (xF WA.out oo.out (by rw [fk.out];exact he)));have HTE:=qqh (fun(b s:List aE) (c:Int) (j:Nat) (e:Int × Nat) (he:dI L st a1=.ok ((b,s,c),j)) (ht:dZ L j=.error e)=>show R=.error e from HR.out.symm.trans (wZ WA.out oo.out (by rw [fk.out];exact he) ht));have Ll:=qqh (fun(b s a:List aE) (c:Int) (fin:Bool) (j k:Nat) (he:dI L st a1=.ok ((b,s,c),j)) (ht:dZ L j=.ok ((a,fin),k))=>show R=.ok (⟨st,fin,b,s,a,c⟩,aB L k) by have:=HR.out.symm.trans (EN WA.out oo.out (by rw [fk.out];exact he) ht);rwa [fk.out]at this);clear hst;have XC:=qqh (OO.out _ a1 Qx.out.cur.cur);cases hit:cA L a1 with
 | error e0=>
  obtain⟨y,p⟩:=e0;have eH:=qqh (O4.out (y,p) (by unfold dI;rw [hit]));rw [hit]at XC;clear hit;go_wp2_with fail;refine XC.out.mono ?_;rintro e w3 ⟨he,bJ⟩;unfold aW at he;subst he;have bN:=qqh (Qx.out.but.trans bJ);clear bJ;go_wp2_with fail;rw [eH.out];exact⟨rfl,rfl,bN.out⟩
 | ok q=>
  obtain⟨⟨l,cu⟩,j1⟩:=q;have T2:=qqh hit;have Oi:=oN _ _ _ _ (Nat.zero_le _) (by decide) (by decide) (show cI L (L.length+1) a1 [] (-1)=.ok ((l,cu),j1) from hit);rw [hit]at XC;clear hit;go_wp2_with fail;refine XC.out.mono ?_;rintro e w3 ⟨⟨v,rfl,hown,h20⟩,kR,bJ⟩;have eF:=qqh (Qx.out.step kR bJ);have Z4:=Qx.out.box.lt;have Wr:=qqh (cN.of (TF:=w.heap.size+2) hown h20 Z4 (by have:=Qx.out.cur.lt;omega));obtain⟨Av,nv,cv,rfl,_⟩:=Wr.out.form;clear hown kR bJ c1;go_upto_if 39 with (go_at_call 41;refine(gD.out _ j1 eF.out.cur.cur).mono ?_;rintro e w4 ⟨rfl,kM,hb4⟩);have gW:=qqh (eF.out.step kM hb4);have Mx:=qqh (Wr.out.step hb4);clear kM hb4;have x0:w4.cell? ⟨w.heap.size+1,0,none⟩=some (.bool st):=gW.out.box.cell 0;go_cut [5,6] (fun v5 v6 wx=>∃ (b s:List aE) (cc:Int) (j:Nat) (ub:Value),dI L st a1=.ok ((b,s,cc),j) ∧ -1≤cc∧cc≤20∧v6=.int .i64 cc∧cN wx (fun b=>w.heap.size+2≤b∧b≠C) v5 s∧cN wx (fun b=>w.heap.size+2≤b∧b≠C) ub b∧uM w C A n c L wx j #[.bool st,.bool false,ub,.slice none 0 0,.slice none 0 0,.int .i64 (-1)]);case first=>
   by_cases qO:pk L j1=123
   ·have hlt:j1<n:=(by rw [← hl];exact bu (by omega));have Ui:=qqh qO;rw [qO];by_cases hc:0≤cu
    ·have eH:=qqh (O4.out (8,a1) (GD T2.out qO hc));have hg:decide ((0:Int)≤cu)=true:=decide_eq_true hc;clear qO;go_wp2_with fail;refine(bT 8 a1 _).mono ?_;rintro e w5 ⟨rfl,rfl⟩;go_wp2_with fail;rw [eH.out];exact⟨rfl,rfl,gW.out.but⟩
    have hg:decide ((0:Int)≤cu)=false:=decide_eq_false hc;obtain⟨d1,d2,d3,d4⟩:=gW.out.cur.cur.step hlt;have iM:=qqh (gW.out.step d3 d4);have Pu:=qqh (Mx.out.step d4);have Vv:IntKind.i64.wrap ((j1:Int)+1)=(j1:Int)+1:=wrap_small _ (by omega) (by omega);have z2:=iM.out.box.frozen 2;have y2:=iM.out.box.cell 2;have pS:=qqh (iM.out.put 2 (.slice Av nv cv));have U':=qqh (Pu.out.put (k:=2) (x:=.slice Av nv cv));have Wz:=qqh (OO.out _ (j1+1) pS.out.cur.cur);clear d3 d4 qO x0;cases pH:cA L (j1+1)with
    | error e0=>
     obtain⟨y,p⟩:=e0;have eH:=qqh (O4.out (y,p) (DC T2.out Ui.out hc pH));rw [pH]at Wz;clear pH;go_wp2_with fail;refine Wz.out.mono ?_;rintro e w7 ⟨he,gH⟩;unfold aW at he;subst he;have jq:=qqh (pS.out.but.trans gH);clear gH;go_wp2_with fail;rw [eH.out];exact⟨rfl,rfl,jq.out⟩
    | ok q=>
     obtain⟨⟨l2,c2⟩,j2⟩:=q;have Jb:=qqh (show dI L st a1=.ok ((l,l2,c2),j2) from Ji T2.out Ui.out hc pH);have hc2:=oN _ _ _ _ (Nat.zero_le _) (by decide) (by decide) (show cI L (L.length+1) (j1+1) [] (-1)=.ok ((l2,c2),j2) from pH);rw [pH]at Wz;clear pH;go_wp2_with fail;refine Wz.out.mono ?_;rintro e w7 ⟨⟨v7,rfl,Ox,h27⟩,qf,gH⟩;have sP:=qqh (pS.out.step qf gH);have HV7:=qqh (U'.out.step gH);have YR:=pS.out.box.lt;have Xz:=qqh (cN.of (TF:=w.heap.size+2) Ox h27 YR (by have:=pS.out.cur.lt;have:=pS.out.but.1;omega));obtain⟨A7,n7,c7,rfl,_⟩:=Xz.out.form;clear Ox qf gH;go_wp2_with fail;go_meet;exact⟨l,l2,c2,j2,_,Jb.out,hc2.1,hc2.2,rfl,Xz.out,HV7.out,sP.out⟩
   have aev:(pk L j1 == 123)=false:=(by rw [beq_eq_false_iff_ne];exact qO);cases st with
   | true=>
    have eH:=qqh (O4.out (2,j1) (ID T2.out qO));have y1:=gW.out.cur.cur.blk.cell 1;go_wp2_with fail;refine(bT 2 j1 _).mono ?_;rintro e w5 ⟨rfl,rfl⟩;go_wp2_with fail;rw [eH.out];exact⟨rfl,rfl,gW.out.but⟩
   | false=>
    have Jb:=qqh (show dI L false a1=.ok (([],l,cu),j1) from K1 T2.out qO);go_wp2_with fail;go_meet;exact⟨[],l,cu,j1,_,Jb.out,Oi.1,Oi.2,rfl,Mx.out,cN.nil _ _,gW.out⟩
  obtain⟨b,ss,cc,j,ub,hhd,hc0,hc1,rfl,Fu,RO,hf⟩:=hcut;obtain⟨As,ns,cs,rfl,_⟩:=Fu.form;have MW:=qqh hhd;have z3:=hf.box.frozen 3;have z5:=hf.box.frozen 5;have y3:=hf.box.cell 3;have y5:=hf.box.cell 5;have iM:=qqh ((hf.put 3 (.slice As ns cs)).put 5 (.int .i64 cc));have C5:=qqh ((Fu.put (k:=3) (x:=.slice As ns cs)).put (k:=5) (x:=.int .i64 cc));have XA:=qqh ((RO.put (k:=3) (x:=.slice As ns cs)).put (k:=5) (x:=.int .i64 cc));clear Fu RO hf hhd x0;go_upto_if 76 with (go_at_call 41;refine(gD.out _ j iM.out.cur.cur).mono ?_;rintro e w6 ⟨rfl,CU,dR⟩);have pS:=qqh (iM.out.step CU dR);have SA:=qqh (C5.out.step dR);have HU6:=qqh (XA.out.step dR);clear CU dR z3 z5 y3 y5;go_cut [] (fun wx=>∃ (a:List aE) (fin:Bool) (k:Nat) (ua:Value),dZ L j=.ok ((a,fin),k)∧cN wx (fun b=>w.heap.size+2≤b∧b≠C) ua a∧cN wx (fun b=>w.heap.size+2≤b∧b≠C) (.slice As ns cs) ss∧cN wx (fun b=>w.heap.size+2≤b∧b≠C) ub b∧uM w C A n c L wx k #[.bool st,.bool fin,ub,.slice As ns cs,ua,.int .i64 cc]);case first=>
   by_cases vX:pk L j=125
   ·have hlt:j<n:=(by rw [← hl];exact bu (by omega));have Ug:=qqh vX;rw [vX];obtain⟨d1,d2,d3,d4⟩:=pS.out.cur.cur.step hlt;have sP:=qqh (pS.out.step d3 d4);have HS7:=qqh (SA.out.step d4);have Xz:=qqh (HU6.out.step d4);have Vv:IntKind.i64.wrap ((j:Int)+1)=(j:Int)+1:=wrap_small _ (by omega) (by omega);have Sj:=qqh (OO.out _ (j+1) sP.out.cur.cur);have yc:=sP.out.cur.cur.blk.cell 1;clear d3 d4 vX;cases xD:cA L (j+1)with
    | error e0=>
     obtain⟨y,p⟩:=e0;have eH:=qqh (HTE.out b ss cc j (y,p) MW.out (DB Ug.out xD));rw [xD]at Sj;clear xD;go_wp2_with fail;refine Sj.out.mono ?_;rintro e w8 ⟨he,fW⟩;unfold aW at he;subst he;have vG:=qqh (sP.out.but.trans fW);clear fW;go_wp2_with fail;rw [eH.out];exact⟨rfl,rfl,vG.out⟩
    | ok q=>
     obtain⟨⟨l3,c3⟩,k⟩:=q;have xo:=qqh (show dZ L j=(if 0≤c3 then .error (8,j+1)else if pk L k=36 then .ok ((l3,true),k+1)else .ok ((l3,false),k)) from Ig Ug.out xD);rw [xD]at Sj;clear xD;go_wp2_with fail;refine Sj.out.mono ?_;rintro e w8 ⟨⟨v8,rfl,fP,h28⟩,E9,fW⟩;have wv:=qqh (sP.out.step E9 fW);have Sw:=qqh (HS7.out.step fW);have RR:=qqh (Xz.out.step fW);have Vx:=sP.out.box.lt;have HT8:=qqh (cN.of (TF:=w.heap.size+2) fP h28 Vx (by have:=sP.out.cur.lt;have:=sP.out.but.1;omega));obtain⟨A8,n8,c8,rfl,_⟩:=HT8.out.form;have z4:=wv.out.box.frozen 4;have y4:=wv.out.box.cell 4;have nL:=qqh (wv.out.put 4 (.slice A8 n8 c8));have HS9:=qqh (Sw.out.put (k:=4) (x:=.slice A8 n8 c8));have HU9:=qqh (RR.out.put (k:=4) (x:=.slice A8 n8 c8));have HT9:=qqh (HT8.out.put (k:=4) (x:=.slice A8 n8 c8));clear fP E9 fW;by_cases hc:0≤c3
     ·have eH:=qqh (HTE.out b ss cc j (8,j+1) MW.out (by rw [xo.out,if_pos hc]));have hg:decide ((0:Int)≤c3)=true:=decide_eq_true hc;have HJ1:=qqh (show((j+1:Nat):Int)=(j:Int)+1 by omega);go_wp2_with fail;refine(bT 8 ((j:Int)+1) _).mono ?_;rintro e w9 ⟨rfl,rfl⟩;go_wp2_with fail;rw [eH.out];exact⟨rfl,rfl,nL.out.but⟩
     have hg:decide ((0:Int)≤c3)=false:=decide_eq_false hc;go_wp2_with fail;refine(gD.out _ k nL.out.cur.cur).mono ?_;rintro e w9 ⟨rfl,BI,cF⟩;have Rw:=qqh (nL.out.step BI cF);have Ud:=qqh (HS9.out.step cF);have TS:=qqh (HU9.out.step cF);have Wc:=qqh (HT9.out.step cF);clear BI cF;by_cases kD:pk L k=36
     ·have Za:k<n:=(by rw [← hl];exact bu (by omega));have TG:=qqh (show dZ L j=.ok ((l3,true),k+1) by rw [xo.out,if_neg (by omega),if_pos kD]);rw [kD];obtain⟨d1,d2,d3,d4⟩:=Rw.out.cur.cur.step Za;have Gw:=qqh (Rw.out.step d3 d4);have Zx:=qqh (Ud.out.step d4);have YL:=qqh (TS.out.step d4);have Zp:=qqh (Wc.out.step d4);have hwk:IntKind.i64.wrap ((k:Int)+1)=(k:Int)+1:=wrap_small _ (by omega) (by omega);have z1:=Gw.out.box.frozen 1;have y1:=Gw.out.box.cell 1;have Zu:=qqh (Gw.out.put 1 (.bool true));have Zm:=qqh (Zx.out.put (k:=1) (x:=.bool true));have ZH:=qqh (YL.out.put (k:=1) (x:=.bool true));have aaj:=qqh (Zp.out.put (k:=1) (x:=.bool true));clear d3 d4 kD z4 y4;go_wp2_with fail;go_meet;exact⟨l3,true,k+1,_,TG.out,aaj.out,Zm.out,ZH.out,Zu.out⟩
     have q36:(pk L k == 36)=false:=(by rw [beq_eq_false_iff_ne];exact kD);have TG:=qqh (show dZ L j=.ok ((l3,false),k) by rw [xo.out,if_neg (by omega),if_neg kD]);go_wp2_with fail;go_meet;exact⟨l3,false,k,_,TG.out,Wc.out,Ud.out,TS.out,Rw.out⟩
   have adN:(pk L j == 125)=false:=(by rw [beq_eq_false_iff_ne];exact vX);have TG:=qqh (show dZ L j=.ok (([],false),j) from Ot vX);go_wp2_with fail;go_meet;exact⟨[],false,j,_,TG.out,cN.nil _ _,SA.out,HU6.out,pS.out⟩
  obtain⟨a,fin,k,ua,htl,Zo,Fu,RO,hf⟩:=hcut;obtain⟨Aa,na,ca,rfl,_⟩:=Zo.form;obtain⟨Ab,nb,cb,rfl,_⟩:=RO.form;have eH:=qqh (Ll.out b ss a cc fin j k MW.out htl);have QA:=qqh hf;have TE:=qqh Zo;have SH:=qqh Fu;have UX:=qqh RO;clear Zo Fu RO hf htl;go_wp2_with fail;refine(pM.out _ k QA.out.cur.cur).mono ?_;rintro e w14 ⟨rfl,VG,LD⟩;have lC:=QA.out.step VG LD;have aaR:=qqh (TE.out.step LD);have XG:=qqh (SH.out.step LD);have ZM:=qqh (UX.out.step LD);have y0:=lC.box.cell 0;have y1:=lC.box.cell 1;have y2:=lC.box.cell 2;have y3:=lC.box.cell 3;have y4:=lC.box.cell 4;have y5:=lC.box.cell 5;have x0:=lC.res.cell 0;have x1:=lC.res.cell 1;have x2:=lC.res.cell 2;have x3:=lC.res.cell 3;have x4:=lC.res.cell 4;have x5:=lC.res.cell 5;have z0:=lC.res.frozen 0;have z1:=lC.res.frozen 1;have z2:=lC.res.frozen 2;have z3:=lC.res.frozen 3;have z4:=lC.res.frozen 4;have z5:=lC.res.frozen 5;obtain⟨e1,e2,e3,e4⟩:=N8 lC (.bool st) (.bool fin) (.slice Ab nb cb) (.slice As ns cs) (.slice Aa na ca) (.int .i64 cc);have wJ:=qqh e1;have uz:=qqh e2;have HE3:=qqh e3;have LS:=qqh e4;clear e1 e2 e3 e4 VG LD lC;go_wp2_with fail;clear x0 x1 x2 x3 x4 x5 y0 y1 y2 y3 y4 y5 z0 z1 z2 z3 z4 z5 QA TE SH UX;generalize ((((((w14.setCell ⟨w.heap.size,0,none⟩ (.bool st)).setCell ⟨w.heap.size,1,none⟩ (.bool fin)).setCell ⟨w.heap.size,2,none⟩ (.slice Ab nb cb)).setCell ⟨w.heap.size,3,none⟩ (.slice As ns cs)).setCell ⟨w.heap.size,4,none⟩ (.slice Aa na ca)).setCell ⟨w.heap.size,5,none⟩ (.int .i64 cc))=W6 at *;have hbk:=HE3.out;have r0:W6.cell? ⟨w.heap.size,0,none⟩=some (.bool st):=hbk.cell 0;have r1:W6.cell? ⟨w.heap.size,1,none⟩=some (.bool fin):=hbk.cell 1;have r2:W6.cell? ⟨w.heap.size,2,none⟩=some (.slice Ab nb cb):=hbk.cell 2
  have r3:W6.cell? ⟨w.heap.size,3,none⟩=some (.slice As ns cs):=hbk.cell 3;have r4:W6.cell? ⟨w.heap.size,4,none⟩=some (.slice Aa na ca):=hbk.cell 4;have r5:W6.cell? ⟨w.heap.size,5,none⟩=some (.int .i64 cc):=hbk.cell 5;clear hbk;refine bodyPost_ret (v:=.agg #[.bool st,.bool fin,.slice Ab nb cb,.slice As ns cs,.slice Aa na ca,.int .i64 cc]) (by simp [results,Tryz.results72,go_sem,r0,r1,r2,r3,r4,r5]) rfl ?_;rw [eH.out];exact⟨⟨_,_,_,rfl,ZM.out.keep LS.out,XG.out.keep LS.out,aaR.out.keep LS.out⟩,wJ.out,uz.out⟩
theorem zK {w:World} {R F m:Nat} {v:Value} {x p:Int} {tR tF:TypeId} (hR:aj w R tR #[v]) (hF:aj w F tF #[.int .i64 x,.int .i64 p]) (hne:R≠F) :
    aj ((((w.drewN m).setCell ⟨R,0,none⟩ v).setCell ⟨F,0,none⟩ (.int .i64 x)).setCell ⟨F,1,none⟩ (.int .i64 p)) R tR #[v]∧aj ((((w.drewN m).setCell ⟨R,0,none⟩ v).setCell ⟨F,0,none⟩ (.int .i64 x)).setCell ⟨F,1,none⟩ (.int .i64 p)) F tF #[.int .i64 x,.int .i64 p] ∧
      ∀ B,B≤R→B≤F→B≤w.heap.size→Below B w ((((w.drewN m).setCell ⟨R,0,none⟩ v).setCell ⟨F,0,none⟩ (.int .i64 x)).setCell ⟨F,1,none⟩ (.int .i64 p)) ∧
        aa w (fun b=>b≠R∧b≠F) ((((w.drewN m).setCell ⟨R,0,none⟩ v).setCell ⟨F,0,none⟩ (.int .i64 x)).setCell ⟨F,1,none⟩ (.int .i64 p)) (fun b=>b≠R∧b≠F):=by
 have h1:aj ((w.drewN m).setCell ⟨R,0,none⟩ v) R tR #[v]:=(hR.drewN m).put 0 v;have b1:=aZ.set (w.drewN m) R 0 v;have g1:aj ((w.drewN m).setCell ⟨R,0,none⟩ v) F tF #[.int .i64 x,.int .i64 p]:=(b1.2.2.2.2 F (hF.drewN m).lt (Ne.symm hne)).trans (hF.drewN m);have b2:=aZ.set ((w.drewN m).setCell ⟨R,0,none⟩ v) F 0 (.int .i64 x);have g2:aj (((w.drewN m).setCell ⟨R,0,none⟩ v).setCell ⟨F,0,none⟩ (.int .i64 x)) F tF #[.int .i64 x,.int .i64 p]:=g1.put 0 _;have h2:aj (((w.drewN m).setCell ⟨R,0,none⟩ v).setCell ⟨F,0,none⟩ (.int .i64 x)) R tR #[v]:=(b2.2.2.2.2 R h1.lt hne).trans h1;have b3:=aZ.set (((w.drewN m).setCell ⟨R,0,none⟩ v).setCell ⟨F,0,none⟩ (.int .i64 x)) F 1 (.int .i64 p);refine⟨(b3.2.2.2.2 R h2.lt hne).trans h2,g2.put 1 _,fun B hR hF hw=>⟨?_,?_⟩⟩;exact((below_drewN (Below.refl B w) m).trans (b1.to (show B≤(w.drewN m).heap.size from hw) hR)).trans ((b2.to (Nat.le_trans hw b1.1) hF).trans (b3.to (Nat.le_trans (Nat.le_trans hw b1.1) b2.1) hF));exact(((aa.below (below_drewN (Below.refl _ w) m) (fun b h _=>h)).trans (b1.keeps (X':=fun b=>b≠R∧b≠F) (fun b h=>h.1) (fun b h _=>h))).trans (b2.keeps (X':=fun b=>b≠R∧b≠F) (fun b h=>h.2) (fun b h _=>h))).trans (b3.keeps (fun b h=>h.2) (fun b h _=>h))
def gw {α:Type} (r:jP α):Prop:=∀ e p,r=.error (e,p)→e≠0
theorem gC {L:List Int} {i:Nat} {r:Int} {e:Int} {p:Nat} (h:aR L i r=.error (e,p)):e≠0:=by
 unfold aR at h;split at h
 ·cases h
 injection h with h;injection h with h1 h2;omega
theorem J5 (L:List Int) (i:Nat):gw (ku L i):=by
 intro e p h;unfold ku at h;cases h1:aR L (i+1) 123 with
 | error x=>obtain⟨x1,x2⟩:=x;rw [h1]at h;simp only at h;injection h with h;injection h with h3 h4;subst h3;exact gC h1
 | ok a=>
  rw [h1]at h;simp only at h;split at h
  ·injection h with h;injection h with h1 h2;omega
  cases h2:aR L (aC eM L a) 125 with
  | error x=>obtain⟨x1,x2⟩:=x;rw [h2]at h;simp only at h;injection h with h;injection h with h3 h4;subst h3;exact gC h2
  | ok k=>
   rw [h2]at h;simp only at h;split at h
   ·injection h with h;injection h with h1 h2;omega
   cases h
theorem qU (L:List Int) (i:Nat):gw (cT L i):=by
 intro e p h;unfold cT at h;(repeat' (split at h));(any_goals (cases h;done));(any_goals (injection h with h;injection h with h1 h2;omega));exact J5 _ _ _ _ h
theorem Gv (L:List Int) (i:Nat):gw (iZ L i):=by
 intro e p h;unfold iZ at h;cases h1:cT L i with
 | error x=>obtain⟨x1,x2⟩:=x;rw [h1]at h;simp only at h;injection h with h;injection h with h3 h4;subst h3;exact qU _ _ _ _ h1
 | ok q=>
  obtain⟨a,j⟩:=q;rw [h1]at h;simp only at h;split at h
  ·cases h2:cT L (j+1)with
   | error x=>obtain⟨x1,x2⟩:=x;rw [h2]at h;simp only at h;injection h with h;injection h with h3 h4;subst h3;exact qU _ _ _ _ h2
   | ok q=>
    obtain⟨b,k⟩:=q;rw [h2]at h;simp only at h;split at h
    ·injection h with h;injection h with h1 h2;omega
    cases h
  cases h
theorem Dj (L:List Int) (i:Nat):gw (eP L i):=by
 intro e p h;unfold eP at h;split at h
 ·injection h with h;injection h with h1 h2;omega
 split at h
 ·rename_i h1;cases h;exact gC h1
 split at h
 ·rename_i h1;cases h;exact gC h1
 cases h
theorem Ht {inner:Nat→jP ag} (hi:∀ i,gw (inner i)) (L:List Int) (i:Nat):gw (dc inner L i):=by
 intro e p h;unfold dc at h;split at h;exact Dj _ _ _ _ h;split at h;exact hi _ _ _ h;split at h;exact hi _ _ _ h;split at h
 ·rename_i h1;cases h;exact Gv _ _ _ _ h1
 cases h
theorem E5 {inner:Nat→jP ag} (hi:∀ i,gw (inner i)) (L:List Int):∀ f i s,gw (dP inner L f i s):=by
 intro f;induction f with
 | zero=>intro i s e p h;unfold dP at h;injection h with h;injection h with h1 h2;omega
 | succ f ih=>
  intro i s e p h;rw [dP]at h;split at h
  ·cases h
  split at h
  ·rename_i h1;cases h;exact Ht hi _ _ _ _ h1
  split at h
  ·rename_i h1;injection h with h;injection h with h2 h3;subst h2;exact h1
  exact ih _ _ _ _ h
theorem vC (L:List Int):∀ n i,gw (bE L n i):=by
 intro n;induction n with
 | zero=>intro i e p h;unfold bE at h;injection h with h;injection h with h1 h2;split at h1 <;> omega
 | succ n ih=>
  intro i e p h;rw [bE]at h;split at h
  ·rename_i h1;cases h;exact gC h1
  split at h
  ·rename_i h1;cases h;exact E5 ih _ _ _ _ _ _ h1
  split at h
  ·split at h
   ·rename_i h1;injection h with h;injection h with h2 h3;subst h2;exact h1
   cases h
  cases h
end Go.Proofs.YtkggjgeihhialaaGreatDoor
