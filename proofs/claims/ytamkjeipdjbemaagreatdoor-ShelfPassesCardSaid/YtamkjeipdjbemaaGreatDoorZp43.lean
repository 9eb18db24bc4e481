/- RdItems + RdSideFr + RdSide + SynRead + RulesNum + RulesRight -/
import Derived.Test.YtamkjeipdjbemaaGreatDoorZp40
import Derived.Test.YtamkjeipdjbemaaGreatDoorZp42
import Derived.Test.YtamkjeipdjbemaaGreatDoorZp34
import Derived.Test.YtamkjeipdjbemaaGreatDoorZp6
import Derived.Test.YtamkjeipdjbemaaGreatDoorZp14
import Derived.Test.YtamkjeipdjbemaaGreatDoorZp20
set_option maxHeartbeats 12800000
set_option maxRecDepth 100000
namespace Go.Proofs.YtamkjeipdjbemaaGreatDoor
open Go.RowKit
def TA (w:World) (C:Nat) (A:Option Addr) (n c:Nat) (L:List Int) (r:kG (List aI × Int)) (e:Ending) (w':World):Prop :=
  match r with
  | .ok ((l,cu),j)=>(∃ v,e=.returned (.tuple #[v,.int .i64 cu])∧gY w.heap.size C w' v l∧l.length≤20)∧aB w' C A n c L j∧bQ w C w'
  | .error (x,p)=>e=bA x p∧bQ w C w'
theorem E8 {L:List Int} {f i:Nat} {out:List aI} {cur:Int} (h:cN L (aD L i) out cur=.ok none):de L (f+1) i out cur=.ok ((out,cur),aD L i):=by rw [de,h]
theorem E7 {L:List Int} {f i:Nat} {out:List aI} {cur:Int} {e:Int × Nat} (h:cN L (aD L i) out cur=.error e):de L (f+1) i out cur=.error e:=by rw [de,h]
theorem CU {L:List Int} {f i j:Nat} {out o:List aI} {cur c:Int} (h:cN L (aD L i) out cur=.ok (some ((o,c),j))):de L (f+1) i out cur=if 20<o.length then .error (5,aD L i)else de L f j o c:=by rw [de,h]
theorem LU (w:World) (C:Nat) (A:Option Addr) (n c:Nat) (L:List Int) (i:Nat) (h:aB w C A n c L i) (hL:ia L) (hn:n≤100000) :
    Calls Tryz.prog 102 #[.pointer (some ⟨C,0,none⟩)] w (TA w C A n c L (cS L i)):=by
 obtain⟨i0,K9,z0,z1,z2⟩:=info_parts zX;have hl:=h.len;have HL:=qqh hL;have iP:=qqh (fun(W:World) (m:Nat) (h:aB W C A n c L m)=>dn W C A n c L m h);have HC:=qqh h;have HLO:=qqh (iY.start h);have hi:=h.le;obtain⟨R,hR⟩:∃ R,cS L i=R:=⟨_,rfl⟩;rw [hR];have HR:=qqh hR;clear h hL hR;go_enter Tryz.func102,Tryz.ntmps102;go_wp2_with fail;refine(jO _ C A n c L i HC.out).mono ?_;rintro e w1 ⟨rfl,hc1,aP⟩;have HJ1:=qqh (HLO.out.but hc1 aP);have bF:=qqh aP;clear hc1 aP;go_wp2_with fail;go_loopw [2,3] (fun v2 v3 wr=>∃ (f j0:Nat) (l:List aI) (cu:Int),j0≤n∧n+1≤f+j0∧R=de L f j0 l cu∧l.length≤20 ∧ -1≤cu∧cu≤20∧v3=.int .i64 cu∧gY w.heap.size C wr v2 l∧iY w.heap.size wr C A n c L (aD L j0)∧bQ w C wr) (fun _ _ wr=>n - (match wr.cell? ⟨C,1,none⟩with | some (.int _ j)=>j.toNat | _=>0));(case atStart=>exact⟨L.length+1,i,[],-1,hi,by omega,HR.out.symm,by simp,by decide,by decide,rfl,gY.nil _ _ _,HJ1.out,bF.out⟩);obtain⟨f0,j0,l,cu,hj0,hf,aN,SK,NK,MI,rfl,hown,uq,B8⟩:=hrel;obtain⟨f,rfl⟩:∃ f,f0=f+1:=⟨f0 - 1,by omega⟩;obtain⟨a,ha⟩:∃ a,aD L j0=a:=⟨_,rfl⟩;have Pd:j0≤a:=(by rw [← ha];exact dP L j0);have dh:=qqh aN;have HA:=qqh ha;rw [ha]at uq;have HJ:=qqh uq;have HB:=qqh B8;have HO:=qqh hown;have nc:=qqh (uq.cur.blk.cell 1);have k1:=uq.cur.blk.cell 1;have han:=uq.cur.le;obtain⟨Av,cv,rfl,sP⟩:=hown.form;obtain⟨x,hx⟩:∃ x,pk L a=x:=⟨_,rfl⟩;have HX:=qqh hx
 have HP:=qqh (fun(W:World) (h:aB W C A n c L a)=>show Calls Tryz.prog 35 #[.pointer (some ⟨C,0,none⟩)] W fun e w'=>e=.returned (.int .i32 x)∧aB w' C A n c L a∧bQ W C w' by have:=iP.out W a h;rwa [hx]at this);have Wb:IntKind.i64.wrap ((a:Int)+1)=(a:Int)+1:=wrap_small _ (by omega) (by omega);clear aN ha uq B8 hown hx;go_upto_block 2 with (go_at_call 35;refine(HP.out _ HJ.out.cur).mono ?_;rintro e w3 ⟨rfl,lR,bM⟩);have mh:=qqh (HJ.out.but lR bM);have bN:=qqh (HB.out.trans bM);have qG:=qqh (HO.out.but bM HJ.out.lt);clear lR bM;go_cut [2,3] (fun v2 v3 wx=>∃ (o:List aI) (c':Int) (j:Nat),cN L a l cu=.ok (some ((o,c'),j))∧j≤n ∧ -1≤c'∧c'≤20∧o.length≤100100∧v3=.int .i64 c'∧gY w.heap.size C wx v2 o∧iY w.heap.size wx C A n c L j∧bQ w C wx);case first=>
  have adM:l.length≤20:=SK;have halt:0≤x→a<n:=fun h=>(by rw [← hl];exact bO (by rw [HX.out];omega));have kX:=qqh (fun(e:Int × Nat) (he:cN L a l cu=.error e)=>show R=.error e from dh.out.trans (E7 (by rw [HA.out];exact he)));have EF:=qqh (fun(he:cN L a l cu=.ok none)=>show R=.ok ((l,cu),a) by have:=dh.out.trans (E8 (by rw [HA.out];exact he));rwa [HA.out]at this);clear dh HP iP;by_cases uQ:x=124
  ·as_aux_lemma=>
    subst uQ;by_cases hc:0≤cu
    ·have eU:=qqh (kX.out (5,a) (by unfold cN;rw [if_pos HX.out,if_pos hc]));go_wp2_with fail;refine(cE 5 a _).mono ?_;rintro e w5 ⟨rfl,rfl⟩;go_wp2_with fail;rw [eU.out];exact⟨rfl,rfl,bN.out⟩
    have qg:=qqh (show cN L a l cu=.ok (some ((l,(l.length:Int)),a+1)) by unfold cN;rw [if_pos HX.out,if_neg hc]);have hg:decide ((0:Int)≤cu)=false:=decide_eq_false hc;obtain⟨d1,d2,d3,d4⟩:=mh.out.cur.step (halt (by decide));have Gc:=qqh (mh.out.but d3 d4);have bW:=qqh (bN.out.trans d4);have jm:=qqh (qG.out.but d4 mh.out.lt);have hlt:=halt (by decide);clear d3 d4;go_wp2_with fail;go_meet;exact⟨l,l.length,a+1,qg.out,hlt,by omega,by omega,by omega,rfl,jm.out,Gc.out,bW.out⟩
  have agc:(x == 124)=false:=(by rw [beq_eq_false_iff_ne];exact uQ);by_cases kU:x=91
  ·as_aux_lemma=>
    subst kU;have ym:=qqh (show cN L a l cu=(match bT L 20 a with | .error e=>.error e | .ok (s,j)=>.ok (some ((l++[⟨2,0,s,eX⟩],cu),j))) by unfold cN;rw [if_neg (by rw [HX.out];decide),if_pos HX.out];cases bT L 20 a <;> rfl);have cQ:=qqh (show Calls Tryz.prog 62 #[.pointer (some ⟨C,0,none⟩),.int .i64 1] w3 (eT w3 C A n c L (bT L 20 a)) from vE 20 1 w3 C A n c L a rfl (by decide) mh.out.cur HL.out hn);cases hs:bT L 20 a with
    | error e0=>
     obtain⟨y,p⟩:=e0;have eU:=qqh (kX.out (y,p) (by rw [ym.out,hs]));rw [hs]at cQ;clear hs ym;go_wp2_with fail;refine cQ.out.mono ?_;rintro e w5 ⟨he,eS⟩;unfold bA at he;subst he;have eD:=qqh (bN.out.trans eS);clear eS;go_wp2_with fail;rw [eU.out];exact⟨rfl,rfl,eD.out⟩
    | ok q=>
     obtain⟨t,j⟩:=q;have qg:=qqh (show cN L a l cu=.ok (some ((l++[⟨2,0,t,eX⟩],cu),j)) by rw [ym.out,hs]);have qz:=qqh (oK HL.out.ok 20 _ _ _ hs).2;rw [hs]at cQ;clear hs ym;go_wp2_with fail;refine cQ.out.mono ?_;rintro e w5 ⟨⟨B,m,d,rfl,hr,hd⟩,mu,eS⟩;have G8:=qqh (mh.out.but mu eS);have eD:=qqh (bN.out.trans eS);have yq:=qqh (qG.out.but eS mh.out.lt);have adP:m≤200:=(by have h1:=hr.1;rw [bP]at h1;have h2:=qz.out.size;omega);have hjn:=mu.le;have ER:=bN.out.1;have Zr:=mh.out.lt;have fG:=(Below.refl w5.heap.size w5).alloc qql (.cells #[.int .i64 2,.int .i32 0,.slice B m d,.string ⟨#[]⟩] 167)
     have HZ:=qqh (show iO (w5.alloc (.cells #[.int .i64 2,.int .i32 0,.slice B m d,.string ⟨#[]⟩] 167)) (xA w.heap.size C (.slice Av l.length cv)) ⟨2,0,t,eX⟩ [.int .i64 2,.int .i32 0,.slice B m d,.string ⟨#[]⟩] from
       ⟨B,m,d,rfl,(hr.lift (X':=xA w.heap.size C (.slice Av l.length cv)) (fun b (h:w3.heap.size≤b)=>⟨by omega,by omega,qG.out.apart h⟩)).keep (aa.any fG),hd,by simp only [maxLen];omega⟩)
     have AD:=qqh (yq.out.below fG);have ND:=eD.out.1;have ig:=qqh (eD.out.trans (bQ.below (w:=w5) C fG));have AR:=qqh (G8.out.below (fG.mono ND));have hsz:=ig.out.1;obtain⟨ys,ux,eM⟩:=AD.out.push ⟨2,0,t,eX⟩ HZ.out rfl;have Qx:=qqh ux;have zi:=qqh eM;have Eb:=qqh (Rd.new w5 167 4 1 [.int .i64 2,.int .i32 0,.slice B m d,.string ⟨#[]⟩] rfl);have sA:=qqh (iO.one HZ.out);clear hr hd mu eS fG ux eM cQ;go_wp2_with (at_builtin;refine aj _ rfl (.tmp 43) (.tmp 49) 79 rfl w.heap.size 167 i0 _ 4 56 Tryz.underlying79 K9 z0 z1 z2 rfl (by decide) _ _ _ rfl Qx.out (w5.heap.size+1) (some ⟨w5.heap.size,0,none⟩) 1 1 [.int .i64 2,.int .i32 0,.slice B m d,.string ⟨#[]⟩] rfl Eb.out sA.out (by simp only [maxLen];omega) (by omega) hsz ?_);intro v' w9 af;have cA:=af.below hsz Qx.out;have Ks:=qqh (AR.out.below cA);have cB:=qqh (fN ig.out cA);have fH:=qqh (zi.out v' w9 af);clear af cA;go_wp2_with fail;go_meet;exact⟨_,cu,j,qg.out,hjn,NK,MI,by simp;omega,rfl,fH.out,Ks.out,cB.out⟩
  have q91:(x == 91)=false:=(by rw [beq_eq_false_iff_ne];exact kU);by_cases lJ:x=36∧kB (pk L (a+1))=true
  ·as_aux_lemma=>
    obtain⟨Kv,PU⟩:=lJ;subst Kv;have hlt:=halt (by decide);have Uh:=qqh (fun(W:World)=>show Calls Tryz.prog 124 #[.int .i32 (pk L (a+1))] W fun e w'=>e=.returned (.bool true)∧w'=W by have:=Aw (pk L (a+1)) W;rwa [PU]at this);have ym:=qqh (show cN L a l cu=(match gU L (a+1)with | .error e=>.error e | .ok (q,j)=>.ok (some ((l++[⟨3,0,[],q⟩],cu),j))) by unfold cN;rw [HX.out,if_neg uQ,if_neg kU,if_pos ⟨rfl,PU⟩];cases gU L (a+1) <;> rfl);go_wp2_with fail;refine(mE _ C A n c L a 1 mh.out.cur (by decide)).mono ?_;rintro e w4 ⟨rfl,mC,hb4⟩;have Gc:=qqh (mh.out.but mC hb4);have bW:=qqh (bN.out.trans hb4);have jm:=qqh (qG.out.but hb4 mh.out.lt);clear mC hb4;go_wp2_with fail;refine(Uh.out _).mono ?_;rintro e w4b ⟨rfl,ND⟩;subst ND;obtain⟨d1,d2,d3,d4⟩:=Gc.out.cur.step hlt;have G8:=qqh (Gc.out.but d3 d4);have eD:=qqh (bW.out.trans d4);have yq:=qqh (jm.out.but d4 Gc.out.lt);clear d3 d4;have Fc:=qqh (Hr _ C A n c L (a+1) G8.out.cur (by omega));cases hs:gU L (a+1)with
    | error e0=>
     obtain⟨y,p⟩:=e0;have eU:=qqh (kX.out (y,p) (by rw [ym.out,hs]));rw [hs]at Fc;clear hs ym;go_wp2_with fail;refine Fc.out.mono ?_;rintro e w6 ⟨he,fG⟩;unfold bA at he;subst he;have iQ:=qqh (eD.out.trans fG);clear fG;go_wp2_with fail;rw [eU.out];exact⟨rfl,rfl,iQ.out⟩
    | ok q=>
     obtain⟨t,j⟩:=q;have qg:=qqh (show cN L a l cu=.ok (some ((l++[⟨3,0,[],t⟩],cu),j)) by rw [ym.out,hs]);rw [hs]at Fc;clear hs ym;go_wp2_with fail;refine Fc.out.mono ?_;rintro e w6 ⟨rfl,CE,fG⟩;have AR:=qqh (G8.out.but CE fG);have iQ:=qqh (eD.out.trans fG);have AD:=qqh (yq.out.but fG G8.out.lt);have hjn:=CE.le;have iV:=(Below.refl w6.heap.size w6).alloc qql (.cells #[.int .i64 3,.int .i32 0,.slice none 0 0,.string t] 167)
     have HZ:=qqh (show iO (w6.alloc (.cells #[.int .i64 3,.int .i32 0,.slice none 0 0,.string t] 167)) (xA w.heap.size C (.slice Av l.length cv)) ⟨3,0,[],t⟩ [.int .i64 3,.int .i32 0,.slice none 0 0,.string t] from
       ⟨none,0,0,rfl,⟨rfl,fun h=>absurd h (by omega)⟩,qql,Nat.zero_le _⟩)
     have jb:=qqh (AD.out.below iV);have hw6:=iQ.out.1;have ig:=qqh (iQ.out.trans (bQ.below (w:=w6) C iV));have U0:=qqh (AR.out.below (iV.mono hw6));have hsz:=ig.out.1;obtain⟨ys,ux,eM⟩:=jb.out.push ⟨3,0,[],t⟩ HZ.out rfl;have Qx:=qqh ux;have zi:=qqh eM;have Eb:=qqh (Rd.new w6 167 4 1 [.int .i64 3,.int .i32 0,.slice none 0 0,.string t] rfl);have sA:=qqh (iO.one HZ.out);clear CE fG iV ux eM Fc;go_wp2_with (at_builtin;refine aj _ rfl (.tmp 70) (.tmp 74) 79 rfl w.heap.size 167 i0 _ 4 56 Tryz.underlying79 K9 z0 z1 z2 rfl (by decide) _ _ _ rfl Qx.out (w6.heap.size+1) (some ⟨w6.heap.size,0,none⟩) 1 1 [.int .i64 3,.int .i32 0,.slice none 0 0,.string t] rfl Eb.out sA.out (by simp only [maxLen];omega) (by omega) hsz ?_);intro v' w9 af;have cA:=af.below hsz Qx.out;have Ks:=qqh (U0.out.below cA);have cB:=qqh (fN ig.out cA);have fH:=qqh (zi.out v' w9 af);clear af cA;go_wp2_with fail;go_meet;exact⟨_,cu,j,qg.out,hjn,NK,MI,by simp;omega,rfl,fH.out,Ks.out,cB.out⟩
  by_cases yV:x=39
  ·as_aux_lemma=>
    subst yV;have hlt:=halt (by decide);have HQ:=qqh (I0 w3 C A n c L a mh.out.cur hlt hn);have ym:=qqh (show cN L a l cu=(match gH L a with | .error e=>.error e | .ok (q,j)=>.ok (some ((l++q,cu),j))) by unfold cN;rw [HX.out,if_neg uQ,if_neg kU,if_neg lJ,if_pos rfl];cases gH L a <;> rfl);go_wp2_with fail;refine HQ.out.mono ?_;rintro e w5 (⟨hq,⟨B,m,d,rfl,hr,hd,hm⟩,mu,eS⟩ | ⟨hq,he,eS⟩)
    ·have qg:=qqh (show cN L a l cu=.ok (some ((l++(aT L (a+1) (aF lK L (a+1))).map mQ,cu),aF lK L (a+1)+1)) by rw [ym.out];unfold gH;rw [if_pos hq]);generalize aF lK L (a+1)=r at *;generalize aT L (a+1) r=rs at *;have hrs:rs.length=m:=by
      have h1:=hr.1;have h2:∀ l:List Int,(iD l).length=l.length*4:=by
       intro l;induction l with
       | nil=>rfl
       | cons y l ih=>show([_,_,_,_]++iD l).length=_;rw [List.length_append,ih];simp;omega
      rw [h2]at h1;omega
     have G8:=qqh (mh.out.but mu eS);have eD:=qqh (bN.out.trans eS);have yq:=qqh (qG.out.but eS mh.out.lt);have hjn:=mu.le;have hsz:=eD.out.1;obtain⟨ys,ux,eM⟩:=yq.out.VB rs;rw [hrs]at eM;have Qx:=qqh ux;have zi:=qqh eM;have nP:=qqh hr.of;have sA:=qqh (show ∀ u∈iD rs,u.oneCell'=true by
      intro u hu;unfold iD at hu;obtain⟨y,_,hy⟩:=List.mem_flatMap.1 hu;exact QY y u hy)
     clear hr hd mu eS ux eM HQ ym;go_wp2_with (at_builtin;refine aj _ rfl (.tmp 79) (.tmp 81) 79 rfl w.heap.size 167 i0 _ 4 56 Tryz.underlying79 K9 z0 z1 z2 rfl (by decide) _ _ _ rfl Qx.out w5.heap.size B m d (iD rs) rfl nP.out sA.out (by simp only [maxLen];omega) (by omega) hsz ?_);intro v' w9 af;have cA:=af.below hsz Qx.out;have Ks:=qqh (G8.out.below cA);have cB:=qqh (fN eD.out cA);have fH:=qqh (zi.out v' w9 af);clear af cA;go_wp2_with fail;go_meet;exact⟨_,cu,r+1,qg.out,hjn,NK,MI,by simp;omega,rfl,fH.out,Ks.out,cB.out⟩
    unfold bA at he;subst he;have eU:=qqh (kX.out (2,aF lK L (a+1)) (by rw [ym.out];unfold gH;rw [if_neg hq]));have eD:=qqh (bN.out.trans eS);clear eS;go_wp2_with fail;rw [eU.out];exact⟨rfl,rfl,eD.out⟩
  have q39:(x == 39)=false:=(by rw [beq_eq_false_iff_ne];exact yV);by_cases yb:x=92∨dG x=true
  ·have ym:=qqh (show cN L a l cu=(match dz L a with | .error e=>.error e | .ok (y,j)=>if bL y=true then .ok (some ((l++[mQ y],cu),j))else .error (3,a)) by unfold cN;rw [HX.out,if_neg uQ,if_neg kU,if_neg lJ,if_neg yV,if_pos yb];cases dz L a <;> rfl);have Jj:=qqh (fun(W:World) (h:aB W C A n c L a)=>CK W C A n c L a h HL.out);by_cases SD:x=92
   ·as_aux_lemma=>
    subst SD;have AR:=mh;have iQ:=bN;have AD:=qG;cases hs:dz L a with
    | error e0=>
     obtain⟨y,p⟩:=e0;have eU:=qqh (kX.out (y,p) (by rw [ym.out,hs]));rw [hs]at Jj;clear hs ym;go_wp2_with fail;refine(Jj.out _ AR.out.cur).mono ?_;rintro e w7 ⟨he,iV⟩;unfold bA at he;subst he;have iF:=qqh (iQ.out.trans iV);clear iV;go_wp2_with fail;rw [eU.out];exact⟨rfl,rfl,iF.out⟩
    | ok q=>
     obtain⟨y,j⟩:=q;rw [hs]at Jj;have x7:=qqh (show cN L a l cu=if bL y=true then .ok (some ((l++[mQ y],cu),j))else .error (3,a) by rw [ym.out,hs]);clear hs ym;go_wp2_with fail;refine(Jj.out _ AR.out.cur).mono ?_;rintro e w7 ⟨rfl,rz,iV⟩;have U0:=qqh (AR.out.but rz iV);have iF:=qqh (iQ.out.trans iV);have jb:=qqh (AD.out.but iV AR.out.lt);have hjn:=rz.le;clear rz iV;cases hr:bL y with
     | false=>
      have eU:=qqh (kX.out (3,a) (by rw [x7.out,hr];rfl));have yK:=qqh (fun(W:World)=>show Calls Tryz.prog 45 #[.int .i32 y] W fun e w'=>e=.returned (.bool false)∧W=w' by have:=fh y W;rwa [hr]at this);clear hr;go_wp2_with fail;refine(yK.out _).mono ?_;rintro e w8 ⟨rfl,N6⟩;subst N6;go_wp2_with fail;refine(cE 3 a _).mono ?_;rintro e w9 ⟨rfl,rfl⟩;go_wp2_with fail;rw [eU.out];exact⟨rfl,rfl,iF.out⟩
     | true=>
      have qg:=qqh (show cN L a l cu=.ok (some ((l++[mQ y],cu),j)) by rw [x7.out,hr];rfl);have yK:=qqh (fun(W:World)=>show Calls Tryz.prog 45 #[.int .i32 y] W fun e w'=>e=.returned (.bool true)∧W=w' by have:=fh y W;rwa [hr]at this);clear hr;have iG:=(Below.refl w7.heap.size w7).alloc qql (.cells #[.int .i64 1,.int .i32 y,.slice none 0 0,.string ⟨#[]⟩] 167);have HZ:=qqh (BH (w7.alloc (.cells #[.int .i64 1,.int .i32 y,.slice none 0 0,.string ⟨#[]⟩] 167)) (xA w.heap.size C (.slice Av l.length cv)) y);have Jp:=qqh (jb.out.below iG);have hw7:=iF.out.1;have ig:=qqh (iF.out.trans (bQ.below (w:=w7) C iG));have HJ8:=qqh (U0.out.below (iG.mono hw7));have hsz:=ig.out.1;obtain⟨ys,gL,eM⟩:=Jp.out.push (mQ y) HZ.out rfl;have yC:=qqh gL;have zi:=qqh eM;have Eb:=qqh (Rd.new w7 167 4 1 [.int .i64 1,.int .i32 y,.slice none 0 0,.string ⟨#[]⟩] rfl);have sA:=qqh (iO.one HZ.out);clear iG gL eM Jj;go_wp2_with fail;refine(yK.out _).mono ?_;rintro e w8 ⟨rfl,N6⟩;subst N6;go_wp2_with (at_builtin;refine aj _ rfl (.tmp 99) (.tmp 102) 79 rfl w.heap.size 167 i0 _ 4 56 Tryz.underlying79 K9 z0 z1 z2 rfl (by decide) _ _ _ rfl yC.out (w7.heap.size+1) (some ⟨w7.heap.size,0,none⟩) 1 1 [.int .i64 1,.int .i32 y,.slice none 0 0,.string ⟨#[]⟩] rfl Eb.out sA.out (by simp only [maxLen];omega) (by omega) hsz ?_);intro v' w9 af;have cA:=af.below hsz yC.out;have Ks:=qqh (HJ8.out.below cA);have cB:=qqh (fN ig.out cA);have fH:=qqh (zi.out v' w9 af);clear af cA;go_wp2_with fail;go_meet;exact⟨_,cu,j,qg.out,hjn,NK,MI,by simp;omega,rfl,fH.out,Ks.out,cB.out⟩
   as_aux_lemma=>
   have q92:(x == 92)=false:=(by rw [beq_eq_false_iff_ne];exact SD);have DB:dG x=true:=yb.resolve_left SD;have Kv:x≠36:=(by rintro rfl;exact absurd DB (by decide));have ZN:(x == 36)=false:=(by rw [beq_eq_false_iff_ne];exact Kv);have j6:=qqh (fun(W:World)=>show Calls Tryz.prog 118 #[.int .i32 x] W fun e w'=>e=.returned (.bool true)∧Below W.heap.size W w' by
    have:=oS (pk L a) W (HL.out.pk a);rwa [HX.out,DB]at this)
   go_wp2_with fail;refine(j6.out _).mono ?_;rintro e w6 ⟨rfl,fG⟩;have AR:=qqh (mh.out.but (mh.out.cur.below fG) (bQ.below C fG));have iQ:=qqh (bN.out.trans (bQ.below C fG));have AD:=qqh (qG.out.below fG);clear fG DB;cases hs:dz L a with
   | error e0=>
    obtain⟨y,p⟩:=e0;have eU:=qqh (kX.out (y,p) (by rw [ym.out,hs]));rw [hs]at Jj;clear hs ym;go_wp2_with fail;refine(Jj.out _ AR.out.cur).mono ?_;rintro e w7 ⟨he,iV⟩;unfold bA at he;subst he;have iF:=qqh (iQ.out.trans iV);clear iV;go_wp2_with fail;rw [eU.out];exact⟨rfl,rfl,iF.out⟩
   | ok q=>
    obtain⟨y,j⟩:=q;rw [hs]at Jj;have x7:=qqh (show cN L a l cu=if bL y=true then .ok (some ((l++[mQ y],cu),j))else .error (3,a) by rw [ym.out,hs]);clear hs ym;go_wp2_with fail;refine(Jj.out _ AR.out.cur).mono ?_;rintro e w7 ⟨rfl,rz,iV⟩;have U0:=qqh (AR.out.but rz iV);have iF:=qqh (iQ.out.trans iV);have jb:=qqh (AD.out.but iV AR.out.lt);have hjn:=rz.le;clear rz iV;cases hr:bL y with
    | false=>
     have eU:=qqh (kX.out (3,a) (by rw [x7.out,hr];rfl));have yK:=qqh (fun(W:World)=>show Calls Tryz.prog 45 #[.int .i32 y] W fun e w'=>e=.returned (.bool false)∧W=w' by have:=fh y W;rwa [hr]at this);clear hr;go_wp2_with fail;refine(yK.out _).mono ?_;rintro e w8 ⟨rfl,N6⟩;subst N6;go_wp2_with fail;refine(cE 3 a _).mono ?_;rintro e w9 ⟨rfl,rfl⟩;go_wp2_with fail;rw [eU.out];exact⟨rfl,rfl,iF.out⟩
    | true=>
     have qg:=qqh (show cN L a l cu=.ok (some ((l++[mQ y],cu),j)) by rw [x7.out,hr];rfl);have yK:=qqh (fun(W:World)=>show Calls Tryz.prog 45 #[.int .i32 y] W fun e w'=>e=.returned (.bool true)∧W=w' by have:=fh y W;rwa [hr]at this);clear hr;have iG:=(Below.refl w7.heap.size w7).alloc qql (.cells #[.int .i64 1,.int .i32 y,.slice none 0 0,.string ⟨#[]⟩] 167);have HZ:=qqh (BH (w7.alloc (.cells #[.int .i64 1,.int .i32 y,.slice none 0 0,.string ⟨#[]⟩] 167)) (xA w.heap.size C (.slice Av l.length cv)) y);have Jp:=qqh (jb.out.below iG);have hw7:=iF.out.1;have ig:=qqh (iF.out.trans (bQ.below (w:=w7) C iG));have HJ8:=qqh (U0.out.below (iG.mono hw7));have hsz:=ig.out.1;obtain⟨ys,gL,eM⟩:=Jp.out.push (mQ y) HZ.out rfl;have yC:=qqh gL;have zi:=qqh eM;have Eb:=qqh (Rd.new w7 167 4 1 [.int .i64 1,.int .i32 y,.slice none 0 0,.string ⟨#[]⟩] rfl);have sA:=qqh (iO.one HZ.out);clear iG gL eM Jj;go_wp2_with fail;refine(yK.out _).mono ?_;rintro e w8 ⟨rfl,N6⟩;subst N6;go_wp2_with (at_builtin;refine aj _ rfl (.tmp 99) (.tmp 102) 79 rfl w.heap.size 167 i0 _ 4 56 Tryz.underlying79 K9 z0 z1 z2 rfl (by decide) _ _ _ rfl yC.out (w7.heap.size+1) (some ⟨w7.heap.size,0,none⟩) 1 1 [.int .i64 1,.int .i32 y,.slice none 0 0,.string ⟨#[]⟩] rfl Eb.out sA.out (by simp only [maxLen];omega) (by omega) hsz ?_);intro v' w9 af;have cA:=af.below hsz yC.out;have Ks:=qqh (HJ8.out.below cA);have cB:=qqh (fN ig.out cA);have fH:=qqh (zi.out v' w9 af);clear af cA;go_wp2_with fail;go_meet;exact⟨_,cu,j,qg.out,hjn,NK,MI,by simp;omega,rfl,fH.out,Ks.out,cB.out⟩
  as_aux_lemma=>
   have eU:=qqh (EF.out (by unfold cN;rw [HX.out,if_neg uQ,if_neg kU,if_neg lJ,if_neg yV,if_neg yb]));have q92:(x == 92)=false:=(by rw [beq_eq_false_iff_ne];exact fun h=>yb (.inl h));have j6:=qqh (fun(W:World)=>show Calls Tryz.prog 118 #[.int .i32 x] W fun e w'=>e=.returned (.bool false)∧Below W.heap.size W w' by
    have:=oS (pk L a) W (HL.out.pk a);rwa [HX.out,show dG x=false from by rw [Bool.eq_false_iff];exact fun h=>yb (.inr h)]at this)
   by_cases Kv:x=36
   ·subst Kv;have PU:kB (pk L (a+1))=false:=(by rw [Bool.eq_false_iff];exact fun h=>lJ ⟨rfl,h⟩);have Uh:=qqh (fun(W:World)=>show Calls Tryz.prog 124 #[.int .i32 (pk L (a+1))] W fun e w'=>e=.returned (.bool false)∧w'=W by have:=Aw (pk L (a+1)) W;rwa [PU]at this);go_wp2_with fail;refine(mE _ C A n c L a 1 mh.out.cur (by decide)).mono ?_;rintro e w4 ⟨rfl,mC,hb4⟩;have Gc:=qqh (mh.out.but mC hb4);have bW:=qqh (bN.out.trans hb4);have jm:=qqh (qG.out.but hb4 mh.out.lt);clear mC hb4;go_wp2_with fail;refine(Uh.out _).mono ?_;rintro e w5 ⟨rfl,ND⟩;subst ND;go_wp2_with fail;refine(j6.out _).mono ?_;rintro e w6 ⟨rfl,fG⟩;have AR:=qqh (Gc.out.but (Gc.out.cur.below fG) (bQ.below C fG));have iQ:=qqh (bW.out.trans (bQ.below C fG));have AD:=qqh (jm.out.below fG);clear fG;go_wp2_with fail;go_ret2;rw [eU.out];exact⟨⟨_,rfl,AD.out,SK⟩,AR.out.cur,iQ.out⟩
   have ZN:(x == 36)=false:=(by rw [beq_eq_false_iff_ne];exact Kv);go_wp2_with fail;refine(j6.out _).mono ?_;rintro e w6 ⟨rfl,fG⟩;have AR:=qqh (mh.out.but (mh.out.cur.below fG) (bQ.below C fG));have iQ:=qqh (bN.out.trans (bQ.below C fG));have AD:=qqh (qG.out.below fG);clear fG;go_wp2_with fail;go_ret2;rw [eU.out];exact⟨⟨_,rfl,AD.out,SK⟩,AR.out.cur,iQ.out⟩
 obtain⟨o,c',j,hel,hjn,hc0,hc1,hol,rfl,ho,uq,B8⟩:=hcut;have hst:=dh.out.trans (CU (by rw [HA.out];exact hel));rw [HA.out]at hst;have haj:=(wA HL.out.ok hel).1;obtain⟨Ao,co,rfl,_⟩:=ho.form;have Zv:=qqh ho;have HJJ:=qqh uq;have N8:=qqh B8;clear hel ho uq B8 k1;by_cases h20:20<o.length
 ·rw [if_pos h20]at hst;have cQ:=qqh hst;have hg:decide ((20:Int)<(o.length:Int))=true:=decide_eq_true (by omega);generalize o.length=ol at *;clear hst;go_wp2_with fail;refine(cE 5 a _).mono ?_;rintro e w5 ⟨rfl,rfl⟩;go_wp2_with fail;rw [cQ.out];exact⟨rfl,rfl,N8.out⟩
 rw [if_neg h20]at hst;have cQ:=qqh hst;have hg:decide ((20:Int)<(o.length:Int))=false:=decide_eq_false (by omega);have pS:=qqh (jO _ C A n c L j HJJ.out.cur);have Ol:=qqh (dP L j);clear hst;go_wp2_with fail;refine pS.out.mono ?_;rintro e w5 ⟨rfl,mu,eS⟩;have G8:=qqh (HJJ.out.but mu eS);have eD:=qqh (N8.out.trans eS);have yq:=qqh (Zv.out.but eS HJJ.out.lt);clear mu eS;go_wp2_with fail;refine⟨⟨f,j,o,c',hjn,by omega,cQ.out,by omega,hc0,hc1,rfl,yq.out,G8.out,eD.out⟩,?_⟩;have e1:w5.cell? ⟨C,1,none⟩=some (.int .i64 ((aD L j:Nat):Int)):=G8.out.cur.blk.cell 1;have e2:=nc.out;have hle:=G8.out.cur.le;have hge:=Ol.out;rw [e1,e2];simp only [Int.toNat_natCast,List.getElem?_toArray,List.getElem?_cons_succ,List.getElem?_cons_zero];omega
def dy (w:World) (X:Nat→Prop) (u:Value) (l:List aI):Prop:=∃ A n c,u=.slice A n c∧bS (iO w X) w X 4 A n l∧n≤c∧n≤100
theorem dy.keep {w w':World} {X X':Nat→Prop} (hk:aa w X w' X') {u:Value} {l:List aI} (h:dy w X u l):dy w' X' u l:=by
 obtain⟨A,n,c,e,h1,h2⟩:=h;exact⟨A,n,c,e,h1.keep hk (iO.keep hk),h2⟩
theorem dy.nil (w:World) (X:Nat→Prop):dy w X (.slice none 0 0) []:=⟨none,0,0,rfl,⟨[],rfl,rfl,by simp,by simp,⟨by simp,fun h=>absurd h (Nat.lt_irrefl 0)⟩⟩,qql,Nat.zero_le _⟩
theorem dy.of {w:World} {lo VL C:Nat} {v:Value} {l:List aI} (h:gY lo C w v l) (hn:l.length≤20) (hlo:VL≤lo) (hC:C<lo):dy w (fun b=>VL≤b∧b≠C) v l:=by
 obtain⟨A,c,rfl,hc⟩:=h.form;have hh:=h;obtain⟨css,g1,g2,g3,g4⟩:=hh;refine⟨A,_,c,rfl,dD.done h (iO.keep (aa.refl (fun b hb=>⟨Nat.le_trans hlo hb.1,hb.2.1⟩))) (fun b hb=>?_),hc,by omega⟩;have:=(bt g4 hb).1;exact⟨by omega,by omega⟩
theorem dy.form {w:World} {X:Nat→Prop} {u:Value} {l:List aI} (h:dy w X u l):∃ A n c,u=.slice A n c∧l.length=n:=by
 obtain⟨A,n,c,e,h1,_⟩:=h;exact⟨A,n,c,e,h1.len⟩
structure wU (w:World) (C:Nat) (A:Option Addr) (n c:Nat) (L:List Int) (wr:World) (j:Nat) (cs:Array Value):Prop where
  cur:iY w.heap.size wr C A n c L j
  but:bQ w C wr
  box:an wr (w.heap.size+1) 81 cs
  res:an wr w.heap.size 81 #[.bool false,.bool false,.slice none 0 0,.slice none 0 0,.slice none 0 0,.int .i64 0]
section
variable {w wr w' : World} {C : Nat} {A : Option Addr} {n c : Nat} {L : List Int} {j j' : Nat} {cs : Array Value}
theorem wU.step (h:wU w C A n c L wr j cs) (hc:aB w' C A n c L j') (hb:bQ wr C w'):wU w C A n c L w' j' cs:=by
 have hC:=h.cur.lt;exact⟨h.cur.but hc hb,h.but.trans hb,(hb.2.2.2.2 _ h.box.lt (by omega)).trans h.box,(hb.2.2.2.2 _ h.res.lt (by omega)).trans h.res⟩
theorem wU.put (h:wU w C A n c L wr j cs) (k:Nat) (u:Value):wU w C A n c L (wr.setCell ⟨w.heap.size+1,k,none⟩ u) j (cs.setIfInBounds k u):=by
 have hb:=(bQ.set wr (w.heap.size+1) k u);have aX:=hb.to (B:=w.heap.size) h.but.1 (Nat.le_succ _);exact⟨h.cur.below aX,fN h.but aX,h.box.put k u,(hb.2.2.2.2 _ h.res.lt (by omega)).trans h.res⟩
theorem dy.step {u:Value} {l:List aI} {lo:Nat} (h:dy wr (fun b=>lo≤b∧b≠C) u l) (hb:bQ wr C w'):dy w' (fun b=>lo≤b∧b≠C) u l:=h.keep (hb.keeps (fun _ h=>h.2) (fun _ h _=>h))
theorem dy.put {u x:Value} {l:List aI} {lo k:Nat} (h:dy wr (fun b=>lo+2≤b∧b≠C) u l):dy (wr.setCell ⟨lo+1,k,none⟩ x) (fun b=>lo+2≤b∧b≠C) u l :=
  h.keep (aa.setCell x (fun b hb=>by have:=hb.1;show b≠lo+1;omega) (fun _ h _=>h))
end
def R7 (w:World) (C:Nat) (A:Option Addr) (n c:Nat) (L:List Int) (r:kG cG) (e:Ending) (w':World):Prop :=
  match r with
  | .ok (d,j)=>(∃ u1 u2 u3,e=.returned (.agg #[.bool d.start,.bool d.fin,u1,u2,u3,.int .i64 d.ai])∧dy w' (fun b=>w.heap.size+2≤b∧b≠C) u1 d.before∧dy w' (fun b=>w.heap.size+2≤b∧b≠C) u2 d.source∧dy w' (fun b=>w.heap.size+2≤b∧b≠C) u3 d.after)∧aB w' C A n c L j∧bQ w C w'
  | .error (x,p)=>e=bA x p∧bQ w C w'
theorem qK {L:List Int} {j:Nat} {l:List aI} {cu:Int}:∀ (f:Nat) (i:Nat) (out:List aI) (cur:Int),out.length≤20 → -1≤cur→cur≤20→de L f i out cur=.ok ((l,cu),j) → -1≤cu∧cu≤20:=by
 intro f;induction f with
 | zero=>intro i out cur _ _ _ h;rw [de]at h;cases h
 | succ f ih=>
  intro i out cur hn h1 h2 h;rw [de]at h;cases he:cN L (aD L i) out cur with
  | error e=>rw [he]at h;cases h
  | ok q=>
   rw [he]at h;cases q with
   | none=>simp only at h;injection h with h;injection h with h h3;injection h with h4 h5;omega
   | some q=>
    obtain⟨⟨o,c⟩,k⟩:=q;simp only at h;by_cases h20:20<o.length
    ·rw [if_pos h20]at h;cases h
    rw [if_neg h20]at h;refine ih k o c (by omega) ?_ ?_ h <;>
    ·unfold cN at he;(repeat' (split at he));(all_goals first | (cases he;done) | (injection he with he;cases he;done) | (injection he with he;injection he with he;injection he with h3 h4;injection h3 with h5 h6;omega))
theorem zc {L:List Int} {i a0 a1:Nat} {e:Int × Nat} (h0:aD L i=a0) (h1:a1=if pk L a0=94 then a0+1 else a0) (h:eo L (decide (pk L a0=94)) a1=.error e):ei L i=.error e:=by unfold ei;rw [h0,← h1,h]
theorem yI {L:List Int} {i a0 a1 j:Nat} {b s:List aI} {c:Int} {e:Int × Nat} (h0:aD L i=a0) (h1:a1=if pk L a0=94 then a0+1 else a0) (h:eo L (decide (pk L a0=94)) a1=.ok ((b,s,c),j)) (ht:eK L j=.error e):ei L i=.error e:=by unfold ei;rw [h0,← h1,h];simp only;rw [ht]
theorem Fk {L:List Int} {i a0 a1 j k:Nat} {b s a:List aI} {c:Int} {fin:Bool} (h0:aD L i=a0) (h1:a1=if pk L a0=94 then a0+1 else a0) (h:eo L (decide (pk L a0=94)) a1=.ok ((b,s,c),j)) (ht:eK L j=.ok ((a,fin),k)):ei L i=.ok (⟨decide (pk L a0=94),fin,b,s,a,c⟩,aD L k):=by unfold ei;rw [h0,← h1,h];simp only;rw [ht]
theorem Kz {L:List Int} {st:Bool} {a j:Nat} {l:List aI} {c:Int} (h:cS L a=.ok ((l,c),j)) (h1:pk L j=123) (h2:0≤c):eo L st a=.error (8,a):=by unfold eo;rw [h];simp only;rw [if_pos h1,if_pos h2]
theorem Gw {L:List Int} {st:Bool} {a j:Nat} {l:List aI} {c:Int} {e:Int × Nat} (h:cS L a=.ok ((l,c),j)) (h1:pk L j=123) (h2:¬ 0≤c) (h3:cS L (j+1)=.error e):eo L st a=.error e:=by unfold eo;rw [h];simp only;rw [if_pos h1,if_neg h2,h3]
theorem Lz {L:List Int} {st:Bool} {a j k:Nat} {l l2:List aI} {c c2:Int} (h:cS L a=.ok ((l,c),j)) (h1:pk L j=123) (h2:¬ 0≤c) (h3:cS L (j+1)=.ok ((l2,c2),k)):eo L st a=.ok ((l,l2,c2),k):=by unfold eo;rw [h];simp only;rw [if_pos h1,if_neg h2,h3]
theorem KG {L:List Int} {a j:Nat} {l:List aI} {c:Int} (h:cS L a=.ok ((l,c),j)) (h1:pk L j≠123):eo L true a=.error (2,j):=by unfold eo;rw [h];simp only;rw [if_neg h1];rfl
theorem LI {L:List Int} {a j:Nat} {l:List aI} {c:Int} (h:cS L a=.ok ((l,c),j)) (h1:pk L j≠123):eo L false a=.ok (([],l,c),j):=by unfold eo;rw [h];simp only;rw [if_neg h1];rfl
theorem FO {L:List Int} {j:Nat} {e:Int × Nat} (h1:pk L j=125) (h:cS L (j+1)=.error e):eK L j=.error e:=by unfold eK;rw [if_pos h1,h]
theorem Iv {L:List Int} {j k:Nat} {l:List aI} {c:Int} (h1:pk L j=125) (h:cS L (j+1)=.ok ((l,c),k)):eK L j=(if 0≤c then .error (8,j+1)else if pk L k=36 then .ok ((l,true),k+1)else .ok ((l,false),k)):=by unfold eK;rw [if_pos h1,h]
theorem OY {L:List Int} {j:Nat} (h1:pk L j≠125):eK L j=.ok (([],false),j):=by unfold eK;rw [if_neg h1]
theorem M8 (w:World) (C:Nat) (A:Option Addr) (n c:Nat) (L:List Int) (i:Nat) (h:aB w C A n c L i):wU w C A n c L ((w.alloc (.cells #[.bool false,.bool false,.slice none 0 0,.slice none 0 0,.slice none 0 0,.int .i64 0] 81)).alloc (.cells #[.bool false,.bool false,.slice none 0 0,.slice none 0 0,.slice none 0 0,.int .i64 (-1)] 81)) i #[.bool false,.bool false,.slice none 0 0,.slice none 0 0,.slice none 0 0,.int .i64 (-1)]:=by
 have hb:Below w.heap.size w ((w.alloc (.cells #[.bool false,.bool false,.slice none 0 0,.slice none 0 0,.slice none 0 0,.int .i64 0] 81)).alloc (.cells #[.bool false,.bool false,.slice none 0 0,.slice none 0 0,.slice none 0 0,.int .i64 (-1)] 81)):=(qqb.alloc qql _).alloc (by simp) _;refine⟨(iY.start h).below hb,bQ.below C hb,?_,(an.new w _ _).alloc _⟩;have:=an.new (w.alloc (.cells #[.bool false,.bool false,.slice none 0 0,.slice none 0 0,.slice none 0 0,.int .i64 0] 81)) 81 #[.bool false,.bool false,.slice none 0 0,.slice none 0 0,.slice none 0 0,.int .i64 (-1)];simpa using this
theorem Ph {w wr:World} {C:Nat} {A:Option Addr} {n c:Nat} {L:List Int} {j:Nat} {cs:Array Value} (h:wU w C A n c L wr j cs) (v0 v1 v2 v3 v4 v5:Value) :
    aB ((((((wr.setCell ⟨w.heap.size,0,none⟩ v0).setCell ⟨w.heap.size,1,none⟩ v1).setCell ⟨w.heap.size,2,none⟩ v2).setCell ⟨w.heap.size,3,none⟩ v3).setCell ⟨w.heap.size,4,none⟩ v4).setCell ⟨w.heap.size,5,none⟩ v5) C A n c L j ∧
    bQ w C ((((((wr.setCell ⟨w.heap.size,0,none⟩ v0).setCell ⟨w.heap.size,1,none⟩ v1).setCell ⟨w.heap.size,2,none⟩ v2).setCell ⟨w.heap.size,3,none⟩ v3).setCell ⟨w.heap.size,4,none⟩ v4).setCell ⟨w.heap.size,5,none⟩ v5) ∧
    an ((((((wr.setCell ⟨w.heap.size,0,none⟩ v0).setCell ⟨w.heap.size,1,none⟩ v1).setCell ⟨w.heap.size,2,none⟩ v2).setCell ⟨w.heap.size,3,none⟩ v3).setCell ⟨w.heap.size,4,none⟩ v4).setCell ⟨w.heap.size,5,none⟩ v5) w.heap.size 81 #[v0,v1,v2,v3,v4,v5] ∧
    aa wr (fun b=>w.heap.size+2≤b∧b≠C) ((((((wr.setCell ⟨w.heap.size,0,none⟩ v0).setCell ⟨w.heap.size,1,none⟩ v1).setCell ⟨w.heap.size,2,none⟩ v2).setCell ⟨w.heap.size,3,none⟩ v3).setCell ⟨w.heap.size,4,none⟩ v4).setCell ⟨w.heap.size,5,none⟩ v5) (fun b=>w.heap.size+2≤b∧b≠C):=by
 have hz:=h.but.1;have one:∀ (W:World) (k:Nat) (v:Value),Below w.heap.size wr W→w.heap.size≤W.heap.size→Below w.heap.size wr (W.setCell ⟨w.heap.size,k,none⟩ v):=fun W k v hb hs=>hb.trans ((bQ.set W w.heap.size k v).to hs qql);have kp:∀ (W:World) (k:Nat) (v:Value),aa W (fun b=>w.heap.size+2≤b∧b≠C) (W.setCell ⟨w.heap.size,k,none⟩ v) (fun b=>w.heap.size+2≤b∧b≠C):=fun W k v=>aa.setCell v (fun b hb=>by have:=hb.1;show b≠w.heap.size;omega) (fun _ h _=>h);have b0:=one wr 0 v0 qqb hz;have b1:=one _ 1 v1 b0 (by simpa using hz);have b2:=one _ 2 v2 b1 (by simpa using hz);have b3:=one _ 3 v3 b2 (by simpa using hz);have b4:=one _ 4 v4 b3 (by simpa using hz);have b5:=one _ 5 v5 b4 (by simpa using hz);have r0:=h.res.put 0 v0;have r1:=r0.put 1 v1;have r2:=r1.put 2 v2;have r3:=r2.put 3 v3;have r4:=r3.put 4 v4;have r5:=r4.put 5 v5;exact⟨(h.cur.below b5).cur,fN h.but b5,r5,(((((kp _ 0 v0).trans (kp _ 1 v1)).trans (kp _ 2 v2)).trans (kp _ 3 v3)).trans (kp _ 4 v4)).trans (kp _ 5 v5)⟩
theorem Pz (w:World) (C:Nat) (A:Option Addr) (n c:Nat) (L:List Int) (i:Nat) (h:aB w C A n c L i) (hL:ia L) (hn:n≤100000) :
    Calls Tryz.prog 66 #[.pointer (some ⟨C,0,none⟩)] w (R7 w C A n c L (ei L i)):=by
 have hl:=h.len;have HL:=qqh hL;have iP:=qqh (fun(W:World) (m:Nat) (h:aB W C A n c L m)=>dn W C A n c L m h);have Re:=qqh (fun(W:World) (m:Nat) (h:aB W C A n c L m)=>LU W C A n c L m h hL hn);have pS:=qqh (fun(W:World) (m:Nat) (h:aB W C A n c L m)=>jO W C A n c L m h);have hi:=h.le;have lX:=qqh (M8 w C A n c L i h);obtain⟨R,hR⟩:∃ R,ei L i=R:=⟨_,rfl⟩;rw [hR];obtain⟨a0,ha0⟩:∃ a0,aD L i=a0:=⟨_,rfl⟩;have YC:=qqh ha0;have HR:=qqh hR;clear h hL hR ha0;go_enter Tryz.func66,Tryz.ntmps66;go_wp2_with fail;refine(pS.out _ i lX.out.cur.cur).mono ?_;rintro e w1 ⟨rfl,hc1,aP⟩;rw [YC.out]at hc1;have eW:=qqh (lX.out.step hc1 aP);clear hc1 aP;go_upto_if 14 with (go_at_call 35;refine(iP.out _ a0 eW.out.cur.cur).mono ?_;rintro e w2 ⟨rfl,hc2,aX⟩);have eC:=qqh (eW.out.step hc2 aX);clear hc2 aX;go_cut [] (fun wx=>∃ a1:Nat,a1=(if pk L a0=94 then a0+1 else a0)∧wU w C A n c L wx a1 #[.bool (decide (pk L a0=94)),.bool false,.slice none 0 0,.slice none 0 0,.slice none 0 0,.int .i64 (-1)]);case first=>
  by_cases om:pk L a0=94
  ·obtain⟨d1,d2,d3,d4⟩:=eC.out.cur.cur.step (by rw [← hl];exact bO (by omega));have dV:=qqh (eC.out.step d3 d4);have z0:=dV.out.box.frozen 0;have z1:=dV.out.box.cell 0;have iC:=qqh (dV.out.put 0 (.bool true));have Wb:IntKind.i64.wrap ((a0:Int)+1)=(a0:Int)+1:=wrap_small _ (by have:=eC.out.cur.cur.le;omega) (by have:=eC.out.cur.cur.le;omega);have H94:=qqh om;rw [om];clear d3 d4 om;go_wp2_with fail;go_meet;refine⟨a0+1,by rw [if_pos H94.out],?_⟩;rw [show decide (pk L a0=94)=true from decide_eq_true H94.out];exact iC.out
  have q94:(pk L a0 == 94)=false:=(by rw [beq_eq_false_iff_ne];exact om);go_wp2_with fail;go_meet;refine⟨a0,by rw [if_neg om],?_⟩;rw [show decide (pk L a0=94)=false from decide_eq_false om];exact eC.out
 obtain⟨a1,mI,hf⟩:=hcut;have pZ:=qqh mI;have RC:=qqh hf;have ahf:=hf.cur.cur.le;clear mI hf;obtain⟨st,hst⟩:∃ st,decide (pk L a0=94)=st:=⟨_,rfl⟩;have cQ:=qqh hst;rw [hst]at RC;have c1:=RC.out.cur.cur.blk.cell 1;have On:=qqh (fun(e:Int × Nat) (he:eo L st a1=.error e)=>show R=.error e from HR.out.symm.trans (zc YC.out pZ.out (by rw [cQ.out];exact he)));have WQ:=qqh (fun(b s:List aI) (c:Int) (j:Nat) (e:Int × Nat) (he:eo L st a1=.ok ((b,s,c),j)) (ht:eK L j=.error e)=>show R=.error e from HR.out.symm.trans (yI YC.out pZ.out (by rw [cQ.out];exact he) ht));have Fo:=qqh (fun(b s a:List aI) (c:Int) (fin:Bool) (j k:Nat) (he:eo L st a1=.ok ((b,s,c),j)) (ht:eK L j=.ok ((a,fin),k))=>show R=.ok (⟨st,fin,b,s,a,c⟩,aD L k) by have:=HR.out.symm.trans (Fk YC.out pZ.out (by rw [cQ.out];exact he) ht);rwa [cQ.out]at this);clear hst;have Yp:=qqh (Re.out _ a1 RC.out.cur.cur);cases hit:cS L a1 with
 | error e0=>
  obtain⟨y,p⟩:=e0;have eU:=qqh (On.out (y,p) (by unfold eo;rw [hit]));rw [hit]at Yp;clear hit;go_wp2_with fail;refine Yp.out.mono ?_;rintro e w3 ⟨he,bM⟩;unfold bA at he;subst he;have bN:=qqh (RC.out.but.trans bM);clear bM;go_wp2_with fail;rw [eU.out];exact⟨rfl,rfl,bN.out⟩
 | ok q=>
  obtain⟨⟨l,cu⟩,j1⟩:=q;have UY:=qqh hit;have Q6:=qK _ _ _ _ (Nat.zero_le _) (by decide) (by decide) (show de L (L.length+1) a1 [] (-1)=.ok ((l,cu),j1) from hit);rw [hit]at Yp;clear hit;go_wp2_with fail;refine Yp.out.mono ?_;rintro e w3 ⟨⟨v,rfl,hown,h20⟩,lR,bM⟩;have dV:=qqh (RC.out.step lR bM);have Uj:=RC.out.box.lt;have YB:=qqh (dy.of (VL:=w.heap.size+2) hown h20 Uj (by have:=RC.out.cur.lt;omega));obtain⟨Av,nv,cv,rfl,_⟩:=YB.out.form;clear hown lR bM c1;go_upto_if 39 with (go_at_call 35;refine(iP.out _ j1 dV.out.cur.cur).mono ?_;rintro e w4 ⟨rfl,mC,hb4⟩);have iC:=qqh (dV.out.step mC hb4);have Oe:=qqh (YB.out.step hb4);clear mC hb4;have x0:w4.cell? ⟨w.heap.size+1,0,none⟩=some (.bool st):=iC.out.box.cell 0;go_cut [5,6] (fun v5 v6 wx=>∃ (b s:List aI) (cc:Int) (j:Nat) (ub:Value),eo L st a1=.ok ((b,s,cc),j) ∧ -1≤cc∧cc≤20∧v6=.int .i64 cc∧dy wx (fun b=>w.heap.size+2≤b∧b≠C) v5 s∧dy wx (fun b=>w.heap.size+2≤b∧b≠C) ub b∧wU w C A n c L wx j #[.bool st,.bool false,ub,.slice none 0 0,.slice none 0 0,.int .i64 (-1)]);case first=>
   by_cases rF:pk L j1=123
   ·have hlt:j1<n:=(by rw [← hl];exact bO (by omega));have XA:=qqh rF;rw [rF];by_cases hc:0≤cu
    ·have eU:=qqh (On.out (8,a1) (Kz UY.out rF hc));have hg:decide ((0:Int)≤cu)=true:=decide_eq_true hc;clear rF;go_wp2_with fail;refine(cE 8 a1 _).mono ?_;rintro e w5 ⟨rfl,rfl⟩;go_wp2_with fail;rw [eU.out];exact⟨rfl,rfl,iC.out.but⟩
    have hg:decide ((0:Int)≤cu)=false:=decide_eq_false hc;obtain⟨d1,d2,d3,d4⟩:=iC.out.cur.cur.step hlt;have jr:=qqh (iC.out.step d3 d4);have Tp:=qqh (Oe.out.step d4);have Wb:IntKind.i64.wrap ((j1:Int)+1)=(j1:Int)+1:=wrap_small _ (by omega) (by omega);have z2:=jr.out.box.frozen 2;have y2:=jr.out.box.cell 2;have tS:=qqh (jr.out.put 2 (.slice Av nv cv));have VA:=qqh (Tp.out.put (k:=2) (x:=.slice Av nv cv));have YZ:=qqh (Re.out _ (j1+1) tS.out.cur.cur);clear d3 d4 rF x0;cases qx:cS L (j1+1)with
    | error e0=>
     obtain⟨y,p⟩:=e0;have eU:=qqh (On.out (y,p) (Gw UY.out XA.out hc qx));rw [qx]at YZ;clear qx;go_wp2_with fail;refine YZ.out.mono ?_;rintro e w7 ⟨he,iV⟩;unfold bA at he;subst he;have iF:=qqh (tS.out.but.trans iV);clear iV;go_wp2_with fail;rw [eU.out];exact⟨rfl,rfl,iF.out⟩
    | ok q=>
     obtain⟨⟨l2,c2⟩,j2⟩:=q;have KS:=qqh (show eo L st a1=.ok ((l,l2,c2),j2) from Lz UY.out XA.out hc qx);have hc2:=qK _ _ _ _ (Nat.zero_le _) (by decide) (by decide) (show de L (L.length+1) (j1+1) [] (-1)=.ok ((l2,c2),j2) from qx);rw [qx]at YZ;clear qx;go_wp2_with fail;refine YZ.out.mono ?_;rintro e w7 ⟨⟨v7,rfl,QB,h27⟩,rz,iV⟩;have uV:=qqh (tS.out.step rz iV);have HV7:=qqh (VA.out.step iV);have hz6:=tS.out.box.lt;have Yl:=qqh (dy.of (VL:=w.heap.size+2) QB h27 hz6 (by have:=tS.out.cur.lt;have:=tS.out.but.1;omega));obtain⟨A7,n7,c7,rfl,_⟩:=Yl.out.form;clear QB rz iV;go_wp2_with fail;go_meet;exact⟨l,l2,c2,j2,_,KS.out,hc2.1,hc2.2,rfl,Yl.out,HV7.out,uV.out⟩
   have afw:(pk L j1 == 123)=false:=(by rw [beq_eq_false_iff_ne];exact rF);cases st with
   | true=>
    have eU:=qqh (On.out (2,j1) (KG UY.out rF));have y1:=iC.out.cur.cur.blk.cell 1;go_wp2_with fail;refine(cE 2 j1 _).mono ?_;rintro e w5 ⟨rfl,rfl⟩;go_wp2_with fail;rw [eU.out];exact⟨rfl,rfl,iC.out.but⟩
   | false=>
    have KS:=qqh (show eo L false a1=.ok (([],l,cu),j1) from LI UY.out rF);go_wp2_with fail;go_meet;exact⟨[],l,cu,j1,_,KS.out,Q6.1,Q6.2,rfl,Oe.out,dy.nil _ _,iC.out⟩
  obtain⟨b,ss,cc,j,ub,hhd,hc0,hc1,rfl,H7,Ul,hf⟩:=hcut;obtain⟨As,ns,cs,rfl,_⟩:=H7.form;have KU:=qqh hhd;have z3:=hf.box.frozen 3;have z5:=hf.box.frozen 5;have y3:=hf.box.cell 3;have y5:=hf.box.cell 5;have jr:=qqh ((hf.put 3 (.slice As ns cs)).put 5 (.int .i64 cc));have uB:=qqh ((H7.put (k:=3) (x:=.slice As ns cs)).put (k:=5) (x:=.int .i64 cc));have X6:=qqh ((Ul.put (k:=3) (x:=.slice As ns cs)).put (k:=5) (x:=.int .i64 cc));clear H7 Ul hf hhd x0;go_upto_if 76 with (go_at_call 35;refine(iP.out _ j jr.out.cur.cur).mono ?_;rintro e w6 ⟨rfl,CE,fG⟩);have tS:=qqh (jr.out.step CE fG);have Fz:=qqh (uB.out.step fG);have HU6:=qqh (X6.out.step fG);clear CE fG z3 z5 y3 y5;go_cut [] (fun wx=>∃ (a:List aI) (fin:Bool) (k:Nat) (ua:Value),eK L j=.ok ((a,fin),k)∧dy wx (fun b=>w.heap.size+2≤b∧b≠C) ua a∧dy wx (fun b=>w.heap.size+2≤b∧b≠C) (.slice As ns cs) ss∧dy wx (fun b=>w.heap.size+2≤b∧b≠C) ub b∧wU w C A n c L wx k #[.bool st,.bool fin,ub,.slice As ns cs,ua,.int .i64 cc]);case first=>
   by_cases vW:pk L j=125
   ·have hlt:j<n:=(by rw [← hl];exact bO (by omega));have UK:=qqh vW;rw [vW];obtain⟨d1,d2,d3,d4⟩:=tS.out.cur.cur.step hlt;have uV:=qqh (tS.out.step d3 d4);have Oq:=qqh (Fz.out.step d4);have Yl:=qqh (HU6.out.step d4);have Wb:IntKind.i64.wrap ((j:Int)+1)=(j:Int)+1:=wrap_small _ (by omega) (by omega);have Uk:=qqh (Re.out _ (j+1) uV.out.cur.cur);have yc:=uV.out.cur.cur.blk.cell 1;clear d3 d4 vW;cases yD:cS L (j+1)with
    | error e0=>
     obtain⟨y,p⟩:=e0;have eU:=qqh (WQ.out b ss cc j (y,p) KU.out (FO UK.out yD));rw [yD]at Uk;clear yD;go_wp2_with fail;refine Uk.out.mono ?_;rintro e w8 ⟨he,iG⟩;unfold bA at he;subst he;have qZ:=qqh (uV.out.but.trans iG);clear iG;go_wp2_with fail;rw [eU.out];exact⟨rfl,rfl,qZ.out⟩
    | ok q=>
     obtain⟨⟨l3,c3⟩,k⟩:=q;have sK:=qqh (show eK L j=(if 0≤c3 then .error (8,j+1)else if pk L k=36 then .ok ((l3,true),k+1)else .ok ((l3,false),k)) from Iv UK.out yD);rw [yD]at Uk;clear yD;go_wp2_with fail;refine Uk.out.mono ?_;rintro e w8 ⟨⟨v8,rfl,gL,h28⟩,H9,iG⟩;have yd:=qqh (uV.out.step H9 iG);have Ui:=qqh (Oq.out.step iG);have Uo:=qqh (Yl.out.step iG);have UH:=uV.out.box.lt;have HT8:=qqh (dy.of (VL:=w.heap.size+2) gL h28 UH (by have:=uV.out.cur.lt;have:=uV.out.but.1;omega));obtain⟨A8,n8,c8,rfl,_⟩:=HT8.out.form;have z4:=yd.out.box.frozen 4;have y4:=yd.out.box.cell 4;have mB:=qqh (yd.out.put 4 (.slice A8 n8 c8));have X7:=qqh (Ui.out.put (k:=4) (x:=.slice A8 n8 c8));have HU9:=qqh (Uo.out.put (k:=4) (x:=.slice A8 n8 c8));have HT9:=qqh (HT8.out.put (k:=4) (x:=.slice A8 n8 c8));clear gL H9 iG;by_cases hc:0≤c3
     ·have eU:=qqh (WQ.out b ss cc j (8,j+1) KU.out (by rw [sK.out,if_pos hc]));have hg:decide ((0:Int)≤c3)=true:=decide_eq_true hc;have HJ1:=qqh (show((j+1:Nat):Int)=(j:Int)+1 by omega);go_wp2_with fail;refine(cE 8 ((j:Int)+1) _).mono ?_;rintro e w9 ⟨rfl,rfl⟩;go_wp2_with fail;rw [eU.out];exact⟨rfl,rfl,mB.out.but⟩
     have hg:decide ((0:Int)≤c3)=false:=decide_eq_false hc;go_wp2_with fail;refine(iP.out _ k mB.out.cur.cur).mono ?_;rintro e w9 ⟨rfl,ES,cA⟩;have R4:=qqh (mB.out.step ES cA);have UO:=qqh (X7.out.step cA);have VE:=qqh (HU9.out.step cA);have VH:=qqh (HT9.out.step cA);clear ES cA;by_cases lJ:pk L k=36
     ·have ab9:k<n:=(by rw [← hl];exact bO (by omega));have WO:=qqh (show eK L j=.ok ((l3,true),k+1) by rw [sK.out,if_neg (by omega),if_pos lJ]);rw [lJ];obtain⟨d1,d2,d3,d4⟩:=R4.out.cur.cur.step ab9;have JN:=qqh (R4.out.step d3 d4);have Y7:=qqh (UO.out.step d4);have Z7:=qqh (VE.out.step d4);have ZQ:=qqh (VH.out.step d4);have hwk:IntKind.i64.wrap ((k:Int)+1)=(k:Int)+1:=wrap_small _ (by omega) (by omega);have z1:=JN.out.box.frozen 1;have y1:=JN.out.box.cell 1;have aa2:=qqh (JN.out.put 1 (.bool true));have ab7:=qqh (Y7.out.put (k:=1) (x:=.bool true));have Zx:=qqh (Z7.out.put (k:=1) (x:=.bool true));have aaW:=qqh (ZQ.out.put (k:=1) (x:=.bool true));clear d3 d4 lJ z4 y4;go_wp2_with fail;go_meet;exact⟨l3,true,k+1,_,WO.out,aaW.out,ab7.out,Zx.out,aa2.out⟩
     have ZN:(pk L k == 36)=false:=(by rw [beq_eq_false_iff_ne];exact lJ);have WO:=qqh (show eK L j=.ok ((l3,false),k) by rw [sK.out,if_neg (by omega),if_neg lJ]);go_wp2_with fail;go_meet;exact⟨l3,false,k,_,WO.out,VH.out,UO.out,VE.out,R4.out⟩
   have aeI:(pk L j == 125)=false:=(by rw [beq_eq_false_iff_ne];exact vW);have WO:=qqh (show eK L j=.ok (([],false),j) from OY vW);go_wp2_with fail;go_meet;exact⟨[],false,j,_,WO.out,dy.nil _ _,Fz.out,HU6.out,tS.out⟩
  obtain⟨a,fin,k,ua,htl,ZF,H7,Ul,hf⟩:=hcut;obtain⟨Aa,na,ca,rfl,_⟩:=ZF.form;obtain⟨Ab,nb,cb,rfl,_⟩:=Ul.form;have eU:=qqh (Fo.out b ss a cc fin j k KU.out htl);have St:=qqh hf;have WS:=qqh ZF;have Wp:=qqh H7;have V7:=qqh Ul;clear ZF H7 Ul hf htl;go_wp2_with fail;refine(pS.out _ k St.out.cur.cur).mono ?_;rintro e w14 ⟨rfl,Vk,Np⟩;have mG:=St.out.step Vk Np;have ab4:=qqh (WS.out.step Np);have ZE:=qqh (Wp.out.step Np);have Zg:=qqh (V7.out.step Np);have y0:=mG.box.cell 0;have y1:=mG.box.cell 1;have y2:=mG.box.cell 2;have y3:=mG.box.cell 3;have y4:=mG.box.cell 4;have y5:=mG.box.cell 5;have x0:=mG.res.cell 0;have x1:=mG.res.cell 1;have x2:=mG.res.cell 2;have x3:=mG.res.cell 3;have x4:=mG.res.cell 4;have x5:=mG.res.cell 5;have z0:=mG.res.frozen 0;have z1:=mG.res.frozen 1;have z2:=mG.res.frozen 2;have z3:=mG.res.frozen 3;have z4:=mG.res.frozen 4;have z5:=mG.res.frozen 5;obtain⟨e1,e2,e3,e4⟩:=Ph mG (.bool st) (.bool fin) (.slice Ab nb cb) (.slice As ns cs) (.slice Aa na ca) (.int .i64 cc);have x7:=qqh e1;have wu:=qqh e2;have HE3:=qqh e3;have MH:=qqh e4;clear e1 e2 e3 e4 Vk Np mG;go_wp2_with fail;clear x0 x1 x2 x3 x4 x5 y0 y1 y2 y3 y4 y5 z0 z1 z2 z3 z4 z5 St WS Wp V7;generalize ((((((w14.setCell ⟨w.heap.size,0,none⟩ (.bool st)).setCell ⟨w.heap.size,1,none⟩ (.bool fin)).setCell ⟨w.heap.size,2,none⟩ (.slice Ab nb cb)).setCell ⟨w.heap.size,3,none⟩ (.slice As ns cs)).setCell ⟨w.heap.size,4,none⟩ (.slice Aa na ca)).setCell ⟨w.heap.size,5,none⟩ (.int .i64 cc))=W6 at *;have hbk:=HE3.out;have r0:W6.cell? ⟨w.heap.size,0,none⟩=some (.bool st):=hbk.cell 0;have r1:W6.cell? ⟨w.heap.size,1,none⟩=some (.bool fin):=hbk.cell 1;have r2:W6.cell? ⟨w.heap.size,2,none⟩=some (.slice Ab nb cb):=hbk.cell 2
  have r3:W6.cell? ⟨w.heap.size,3,none⟩=some (.slice As ns cs):=hbk.cell 3;have r4:W6.cell? ⟨w.heap.size,4,none⟩=some (.slice Aa na ca):=hbk.cell 4;have r5:W6.cell? ⟨w.heap.size,5,none⟩=some (.int .i64 cc):=hbk.cell 5;clear hbk;refine bodyPost_ret (v:=.agg #[.bool st,.bool fin,.slice Ab nb cb,.slice As ns cs,.slice Aa na ca,.int .i64 cc]) (by simp [results,Tryz.results66,go_sem,r0,r1,r2,r3,r4,r5]) rfl ?_;rw [eU.out];exact⟨⟨_,_,_,rfl,Zg.out.keep MH.out,ZE.out.keep MH.out,ab4.out.keep MH.out⟩,x7.out,wu.out⟩
theorem BJ {w:World} {R F m:Nat} {v:Value} {x p:Int} {tR tF:TypeId} (hR:an w R tR #[v]) (hF:an w F tF #[.int .i64 x,.int .i64 p]) (hne:R≠F) :
    an ((((w.drewN m).setCell ⟨R,0,none⟩ v).setCell ⟨F,0,none⟩ (.int .i64 x)).setCell ⟨F,1,none⟩ (.int .i64 p)) R tR #[v]∧an ((((w.drewN m).setCell ⟨R,0,none⟩ v).setCell ⟨F,0,none⟩ (.int .i64 x)).setCell ⟨F,1,none⟩ (.int .i64 p)) F tF #[.int .i64 x,.int .i64 p] ∧
      ∀ B,B≤R→B≤F→B≤w.heap.size→Below B w ((((w.drewN m).setCell ⟨R,0,none⟩ v).setCell ⟨F,0,none⟩ (.int .i64 x)).setCell ⟨F,1,none⟩ (.int .i64 p)) ∧
        aa w (fun b=>b≠R∧b≠F) ((((w.drewN m).setCell ⟨R,0,none⟩ v).setCell ⟨F,0,none⟩ (.int .i64 x)).setCell ⟨F,1,none⟩ (.int .i64 p)) (fun b=>b≠R∧b≠F):=by
 have h1:an ((w.drewN m).setCell ⟨R,0,none⟩ v) R tR #[v]:=(hR.drewN m).put 0 v;have b1:=bQ.set (w.drewN m) R 0 v;have g1:an ((w.drewN m).setCell ⟨R,0,none⟩ v) F tF #[.int .i64 x,.int .i64 p]:=(b1.2.2.2.2 F (hF.drewN m).lt (Ne.symm hne)).trans (hF.drewN m);have b2:=bQ.set ((w.drewN m).setCell ⟨R,0,none⟩ v) F 0 (.int .i64 x);have g2:an (((w.drewN m).setCell ⟨R,0,none⟩ v).setCell ⟨F,0,none⟩ (.int .i64 x)) F tF #[.int .i64 x,.int .i64 p]:=g1.put 0 _;have h2:an (((w.drewN m).setCell ⟨R,0,none⟩ v).setCell ⟨F,0,none⟩ (.int .i64 x)) R tR #[v]:=(b2.2.2.2.2 R h1.lt hne).trans h1;have b3:=bQ.set (((w.drewN m).setCell ⟨R,0,none⟩ v).setCell ⟨F,0,none⟩ (.int .i64 x)) F 1 (.int .i64 p);refine⟨(b3.2.2.2.2 R h2.lt hne).trans h2,g2.put 1 _,fun B hR hF hw=>⟨?_,?_⟩⟩;exact((below_drewN (Below.refl B w) m).trans (b1.to (show B≤(w.drewN m).heap.size from hw) hR)).trans ((b2.to (Nat.le_trans hw b1.1) hF).trans (b3.to (Nat.le_trans (Nat.le_trans hw b1.1) b2.1) hF));exact(((aa.below (below_drewN (Below.refl _ w) m) (fun b h _=>h)).trans (b1.keeps (X':=fun b=>b≠R∧b≠F) (fun b h=>h.1) (fun b h _=>h))).trans (b2.keeps (X':=fun b=>b≠R∧b≠F) (fun b h=>h.2) (fun b h _=>h))).trans (b3.keeps (fun b h=>h.2) (fun b h _=>h))
def ie {α:Type} (r:kG α):Prop:=∀ e p,r=.error (e,p)→e≠0
theorem iw {L:List Int} {i:Nat} {r:Int} {e:Int} {p:Nat} (h:bw L i r=.error (e,p)):e≠0:=by
 unfold bw at h;split at h
 ·cases h
 injection h with h;injection h with h1 h2;omega
theorem MZ (L:List Int) (i:Nat):ie (kR L i):=by
 intro e p h;unfold kR at h;cases h1:bw L (i+1) 123 with
 | error x=>obtain⟨x1,x2⟩:=x;rw [h1]at h;simp only at h;injection h with h;injection h with h3 h4;subst h3;exact iw h1
 | ok a=>
  rw [h1]at h;simp only at h;split at h
  ·injection h with h;injection h with h1 h2;omega
  cases h2:bw L (aF fD L a) 125 with
  | error x=>obtain⟨x1,x2⟩:=x;rw [h2]at h;simp only at h;injection h with h;injection h with h3 h4;subst h3;exact iw h2
  | ok k=>
   rw [h2]at h;simp only at h;split at h
   ·injection h with h;injection h with h1 h2;omega
   cases h
theorem tO (L:List Int) (i:Nat):ie (dz L i):=by
 intro e p h;unfold dz at h;(repeat' (split at h));(any_goals (cases h;done));(any_goals (injection h with h;injection h with h1 h2;omega));exact MZ _ _ _ _ h
theorem Jo (L:List Int) (i:Nat):ie (jP L i):=by
 intro e p h;unfold jP at h;cases h1:dz L i with
 | error x=>obtain⟨x1,x2⟩:=x;rw [h1]at h;simp only at h;injection h with h;injection h with h3 h4;subst h3;exact tO _ _ _ _ h1
 | ok q=>
  obtain⟨a,j⟩:=q;rw [h1]at h;simp only at h;split at h
  ·cases h2:dz L (j+1)with
   | error x=>obtain⟨x1,x2⟩:=x;rw [h2]at h;simp only at h;injection h with h;injection h with h3 h4;subst h3;exact tO _ _ _ _ h2
   | ok q=>
    obtain⟨b,k⟩:=q;rw [h2]at h;simp only at h;split at h
    ·injection h with h;injection h with h1 h2;omega
    cases h
  cases h
theorem GW (L:List Int) (i:Nat):ie (fy L i):=by
 intro e p h;unfold fy at h;split at h
 ·injection h with h;injection h with h1 h2;omega
 split at h
 ·rename_i h1;cases h;exact iw h1
 split at h
 ·rename_i h1;cases h;exact iw h1
 cases h
theorem Iy {inner:Nat→kG ag} (hi:∀ i,ie (inner i)) (L:List Int) (i:Nat):ie (dJ inner L i):=by
 intro e p h;unfold dJ at h;split at h;exact GW _ _ _ _ h;split at h;exact hi _ _ _ h;split at h;exact hi _ _ _ h;split at h
 ·rename_i h1;cases h;exact Jo _ _ _ _ h1
 cases h
theorem Fq {inner:Nat→kG ag} (hi:∀ i,ie (inner i)) (L:List Int):∀ f i s,ie (ew inner L f i s):=by
 intro f;induction f with
 | zero=>intro i s e p h;unfold ew at h;injection h with h;injection h with h1 h2;omega
 | succ f ih=>
  intro i s e p h;rw [ew]at h;split at h
  ·cases h
  split at h
  ·rename_i h1;cases h;exact Iy hi _ _ _ _ h1
  split at h
  ·rename_i h1;injection h with h;injection h with h2 h3;subst h2;exact h1
  exact ih _ _ _ _ h
theorem wg (L:List Int):∀ n i,ie (bT L n i):=by
 intro n;induction n with
 | zero=>intro i e p h;unfold bT at h;injection h with h;injection h with h1 h2;split at h1 <;> omega
 | succ n ih=>
  intro i e p h;rw [bT]at h;split at h
  ·rename_i h1;cases h;exact iw h1
  split at h
  ·rename_i h1;cases h;exact Fq ih _ _ _ _ _ _ h1
  split at h
  ·split at h
   ·rename_i h1;injection h with h;injection h with h2 h3;subst h2;exact h1
   cases h
  cases h
theorem zw (L:List Int) (i:Nat):ie (gU L i):=by
 intro e p h;unfold gU at h;split at h
 ·cases h
 injection h with h;injection h with h1 h2;omega
theorem Du (L:List Int) (i:Nat):ie (gH L i):=by
 intro e p h;unfold gH at h;split at h
 ·cases h
 injection h with h;injection h with h1 h2;omega
theorem J6 (L:List Int) (a:Nat) (out:List aI) (cur:Int) (e:Int) (p:Nat) (h:cN L a out cur=.error (e,p)):e≠0:=by
 unfold cN at h;split at h
 ·split at h
  ·injection h with h;injection h with h1 h2;omega
  cases h
 split at h
 ·split at h
  ·rename_i h1;injection h with h;subst h;exact wg L 20 a _ _ h1
  cases h
 split at h
 ·split at h
  ·rename_i h1;injection h with h;subst h;exact zw L _ _ _ h1
  cases h
 split at h
 ·split at h
  ·rename_i h1;injection h with h;subst h;exact Du L _ _ _ h1
  cases h
 split at h
 ·split at h
  ·rename_i h1;injection h with h;subst h;exact tO L _ _ _ h1
  split at h
  ·cases h
  injection h with h;injection h with h1 h2;omega
 cases h
theorem qU (L:List Int):∀ f i out cur,ie (de L f i out cur):=by
 intro f;induction f with
 | zero=>intro i out cur e p h;rw [de]at h;injection h with h;injection h with h1 h2;omega
 | succ f ih=>
  intro i out cur e p h;rw [de]at h;split at h
  ·rename_i h1;injection h with h;subst h;exact J6 L _ _ _ _ _ h1
  ·cases h
  split at h
  ·injection h with h;injection h with h1 h2;omega
  exact ih _ _ _ _ _ h
theorem Js (L:List Int) (st:Bool) (a:Nat):ie (eo L st a):=by
 intro e p h;unfold eo at h;split at h
 ·rename_i h1;injection h with h;subst h;exact qU L _ _ _ _ _ _ h1
 split at h
 ·split at h
  ·injection h with h;injection h with h1 h2;omega
  split at h
  ·rename_i h1;injection h with h;subst h;exact qU L _ _ _ _ _ _ h1
  cases h
 split at h
 ·injection h with h;injection h with h1 h2;omega
 cases h
theorem Ka (L:List Int) (a:Nat):ie (eK L a):=by
 intro e p h;unfold eK at h;split at h
 ·split at h
  ·rename_i h1;injection h with h;subst h;exact qU L _ _ _ _ _ _ h1
  split at h
  ·injection h with h;injection h with h1 h2;omega
  split at h <;> cases h
 cases h
theorem zJ (L:List Int) (i:Nat):ie (ei L i):=by
 intro e p h;unfold ei at h;split at h
 ·rename_i h1;injection h with h;subst h;exact Js L _ _ _ _ h1
 split at h
 ·rename_i h1;injection h with h;subst h;exact Ka L _ _ _ h1
 cases h
theorem E5 (L:List Int) (i:Nat):ie (fu L i):=by
 intro e p h;unfold fu at h;split at h
 ·cases h
 split at h
 ·cases h
 split at h
 ·rename_i h1;injection h with h;subst h;exact iw h1
 cases h
theorem Ku (L:List Int) (i:Nat):ie (ku L i):=by
 intro e p h;unfold ku at h;split at h
 ·unfold jN at h;split at h
  ·rename_i h1;injection h with h;subst h;exact iw h1
  split at h
  ·split at h
   ·rename_i h1;injection h with h;subst h;exact wg L 20 _ _ _ h1
   cases h
  split at h
  ·cases h
  injection h with h;injection h with h1 h2;omega
 split at h
 ·unfold pM at h;split at h
  ·rename_i h1;injection h with h;subst h;exact zw L _ _ _ h1
  split at h
  ·rename_i h1;injection h with h;subst h;exact iw h1
  split at h
  ·rename_i h1;injection h with h;subst h;exact wg L 20 _ _ _ h1
  cases h
 unfold jL at h;split at h
 ·rename_i h1;injection h with h;subst h;exact zJ L _ _ _ h1
 split at h
 ·rename_i h1;injection h with h;subst h;exact E5 L _ _ _ h1
 split at h
 ·rename_i h1;injection h with h;subst h;exact zJ L _ _ _ h1
 split at h
 ·rename_i h1;injection h with h;injection h with h2 h3;subst h2;exact h1
 cases h
theorem IP (L:List Int):∀ f i l (e:Int) (p:Nat),iW L f i l=.error (e,p)→e≠0:=by
 intro f;induction f with
 | zero=>intro i l e p h;rw [iW]at h;injection h with h;injection h with h1 h2;omega
 | succ f ih=>
  intro i l e p h;rw [iW]at h;split at h
  ·cases h
  split at h
  ·injection h with h;injection h with h1 h2;omega
  split at h
  ·rename_i h1;injection h with h;subst h;exact Ku L _ _ _ h1
  split at h
  ·rename_i h1;injection h with h;subst h;exact iw h1
  exact ih _ _ _ _ h
theorem CT {L:List Int} (h:16000<L.length):jB L=([],(4,0)):=by unfold jB;rw [if_pos h]
theorem FT {L:List Int} {e:Int} {p:Nat} (h:¬ 16000<L.length) (h2:iW L (L.length+1) 0 [] = .error (e,p)):jB L=([],(e,(p:Int))):=by unfold jB;rw [if_neg h,h2]
theorem Km {L:List Int} {l:List aK} (h:¬ 16000<L.length) (h2:iW L (L.length+1) 0 [] = .ok l):jB L=(l,(0,0)):=by unfold jB;rw [if_neg h,h2]
def EZ (a:aI):Prop:=Vt a=a∧(a.kind=1∨a.kind=2∨a.kind=3)∧a.name.size≤20
theorem I9 {L:List Int} {a:Nat} {out o:List aI} {cur c:Int} {j:Nat} (h:cN L a out cur=.ok (some ((o,c),j))) (ho:∀ x∈out,EZ x):∀ x∈o,EZ x:=by
 have push:∀ (l:List aI),(∀ x∈l,EZ x)→∀ x∈out++l,EZ x:=by
  intro l hl x hx;rcases List.mem_append.1 hx with hx | hx;exact ho x hx;exact hl x hx
 have rune:∀ x,EZ (mQ x):=fun x=>⟨rfl,.inl rfl,Nat.zero_le _⟩;unfold cN at h;split at h
 ·split at h
  ·cases h
  injection h with h;injection h with h;injection h with h1 h2;injection h1 with h1 h3;subst h1;exact ho
 split at h
 ·split at h
  ·cases h
  injection h with h;injection h with h;injection h with h1 h2;injection h1 with h1 h3;subst h1;exact push _ (fun x hx=>by rw [List.mem_singleton.1 hx];exact⟨rfl,.inr (.inl rfl),Nat.zero_le _⟩)
 split at h
 ·split at h
  ·cases h
  rename_i hn;injection h with h;injection h with h;injection h with h1 h2;injection h1 with h1 h3;subst h1;exact push _ (fun x hx=>by rw [List.mem_singleton.1 hx];exact⟨rfl,.inr (.inr rfl),Kg (mV hn).2.1⟩)
 split at h
 ·split at h
  ·cases h
  rename_i hq;injection h with h;injection h with h;injection h with h1 h2;injection h1 with h1 h3;subst h1;unfold gH at hq;split at hq
  ·injection hq with hq;injection hq with hq C8;subst hq;refine push _ (fun x hx=>?_);obtain⟨y,_,rfl⟩:=List.mem_map.1 hx;exact rune y
  cases hq
 split at h
 ·split at h
  ·cases h
  split at h
  ·injection h with h;injection h with h;injection h with h1 h2;injection h1 with h1 h3;subst h1;exact push _ (fun x hx=>by rw [List.mem_singleton.1 hx];exact rune _)
  cases h
 injection h with h;cases h
theorem Dh {L:List Int}:∀ (f i:Nat) (out:List aI) (cur:Int) (v:List aI × Int) (j:Nat),(∀ x∈out,EZ x)→de L f i out cur=.ok (v,j)→∀ x∈v.1,EZ x:=by
 intro f;induction f with
 | zero=>intro i out cur v j _ h;rw [de]at h;cases h
 | succ f ih=>
  intro i out cur v j ho h;rw [de]at h;cases he:cN L (aD L i) out cur with
  | error e=>rw [he]at h;cases h
  | ok q=>
   rw [he]at h;cases q with
   | none=>simp only at h;injection h with h;injection h with h1 h2;subst h1;exact ho
   | some q=>
    obtain⟨⟨o,c⟩,k⟩:=q;simp only at h;split at h
    ·cases h
    exact ih _ _ _ _ _ (I9 he ho) h
theorem jH {L:List Int} {i:Nat} {v:List aI × Int} {j:Nat} (h:cS L i=.ok (v,j)):∀ x∈v.1,EZ x:=Dh _ _ _ _ _ _ (by simp) h
def SdG (s:cG):Prop:=(∀ x∈s.before,EZ x)∧(∀ x∈s.source,EZ x)∧∀ x∈s.after,EZ x
theorem Gn {L:List Int} {i:Nat} {v:cG} {j:Nat} (h:ei L i=.ok (v,j)):SdG v:=by
 have nil:∀ x∈([]:List aI),EZ x:=(by simp);unfold ei at h;cases hh:eo L (decide (pk L (aD L i)=94)) (if pk L (aD L i)=94 then aD L i+1 else aD L i)with
 | error e=>rw [hh]at h;cases h
 | ok q=>
  obtain⟨⟨b,s,c⟩,j1⟩:=q;rw [hh]at h;simp only at h;have h1:(∀ x∈b,EZ x)∧∀ x∈s,EZ x:=by
   unfold eo at hh;cases hi:cS L (if pk L (aD L i)=94 then aD L i+1 else aD L i)with
   | error e=>rw [hi]at hh;cases hh
   | ok q=>
    obtain⟨⟨l,c1⟩,j2⟩:=q;rw [hi]at hh;simp only at hh;split at hh
    ·split at hh
     ·cases hh
     cases hi2:cS L (j2+1)with
     | error e=>rw [hi2]at hh;cases hh
     | ok q=>
      obtain⟨⟨l2,c2⟩,j3⟩:=q;rw [hi2]at hh;simp only at hh;injection hh with hh;injection hh with hh Vl;injection hh with XP Sn;injection Sn with Vm UD;subst XP Vm;exact⟨jH hi,jH hi2⟩
    split at hh
    ·cases hh
    injection hh with hh;injection hh with hh Vl;injection hh with XP Sn;injection Sn with Vm UD;subst XP Vm;exact⟨nil,jH hi⟩
  cases ht:eK L j1 with
  | error e=>rw [ht]at h;cases h
  | ok q=>
   obtain⟨⟨a,fin⟩,k⟩:=q;have h2:∀ x∈a,EZ x:=by
    unfold eK at ht;split at ht
    ·cases hi:cS L (j1+1)with
     | error e=>rw [hi]at ht;cases ht
     | ok q=>
      obtain⟨⟨l,c1⟩,j2⟩:=q;rw [hi]at ht;simp only at ht;split at ht
      ·cases ht
      split at ht
      ·injection ht with ht;injection ht with ht1 ht2;injection ht1 with Vp ht4;subst Vp;exact jH hi
      injection ht with ht;injection ht with ht1 ht2;injection ht1 with Vp ht4;subst Vp;exact jH hi
    injection ht with ht;injection ht with ht1 ht2;injection ht1 with Vp ht4;subst Vp;exact nil
   rw [ht]at h;simp only at h;injection h with h;injection h with h3 h4;subst h3;exact⟨h1.1,h1.2,h2⟩
def vJ (a:List (List Int)) (b:List Word):Prop:=a.map bytesOf=b∧∀ w∈a,w.all bL=true
theorem vJ.one {w:List Int} {x:Word} (h:bytesOf w=x) (hr:w.all bL=true):vJ [w] [x]:=⟨by rw [List.map_singleton,h],fun y hy=>by rw [List.mem_singleton.1 hy];exact hr⟩
theorem vJ.none {a:List (List Int)} {b:List Word} (h:vJ a b):a = []↔b = []:=by rw [← h.1];simp
end Go.Proofs.YtamkjeipdjbemaaGreatDoor
