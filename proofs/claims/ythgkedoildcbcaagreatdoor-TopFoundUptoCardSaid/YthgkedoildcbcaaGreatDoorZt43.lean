/- RdItems + RdSideFr + RdSide + SynRead -/
import Derived.Test.YthgkedoildcbcaaGreatDoorZt41
import Derived.Test.YthgkedoildcbcaaGreatDoorZt42
import Derived.Test.YthgkedoildcbcaaGreatDoorZt34
import Derived.Test.YthgkedoildcbcaaGreatDoorZt6
set_option maxHeartbeats 12800000
set_option maxRecDepth 100000
namespace Go.Proofs.YthgkedoildcbcaaGreatDoor
open Go.RowKit
def SS (w:World) (C:Nat) (A:Option Addr) (n c:Nat) (L:List Int) (r:kS (List aE × Int)) (e:Ending) (w':World):Prop :=
  match r with
  | .ok ((l,cu),j)=>(∃ v,e=.returned (.tuple #[v,.int .i64 cu])∧gN w.heap.size C w' v l∧l.length≤20)∧ax w' C A n c L j∧bP w C w'
  | .error (x,p)=>e=aY x p∧bP w C w'
theorem Gq {L:List Int} {f i:Nat} {out:List aE} {cur:Int} (h:cE L (az L i) out cur=.ok none):cQ L (f+1) i out cur=.ok ((out,cur),az L i):=by rw [cQ,h]
theorem FO {L:List Int} {f i:Nat} {out:List aE} {cur:Int} {e:Int × Nat} (h:cE L (az L i) out cur=.error e):cQ L (f+1) i out cur=.error e:=by rw [cQ,h]
theorem Dl {L:List Int} {f i j:Nat} {out o:List aE} {cur c:Int} (h:cE L (az L i) out cur=.ok (some ((o,c),j))):cQ L (f+1) i out cur=if 20<o.length then .error (5,az L i)else cQ L f j o c:=by rw [cQ,h]
theorem LD (w:World) (C:Nat) (A:Option Addr) (n c:Nat) (L:List Int) (i:Nat) (h:ax w C A n c L i) (hL:gl L) (hn:n≤100000) :
    Calls Tryz.prog 89 #[.pointer (some ⟨C,0,none⟩)] w (SS w C A n c L (cJ L i)):=by
 obtain⟨i0,KO,z0,z1,z2⟩:=info_parts Aw;have hl:=h.len;have HL:=qqh hL;have iI:=qqh (fun(W:World) (m:Nat) (h:ax W C A n c L m)=>cW W C A n c L m h);have HC:=qqh h;have HLO:=qqh (iV.start h);have hi:=h.le;obtain⟨R,hR⟩:∃ R,cJ L i=R:=⟨_,rfl⟩;rw [hR];have HR:=qqh hR;clear h hL hR;go_enter Tryz.func89,Tryz.ntmps89;go_wp2_with fail;refine(jW _ C A n c L i HC.out).mono ?_;rintro e w1 ⟨rfl,hc1,aW⟩;have HJ1:=qqh (HLO.out.but hc1 aW);have b7:=qqh aW;clear hc1 aW;go_wp2_with fail;go_loopw [2,3] (fun v2 v3 wr=>∃ (f j0:Nat) (l:List aE) (cu:Int),j0≤n∧n+1≤f+j0∧R=cQ L f j0 l cu∧l.length≤20 ∧ -1≤cu∧cu≤20∧v3=.int .i64 cu∧gN w.heap.size C wr v2 l∧iV w.heap.size wr C A n c L (az L j0)∧bP w C wr) (fun _ _ wr=>n - (match wr.cell? ⟨C,1,none⟩with | some (.int _ j)=>j.toNat | _=>0));(case atStart=>exact⟨L.length+1,i,[],-1,hi,by omega,HR.out.symm,by simp,by decide,by decide,rfl,gN.nil _ _ _,HJ1.out,b7.out⟩);obtain⟨f0,j0,l,cu,hj0,hf,aX,Ss,LS,Lg,rfl,hown,uZ,Bp⟩:=hrel;obtain⟨f,rfl⟩:∃ f,f0=f+1:=⟨f0 - 1,by omega⟩;obtain⟨a,ha⟩:∃ a,az L j0=a:=⟨_,rfl⟩;have Pz:j0≤a:=(by rw [← ha];exact dG L j0);have dY:=qqh aX;have HA:=qqh ha;rw [ha]at uZ;have HJ:=qqh uZ;have HB:=qqh Bp;have HO:=qqh hown;have oc:=qqh (uZ.cur.blk.cell 1);have k1:=uZ.cur.blk.cell 1;have han:=uZ.cur.le;obtain⟨Av,cv,rfl,td⟩:=hown.form;obtain⟨x,hx⟩:∃ x,pk L a=x:=⟨_,rfl⟩;have HX:=qqh hx
 have HP:=qqh (fun(W:World) (h:ax W C A n c L a)=>show Calls Tryz.prog 34 #[.pointer (some ⟨C,0,none⟩)] W fun e w'=>e=.returned (.int .i32 x)∧ax w' C A n c L a∧bP W C w' by have:=iI.out W a h;rwa [hx]at this);have Va:IntKind.i64.wrap ((a:Int)+1)=(a:Int)+1:=wrap_small _ (by omega) (by omega);clear aX ha uZ Bp hown hx;go_upto_block 2 with (go_at_call 34;refine(HP.out _ HJ.out.cur).mono ?_;rintro e w3 ⟨rfl,lU,bN⟩);have mM:=qqh (HJ.out.but lU bN);have bL:=qqh (HB.out.trans bN);have sy:=qqh (HO.out.but bN HJ.out.lt);clear lU bN;go_cut [2,3] (fun v2 v3 wx=>∃ (o:List aE) (c':Int) (j:Nat),cE L a l cu=.ok (some ((o,c'),j))∧j≤n ∧ -1≤c'∧c'≤20∧o.length≤100100∧v3=.int .i64 c'∧gN w.heap.size C wx v2 o∧iV w.heap.size wx C A n c L j∧bP w C wx);case first=>
  have aeu:l.length≤20:=Ss;have halt:0≤x→a<n:=fun h=>(by rw [← hl];exact bD (by rw [HX.out];omega));have lK:=qqh (fun(e:Int × Nat) (he:cE L a l cu=.error e)=>show R=.error e from dY.out.trans (FO (by rw [HA.out];exact he)));have EJ:=qqh (fun(he:cE L a l cu=.ok none)=>show R=.ok ((l,cu),a) by have:=dY.out.trans (Gq (by rw [HA.out];exact he));rwa [HA.out]at this);clear dY HP iI;by_cases vw:x=124
  ·as_aux_lemma=>
    subst vw;by_cases hc:0≤cu
    ·have fc:=qqh (lK.out (5,a) (by unfold cE;rw [if_pos HX.out,if_pos hc]));go_wp2_with fail;refine(ck 5 a _).mono ?_;rintro e w5 ⟨rfl,rfl⟩;go_wp2_with fail;rw [fc.out];exact⟨rfl,rfl,bL.out⟩
    have wI:=qqh (show cE L a l cu=.ok (some ((l,(l.length:Int)),a+1)) by unfold cE;rw [if_pos HX.out,if_neg hc]);have hg:decide ((0:Int)≤cu)=false:=decide_eq_false hc;obtain⟨d1,d2,d3,d4⟩:=mM.out.cur.step (halt (by decide));have Fu:=qqh (mM.out.but d3 d4);have ek:=qqh (bL.out.trans d4);have ox:=qqh (sy.out.but d4 mM.out.lt);have hlt:=halt (by decide);clear d3 d4;go_wp2_with fail;go_meet;exact⟨l,l.length,a+1,wI.out,hlt,by omega,by omega,by omega,rfl,ox.out,Fu.out,ek.out⟩
  have afK:(x == 124)=false:=(by rw [beq_eq_false_iff_ne];exact vw);by_cases lG:x=91
  ·as_aux_lemma=>
    subst lG;have yX:=qqh (show cE L a l cu=(match bI L 20 a with | .error e=>.error e | .ok (s,j)=>.ok (some ((l++[⟨2,0,s,eP⟩],cu),j))) by unfold cE;rw [if_neg (by rw [HX.out];decide),if_pos HX.out];cases bI L 20 a <;> rfl);have fB:=qqh (show Calls Tryz.prog 54 #[.pointer (some ⟨C,0,none⟩),.int .i64 1] w3 (eN w3 C A n c L (bI L 20 a)) from vV 20 1 w3 C A n c L a rfl (by decide) mM.out.cur HL.out hn);cases hs:bI L 20 a with
    | error e0=>
     obtain⟨y,p⟩:=e0;have fc:=qqh (lK.out (y,p) (by rw [yX.out,hs]));rw [hs]at fB;clear hs yX;go_wp2_with fail;refine fB.out.mono ?_;rintro e w5 ⟨he,ez⟩;unfold aY at he;subst he;have dQ:=qqh (bL.out.trans ez);clear ez;go_wp2_with fail;rw [fc.out];exact⟨rfl,rfl,dQ.out⟩
    | ok q=>
     obtain⟨t,j⟩:=q;have wI:=qqh (show cE L a l cu=.ok (some ((l++[⟨2,0,t,eP⟩],cu),j)) by rw [yX.out,hs]);have nC:=qqh (mo HL.out.ok 20 _ _ _ hs).2;rw [hs]at fB;clear hs yX;go_wp2_with fail;refine fB.out.mono ?_;rintro e w5 ⟨⟨B,m,d,rfl,hr,hd⟩,mK,ez⟩;have H8:=qqh (mM.out.but mK ez);have dQ:=qqh (bL.out.trans ez);have ud:=qqh (sy.out.but ez mM.out.lt);have acS:m≤200:=(by have h1:=hr.1;rw [bE]at h1;have h2:=nC.out.size;omega);have hjn:=mK.le;have zl:=bL.out.1;have hCl:=mM.out.lt;have fu:=(Below.refl w5.heap.size w5).alloc (Nat.le_refl _) (.cells #[.int .i64 2,.int .i32 0,.slice B m d,.string ⟨#[]⟩] 171)
     have HZ:=qqh (show iD (w5.alloc (.cells #[.int .i64 2,.int .i32 0,.slice B m d,.string ⟨#[]⟩] 171)) (xC w.heap.size C (.slice Av l.length cv)) ⟨2,0,t,eP⟩ [.int .i64 2,.int .i32 0,.slice B m d,.string ⟨#[]⟩] from
       ⟨B,m,d,rfl,(hr.lift (X':=xC w.heap.size C (.slice Av l.length cv)) (fun b (h:w3.heap.size≤b)=>⟨by omega,by omega,sy.out.apart h⟩)).keep (af.any fu),hd,by simp only [maxLen];omega⟩)
     have y8:=qqh (ud.out.below fu);have IC:=dQ.out.1;have kC:=qqh (dQ.out.trans (bP.below (w:=w5) C fu));have BA:=qqh (H8.out.below (fu.mono IC));have hsz:=kC.out.1;obtain⟨ys,vh,eH⟩:=y8.out.push ⟨2,0,t,eP⟩ HZ.out rfl;have Qt:=qqh vh;have zK:=qqh eH;have CS:=qqh (Rd.new w5 171 4 1 [.int .i64 2,.int .i32 0,.slice B m d,.string ⟨#[]⟩] rfl);have so:=qqh (iD.one HZ.out);clear hr hd mK ez fu vh eH fB;go_wp2_with (at_builtin;refine ak _ rfl (.tmp 43) (.tmp 49) 93 rfl w.heap.size 171 i0 _ 4 56 Tryz.underlying93 KO z0 z1 z2 rfl (by decide) _ _ _ rfl Qt.out (w5.heap.size+1) (some ⟨w5.heap.size,0,none⟩) 1 1 [.int .i64 2,.int .i32 0,.slice B m d,.string ⟨#[]⟩] rfl CS.out so.out (by simp only [maxLen];omega) (by omega) hsz ?_);intro v' w9 au;have bR:=au.below hsz Qt.out;have Kk:=qqh (BA.out.below bR);have eK:=qqh (fD kC.out bR);have fN:=qqh (zK.out v' w9 au);clear au bR;go_wp2_with fail;go_meet;exact⟨_,cu,j,wI.out,hjn,LS,Lg,by simp;omega,rfl,fN.out,Kk.out,eK.out⟩
  have q91:(x == 91)=false:=(by rw [beq_eq_false_iff_ne];exact lG);by_cases lX:x=36∧kN (pk L (a+1))=true
  ·as_aux_lemma=>
    obtain⟨Ju,PK⟩:=lX;subst Ju;have hlt:=halt (by decide);have TK:=qqh (fun(W:World)=>show Calls Tryz.prog 112 #[.int .i32 (pk L (a+1))] W fun e w'=>e=.returned (.bool true)∧w'=W by have:=Am (pk L (a+1)) W;rwa [PK]at this);have yX:=qqh (show cE L a l cu=(match gR L (a+1)with | .error e=>.error e | .ok (q,j)=>.ok (some ((l++[⟨3,0,[],q⟩],cu),j))) by unfold cE;rw [HX.out,if_neg vw,if_neg lG,if_pos ⟨rfl,PK⟩];cases gR L (a+1) <;> rfl);go_wp2_with fail;refine(mQ _ C A n c L a 1 mM.out.cur (by decide)).mono ?_;rintro e w4 ⟨rfl,mP,hb4⟩;have Fu:=qqh (mM.out.but mP hb4);have ek:=qqh (bL.out.trans hb4);have ox:=qqh (sy.out.but hb4 mM.out.lt);clear mP hb4;go_wp2_with fail;refine(TK.out _).mono ?_;rintro e w4b ⟨rfl,IC⟩;subst IC;obtain⟨d1,d2,d3,d4⟩:=Fu.out.cur.step hlt;have H8:=qqh (Fu.out.but d3 d4);have dQ:=qqh (ek.out.trans d4);have ud:=qqh (ox.out.but d4 Fu.out.lt);clear d3 d4;have Gb:=qqh (Hs _ C A n c L (a+1) H8.out.cur (by omega));cases hs:gR L (a+1)with
    | error e0=>
     obtain⟨y,p⟩:=e0;have fc:=qqh (lK.out (y,p) (by rw [yX.out,hs]));rw [hs]at Gb;clear hs yX;go_wp2_with fail;refine Gb.out.mono ?_;rintro e w6 ⟨he,fu⟩;unfold aY at he;subst he;have gx:=qqh (dQ.out.trans fu);clear fu;go_wp2_with fail;rw [fc.out];exact⟨rfl,rfl,gx.out⟩
    | ok q=>
     obtain⟨t,j⟩:=q;have wI:=qqh (show cE L a l cu=.ok (some ((l++[⟨3,0,[],t⟩],cu),j)) by rw [yX.out,hs]);rw [hs]at Gb;clear hs yX;go_wp2_with fail;refine Gb.out.mono ?_;rintro e w6 ⟨rfl,En,fu⟩;have BA:=qqh (H8.out.but En fu);have gx:=qqh (dQ.out.trans fu);have y8:=qqh (ud.out.but fu H8.out.lt);have hjn:=En.le;have gH:=(Below.refl w6.heap.size w6).alloc (Nat.le_refl _) (.cells #[.int .i64 3,.int .i32 0,.slice none 0 0,.string t] 171)
     have HZ:=qqh (show iD (w6.alloc (.cells #[.int .i64 3,.int .i32 0,.slice none 0 0,.string t] 171)) (xC w.heap.size C (.slice Av l.length cv)) ⟨3,0,[],t⟩ [.int .i64 3,.int .i32 0,.slice none 0 0,.string t] from
       ⟨none,0,0,rfl,⟨rfl,fun h=>absurd h (by omega)⟩,Nat.le_refl _,Nat.zero_le _⟩)
     have NW:=qqh (y8.out.below gH);have hw6:=gx.out.1;have kC:=qqh (gx.out.trans (bP.below (w:=w6) C gH));have WI:=qqh (BA.out.below (gH.mono hw6));have hsz:=kC.out.1;obtain⟨ys,vh,eH⟩:=NW.out.push ⟨3,0,[],t⟩ HZ.out rfl;have Qt:=qqh vh;have zK:=qqh eH;have CS:=qqh (Rd.new w6 171 4 1 [.int .i64 3,.int .i32 0,.slice none 0 0,.string t] rfl);have so:=qqh (iD.one HZ.out);clear En fu gH vh eH Gb;go_wp2_with (at_builtin;refine ak _ rfl (.tmp 70) (.tmp 74) 93 rfl w.heap.size 171 i0 _ 4 56 Tryz.underlying93 KO z0 z1 z2 rfl (by decide) _ _ _ rfl Qt.out (w6.heap.size+1) (some ⟨w6.heap.size,0,none⟩) 1 1 [.int .i64 3,.int .i32 0,.slice none 0 0,.string t] rfl CS.out so.out (by simp only [maxLen];omega) (by omega) hsz ?_);intro v' w9 au;have bR:=au.below hsz Qt.out;have Kk:=qqh (WI.out.below bR);have eK:=qqh (fD kC.out bR);have fN:=qqh (zK.out v' w9 au);clear au bR;go_wp2_with fail;go_meet;exact⟨_,cu,j,wI.out,hjn,LS,Lg,by simp;omega,rfl,fN.out,Kk.out,eK.out⟩
  by_cases zO:x=39
  ·as_aux_lemma=>
    subst zO;have hlt:=halt (by decide);have HQ:=qqh (JF w3 C A n c L a mM.out.cur hlt hn);have yX:=qqh (show cE L a l cu=(match gK L a with | .error e=>.error e | .ok (q,j)=>.ok (some ((l++q,cu),j))) by unfold cE;rw [HX.out,if_neg vw,if_neg lG,if_neg lX,if_pos rfl];cases gK L a <;> rfl);go_wp2_with fail;refine HQ.out.mono ?_;rintro e w5 (⟨hq,⟨B,m,d,rfl,hr,hd,hm⟩,mK,ez⟩ | ⟨hq,he,ez⟩)
    ·have wI:=qqh (show cE L a l cu=.ok (some ((l++(aL L (a+1) (aB lW L (a+1))).map nA,cu),aB lW L (a+1)+1)) by rw [yX.out];unfold gK;rw [if_pos hq]);generalize aB lW L (a+1)=r at *;generalize aL L (a+1) r=rs at *;have hrs:rs.length=m:=by
      have h1:=hr.1;have h2:∀ l:List Int,(iz l).length=l.length*4:=by
       intro l;induction l with
       | nil=>rfl
       | cons y l ih=>show([_,_,_,_]++iz l).length=_;rw [List.length_append,ih];simp;omega
      rw [h2]at h1;omega
     have H8:=qqh (mM.out.but mK ez);have dQ:=qqh (bL.out.trans ez);have ud:=qqh (sy.out.but ez mM.out.lt);have hjn:=mK.le;have hsz:=dQ.out.1;obtain⟨ys,vh,eH⟩:=ud.out.Xh rs;rw [hrs]at eH;have Qt:=qqh vh;have zK:=qqh eH;have oe:=qqh hr.of;have so:=qqh (show ∀ u∈iz rs,u.oneCell'=true by
      intro u hu;unfold iz at hu;obtain⟨y,_,hy⟩:=List.mem_flatMap.1 hu;exact Ql y u hy)
     clear hr hd mK ez vh eH HQ yX;go_wp2_with (at_builtin;refine ak _ rfl (.tmp 79) (.tmp 81) 93 rfl w.heap.size 171 i0 _ 4 56 Tryz.underlying93 KO z0 z1 z2 rfl (by decide) _ _ _ rfl Qt.out w5.heap.size B m d (iz rs) rfl oe.out so.out (by simp only [maxLen];omega) (by omega) hsz ?_);intro v' w9 au;have bR:=au.below hsz Qt.out;have Kk:=qqh (H8.out.below bR);have eK:=qqh (fD dQ.out bR);have fN:=qqh (zK.out v' w9 au);clear au bR;go_wp2_with fail;go_meet;exact⟨_,cu,r+1,wI.out,hjn,LS,Lg,by simp;omega,rfl,fN.out,Kk.out,eK.out⟩
    unfold aY at he;subst he;have fc:=qqh (lK.out (2,aB lW L (a+1)) (by rw [yX.out];unfold gK;rw [if_neg hq]));have dQ:=qqh (bL.out.trans ez);clear ez;go_wp2_with fail;rw [fc.out];exact⟨rfl,rfl,dQ.out⟩
  have q39:(x == 39)=false:=(by rw [beq_eq_false_iff_ne];exact zO);by_cases yT:x=92∨dr x=true
  ·have yX:=qqh (show cE L a l cu=(match dh L a with | .error e=>.error e | .ok (y,j)=>if bg y=true then .ok (some ((l++[nA y],cu),j))else .error (3,a)) by unfold cE;rw [HX.out,if_neg vw,if_neg lG,if_neg lX,if_neg zO,if_pos yT];cases dh L a <;> rfl);have Db:=qqh (fun(W:World) (h:ax W C A n c L a)=>De W C A n c L a h HL.out);by_cases Tc:x=92
   ·as_aux_lemma=>
    subst Tc;have BA:=mM;have gx:=bL;have y8:=sy;cases hs:dh L a with
    | error e0=>
     obtain⟨y,p⟩:=e0;have fc:=qqh (lK.out (y,p) (by rw [yX.out,hs]));rw [hs]at Db;clear hs yX;go_wp2_with fail;refine(Db.out _ BA.out.cur).mono ?_;rintro e w7 ⟨he,gH⟩;unfold aY at he;subst he;have od:=qqh (gx.out.trans gH);clear gH;go_wp2_with fail;rw [fc.out];exact⟨rfl,rfl,od.out⟩
    | ok q=>
     obtain⟨y,j⟩:=q;rw [hs]at Db;have zc:=qqh (show cE L a l cu=if bg y=true then .ok (some ((l++[nA y],cu),j))else .error (3,a) by rw [yX.out,hs]);clear hs yX;go_wp2_with fail;refine(Db.out _ BA.out.cur).mono ?_;rintro e w7 ⟨rfl,sI,gH⟩;have WI:=qqh (BA.out.but sI gH);have od:=qqh (gx.out.trans gH);have NW:=qqh (y8.out.but gH BA.out.lt);have hjn:=sI.le;clear sI gH;cases hr:bg y with
     | false=>
      have fc:=qqh (lK.out (3,a) (by rw [zc.out,hr];rfl));have tA:=qqh (fun(W:World)=>show Calls Tryz.prog 29 #[.int .i32 y] W fun e w'=>e=.returned (.bool false)∧W=w' by have:=gY y W;rwa [hr]at this);clear hr;go_wp2_with fail;refine(tA.out _).mono ?_;rintro e w8 ⟨rfl,NJ⟩;subst NJ;go_wp2_with fail;refine(ck 3 a _).mono ?_;rintro e w9 ⟨rfl,rfl⟩;go_wp2_with fail;rw [fc.out];exact⟨rfl,rfl,od.out⟩
     | true=>
      have wI:=qqh (show cE L a l cu=.ok (some ((l++[nA y],cu),j)) by rw [zc.out,hr];rfl);have tA:=qqh (fun(W:World)=>show Calls Tryz.prog 29 #[.int .i32 y] W fun e w'=>e=.returned (.bool true)∧W=w' by have:=gY y W;rwa [hr]at this);clear hr;have gh:=(Below.refl w7.heap.size w7).alloc (Nat.le_refl _) (.cells #[.int .i64 1,.int .i32 y,.slice none 0 0,.string ⟨#[]⟩] 171);have HZ:=qqh (Cj (w7.alloc (.cells #[.int .i64 1,.int .i32 y,.slice none 0 0,.string ⟨#[]⟩] 171)) (xC w.heap.size C (.slice Av l.length cv)) y);have Hp:=qqh (NW.out.below gh);have hw7:=od.out.1;have kC:=qqh (od.out.trans (bP.below (w:=w7) C gh));have Za:=qqh (WI.out.below (gh.mono hw7));have hsz:=kC.out.1;obtain⟨ys,gJ,eH⟩:=Hp.out.push (nA y) HZ.out rfl;have zB:=qqh gJ;have zK:=qqh eH;have CS:=qqh (Rd.new w7 171 4 1 [.int .i64 1,.int .i32 y,.slice none 0 0,.string ⟨#[]⟩] rfl);have so:=qqh (iD.one HZ.out);clear gh gJ eH Db;go_wp2_with fail;refine(tA.out _).mono ?_;rintro e w8 ⟨rfl,NJ⟩;subst NJ;go_wp2_with (at_builtin;refine ak _ rfl (.tmp 99) (.tmp 102) 93 rfl w.heap.size 171 i0 _ 4 56 Tryz.underlying93 KO z0 z1 z2 rfl (by decide) _ _ _ rfl zB.out (w7.heap.size+1) (some ⟨w7.heap.size,0,none⟩) 1 1 [.int .i64 1,.int .i32 y,.slice none 0 0,.string ⟨#[]⟩] rfl CS.out so.out (by simp only [maxLen];omega) (by omega) hsz ?_);intro v' w9 au;have bR:=au.below hsz zB.out;have Kk:=qqh (Za.out.below bR);have eK:=qqh (fD kC.out bR);have fN:=qqh (zK.out v' w9 au);clear au bR;go_wp2_with fail;go_meet;exact⟨_,cu,j,wI.out,hjn,LS,Lg,by simp;omega,rfl,fN.out,Kk.out,eK.out⟩
   as_aux_lemma=>
   have q92:(x == 92)=false:=(by rw [beq_eq_false_iff_ne];exact Tc);have OS:dr x=true:=yT.resolve_left Tc;have Ju:x≠36:=(by rintro rfl;exact absurd OS (by decide));have q36:(x == 36)=false:=(by rw [beq_eq_false_iff_ne];exact Ju);have qs:=qqh (fun(W:World)=>show Calls Tryz.prog 106 #[.int .i32 x] W fun e w'=>e=.returned (.bool true)∧Below W.heap.size W w' by
    have:=pT (pk L a) W (HL.out.pk a);rwa [HX.out,OS]at this)
   go_wp2_with fail;refine(qs.out _).mono ?_;rintro e w6 ⟨rfl,fu⟩;have BA:=qqh (mM.out.but (mM.out.cur.below fu) (bP.below C fu));have gx:=qqh (bL.out.trans (bP.below C fu));have y8:=qqh (sy.out.below fu);clear fu OS;cases hs:dh L a with
   | error e0=>
    obtain⟨y,p⟩:=e0;have fc:=qqh (lK.out (y,p) (by rw [yX.out,hs]));rw [hs]at Db;clear hs yX;go_wp2_with fail;refine(Db.out _ BA.out.cur).mono ?_;rintro e w7 ⟨he,gH⟩;unfold aY at he;subst he;have od:=qqh (gx.out.trans gH);clear gH;go_wp2_with fail;rw [fc.out];exact⟨rfl,rfl,od.out⟩
   | ok q=>
    obtain⟨y,j⟩:=q;rw [hs]at Db;have zc:=qqh (show cE L a l cu=if bg y=true then .ok (some ((l++[nA y],cu),j))else .error (3,a) by rw [yX.out,hs]);clear hs yX;go_wp2_with fail;refine(Db.out _ BA.out.cur).mono ?_;rintro e w7 ⟨rfl,sI,gH⟩;have WI:=qqh (BA.out.but sI gH);have od:=qqh (gx.out.trans gH);have NW:=qqh (y8.out.but gH BA.out.lt);have hjn:=sI.le;clear sI gH;cases hr:bg y with
    | false=>
     have fc:=qqh (lK.out (3,a) (by rw [zc.out,hr];rfl));have tA:=qqh (fun(W:World)=>show Calls Tryz.prog 29 #[.int .i32 y] W fun e w'=>e=.returned (.bool false)∧W=w' by have:=gY y W;rwa [hr]at this);clear hr;go_wp2_with fail;refine(tA.out _).mono ?_;rintro e w8 ⟨rfl,NJ⟩;subst NJ;go_wp2_with fail;refine(ck 3 a _).mono ?_;rintro e w9 ⟨rfl,rfl⟩;go_wp2_with fail;rw [fc.out];exact⟨rfl,rfl,od.out⟩
    | true=>
     have wI:=qqh (show cE L a l cu=.ok (some ((l++[nA y],cu),j)) by rw [zc.out,hr];rfl);have tA:=qqh (fun(W:World)=>show Calls Tryz.prog 29 #[.int .i32 y] W fun e w'=>e=.returned (.bool true)∧W=w' by have:=gY y W;rwa [hr]at this);clear hr;have gh:=(Below.refl w7.heap.size w7).alloc (Nat.le_refl _) (.cells #[.int .i64 1,.int .i32 y,.slice none 0 0,.string ⟨#[]⟩] 171);have HZ:=qqh (Cj (w7.alloc (.cells #[.int .i64 1,.int .i32 y,.slice none 0 0,.string ⟨#[]⟩] 171)) (xC w.heap.size C (.slice Av l.length cv)) y);have Hp:=qqh (NW.out.below gh);have hw7:=od.out.1;have kC:=qqh (od.out.trans (bP.below (w:=w7) C gh));have Za:=qqh (WI.out.below (gh.mono hw7));have hsz:=kC.out.1;obtain⟨ys,gJ,eH⟩:=Hp.out.push (nA y) HZ.out rfl;have zB:=qqh gJ;have zK:=qqh eH;have CS:=qqh (Rd.new w7 171 4 1 [.int .i64 1,.int .i32 y,.slice none 0 0,.string ⟨#[]⟩] rfl);have so:=qqh (iD.one HZ.out);clear gh gJ eH Db;go_wp2_with fail;refine(tA.out _).mono ?_;rintro e w8 ⟨rfl,NJ⟩;subst NJ;go_wp2_with (at_builtin;refine ak _ rfl (.tmp 99) (.tmp 102) 93 rfl w.heap.size 171 i0 _ 4 56 Tryz.underlying93 KO z0 z1 z2 rfl (by decide) _ _ _ rfl zB.out (w7.heap.size+1) (some ⟨w7.heap.size,0,none⟩) 1 1 [.int .i64 1,.int .i32 y,.slice none 0 0,.string ⟨#[]⟩] rfl CS.out so.out (by simp only [maxLen];omega) (by omega) hsz ?_);intro v' w9 au;have bR:=au.below hsz zB.out;have Kk:=qqh (Za.out.below bR);have eK:=qqh (fD kC.out bR);have fN:=qqh (zK.out v' w9 au);clear au bR;go_wp2_with fail;go_meet;exact⟨_,cu,j,wI.out,hjn,LS,Lg,by simp;omega,rfl,fN.out,Kk.out,eK.out⟩
  as_aux_lemma=>
   have fc:=qqh (EJ.out (by unfold cE;rw [HX.out,if_neg vw,if_neg lG,if_neg lX,if_neg zO,if_neg yT]));have q92:(x == 92)=false:=(by rw [beq_eq_false_iff_ne];exact fun h=>yT (.inl h));have qs:=qqh (fun(W:World)=>show Calls Tryz.prog 106 #[.int .i32 x] W fun e w'=>e=.returned (.bool false)∧Below W.heap.size W w' by
    have:=pT (pk L a) W (HL.out.pk a);rwa [HX.out,show dr x=false from by rw [Bool.eq_false_iff];exact fun h=>yT (.inr h)]at this)
   by_cases Ju:x=36
   ·subst Ju;have PK:kN (pk L (a+1))=false:=(by rw [Bool.eq_false_iff];exact fun h=>lX ⟨rfl,h⟩);have TK:=qqh (fun(W:World)=>show Calls Tryz.prog 112 #[.int .i32 (pk L (a+1))] W fun e w'=>e=.returned (.bool false)∧w'=W by have:=Am (pk L (a+1)) W;rwa [PK]at this);go_wp2_with fail;refine(mQ _ C A n c L a 1 mM.out.cur (by decide)).mono ?_;rintro e w4 ⟨rfl,mP,hb4⟩;have Fu:=qqh (mM.out.but mP hb4);have ek:=qqh (bL.out.trans hb4);have ox:=qqh (sy.out.but hb4 mM.out.lt);clear mP hb4;go_wp2_with fail;refine(TK.out _).mono ?_;rintro e w5 ⟨rfl,IC⟩;subst IC;go_wp2_with fail;refine(qs.out _).mono ?_;rintro e w6 ⟨rfl,fu⟩;have BA:=qqh (Fu.out.but (Fu.out.cur.below fu) (bP.below C fu));have gx:=qqh (ek.out.trans (bP.below C fu));have y8:=qqh (ox.out.below fu);clear fu;go_wp2_with fail;go_ret2;rw [fc.out];exact⟨⟨_,rfl,y8.out,Ss⟩,BA.out.cur,gx.out⟩
   have q36:(x == 36)=false:=(by rw [beq_eq_false_iff_ne];exact Ju);go_wp2_with fail;refine(qs.out _).mono ?_;rintro e w6 ⟨rfl,fu⟩;have BA:=qqh (mM.out.but (mM.out.cur.below fu) (bP.below C fu));have gx:=qqh (bL.out.trans (bP.below C fu));have y8:=qqh (sy.out.below fu);clear fu;go_wp2_with fail;go_ret2;rw [fc.out];exact⟨⟨_,rfl,y8.out,Ss⟩,BA.out.cur,gx.out⟩
 obtain⟨o,c',j,hel,hjn,hc0,hc1,hol,rfl,ho,uZ,Bp⟩:=hcut;have hst:=dY.out.trans (Dl (by rw [HA.out];exact hel));rw [HA.out]at hst;have haj:=(xB HL.out.ok hel).1;obtain⟨Ao,co,rfl,_⟩:=ho.form;have Z4:=qqh ho;have Zu:=qqh uZ;have NZ:=qqh Bp;clear hel ho uZ Bp k1;by_cases h20:20<o.length
 ·rw [if_pos h20]at hst;have fB:=qqh hst;have hg:decide ((20:Int)<(o.length:Int))=true:=decide_eq_true (by omega);generalize o.length=ol at *;clear hst;go_wp2_with fail;refine(ck 5 a _).mono ?_;rintro e w5 ⟨rfl,rfl⟩;go_wp2_with fail;rw [fB.out];exact⟨rfl,rfl,NZ.out⟩
 rw [if_neg h20]at hst;have fB:=qqh hst;have hg:decide ((20:Int)<(o.length:Int))=false:=decide_eq_false (by omega);have rI:=qqh (jW _ C A n c L j Zu.out.cur);have QV:=qqh (dG L j);clear hst;go_wp2_with fail;refine rI.out.mono ?_;rintro e w5 ⟨rfl,mK,ez⟩;have H8:=qqh (Zu.out.but mK ez);have dQ:=qqh (NZ.out.trans ez);have ud:=qqh (Z4.out.but ez Zu.out.lt);clear mK ez;go_wp2_with fail;refine⟨⟨f,j,o,c',hjn,by omega,fB.out,by omega,hc0,hc1,rfl,ud.out,H8.out,dQ.out⟩,?_⟩;have e1:w5.cell? ⟨C,1,none⟩=some (.int .i64 ((az L j:Nat):Int)):=H8.out.cur.blk.cell 1;have e2:=oc.out;have hle:=H8.out.cur.le;have hge:=QV.out;rw [e1,e2];simp only [Int.toNat_natCast,List.getElem?_toArray,List.getElem?_cons_succ,List.getElem?_cons_zero];omega
def dc (w:World) (X:Nat→Prop) (u:Value) (l:List aE):Prop:=∃ A n c,u=.slice A n c∧aZ (iD w X) w X 4 A n l∧n≤c∧n≤100
theorem dc.keep {w w':World} {X X':Nat→Prop} (hk:af w X w' X') {u:Value} {l:List aE} (h:dc w X u l):dc w' X' u l:=by
 obtain⟨A,n,c,e,h1,h2⟩:=h;exact⟨A,n,c,e,h1.keep hk (iD.keep hk),h2⟩
theorem dc.nil (w:World) (X:Nat→Prop):dc w X (.slice none 0 0) []:=⟨none,0,0,rfl,⟨[],rfl,rfl,by simp,by simp,⟨by simp,fun h=>absurd h (Nat.lt_irrefl 0)⟩⟩,Nat.le_refl _,Nat.zero_le _⟩
theorem dc.of {w:World} {lo WJ C:Nat} {v:Value} {l:List aE} (h:gN lo C w v l) (hn:l.length≤20) (hlo:WJ≤lo) (hC:C<lo):dc w (fun b=>WJ≤b∧b≠C) v l:=by
 obtain⟨A,c,rfl,hc⟩:=h.form;have hh:=h;obtain⟨css,g1,g2,g3,g4⟩:=hh;refine⟨A,_,c,rfl,dH.done h (iD.keep (af.refl (fun b hb=>⟨Nat.le_trans hlo hb.1,hb.2.1⟩))) (fun b hb=>?_),hc,by omega⟩;have:=(aQ g4 hb).1;exact⟨by omega,by omega⟩
theorem dc.form {w:World} {X:Nat→Prop} {u:Value} {l:List aE} (h:dc w X u l):∃ A n c,u=.slice A n c∧l.length=n:=by
 obtain⟨A,n,c,e,h1,_⟩:=h;exact⟨A,n,c,e,h1.len⟩
structure xP (w:World) (C:Nat) (A:Option Addr) (n c:Nat) (L:List Int) (wr:World) (j:Nat) (cs:Array Value):Prop where
  cur:iV w.heap.size wr C A n c L j
  but:bP w C wr
  box:ai wr (w.heap.size+1) 95 cs
  res:ai wr w.heap.size 95 #[.bool false,.bool false,.slice none 0 0,.slice none 0 0,.slice none 0 0,.int .i64 0]
section
variable {w wr w' : World} {C : Nat} {A : Option Addr} {n c : Nat} {L : List Int} {j j' : Nat} {cs : Array Value}
theorem xP.step (h:xP w C A n c L wr j cs) (hc:ax w' C A n c L j') (hb:bP wr C w'):xP w C A n c L w' j' cs:=by
 have hC:=h.cur.lt;exact⟨h.cur.but hc hb,h.but.trans hb,(hb.2.2.2.2 _ h.box.lt (by omega)).trans h.box,(hb.2.2.2.2 _ h.res.lt (by omega)).trans h.res⟩
theorem xP.put (h:xP w C A n c L wr j cs) (k:Nat) (u:Value):xP w C A n c L (wr.setCell ⟨w.heap.size+1,k,none⟩ u) j (cs.setIfInBounds k u):=by
 have hb:=(bP.set wr (w.heap.size+1) k u);have bu:=hb.to (B:=w.heap.size) h.but.1 (Nat.le_succ _);exact⟨h.cur.below bu,fD h.but bu,h.box.put k u,(hb.2.2.2.2 _ h.res.lt (by omega)).trans h.res⟩
theorem dc.step {u:Value} {l:List aE} {lo:Nat} (h:dc wr (fun b=>lo≤b∧b≠C) u l) (hb:bP wr C w'):dc w' (fun b=>lo≤b∧b≠C) u l:=h.keep (hb.keeps (fun _ h=>h.2) (fun _ h _=>h))
theorem dc.put {u x:Value} {l:List aE} {lo k:Nat} (h:dc wr (fun b=>lo+2≤b∧b≠C) u l):dc (wr.setCell ⟨lo+1,k,none⟩ x) (fun b=>lo+2≤b∧b≠C) u l :=
  h.keep (af.setCell x (fun b hb=>by have:=hb.1;show b≠lo+1;omega) (fun _ h _=>h))
end
def Sr (w:World) (C:Nat) (A:Option Addr) (n c:Nat) (L:List Int) (r:kS bY) (e:Ending) (w':World):Prop :=
  match r with
  | .ok (d,j)=>(∃ u1 u2 u3,e=.returned (.agg #[.bool d.start,.bool d.fin,u1,u2,u3,.int .i64 d.aa])∧dc w' (fun b=>w.heap.size+2≤b∧b≠C) u1 d.before∧dc w' (fun b=>w.heap.size+2≤b∧b≠C) u2 d.source∧dc w' (fun b=>w.heap.size+2≤b∧b≠C) u3 d.after)∧ax w' C A n c L j∧bP w C w'
  | .error (x,p)=>e=aY x p∧bP w C w'
theorem qP {L:List Int} {j:Nat} {l:List aE} {cu:Int}:∀ (f:Nat) (i:Nat) (out:List aE) (cur:Int),out.length≤20 → -1≤cur→cur≤20→cQ L f i out cur=.ok ((l,cu),j) → -1≤cu∧cu≤20:=by
 intro f;induction f with
 | zero=>intro i out cur _ _ _ h;rw [cQ]at h;cases h
 | succ f ih=>
  intro i out cur hn h1 h2 h;rw [cQ]at h;cases he:cE L (az L i) out cur with
  | error e=>rw [he]at h;cases h
  | ok q=>
   rw [he]at h;cases q with
   | none=>simp only at h;injection h with h;injection h with h h3;injection h with h4 h5;omega
   | some q=>
    obtain⟨⟨o,c⟩,k⟩:=q;simp only at h;by_cases h20:20<o.length
    ·rw [if_pos h20]at h;cases h
    rw [if_neg h20]at h;refine ih k o c (by omega) ?_ ?_ h <;>
    ·unfold cE at he;(repeat' (split at he));(all_goals first | (cases he;done) | (injection he with he;cases he;done) | (injection he with he;injection he with he;injection he with h3 h4;injection h3 with h5 h6;omega))
theorem zi {L:List Int} {i a0 a1:Nat} {e:Int × Nat} (h0:az L i=a0) (h1:a1=if pk L a0=94 then a0+1 else a0) (h:dZ L (decide (pk L a0=94)) a1=.error e):dU L i=.error e:=by unfold dU;rw [h0,← h1,h]
theorem zo {L:List Int} {i a0 a1 j:Nat} {b s:List aE} {c:Int} {e:Int × Nat} (h0:az L i=a0) (h1:a1=if pk L a0=94 then a0+1 else a0) (h:dZ L (decide (pk L a0=94)) a1=.ok ((b,s,c),j)) (ht:eJ L j=.error e):dU L i=.error e:=by unfold dU;rw [h0,← h1,h];simp only;rw [ht]
theorem Fk {L:List Int} {i a0 a1 j k:Nat} {b s a:List aE} {c:Int} {fin:Bool} (h0:az L i=a0) (h1:a1=if pk L a0=94 then a0+1 else a0) (h:dZ L (decide (pk L a0=94)) a1=.ok ((b,s,c),j)) (ht:eJ L j=.ok ((a,fin),k)):dU L i=.ok (⟨decide (pk L a0=94),fin,b,s,a,c⟩,az L k):=by unfold dU;rw [h0,← h1,h];simp only;rw [ht]
theorem Jw {L:List Int} {st:Bool} {a j:Nat} {l:List aE} {c:Int} (h:cJ L a=.ok ((l,c),j)) (h1:pk L j=123) (h2:0≤c):dZ L st a=.error (8,a):=by unfold dZ;rw [h];simp only;rw [if_pos h1,if_pos h2]
theorem Ft {L:List Int} {st:Bool} {a j:Nat} {l:List aE} {c:Int} {e:Int × Nat} (h:cJ L a=.ok ((l,c),j)) (h1:pk L j=123) (h2:¬ 0≤c) (h3:cJ L (j+1)=.error e):dZ L st a=.error e:=by unfold dZ;rw [h];simp only;rw [if_pos h1,if_neg h2,h3]
theorem Nx {L:List Int} {st:Bool} {a j k:Nat} {l l2:List aE} {c c2:Int} (h:cJ L a=.ok ((l,c),j)) (h1:pk L j=123) (h2:¬ 0≤c) (h3:cJ L (j+1)=.ok ((l2,c2),k)):dZ L st a=.ok ((l,l2,c2),k):=by unfold dZ;rw [h];simp only;rw [if_pos h1,if_neg h2,h3]
theorem IY {L:List Int} {a j:Nat} {l:List aE} {c:Int} (h:cJ L a=.ok ((l,c),j)) (h1:pk L j≠123):dZ L true a=.error (2,j):=by unfold dZ;rw [h];simp only;rw [if_neg h1];rfl
theorem NF {L:List Int} {a j:Nat} {l:List aE} {c:Int} (h:cJ L a=.ok ((l,c),j)) (h1:pk L j≠123):dZ L false a=.ok (([],l,c),j):=by unfold dZ;rw [h];simp only;rw [if_neg h1];rfl
theorem GK {L:List Int} {j:Nat} {e:Int × Nat} (h1:pk L j=125) (h:cJ L (j+1)=.error e):eJ L j=.error e:=by unfold eJ;rw [if_pos h1,h]
theorem Jj {L:List Int} {j k:Nat} {l:List aE} {c:Int} (h1:pk L j=125) (h:cJ L (j+1)=.ok ((l,c),k)):eJ L j=(if 0≤c then .error (8,j+1)else if pk L k=36 then .ok ((l,true),k+1)else .ok ((l,false),k)):=by unfold eJ;rw [if_pos h1,h]
theorem Pq {L:List Int} {j:Nat} (h1:pk L j≠125):eJ L j=.ok (([],false),j):=by unfold eJ;rw [if_neg h1]
theorem Mo (w:World) (C:Nat) (A:Option Addr) (n c:Nat) (L:List Int) (i:Nat) (h:ax w C A n c L i):xP w C A n c L ((w.alloc (.cells #[.bool false,.bool false,.slice none 0 0,.slice none 0 0,.slice none 0 0,.int .i64 0] 95)).alloc (.cells #[.bool false,.bool false,.slice none 0 0,.slice none 0 0,.slice none 0 0,.int .i64 (-1)] 95)) i #[.bool false,.bool false,.slice none 0 0,.slice none 0 0,.slice none 0 0,.int .i64 (-1)]:=by
 have hb:Below w.heap.size w ((w.alloc (.cells #[.bool false,.bool false,.slice none 0 0,.slice none 0 0,.slice none 0 0,.int .i64 0] 95)).alloc (.cells #[.bool false,.bool false,.slice none 0 0,.slice none 0 0,.slice none 0 0,.int .i64 (-1)] 95)):=((Below.refl _ _).alloc (Nat.le_refl _) _).alloc (by simp) _;refine⟨(iV.start h).below hb,bP.below C hb,?_,(ai.new w _ _).alloc _⟩;have:=ai.new (w.alloc (.cells #[.bool false,.bool false,.slice none 0 0,.slice none 0 0,.slice none 0 0,.int .i64 0] 95)) 95 #[.bool false,.bool false,.slice none 0 0,.slice none 0 0,.slice none 0 0,.int .i64 (-1)];simpa using this
theorem Pc {w wr:World} {C:Nat} {A:Option Addr} {n c:Nat} {L:List Int} {j:Nat} {cs:Array Value} (h:xP w C A n c L wr j cs) (v0 v1 v2 v3 v4 v5:Value) :
    ax ((((((wr.setCell ⟨w.heap.size,0,none⟩ v0).setCell ⟨w.heap.size,1,none⟩ v1).setCell ⟨w.heap.size,2,none⟩ v2).setCell ⟨w.heap.size,3,none⟩ v3).setCell ⟨w.heap.size,4,none⟩ v4).setCell ⟨w.heap.size,5,none⟩ v5) C A n c L j ∧
    bP w C ((((((wr.setCell ⟨w.heap.size,0,none⟩ v0).setCell ⟨w.heap.size,1,none⟩ v1).setCell ⟨w.heap.size,2,none⟩ v2).setCell ⟨w.heap.size,3,none⟩ v3).setCell ⟨w.heap.size,4,none⟩ v4).setCell ⟨w.heap.size,5,none⟩ v5) ∧
    ai ((((((wr.setCell ⟨w.heap.size,0,none⟩ v0).setCell ⟨w.heap.size,1,none⟩ v1).setCell ⟨w.heap.size,2,none⟩ v2).setCell ⟨w.heap.size,3,none⟩ v3).setCell ⟨w.heap.size,4,none⟩ v4).setCell ⟨w.heap.size,5,none⟩ v5) w.heap.size 95 #[v0,v1,v2,v3,v4,v5] ∧
    af wr (fun b=>w.heap.size+2≤b∧b≠C) ((((((wr.setCell ⟨w.heap.size,0,none⟩ v0).setCell ⟨w.heap.size,1,none⟩ v1).setCell ⟨w.heap.size,2,none⟩ v2).setCell ⟨w.heap.size,3,none⟩ v3).setCell ⟨w.heap.size,4,none⟩ v4).setCell ⟨w.heap.size,5,none⟩ v5) (fun b=>w.heap.size+2≤b∧b≠C):=by
 have hz:=h.but.1;have one:∀ (W:World) (k:Nat) (v:Value),Below w.heap.size wr W→w.heap.size≤W.heap.size→Below w.heap.size wr (W.setCell ⟨w.heap.size,k,none⟩ v):=fun W k v hb hs=>hb.trans ((bP.set W w.heap.size k v).to hs (Nat.le_refl _));have kp:∀ (W:World) (k:Nat) (v:Value),af W (fun b=>w.heap.size+2≤b∧b≠C) (W.setCell ⟨w.heap.size,k,none⟩ v) (fun b=>w.heap.size+2≤b∧b≠C):=fun W k v=>af.setCell v (fun b hb=>by have:=hb.1;show b≠w.heap.size;omega) (fun _ h _=>h);have b0:=one wr 0 v0 (Below.refl _ _) hz;have b1:=one _ 1 v1 b0 (by simpa using hz);have b2:=one _ 2 v2 b1 (by simpa using hz);have b3:=one _ 3 v3 b2 (by simpa using hz);have b4:=one _ 4 v4 b3 (by simpa using hz);have b5:=one _ 5 v5 b4 (by simpa using hz);have r0:=h.res.put 0 v0;have r1:=r0.put 1 v1;have r2:=r1.put 2 v2;have r3:=r2.put 3 v3;have r4:=r3.put 4 v4;have r5:=r4.put 5 v5;exact⟨(h.cur.below b5).cur,fD h.but b5,r5,(((((kp _ 0 v0).trans (kp _ 1 v1)).trans (kp _ 2 v2)).trans (kp _ 3 v3)).trans (kp _ 4 v4)).trans (kp _ 5 v5)⟩
theorem OU (w:World) (C:Nat) (A:Option Addr) (n c:Nat) (L:List Int) (i:Nat) (h:ax w C A n c L i) (hL:gl L) (hn:n≤100000) :
    Calls Tryz.prog 60 #[.pointer (some ⟨C,0,none⟩)] w (Sr w C A n c L (dU L i)):=by
 have hl:=h.len;have HL:=qqh hL;have iI:=qqh (fun(W:World) (m:Nat) (h:ax W C A n c L m)=>cW W C A n c L m h);have Q4:=qqh (fun(W:World) (m:Nat) (h:ax W C A n c L m)=>LD W C A n c L m h hL hn);have rI:=qqh (fun(W:World) (m:Nat) (h:ax W C A n c L m)=>jW W C A n c L m h);have hi:=h.le;have sY:=qqh (Mo w C A n c L i h);obtain⟨R,hR⟩:∃ R,dU L i=R:=⟨_,rfl⟩;rw [hR];obtain⟨a0,ha0⟩:∃ a0,az L i=a0:=⟨_,rfl⟩;have XX:=qqh ha0;have HR:=qqh hR;clear h hL hR ha0;go_enter Tryz.func60,Tryz.ntmps60;go_wp2_with fail;refine(rI.out _ i sY.out.cur.cur).mono ?_;rintro e w1 ⟨rfl,hc1,aW⟩;rw [XX.out]at hc1;have iU:=qqh (sY.out.step hc1 aW);clear hc1 aW;go_upto_if 14 with (go_at_call 34;refine(iI.out _ a0 iU.out.cur.cur).mono ?_;rintro e w2 ⟨rfl,hc2,bu⟩);have fm:=qqh (iU.out.step hc2 bu);clear hc2 bu;go_cut [] (fun wx=>∃ a1:Nat,a1=(if pk L a0=94 then a0+1 else a0)∧xP w C A n c L wx a1 #[.bool (decide (pk L a0=94)),.bool false,.slice none 0 0,.slice none 0 0,.slice none 0 0,.int .i64 (-1)]);case first=>
  by_cases pn:pk L a0=94
  ·obtain⟨d1,d2,d3,d4⟩:=fm.out.cur.cur.step (by rw [← hl];exact bD (by omega));have eV:=qqh (fm.out.step d3 d4);have z0:=eV.out.box.frozen 0;have z1:=eV.out.box.cell 0;have iK:=qqh (eV.out.put 0 (.bool true));have Va:IntKind.i64.wrap ((a0:Int)+1)=(a0:Int)+1:=wrap_small _ (by have:=fm.out.cur.cur.le;omega) (by have:=fm.out.cur.cur.le;omega);have H94:=qqh pn;rw [pn];clear d3 d4 pn;go_wp2_with fail;go_meet;refine⟨a0+1,by rw [if_pos H94.out],?_⟩;rw [show decide (pk L a0=94)=true from decide_eq_true H94.out];exact iK.out
  have q94:(pk L a0 == 94)=false:=(by rw [beq_eq_false_iff_ne];exact pn);go_wp2_with fail;go_meet;refine⟨a0,by rw [if_neg pn],?_⟩;rw [show decide (pk L a0=94)=false from decide_eq_false pn];exact fm.out
 obtain⟨a1,mI,hf⟩:=hcut;have qI:=qqh mI;have Ry:=qqh hf;have ahc:=hf.cur.cur.le;clear mI hf;obtain⟨st,hst⟩:∃ st,decide (pk L a0=94)=st:=⟨_,rfl⟩;have fB:=qqh hst;rw [hst]at Ry;have c1:=Ry.out.cur.cur.blk.cell 1;have Qn:=qqh (fun(e:Int × Nat) (he:dZ L st a1=.error e)=>show R=.error e from HR.out.symm.trans (zi XX.out qI.out (by rw [fB.out];exact he)));have HTE:=qqh (fun(b s:List aE) (c:Int) (j:Nat) (e:Int × Nat) (he:dZ L st a1=.ok ((b,s,c),j)) (ht:eJ L j=.error e)=>show R=.error e from HR.out.symm.trans (zo XX.out qI.out (by rw [fB.out];exact he) ht));have GH:=qqh (fun(b s a:List aE) (c:Int) (fin:Bool) (j k:Nat) (he:dZ L st a1=.ok ((b,s,c),j)) (ht:eJ L j=.ok ((a,fin),k))=>show R=.ok (⟨st,fin,b,s,a,c⟩,az L k) by have:=HR.out.symm.trans (Fk XX.out qI.out (by rw [fB.out];exact he) ht);rwa [fB.out]at this);clear hst;have YA:=qqh (Q4.out _ a1 Ry.out.cur.cur);cases hit:cJ L a1 with
 | error e0=>
  obtain⟨y,p⟩:=e0;have fc:=qqh (Qn.out (y,p) (by unfold dZ;rw [hit]));rw [hit]at YA;clear hit;go_wp2_with fail;refine YA.out.mono ?_;rintro e w3 ⟨he,bN⟩;unfold aY at he;subst he;have bL:=qqh (Ry.out.but.trans bN);clear bN;go_wp2_with fail;rw [fc.out];exact⟨rfl,rfl,bL.out⟩
 | ok q=>
  obtain⟨⟨l,cu⟩,j1⟩:=q;have Ur:=qqh hit;have G7:=qP _ _ _ _ (Nat.zero_le _) (by decide) (by decide) (show cQ L (L.length+1) a1 [] (-1)=.ok ((l,cu),j1) from hit);rw [hit]at YA;clear hit;go_wp2_with fail;refine YA.out.mono ?_;rintro e w3 ⟨⟨v,rfl,hown,h20⟩,lU,bN⟩;have eV:=qqh (Ry.out.step lU bN);have UO:=Ry.out.box.lt;have X7:=qqh (dc.of (WJ:=w.heap.size+2) hown h20 UO (by have:=Ry.out.cur.lt;omega));obtain⟨Av,nv,cv,rfl,_⟩:=X7.out.form;clear hown lU bN c1;go_upto_if 39 with (go_at_call 34;refine(iI.out _ j1 eV.out.cur.cur).mono ?_;rintro e w4 ⟨rfl,mP,hb4⟩);have iK:=qqh (eV.out.step mP hb4);have NS:=qqh (X7.out.step hb4);clear mP hb4;have x0:w4.cell? ⟨w.heap.size+1,0,none⟩=some (.bool st):=iK.out.box.cell 0;go_cut [5,6] (fun v5 v6 wx=>∃ (b s:List aE) (cc:Int) (j:Nat) (ub:Value),dZ L st a1=.ok ((b,s,cc),j) ∧ -1≤cc∧cc≤20∧v6=.int .i64 cc∧dc wx (fun b=>w.heap.size+2≤b∧b≠C) v5 s∧dc wx (fun b=>w.heap.size+2≤b∧b≠C) ub b∧xP w C A n c L wx j #[.bool st,.bool false,ub,.slice none 0 0,.slice none 0 0,.int .i64 (-1)]);case first=>
   by_cases sH:pk L j1=123
   ·have hlt:j1<n:=(by rw [← hl];exact bD (by omega));have XM:=qqh sH;rw [sH];by_cases hc:0≤cu
    ·have fc:=qqh (Qn.out (8,a1) (Jw Ur.out sH hc));have hg:decide ((0:Int)≤cu)=true:=decide_eq_true hc;clear sH;go_wp2_with fail;refine(ck 8 a1 _).mono ?_;rintro e w5 ⟨rfl,rfl⟩;go_wp2_with fail;rw [fc.out];exact⟨rfl,rfl,iK.out.but⟩
    have hg:decide ((0:Int)≤cu)=false:=decide_eq_false hc;obtain⟨d1,d2,d3,d4⟩:=iK.out.cur.cur.step hlt;have kZ:=qqh (iK.out.step d3 d4);have Tr:=qqh (NS.out.step d4);have Va:IntKind.i64.wrap ((j1:Int)+1)=(j1:Int)+1:=wrap_small _ (by omega) (by omega);have z2:=kZ.out.box.frozen 2;have y2:=kZ.out.box.cell 2;have tN:=qqh (kZ.out.put 2 (.slice Av nv cv));have VT:=qqh (Tr.out.put (k:=2) (x:=.slice Av nv cv));have Yr:=qqh (Q4.out _ (j1+1) tN.out.cur.cur);clear d3 d4 sH x0;cases rF:cJ L (j1+1)with
    | error e0=>
     obtain⟨y,p⟩:=e0;have fc:=qqh (Qn.out (y,p) (Ft Ur.out XM.out hc rF));rw [rF]at Yr;clear rF;go_wp2_with fail;refine Yr.out.mono ?_;rintro e w7 ⟨he,gH⟩;unfold aY at he;subst he;have od:=qqh (tN.out.but.trans gH);clear gH;go_wp2_with fail;rw [fc.out];exact⟨rfl,rfl,od.out⟩
    | ok q=>
     obtain⟨⟨l2,c2⟩,j2⟩:=q;have KC:=qqh (show dZ L st a1=.ok ((l,l2,c2),j2) from Nx Ur.out XM.out hc rF);have hc2:=qP _ _ _ _ (Nat.zero_le _) (by decide) (by decide) (show cQ L (L.length+1) (j1+1) [] (-1)=.ok ((l2,c2),j2) from rF);rw [rF]at Yr;clear rF;go_wp2_with fail;refine Yr.out.mono ?_;rintro e w7 ⟨⟨v7,rfl,Qa,h27⟩,sI,gH⟩;have vR:=qqh (tN.out.step sI gH);have HV7:=qqh (VT.out.step gH);have hz6:=tN.out.box.lt;have YB:=qqh (dc.of (WJ:=w.heap.size+2) Qa h27 hz6 (by have:=tN.out.cur.lt;have:=tN.out.but.1;omega));obtain⟨A7,n7,c7,rfl,_⟩:=YB.out.form;clear Qa sI gH;go_wp2_with fail;go_meet;exact⟨l,l2,c2,j2,_,KC.out,hc2.1,hc2.2,rfl,YB.out,HV7.out,vR.out⟩
   have aeX:(pk L j1 == 123)=false:=(by rw [beq_eq_false_iff_ne];exact sH);cases st with
   | true=>
    have fc:=qqh (Qn.out (2,j1) (IY Ur.out sH));have y1:=iK.out.cur.cur.blk.cell 1;go_wp2_with fail;refine(ck 2 j1 _).mono ?_;rintro e w5 ⟨rfl,rfl⟩;go_wp2_with fail;rw [fc.out];exact⟨rfl,rfl,iK.out.but⟩
   | false=>
    have KC:=qqh (show dZ L false a1=.ok (([],l,cu),j1) from NF Ur.out sH);go_wp2_with fail;go_meet;exact⟨[],l,cu,j1,_,KC.out,G7.1,G7.2,rfl,NS.out,dc.nil _ _,iK.out⟩
  obtain⟨b,ss,cc,j,ub,hhd,hc0,hc1,rfl,Hl,TU,hf⟩:=hcut;obtain⟨As,ns,cs,rfl,_⟩:=Hl.form;have PV:=qqh hhd;have z3:=hf.box.frozen 3;have z5:=hf.box.frozen 5;have y3:=hf.box.cell 3;have y5:=hf.box.cell 5;have kZ:=qqh ((hf.put 3 (.slice As ns cs)).put 5 (.int .i64 cc));have MO:=qqh ((Hl.put (k:=3) (x:=.slice As ns cs)).put (k:=5) (x:=.int .i64 cc));have YM:=qqh ((TU.put (k:=3) (x:=.slice As ns cs)).put (k:=5) (x:=.int .i64 cc));clear Hl TU hf hhd x0;go_upto_if 76 with (go_at_call 34;refine(iI.out _ j kZ.out.cur.cur).mono ?_;rintro e w6 ⟨rfl,En,fu⟩);have tN:=qqh (kZ.out.step En fu);have TE:=qqh (MO.out.step fu);have HU6:=qqh (YM.out.step fu);clear En fu z3 z5 y3 y5;go_cut [] (fun wx=>∃ (a:List aE) (fin:Bool) (k:Nat) (ua:Value),eJ L j=.ok ((a,fin),k)∧dc wx (fun b=>w.heap.size+2≤b∧b≠C) ua a∧dc wx (fun b=>w.heap.size+2≤b∧b≠C) (.slice As ns cs) ss∧dc wx (fun b=>w.heap.size+2≤b∧b≠C) ub b∧xP w C A n c L wx k #[.bool st,.bool fin,ub,.slice As ns cs,ua,.int .i64 cc]);case first=>
   by_cases xH:pk L j=125
   ·have hlt:j<n:=(by rw [← hl];exact bD (by omega));have XH:=qqh xH;rw [xH];obtain⟨d1,d2,d3,d4⟩:=tN.out.cur.cur.step hlt;have vR:=qqh (tN.out.step d3 d4);have HS7:=qqh (TE.out.step d4);have YB:=qqh (HU6.out.step d4);have Va:IntKind.i64.wrap ((j:Int)+1)=(j:Int)+1:=wrap_small _ (by omega) (by omega);have TG:=qqh (Q4.out _ (j+1) vR.out.cur.cur);have yc:=vR.out.cur.cur.blk.cell 1;clear d3 d4 xH;cases zQ:cJ L (j+1)with
    | error e0=>
     obtain⟨y,p⟩:=e0;have fc:=qqh (HTE.out b ss cc j (y,p) PV.out (GK XH.out zQ));rw [zQ]at TG;clear zQ;go_wp2_with fail;refine TG.out.mono ?_;rintro e w8 ⟨he,gh⟩;unfold aY at he;subst he;have wD:=qqh (vR.out.but.trans gh);clear gh;go_wp2_with fail;rw [fc.out];exact⟨rfl,rfl,wD.out⟩
    | ok q=>
     obtain⟨⟨l3,c3⟩,k⟩:=q;have vu:=qqh (show eJ L j=(if 0≤c3 then .error (8,j+1)else if pk L k=36 then .ok ((l3,true),k+1)else .ok ((l3,false),k)) from Jj XH.out zQ);rw [zQ]at TG;clear zQ;go_wp2_with fail;refine TG.out.mono ?_;rintro e w8 ⟨⟨v8,rfl,gJ,h28⟩,Hu,gh⟩;have vI:=qqh (vR.out.step Hu gh);have T5:=qqh (HS7.out.step gh);have TQ:=qqh (YB.out.step gh);have WK:=vR.out.box.lt;have HT8:=qqh (dc.of (WJ:=w.heap.size+2) gJ h28 WK (by have:=vR.out.cur.lt;have:=vR.out.but.1;omega));obtain⟨A8,n8,c8,rfl,_⟩:=HT8.out.form;have z4:=vI.out.box.frozen 4;have y4:=vI.out.box.cell 4;have og:=qqh (vI.out.put 4 (.slice A8 n8 c8));have HS9:=qqh (T5.out.put (k:=4) (x:=.slice A8 n8 c8));have HU9:=qqh (TQ.out.put (k:=4) (x:=.slice A8 n8 c8));have HT9:=qqh (HT8.out.put (k:=4) (x:=.slice A8 n8 c8));clear gJ Hu gh;by_cases hc:0≤c3
     ·have fc:=qqh (HTE.out b ss cc j (8,j+1) PV.out (by rw [vu.out,if_pos hc]));have hg:decide ((0:Int)≤c3)=true:=decide_eq_true hc;have HJ1:=qqh (show((j+1:Nat):Int)=(j:Int)+1 by omega);go_wp2_with fail;refine(ck 8 ((j:Int)+1) _).mono ?_;rintro e w9 ⟨rfl,rfl⟩;go_wp2_with fail;rw [fc.out];exact⟨rfl,rfl,og.out.but⟩
     have hg:decide ((0:Int)≤c3)=false:=decide_eq_false hc;go_wp2_with fail;refine(iI.out _ k og.out.cur.cur).mono ?_;rintro e w9 ⟨rfl,FE,bR⟩;have xb:=qqh (og.out.step FE bR);have WB:=qqh (HS9.out.step bR);have Uo:=qqh (HU9.out.step bR);have UG:=qqh (HT9.out.step bR);clear FE bR;by_cases lX:pk L k=36
     ·have abc:k<n:=(by rw [← hl];exact bD (by omega));have Qq:=qqh (show eJ L j=.ok ((l3,true),k+1) by rw [vu.out,if_neg (by omega),if_pos lX]);rw [lX];obtain⟨d1,d2,d3,d4⟩:=xb.out.cur.cur.step abc;have JY:=qqh (xb.out.step d3 d4);have acC:=qqh (WB.out.step d4);have acD:=qqh (Uo.out.step d4);have abu:=qqh (UG.out.step d4);have hwk:IntKind.i64.wrap ((k:Int)+1)=(k:Int)+1:=wrap_small _ (by omega) (by omega);have z1:=JY.out.box.frozen 1;have y1:=JY.out.box.cell 1;have abB:=qqh (JY.out.put 1 (.bool true));have aaB:=qqh (acC.out.put (k:=1) (x:=.bool true));have abp:=qqh (acD.out.put (k:=1) (x:=.bool true));have acu:=qqh (abu.out.put (k:=1) (x:=.bool true));clear d3 d4 lX z4 y4;go_wp2_with fail;go_meet;exact⟨l3,true,k+1,_,Qq.out,acu.out,aaB.out,abp.out,abB.out⟩
     have q36:(pk L k == 36)=false:=(by rw [beq_eq_false_iff_ne];exact lX);have Qq:=qqh (show eJ L j=.ok ((l3,false),k) by rw [vu.out,if_neg (by omega),if_neg lX]);go_wp2_with fail;go_meet;exact⟨l3,false,k,_,Qq.out,UG.out,WB.out,Uo.out,xb.out⟩
   have ago:(pk L j == 125)=false:=(by rw [beq_eq_false_iff_ne];exact xH);have Qq:=qqh (show eJ L j=.ok (([],false),j) from Pq xH);go_wp2_with fail;go_meet;exact⟨[],false,j,_,Qq.out,dc.nil _ _,TE.out,HU6.out,tN.out⟩
  obtain⟨a,fin,k,ua,htl,hua,Hl,TU,hf⟩:=hcut;obtain⟨Aa,na,ca,rfl,_⟩:=hua.form;obtain⟨Ab,nb,cb,rfl,_⟩:=TU.form;have fc:=qqh (GH.out b ss a cc fin j k PV.out htl);have Sg:=qqh hf;have Um:=qqh hua;have Vi:=qqh Hl;have UE:=qqh TU;clear hua Hl TU hf htl;go_wp2_with fail;refine(rI.out _ k Sg.out.cur.cur).mono ?_;rintro e w14 ⟨rfl,Xk,Nn⟩;have mW:=Sg.out.step Xk Nn;have aan:=qqh (Um.out.step Nn);have aaZ:=qqh (Vi.out.step Nn);have aa3:=qqh (UE.out.step Nn);have y0:=mW.box.cell 0;have y1:=mW.box.cell 1;have y2:=mW.box.cell 2;have y3:=mW.box.cell 3;have y4:=mW.box.cell 4;have y5:=mW.box.cell 5;have x0:=mW.res.cell 0;have x1:=mW.res.cell 1;have x2:=mW.res.cell 2;have x3:=mW.res.cell 3;have x4:=mW.res.cell 4;have x5:=mW.res.cell 5;have z0:=mW.res.frozen 0;have z1:=mW.res.frozen 1;have z2:=mW.res.frozen 2;have z3:=mW.res.frozen 3;have z4:=mW.res.frozen 4;have z5:=mW.res.frozen 5;obtain⟨e1,e2,e3,e4⟩:=Pc mW (.bool st) (.bool fin) (.slice Ab nb cb) (.slice As ns cs) (.slice Aa na ca) (.int .i64 cc);have zc:=qqh e1;have xU:=qqh e2;have HE3:=qqh e3;have LB:=qqh e4;clear e1 e2 e3 e4 Xk Nn mW;go_wp2_with fail;clear x0 x1 x2 x3 x4 x5 y0 y1 y2 y3 y4 y5 z0 z1 z2 z3 z4 z5 Sg Um Vi UE;generalize ((((((w14.setCell ⟨w.heap.size,0,none⟩ (.bool st)).setCell ⟨w.heap.size,1,none⟩ (.bool fin)).setCell ⟨w.heap.size,2,none⟩ (.slice Ab nb cb)).setCell ⟨w.heap.size,3,none⟩ (.slice As ns cs)).setCell ⟨w.heap.size,4,none⟩ (.slice Aa na ca)).setCell ⟨w.heap.size,5,none⟩ (.int .i64 cc))=W6 at *;have hbk:=HE3.out;have r0:W6.cell? ⟨w.heap.size,0,none⟩=some (.bool st):=hbk.cell 0;have r1:W6.cell? ⟨w.heap.size,1,none⟩=some (.bool fin):=hbk.cell 1;have r2:W6.cell? ⟨w.heap.size,2,none⟩=some (.slice Ab nb cb):=hbk.cell 2
  have r3:W6.cell? ⟨w.heap.size,3,none⟩=some (.slice As ns cs):=hbk.cell 3;have r4:W6.cell? ⟨w.heap.size,4,none⟩=some (.slice Aa na ca):=hbk.cell 4;have r5:W6.cell? ⟨w.heap.size,5,none⟩=some (.int .i64 cc):=hbk.cell 5;clear hbk;refine bodyPost_ret (v:=.agg #[.bool st,.bool fin,.slice Ab nb cb,.slice As ns cs,.slice Aa na ca,.int .i64 cc]) (by simp [results,Tryz.results60,go_sem,r0,r1,r2,r3,r4,r5]) rfl ?_;rw [fc.out];exact⟨⟨_,_,_,rfl,aa3.out.keep LB.out,aaZ.out.keep LB.out,aan.out.keep LB.out⟩,zc.out,xU.out⟩
theorem Bk {w:World} {R F m:Nat} {v:Value} {x p:Int} {tR tF:TypeId} (hR:ai w R tR #[v]) (hF:ai w F tF #[.int .i64 x,.int .i64 p]) (hne:R≠F) :
    ai ((((w.drewN m).setCell ⟨R,0,none⟩ v).setCell ⟨F,0,none⟩ (.int .i64 x)).setCell ⟨F,1,none⟩ (.int .i64 p)) R tR #[v]∧ai ((((w.drewN m).setCell ⟨R,0,none⟩ v).setCell ⟨F,0,none⟩ (.int .i64 x)).setCell ⟨F,1,none⟩ (.int .i64 p)) F tF #[.int .i64 x,.int .i64 p] ∧
      ∀ B,B≤R→B≤F→B≤w.heap.size→Below B w ((((w.drewN m).setCell ⟨R,0,none⟩ v).setCell ⟨F,0,none⟩ (.int .i64 x)).setCell ⟨F,1,none⟩ (.int .i64 p)) ∧
        af w (fun b=>b≠R∧b≠F) ((((w.drewN m).setCell ⟨R,0,none⟩ v).setCell ⟨F,0,none⟩ (.int .i64 x)).setCell ⟨F,1,none⟩ (.int .i64 p)) (fun b=>b≠R∧b≠F):=by
 have h1:ai ((w.drewN m).setCell ⟨R,0,none⟩ v) R tR #[v]:=(hR.drewN m).put 0 v;have b1:=bP.set (w.drewN m) R 0 v;have g1:ai ((w.drewN m).setCell ⟨R,0,none⟩ v) F tF #[.int .i64 x,.int .i64 p]:=(b1.2.2.2.2 F (hF.drewN m).lt (Ne.symm hne)).trans (hF.drewN m);have b2:=bP.set ((w.drewN m).setCell ⟨R,0,none⟩ v) F 0 (.int .i64 x);have g2:ai (((w.drewN m).setCell ⟨R,0,none⟩ v).setCell ⟨F,0,none⟩ (.int .i64 x)) F tF #[.int .i64 x,.int .i64 p]:=g1.put 0 _;have h2:ai (((w.drewN m).setCell ⟨R,0,none⟩ v).setCell ⟨F,0,none⟩ (.int .i64 x)) R tR #[v]:=(b2.2.2.2.2 R h1.lt hne).trans h1;have b3:=bP.set (((w.drewN m).setCell ⟨R,0,none⟩ v).setCell ⟨F,0,none⟩ (.int .i64 x)) F 1 (.int .i64 p);refine⟨(b3.2.2.2.2 R h2.lt hne).trans h2,g2.put 1 _,fun B hR hF hw=>⟨?_,?_⟩⟩;exact((below_drewN (Below.refl B w) m).trans (b1.to (show B≤(w.drewN m).heap.size from hw) hR)).trans ((b2.to (Nat.le_trans hw b1.1) hF).trans (b3.to (Nat.le_trans (Nat.le_trans hw b1.1) b2.1) hF));exact(((af.below (below_drewN (Below.refl _ w) m) (fun b h _=>h)).trans (b1.keeps (X':=fun b=>b≠R∧b≠F) (fun b h=>h.1) (fun b h _=>h))).trans (b2.keeps (X':=fun b=>b≠R∧b≠F) (fun b h=>h.2) (fun b h _=>h))).trans (b3.keeps (fun b h=>h.2) (fun b h _=>h))
def gO {α:Type} (r:kS α):Prop:=∀ e p,r=.error (e,p)→e≠0
theorem ig {L:List Int} {i:Nat} {r:Int} {e:Int} {p:Nat} (h:aU L i r=.error (e,p)):e≠0:=by
 unfold aU at h;split at h
 ·cases h
 injection h with h;injection h with h1 h2;omega
theorem M1 (L:List Int) (i:Nat):gO (lN L i):=by
 intro e p h;unfold lN at h;cases h1:aU L (i+1) 123 with
 | error x=>obtain⟨x1,x2⟩:=x;rw [h1]at h;simp only at h;injection h with h;injection h with h3 h4;subst h3;exact ig h1
 | ok a=>
  rw [h1]at h;simp only at h;split at h
  ·injection h with h;injection h with h1 h2;omega
  cases h2:aU L (aB fe L a) 125 with
  | error x=>obtain⟨x1,x2⟩:=x;rw [h2]at h;simp only at h;injection h with h;injection h with h3 h4;subst h3;exact ig h2
  | ok k=>
   rw [h2]at h;simp only at h;split at h
   ·injection h with h;injection h with h1 h2;omega
   cases h
theorem tP (L:List Int) (i:Nat):gO (dh L i):=by
 intro e p h;unfold dh at h;(repeat' (split at h));(any_goals (cases h;done));(any_goals (injection h with h;injection h with h1 h2;omega));exact M1 _ _ _ _ h
theorem JR (L:List Int) (i:Nat):gO (jT L i):=by
 intro e p h;unfold jT at h;cases h1:dh L i with
 | error x=>obtain⟨x1,x2⟩:=x;rw [h1]at h;simp only at h;injection h with h;injection h with h3 h4;subst h3;exact tP _ _ _ _ h1
 | ok q=>
  obtain⟨a,j⟩:=q;rw [h1]at h;simp only at h;split at h
  ·cases h2:dh L (j+1)with
   | error x=>obtain⟨x1,x2⟩:=x;rw [h2]at h;simp only at h;injection h with h;injection h with h3 h4;subst h3;exact tP _ _ _ _ h2
   | ok q=>
    obtain⟨b,k⟩:=q;rw [h2]at h;simp only at h;split at h
    ·injection h with h;injection h with h1 h2;omega
    cases h
  cases h
theorem Gp (L:List Int) (i:Nat):gO (fk L i):=by
 intro e p h;unfold fk at h;split at h
 ·injection h with h;injection h with h1 h2;omega
 split at h
 ·rename_i h1;cases h;exact ig h1
 split at h
 ·rename_i h1;cases h;exact ig h1
 cases h
theorem JE {inner:Nat→kS ag} (hi:∀ i,gO (inner i)) (L:List Int) (i:Nat):gO (dI inner L i):=by
 intro e p h;unfold dI at h;split at h;exact Gp _ _ _ _ h;split at h;exact hi _ _ _ h;split at h;exact hi _ _ _ h;split at h
 ·rename_i h1;cases h;exact JR _ _ _ _ h1
 cases h
theorem Gm {inner:Nat→kS ag} (hi:∀ i,gO (inner i)) (L:List Int):∀ f i s,gO (ei inner L f i s):=by
 intro f;induction f with
 | zero=>intro i s e p h;unfold ei at h;injection h with h;injection h with h1 h2;omega
 | succ f ih=>
  intro i s e p h;rw [ei]at h;split at h
  ·cases h
  split at h
  ·rename_i h1;cases h;exact JE hi _ _ _ _ h1
  split at h
  ·rename_i h1;injection h with h;injection h with h2 h3;subst h2;exact h1
  exact ih _ _ _ _ h
theorem xw (L:List Int):∀ n i,gO (bI L n i):=by
 intro n;induction n with
 | zero=>intro i e p h;unfold bI at h;injection h with h;injection h with h1 h2;split at h1 <;> omega
 | succ n ih=>
  intro i e p h;rw [bI]at h;split at h
  ·rename_i h1;cases h;exact ig h1
  split at h
  ·rename_i h1;cases h;exact Gm ih _ _ _ _ _ _ h1
  split at h
  ·split at h
   ·rename_i h1;injection h with h;injection h with h2 h3;subst h2;exact h1
   cases h
  cases h
end Go.Proofs.YthgkedoildcbcaaGreatDoor
