import Derived.Test.YtamkjeipdjbemaaGreatDoorZp38
import Derived.BigRegion
set_option maxHeartbeats 12800000
set_option maxRecDepth 100000
namespace Go.Proofs.YtamkjeipdjbemaaGreatDoor
open Go.RowKit
def yZ:Nat→List cz→List Int→List Int × (Int × Int)
  | _,[],l=>(l,(0,0))
  | k,p::ps,l=>if (iI p l).2≠0 then ([],((iI p l).2,(k:Int)))else yZ (k+1) ps (iI p l).1
theorem EE:∀ (ps:List cz) (k:Nat) (l:List Int),(∀ p∈ps,dr p=0)→yZ k ps l=allI k ps l:=by
 intro ps;induction ps with
 | nil=>intro k l _;rfl
 | cons p ps ih=>
  intro k l h;rw [yZ,allI,tf (h p (by simp)),ih _ _ (fun q hq=>h q (by simp [hq]))]
theorem Ek:∀ (l:List cz) (k:Nat),(cM k l).1=0→∀ p∈l,dr p=0:=by
 intro l;induction l with
 | nil=>intro k _ p hp;cases hp
 | cons q l ih=>
  intro k h p hp;rw [cM]at h;by_cases hq:dr q=0
  ·rw [if_neg (fun e=>e hq)]at h;rcases List.mem_cons.1 hp with rfl | hp;exact hq;exact ih _ h p hp
  rw [if_pos hq]at h;exact absurd h hq
theorem zC {s:aR} (h:(bu s).1=0):∀ p∈s.passes,dr p=0:=by
 unfold bu at h;split at h
 ·rename_i h2;exact absurd h h2.2
 split at h
 ·cases h
 exact Ek _ _ h
def pX (s:aR):List Pc→List Int→List Int × (Int × Int)
  | [],out=>(out,(0,0))
  | p::ps,out=>if p.2=true then (if (yZ 0 s.passes p.1).2.1≠0 then ([],(yZ 0 s.passes p.1).2)else pX s ps (out++(yZ 0 s.passes p.1).1))else pX s ps (out++p.1)
def rV (s:aR) (t:List Int):List Int × (Int × Int) :=
  if (bu s).1≠0 then ([],bu s)else if cW t≠0 then ([],(cW t,0))else if (pX s (gO s t) []).2.1≠0 then ([],(pX s (gO s t) []).2)else if 4000<(pX s (gO s t) []).1.length then ([],(4,(s.passes.length:Int)))else ((pX s (gO s t) []).1,(0,0))
theorem GY (s:aR) (a:List Pc) (p:Pc) (x:Int):dS s (a++[p]) x=a++dS s [p] x:=by
 have h1:kj (a++[p])=kj [p]:=(by rw [lW];rfl);unfold dS;rw [h1];by_cases h:gJ s x=true∧kj [p] = true
 ·rw [if_pos h,if_pos h,zR];rfl
 rw [if_neg h,if_neg h,List.append_assoc]
theorem GV (s:aR) (p:Pc) (x:Int):(∃ q,dS s [p] x = [q])∨∃ q,dS s [p] x = [p,q]:=by
 unfold dS;by_cases h:gJ s x=true∧kj [p] = true;exact .inl ⟨_,if_pos h⟩;exact .inr ⟨_,if_neg h⟩
theorem zA (s:aR):∀ (t:List Int) (a:List Pc) (p:Pc),t.foldl (dS s) (a++[p])=a++t.foldl (dS s) [p]:=by
 intro t;induction t with
 | nil=>intro a p;rfl
 | cons x t ih=>
  intro a p;rw [List.foldl_cons,List.foldl_cons,GY];rcases GV s p x with ⟨q,h⟩ | ⟨q,h⟩
  ·rw [h];exact ih a q
  rw [h,show a++[p,q] =(a++[p])++[q] by simp,ih,show([p,q]:List Pc) = [p]++[q] from rfl,ih];simp
theorem go_pieces {s:aR} (hok:∀ p∈s.passes,dr p=0):∀ (t:List Int),
    (∀ pc out,pc ≠ []→pX s (t.foldl (dS s) [(pc,true)]) out=mD s t pc out)∧(∀ out,pX s (t.foldl (dS s) []) out=mD s t [] out)∧∀ pc out,pX s (t.foldl (dS s) [(pc,false)]) out=mD s t [] (out++pc):=by
 intro t;induction t with
 | nil=>
  refine⟨fun pc out hp=>?_,fun out=>?_,fun pc out=>?_⟩
  ·rw [List.foldl_nil,pX,if_pos rfl,EE _ _ _ hok,mD,gW,if_neg hp];rfl
  ·rw [List.foldl_nil,pX,mD,kK]
  rw [List.foldl_nil,pX,if_neg (by simp),pX,mD,kK]
 | cons x t ih=>
  obtain⟨ih1,ih2,ih3⟩:=ih;have key:∀ out,pX s (t.foldl (dS s) [([x],gJ s x)]) out=mD s (x::t) [] out:=by
   intro out;cases hm:gJ s x
   ·rw [ih3,vu hm (kK s out)]
   rw [ih1 _ _ (by simp),BO hm];rfl
  refine⟨fun pc out hp=>?_,fun out=>?_,fun pc out=>?_⟩
  ·rw [List.foldl_cons];cases hm:gJ s x
   ·rw [iX hm (fun h=>by cases h.1),zA,show([(pc,true)]++t.foldl (dS s) [([x],false)]:List Pc)=(pc,true)::t.foldl (dS s) [([x],false)] from rfl,pX,if_pos rfl,EE _ _ _ hok];by_cases he:(allI 0 s.passes pc).2.1≠0
    ·rw [if_pos he];have hf:gW s pc out=([],(allI 0 s.passes pc).2):=(by rw [gW,if_neg hp,if_pos he]);rw [mD,if_neg (by rw [hm];decide),hf,if_pos he]
    rw [if_neg he];have hf:gW s pc out=(out++(allI 0 s.passes pc).1,(0,0)):=(by rw [gW,if_neg hp,if_neg he]);rw [ih3,vu hm hf]
   rw [show([(pc,true)]:List Pc) = []++[(pc,true)] from rfl,tE hm];rw [show([]++[(pc++[x],true)]:List Pc) = [(pc++[x],true)] from rfl,ih1 _ _ (by simp),BO hm]
  ·rw [List.foldl_cons,show dS s [] x = [([x],gJ s x)] from iX rfl (fun h=>by have:=h.2;simp [kj]at this)];exact key out
  rw [List.foldl_cons,iX (s:=s) (a:=[(pc,false)]) rfl (fun h=>by have:=h.2;simp [kj]at this),zA,show([(pc,false)]++t.foldl (dS s) [([x],gJ s x)]:List Pc)=(pc,false)::t.foldl (dS s) [([x],gJ s x)] from rfl,pX,if_neg (by simp)];exact key (out++pc)
theorem xk (s:aR) (t:List Int):rV s t=KL s t:=by
 unfold rV KL;by_cases h:(bu s).1=0
 ·rw [show pX s (gO s t) [] = mD s t [] [] from(go_pieces (zC h) t).2.1 []]
 rw [if_pos h,if_pos h]
theorem go_small (s:aR) (t:List Int):(KL s t).1.length≤4000:=by
 unfold KL;split;exact Nat.zero_le _;split;exact Nat.zero_le _;split;exact Nat.zero_le _;split;exact Nat.zero_le _;rename_i h;simp only;omega
def Wj (w4:World) (s:aR) (acc:List Pc) (m:Nat) (LV i:Value) (wr:World):Prop :=
  ∃ (k no:Nat) (out:List Int),k≤m∧i=.int .i64 k∧no≤4000*k∧out.length=no∧wr.ownsRow w4.heap.size 21 1 LV no (runeCells out)∧pX s acc [] = pX s (acc.drop k) out∧Below w4.heap.size w4 wr
def Ws (w1:World) (s:aR) (pc:List Int) (n2:Nat) (s12 i:Value) (wr:World):Prop :=
  ∃ (k n c:Nat) (A:Option Addr) (l':List Int),k≤n2∧i=.int .i64 k∧s12=.slice A n c∧mg wr wr.heap.size A n l'∧l'.length≤4000∧yZ 0 s.passes pc=yZ k (s.passes.drop k) l'∧Below w1.heap.size w1 wr
theorem Lu (X:Nat→Prop) (s:aR) (t:List Int) (A1 A2 At:Option Addr) (n1 c1 n2 c2 nt ct:Nat) (w:World) (hs:fU w X s A1 n1 A2 n2) (hnt:nt≤maxLen) (ht:mg w w.heap.size At nt t) :
    Calls Tryz.prog 8 #[.agg #[.bool s.only?,.slice A1 n1 c1,.slice A2 n2 c2],.slice At nt ct] w fun e w'=>AM w.heap.size w' (rV s t) e∧Below w.heap.size w w':=by
 obtain⟨i0,hi,z0,z1,z2⟩:=info_parts Tryz.info21;have htl:=ht.len;have hb0:=((Below.refl w.heap.size w).alloc qql (.cells #[.bool s.only?,.slice A1 n1 c1,.slice A2 n2 c2] 29)).alloc (by simp) (.cells #[.int .i64 0,.int .i64 0] 34);have pN:=qqh (an.alloc (an.new w 29 #[.bool s.only?,.slice A1 n1 c1,.slice A2 n2 c2]) (.cells #[.int .i64 0,.int .i64 0] 34));have B6:=qqh (show an ((w.alloc (.cells #[.bool s.only?,.slice A1 n1 c1,.slice A2 n2 c2] 29)).alloc (.cells #[.int .i64 0,.int .i64 0] 34)) (w.heap.size+1) 34 #[.int .i64 0,.int .i64 0] by
  have:=an.new (w.alloc (.cells #[.bool s.only?,.slice A1 n1 c1,.slice A2 n2 c2] 29)) 34 #[.int .i64 0,.int .i64 0];simpa using this)
 have cy:=qqh hb0;have KY:=qqh (fun(W:World) (hb:Below w.heap.size w W)=>show fU W X s A1 n1 A2 n2 from hs.keep (aa.any hb));have sK:=qqh (fun(W:World) (hb:Below w.heap.size w W)=>show mg W W.heap.size At nt t from(Rd.below ht hb).more hb.size);have j6:=qqh (show s.passes.length=n2 from hs.pas.len);have hm2:=hs.m2;simp only [maxLen]at hm2;clear hb0 hs ht;go_enter Tryz.func8,Tryz.ntmps8;go_upto_region 1 with fail;generalize (w.alloc (.cells #[.bool s.only?,.slice A1 n1 c1,.slice A2 n2 c2] 29)).alloc (.cells #[.int .i64 0,.int .i64 0] 34)=W0 at *;have HW:=qqh (Dd X s A1 A2 n1 c1 n2 c2 W0 (KY.out W0 cy.out));have x0:W0.cell? ⟨w.heap.size,0,none⟩=some (.bool s.only?):=pN.out.cell 0;have x1:W0.cell? ⟨w.heap.size,1,none⟩=some (.slice A1 n1 c1):=pN.out.cell 1;have x2:W0.cell? ⟨w.heap.size,2,none⟩=some (.slice A2 n2 c2):=pN.out.cell 2;go_wp2_with fail;refine HW.out.mono ?_;rintro e w1 ⟨rfl,aP⟩;have sL:=qqh (an.below pN.out aP pN.out.lt);have vY:=qqh (an.below B6.out aP B6.out.lt);have bF:=qqh (cy.out.trans (aP.mono cy.out.size));clear aP HW pN B6 cy x0 x1 x2;obtain⟨r1,r2,hR⟩:∃ r1 r2,bu s=(r1,r2):=⟨_,_,rfl⟩;have sN:=qqh (fun(h:r1=0)=>zC (s:=s) (by rw [hR];exact h));have Pe:=qqh (show rV s t=if r1≠0 then ([],(r1,r2))else if cW t≠0 then ([],(cW t,0))else if (pX s (gO s t) []).2.1≠0 then ([],(pX s (gO s t) []).2)else if 4000<(pX s (gO s t) []).1.length then ([],(4,(s.passes.length:Int)))else ((pX s (gO s t) []).1,(0,0)) by unfold rV;rw [hR]);rw [hR];dsimp only;clear hR;have hw1:=vY.out.lt;have ye:=qqh (sL.out.alloc (.cells #[.int .i64 r1,.int .i64 r2] 34))
 have vC:=qqh (vY.out.alloc (.cells #[.int .i64 r1,.int .i64 r2] 34));have NJ:=qqh (an.new w1 34 #[.int .i64 r1,.int .i64 r2]);have bf:=qqh (bF.out.alloc bF.out.size (.cells #[.int .i64 r1,.int .i64 r2] 34));go_upto_region 2 with fail;clear sL vY bF;generalize T0:w1.alloc (.cells #[.int .i64 r1,.int .i64 r2] 34)=W2 at *;clear T0;have z0':=NJ.out.cell 0;have z1':=NJ.out.cell 1;by_cases hz:r1=0
 ·subst hz;have Fo:=qqh (sN.out rfl);have BN:=qqh (Pe.out.trans (if_neg (fun h=>h rfl)));have Qw:=qqh (sS At nt ct t W2 hnt (sK.out W2 bf.out));go_wp2_with fail;refine Qw.out.mono ?_;rintro e w3 ⟨rfl,bM⟩;have CY:=qqh (an.below ye.out bM ye.out.lt);have zD:=qqh (an.below vC.out bM vC.out.lt);have bN:=qqh (bf.out.trans (bM.mono bf.out.size));clear bM Qw ye vC bf NJ Pe sN z0' z1';obtain⟨tp,Ay⟩:∃ tp,cW t=tp:=⟨_,rfl⟩;have Zo:=qqh (fun(h:tp=0)=>oc (t:=t) (by rw [Ay];exact h));rw [Ay]at BN ⊢;clear Ay;by_cases hz:tp=0
  ·subst hz;have C7:=qqh (BN.out.trans (if_neg (fun h=>h rfl)));have RT:nt≤4000:=(by have:=Zo.out rfl;omega);have x0:w3.cell? ⟨w.heap.size,0,none⟩=some (.bool s.only?):=CY.out.cell 0;have x1:w3.cell? ⟨w.heap.size,1,none⟩=some (.slice A1 n1 c1):=CY.out.cell 1;have x2:w3.cell? ⟨w.heap.size,2,none⟩=some (.slice A2 n2 c2):=CY.out.cell 2;have Ic:=qqh (Cc X s t A1 A2 At n1 c1 n2 c2 nt ct w3 (KY.out w3 bN.out) RT (sK.out w3 bN.out));go_wp2_with fail;refine Ic.out.mono ?_;rintro e w4 ⟨⟨v6,v7,m,us,rfl,OQ,hmn,DB⟩,hb4⟩;have qW:=qqh OQ;have wN:=qqh DB;have T3:=an.below CY.out hb4 CY.out.lt;have Yt:=an.below zD.out hb4 zD.out.lt;have bW:=qqh (bN.out.trans (hb4.mono bN.out.size));have SF:=qqh T3;have RW:=qqh Yt;have T6:w.heap.size+1<w4.heap.size:=Yt.lt;obtain⟨A6,c6,rfl,_⟩:=av OQ.o6;obtain⟨A7,c7,rfl,_⟩:=av OQ.o7;clear OQ DB T3 Yt hb4 Ic x0 x1 x2 CY zD bN BN;generalize gO s t=acc at *;go_wp2_with fail;go_loopw [10,37] (Wj w4 s acc m) (fun _ i _=>m - (intOf i).toNat);(case atStart=>exact⟨0,0,[],Nat.zero_le _,rfl,qql,rfl,World.ownsRow_nil _ _ _ _,rfl,qqb⟩);obtain⟨k,no,out,hk,rfl,hno,hlen,hown,aN,hb⟩:=hrel;obtain⟨Av,cv,rfl,_⟩:=av hown;have Qm:=hb.size;have HO:=qqh hown;have HB:=qqh hb;have dh:=qqh aN;have K1:=qqh hlen;have ig:=qqh (bW.out.trans (hb.mono bW.out.size));clear hown hb aN;by_cases hlt:k<m
   ·obtain⟨⟨pc,bl⟩,hp⟩:∃ z,acc[k]? = some z:=⟨_,List.getElem?_eq_getElem (by have:=qW.out.len;omega)⟩;obtain⟨u,hu⟩:∃ z,us[k]? = some z:=⟨_,List.getElem?_eq_getElem (by have:=qW.out.ul;omega)⟩;have hpn:=wN.out _ (List.mem_of_getElem? hp);have OI:=qW.out.own k _ u hp hu;obtain⟨gu,Q4⟩:=qW.out.blk k u hu;obtain⟨cu,rfl,_⟩:=ru OI Q4;obtain⟨g6,cc6,e6,_,_,_⟩:=gD qW.out.o6 (by omega);cases e6;obtain⟨g7,Y1,e7,_,_,_⟩:=gD qW.out.o7 (by omega);cases e7;have t6:wr.cell? ⟨g6,k,none⟩=some (.slice (some ⟨gu,0,none⟩) pc.length cu):=(HB.out.cell (p:=⟨g6,k,none⟩) (bt qW.out.o6 rfl).2).trans (by rw [qW.out.o6.cellAt k (by omega)];exact hu);have t7:wr.cell? ⟨g7,k,none⟩=some (.bool bl):=(HB.out.cell (p:=⟨g7,k,none⟩) (bt qW.out.o7 rfl).2).trans (by rw [qW.out.o7.cellAt k (by omega),List.getElem?_map,hp];rfl);have Rs:=qqh (Rd.b8 (bG OI HB.out));obtain⟨n,hn⟩:∃ n,pc.length=n:=⟨_,rfl⟩;have xC:=qqh hn;simp only at hpn OI;rw [hn]at t6 Rs hpn;have dh:=qqh (dh.out.trans (by rw [bR hp]));clear hp hu OI Q4 hn;cases bl
    ·have FC:=qqh (show pX s acc [] = pX s (acc.drop (k+1)) (out++pc) by rw [dh.out,pX,if_neg (by simp)]);have Mj:=qqh (HO.out);have eU:=qqh (Rs.out);have lD:=qqh (HB.out);go_wp2_with (at_builtin;refine aj _ rfl (.tmp 67) (.tmp 68) 22 rfl w4.heap.size 21 i0 _ 1 4 Tryz.underlying22 hi z0 z1 z2 rfl (by decide) _ no _ rfl Mj.out _ (some ⟨gu,0,none⟩) n cu (runeCells pc) rfl eU.out (aE _) (by simp only [maxLen];omega) (by omega) lD.out.size ?_);intro v9 w9 af;have gl:=af.own;rw [← cI]at gl;have fH:=qqh gl;have cB:=qqh (lD.out.trans (af.below lD.out.size Mj.out));have PN:=qqh (show(out++pc).length=no+n by rw [List.length_append,K1.out,xC.out]);clear af gl;go_wp2_with fail;exact⟨⟨k+1,no+n,out++pc,by omega,by go_num,by omega,PN.out,fH.out,FC.out,cB.out⟩,by simp [intOf];omega⟩
    have q2:wr.cell? ⟨w.heap.size,2,none⟩=some (.slice A2 n2 c2):=(HB.out.cell (p:=⟨w.heap.size,2,none⟩) (by simp only;omega)).trans (SF.out.cell 2);go_wp2_with fail;go_loopw [12,49] (Ws wr s pc n2) (fun _ i _=>n2 - (intOf i).toNat);(case atStart=>exact⟨0,n,cu,some ⟨gu,0,none⟩,pc,Nat.zero_le _,rfl,rfl,Rs.out,by rw [xC.out];omega,rfl,qqb⟩);obtain⟨j,nn,cc,A,l',hj,rfl,rfl,hrd,TX,OR,Sm⟩:=hrel;have Qv:=qqh Sm;have K4:=qqh OR;have hzi:=Sm.size;have hnn:=hrd.1;rw [runeCells_length]at hnn;have nP:=qqh hrd;clear Sm OR hrd;by_cases hjl:j<n2
    ·obtain⟨p,hp⟩:∃ z,s.passes[j]? = some z:=⟨_,List.getElem?_eq_getElem (by rw [j6.out];exact hjl)⟩;have UT:=qqh (ig.out.trans (Qv.out.mono ig.out.size));obtain⟨b,off,Ar,nr,cr,rfl,_,cK,e0,e1,hr,Cp⟩:=oY (KY.out wr UT.out).pas hp;have Qj:=Fo.out p (List.mem_of_getElem? hp);rw [bR hp,yZ,tf Qj]at K4;have hba:=(Below.refl wr.heap.size wr).alloc qql (.cells #[.string p.name,.slice Ar nr cr] 63);have HM:=qqh (FA X p Ar A nr cr nn cc l' (wr.alloc (.cells #[.string p.name,.slice Ar nr cr] 63)) Cp (hr.keep (aa.any hba) (fun _ _=>bg.keep (aa.any hba))) (by omega) ((Rd.below nP.out hba).more hba.size));rw [tf Qj]at HM;have IG:=qqh (qA p TX);have vI:=qqh (Qv.out.trans (hba.mono hzi));have HP:=qqh (an.new wr 63 #[.string p.name,.slice Ar nr cr]);clear hp hr hba Qj;go_upto_region 16 with fail;generalize hW:wr.alloc (.cells #[.string p.name,.slice Ar nr cr] 63)=W at *;have Rr:wr.heap.size<W.heap.size:=HP.out.lt;clear hW e0 e1;have p0:W.cell? ⟨wr.heap.size,0,none⟩=some (.string p.name):=HP.out.cell 0;have p1:W.cell? ⟨wr.heap.size,1,none⟩=some (.slice Ar nr cr):=HP.out.cell 1;go_wp2_with fail;refine HM.out.mono ?_;rintro e wp ⟨⟨A3,n3,c3,rfl,lH⟩,bM⟩;have qD:=qqh lH.of;have Y0:=qqh (vI.out.trans (bM.mono vI.out.size));obtain⟨x,f,hx⟩:∃ x f,iM p l'=(x,f):=⟨_,_,rfl⟩;rw [hx]at K4 IG qD ⊢;dsimp only at K4 IG qD ⊢;clear bM lH p0 p1 HM hx;by_cases QM:f=0
     ·subst QM;have HG:=qqh (K4.out.trans (if_neg (fun h=>h rfl)));go_wp2_with fail;exact⟨⟨j+1,n3,c3,A3,x,by omega,by go_num,rfl,qD.out,IG.out,HG.out,Y0.out⟩,by simp [intOf];omega⟩
     have HG:=qqh (K4.out.trans (if_pos QM));have Ol:=qqh (show rV s t=([],(f,(j:Int))) by rw [C7.out,dh.out,pX,if_pos rfl,HG.out,if_pos QM,if_pos QM]);have Qg:=HB.out.trans (Y0.out.mono HB.out.size);have VT:=an.below RW.out Qg (by omega);have nK:=qqh (bW.out.trans (Qg.mono bW.out.size));have y0:=VT.cell 0;have y1:=VT.cell 1;have g0:=VT.frozen 0;have g1:=VT.frozen 1;clear Qg VT;go_wp2_with fail;rw [Ol.out];exact bodyPost_ret (v:=.tuple #[.slice none 0 0,.agg #[.int .i64 f,.int .i64 j]]) (by simp [results,Tryz.results8,go_sem,y0,y1]) rfl ⟨⟨none,0,0,rfl,⟨rfl,fun h=>absurd h (Nat.lt_irrefl 0)⟩⟩,(nK.out.setCell (by simp) _).setCell (by simp) _⟩
    obtain rfl:j=n2:=(by omega);rw [List.drop_of_length_le (by rw [j6.out];exact qql),yZ]at K4;have FC:=qqh (show pX s acc [] = pX s (acc.drop (k+1)) (out++l') by rw [dh.out,pX,if_pos rfl,K4.out,if_neg (fun h=>h rfl)]);have Mj:=qqh (bG HO.out Qv.out);have eU:=qqh (nP.out);have lD:=qqh (HB.out.trans (Qv.out.mono HB.out.size));go_wp2_with (at_builtin;refine aj _ rfl (.tmp 67) (.tmp 68) 22 rfl w4.heap.size 21 i0 _ 1 4 Tryz.underlying22 hi z0 z1 z2 rfl (by decide) _ no _ rfl Mj.out _ (A) nn cc (runeCells l') rfl eU.out (aE _) (by simp only [maxLen];omega) (by omega) lD.out.size ?_);intro v9 w9 af;have gl:=af.own;rw [← cI]at gl;have fH:=qqh gl;have cB:=qqh (lD.out.trans (af.below lD.out.size Mj.out));have PN:=qqh (show(out++l').length=no+nn by rw [List.length_append,K1.out];omega);clear af gl;go_wp2_with fail;exact⟨⟨k+1,no+nn,out++l',by omega,by go_num,by omega,PN.out,fH.out,FC.out,cB.out⟩,by simp [intOf];omega⟩
   obtain rfl:k=m:=(by omega);have VU:=qqh (show pX s acc [] =(out,(0,0)) by rw [dh.out,List.drop_of_length_le (by rw [qW.out.len];exact qql),pX]);have hy:=an.below RW.out HB.out (by omega);have y0:=hy.cell 0;have y1:=hy.cell 1;have g0:=hy.frozen 0;have g1:=hy.frozen 1;by_cases h4:4000<no
   ·have HG:=qqh (show rV s t=([],(4,(n2:Int))) by rw [C7.out,VU.out,if_neg (fun h=>h rfl),if_pos (by rw [hlen];exact h4),j6.out]);have d2:wr.cell? ⟨w.heap.size,2,none⟩=some (.slice A2 n2 c2):=(HB.out.cell (p:=⟨w.heap.size,2,none⟩) (by simp only;omega)).trans (SF.out.cell 2);have hne:¬ w.heap.size=w.heap.size+1:=(by omega);clear hy;go_upto_region 24 with fail;go_region
    all_goals
      go_wp2_with fail
      rw [HG.out]
      exact bodyPost_ret (v:=.tuple #[.slice none 0 0,.agg #[.int .i64 4,.int .i64 n2]]) (by simp [results,Tryz.results8,go_sem,y0,y1]) rfl ⟨⟨none,0,0,rfl,⟨rfl,fun h=>absurd h (Nat.lt_irrefl 0)⟩⟩,((ig.out.setCell (by simp) _).setCell (by simp) _).drew⟩
   have HG:=qqh (show rV s t=(out,(0,0)) by rw [C7.out,VU.out,if_neg (fun h=>h rfl),if_neg (by rw [hlen];exact h4)]);have q1:=bV (i:=0) (u:=.int .i64 0) HO.out hy (by decide);have q2:=bV (i:=1) (u:=.int .i64 0) q1 (hy.put 0 _) (by decide);have pR:=qqh (cL.b8 (X:=fun b=>w.heap.size≤b) q2 (fun b hb=>by have:=(bt q2 hb).1;omega));clear hy q1 q2;go_wp2_with fail;rw [HG.out];exact bodyPost_ret (v:=.tuple #[.slice Av no cv,.agg #[.int .i64 0,.int .i64 0]]) (by simp [results,Tryz.results8,go_sem,y0,y1]) rfl ⟨⟨Av,no,cv,rfl,pR.out⟩,(ig.out.setCell (by simp) _).setCell (by simp) _⟩
  have HG:=qqh (BN.out.trans (if_pos hz));have y0:=zD.out.cell 0;have y1:=zD.out.cell 1;have g0:=zD.out.frozen 0;have g1:=zD.out.frozen 1;go_wp2_with fail;rw [HG.out];exact bodyPost_ret (v:=.tuple #[.slice none 0 0,.agg #[.int .i64 tp,.int .i64 0]]) (by simp [results,Tryz.results8,go_sem,y0,y1]) rfl ⟨⟨none,0,0,rfl,⟨rfl,fun h=>absurd h (Nat.lt_irrefl 0)⟩⟩,(bN.out.setCell (by simp) _).setCell (by simp) _⟩
 have HG:=qqh (Pe.out.trans (if_pos hz));have y0:=vC.out.cell 0;have y1:=vC.out.cell 1;have g0:=vC.out.frozen 0;have g1:=vC.out.frozen 1;have E4:¬ w.heap.size+1=w1.heap.size:=(by omega);have FI:¬ w1.heap.size=w.heap.size+1:=(by omega);go_upto_region 3 with fail;go_region
 all_goals
   go_wp2_with fail
   rw [HG.out]
   exact bodyPost_ret (v:=.tuple #[.slice none 0 0,.agg #[.int .i64 r1,.int .i64 r2]]) (by simp [results,Tryz.results8,go_sem,y0,y1]) rfl ⟨⟨none,0,0,rfl,⟨rfl,fun h=>absurd h (Nat.lt_irrefl 0)⟩⟩,((bf.out.setCell (by simp) _).setCell (by simp) _).drew⟩
end Go.Proofs.YtamkjeipdjbemaaGreatDoor
