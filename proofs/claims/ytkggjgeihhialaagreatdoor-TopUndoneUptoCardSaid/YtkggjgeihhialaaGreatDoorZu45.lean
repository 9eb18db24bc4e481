/- UnSure + UnLaw + TopUndone + UnCap -/
import Derived.Test.YtkggjgeihhialaaGreatDoorZu44
import Derived.Test.YtkggjgeihhialaaGreatDoorZu36
import Derived.Test.YtkggjgeihhialaaGreatDoorZu35
import Derived.Test.YtkggjgeihhialaaGreatDoorZu43
import Derived.Test.YtkggjgeihhialaaGreatDoorZu9
set_option maxHeartbeats 12800000
set_option maxRecDepth 100000
namespace Go.Proofs.YtkggjgeihhialaaGreatDoor
open Go.RowKit
theorem sY {l:List ai} (hR:∀ r∈l,bQ r) (u:Int):(aS l u).length≤20:=by
 unfold aS;rcases fE l [u] 0 with h | ⟨k,r,h,hk,_⟩
 ·rw [if_pos (by rw [h];decide)];exact Nat.succ_le_succ (Nat.zero_le _)
 rw [if_neg (by rw [h];omega),h,Int.toNat_natCast,hk];exact(hR r (List.mem_of_getElem? hk)).tgt.1
theorem KE (a b:List Int):([a,b]:List (List Int)).flatten=a++b:=by simp
theorem aag {w:World} {a b:List Int} {A B:Option Addr} {n1 c1 n2 c2:Nat} (h1:Rd w w.heap.size 1 A n1 (runeCells a)) (h2:Rd w w.heap.size 1 B n2 (runeCells b)):yU w [a,b] [.slice A n1 c1,.slice B n2 c2]:=by
 intro i l u hl hu;match i,hl,hu with
 | 0,hl,hu=>simp at hl hu;subst hl hu;exact⟨_,_,_,rfl,h1⟩
 | 1,hl,hu=>simp at hl hu;subst hl hu;exact⟨_,_,_,rfl,h2⟩
 | i+2,hl,hu=>simp at hl
def xo (l back:List ai) (dom:af):Prop:=(b8 l).1=0∧(b8 back).1=0∧aF dom∧AK l dom∧K2 l back dom
def RY (l back:List ai) (dom:af) (e:Ending):Prop:=∃ (b:Bool) (er:Int),e=.returned (.tuple #[.bool b,.int .i64 er])∧(b=true→er=0→xo l back dom)
def OQ (l back:List ai) (u:Int):Prop:=jb back (aS l u) (aS l u).length u=true
def OX (l back:List ai) (re:Nat) (u v:Int):Prop:=re≤(aS l u).length+(aS l v).length∧jb back (aS l u++aS l v) (aS l u).length u=true
def Wo (W:World) (l back:List ai) (re:Nat) (D:List Int) (i:Value) (wr:World):Prop:=∃ q:Nat,q≤D.length∧i=.int .i64 (q:Int)∧(∀ u∈D.take q,OQ l back u∧∀ v∈D,OX l back re u v)∧Below W.heap.size W wr
def XW (W:World) (l back:List ai) (re:Nat) (D:List Int) (u:Int) (i:Value) (wr:World):Prop:=∃ q:Nat,q≤D.length∧i=.int .i64 (q:Int)∧(∀ v∈D.take q,OX l back re u v)∧Below W.heap.size W wr
theorem O6 {l back:List ai} {dom:af} {re:Nat} (h1:(b8 l).1=0) (h2:(b8 back).1=0) (hd:aF dom) (hp1:pQ l=true) (hp2:pQ back=true) (hid:∀ r∈l,1<r.source.length→q6 dom r=true) (hne:∀ u∈aM dom,aS l u ≠ [])
    (QE:∀ r∈back,r.source.length+r.after.length≤re) (hall:∀ u∈aM dom,OQ l back u∧∀ v∈aM dom,OX l back re u v):xo l back dom:=by
 have TU:=j8 (l:=l) h1;unfold pQ at hp1 hp2;rw [Bool.and_eq_true]at hp1 hp2;refine⟨h1,h2,hd,⟨Dc hp1.1 hp1.2,fun r hr=>(TU r hr).src,fun r hr hs=>OE (TU r hr) hd (hid r hr hs)⟩,⟨Dc hp2.1 hp2.2,fun u hu=>hne u (iq.2 hu),fun u hu=>zi (hne u (iq.2 hu)) (hall u (iq.2 hu)).1,fun u v hu hv=>?_⟩⟩;obtain⟨h3,h4⟩:=(hall u (iq.2 hu)).2 v (iq.2 hv);exact⟨fun r hr=>by have:=QE r hr;rw [List.length_append];omega,zi (fun e=>hne u (iq.2 hu) (List.append_eq_nil_iff.1 e).1) h4⟩
theorem IJ (HC:AH) (X:Nat→Prop) (l back:List ai) (Ar Ab Ad:Option Addr) (nr cr nb cb nd cd:Nat) (dom:af) (w:World) (hX:∀ b,X b→b<w.heap.size) (zk:nr≤maxLen) (hl:bt (aL w X) w X 7 Ar nr l) (hnb:nb≤maxLen) (hbk:bt (aL w X) w X 7 Ab nb back) (hnd:nd≤9223372036854775807) (hcd:nd≤cd) (hdm:jz w w.heap.size Ad nd dom) :
    Calls Tryz.prog 12 #[.slice Ar nr cr,.slice Ab nb cb,.slice Ad nd cd] w fun e w'=>RY l back dom e∧Below w.heap.size w w':=by
 have HL:=qqh (fun(W:World) (hb:Below w.heap.size w W)=>show bt (aL W X) W X 7 Ar nr l from hl.keep (aa.any hb) (fun _ _=>aL.keep (aa.any hb)));have qp:=qqh (fun(W:World) (hb:Below w.heap.size w W)=>show bt (aL W X) W X 7 Ab nb back from hbk.keep (aa.any hb) (fun _ _=>aL.keep (aa.any hb)));have YA:=qqh (fun(W:World) (hb:Below w.heap.size w W)=>show jz W W.heap.size Ad nd dom from(Rd.below hdm hb).more hb.size);have Nt:=qqh hX;have Yb:=qqh (i5 X l Ar nr cr w zk hl);have YY:=qqh (fun(W:World) (hb:Below w.heap.size w W)=>i5 X back Ab nb cb W hnb (qp.out W hb));have T3:=qqh (fun(W:World) (hb:Below w.heap.size w W)=>FU Ad nd cd dom W hnd (YA.out W hb));obtain⟨a1,a2,ha⟩:∃ a1 a2,b8 l=(a1,a2):=⟨_,_,rfl⟩;obtain⟨b1,b2,hb⟩:∃ b1 b2,b8 back=(b1,b2):=⟨_,_,rfl⟩;have HA:=qqh ha;have HB:=qqh hb;rw [ha]at Yb;rw [hb]at YY;dsimp only at Yb YY;have qs:=rq a1 a2;have oG:=rq b1 b2;clear hl hbk hdm hX ha hb;go_enter Tryz.func12,Tryz.ntmps12;go_wp2_with fail;refine Yb.out.mono ?_;rintro e w1 ⟨rfl,aR⟩;have bJ:=qqh aR;clear aR Yb;by_cases nQ:a1=0;rotate_left
 ·go_wp2_with fail;go_ret2;exact⟨⟨false,a1,rfl,fun h=>by cases h⟩,bJ.out⟩
 subst nQ;go_wp2_with fail;refine(YY.out w1 bJ.out).mono ?_;rintro e w2 ⟨rfl,aU⟩;have bD:=qqh (bJ.out.trans (aU.mono bJ.out.size));clear aU YY bJ;by_cases rM:b1=0;rotate_left
 ·go_wp2_with fail;go_ret2;exact⟨⟨false,b1,rfl,fun h=>by cases h⟩,bD.out⟩
 subst rM;have ic:=qqh (j8 (l:=l) (by rw [HA.out]));have gJ:=qqh (j8 (l:=back) (by rw [HB.out]));go_wp2_with fail;refine(T3.out w2 bD.out).mono ?_;rintro e w3 ⟨rfl,bL⟩;have bG:=qqh (bD.out.trans (bL.mono bD.out.size));clear bL T3 bD;by_cases hwr:bC dom=0;rotate_left
 ·have hc:qW dom=(0,bC dom):=if_pos hwr;rw [hc];dsimp only;obtain⟨ew,hew⟩:∃ ew,bC dom=ew:=⟨_,rfl⟩;rw [hew]at hwr ⊢;clear hew hc;go_wp2_with fail;go_ret2;exact⟨⟨false,ew,rfl,fun h=>by cases h⟩,bG.out⟩
 have hc:qW dom=(((aM dom).length:Int),0):=if_neg (fun h=>h hwr);have qo:=qqh (i6 hwr);rw [hc];dsimp only;clear hc hwr;obtain⟨D,hD⟩:∃ D,aM dom=D:=⟨_,rfl⟩;have SZ:=qqh hD;rw [hD];clear hD;by_cases h40:40<D.length
 ·have hd4:decide (40<(D.length:Int))=true:=decide_eq_true (by omega);go_wp2_with fail;go_ret2;exact⟨⟨false,4,rfl,fun h=>by cases h⟩,bG.out⟩
 have hd4:decide (40<(D.length:Int))=false:=decide_eq_false (by omega);have rZ:=qqh (vX X Ar nr cr l w3 ic.out (HL.out w3 bG.out) zk);have j4:=qqh (fun(W:World) (hb:Below w.heap.size w W)=>vX X Ab nb cb back W gJ.out (qp.out W hb) hnb);obtain⟨p1,hp1⟩:∃ p1,pQ l=p1:=⟨_,rfl⟩;obtain⟨p2,hp2⟩:∃ p2,pQ back=p2:=⟨_,rfl⟩;have EI:=qqh hp1;have ZY:=qqh hp2;rw [hp1]at rZ;rw [hp2]at j4;clear hp1 hp2;cases p1
 ·go_wp2_with fail;refine rZ.out.mono ?_;rintro e w4 ⟨rfl,hb4⟩;have ab3:=bG.out.trans (hb4.mono bG.out.size);go_wp2_with fail;go_ret2;exact⟨⟨false,0,rfl,fun h=>by cases h⟩,ab3⟩
 go_wp2_with fail;refine rZ.out.mono ?_;rintro e w4 ⟨rfl,hb4⟩;have dI:=qqh (bG.out.trans (hb4.mono bG.out.size));clear hb4 rZ bG;cases p2
 ·go_wp2_with fail;refine(j4.out w4 dI.out).mono ?_;rintro e w5 ⟨rfl,dJ⟩;have aa4:=dI.out.trans (dJ.mono dI.out.size);go_wp2_with fail;go_ret2;exact⟨⟨false,0,rfl,fun h=>by cases h⟩,aa4⟩
 go_wp2_with fail;refine(j4.out w4 dI.out).mono ?_;rintro e w5 ⟨rfl,dJ⟩;have dn:=qqh (dI.out.trans (dJ.mono dI.out.size));clear dJ j4 dI;have him:=CQ HC X l Ar Ad nr cr nd cd dom w5 zk (fun b h=>Nat.lt_of_lt_of_le (Nt.out b h) dn.out.size) ic.out (HL.out w5 dn.out) ⟨qo.out,YA.out w5 dn.out,hcd⟩ (by rw [SZ.out];omega);rw [SZ.out]at him;have Qj:=qqh him;clear him;go_wp2_with fail;refine Qj.out.mono ?_;rintro e w6 ⟨⟨A1,A2,n1,c1,n2,c2,ok,rfl,hok⟩,dV⟩;have fG:=qqh (dn.out.trans (dV.mono dn.out.size));have Gp:=qqh hok;clear dV hok Qj dn;cases ok
 ·go_wp2_with fail;go_ret2;exact⟨⟨false,0,rfl,fun h=>by cases h⟩,fG.out⟩
 obtain⟨hid,hne,Km,hn2,hu6,AV⟩:=Gp.out rfl;rw [SZ.out]at hne Km hn2 hu6 AV;subst Km;have MA:=qqh hid;have uW:=qqh hne;have AT:=qqh hn2;have yN:=qqh (xX X back Ab nb cb w6 hnb gJ.out (qp.out w6 fG.out));have VN:=qqh hu6;have U6:=qqh AV;clear hid hne hn2 hu6 AV Gp;go_wp2_with fail;refine yN.out.mono ?_;rintro e w7 ⟨⟨ra,re,rfl,adi,QE⟩,gG⟩;have iU:=qqh (fG.out.trans (gG.mono fG.out.size));have i4:=qqh QE;have TB:=qqh (VN.out.keep (aa.any gG));have Cw:=qqh (U6.out.keep (aa.any gG));have hnn:n2=D.length:=AT.out;clear gG QE yN VN U6 fG AT;subst hnn;have hdl:D.length≤40:=(by omega);go_wp2_with fail;go_loopw [70] (Wo w7 l back re D) (fun i _=>D.length - (intOf i).toNat);(case atStart=>exact⟨0,Nat.zero_le _,rfl,by simp,Below.refl _ _⟩);obtain⟨q,hq,rfl,hall,hb⟩:=hrel;have jH:=qqh hall;have Ek:=qqh hb;have NS:=qqh (iU.out.trans (hb.mono iU.out.size));clear hall;by_cases NV:q<D.length
 ·obtain⟨u,hu⟩:∃ u,D[q]? = some u:=⟨_,List.getElem?_eq_getElem NV⟩;obtain⟨tb,Hy,At,nt,ct,rfl,_,htb,htc,htr⟩:=C6 Cw.out (k:=q) (t:=aS l u) (by rw [List.getElem?_map,hu];rfl);have UE:=(hb.cell (p:=⟨tb,Hy+q,none⟩) htb).trans htc;have oJ:=qqh (htr.keep (aa.any hb));have ZE:=qqh htr;obtain⟨ub,Ve,rfl,NX,Y6⟩:=lX.at TB.out.of NV;rw [show D.getD q 0=u by rw [List.getD_eq_getElem?_getD,hu];rfl]at Y6;have JH:=(hb.cell (p:=⟨ub,Ve+q,none⟩) NX).trans Y6;have HUC:=qqh Y6;have hnt:(aS l u).length=nt:=(by have:=htr.1;rw [runeCells_length]at this;omega);have Su:nt≤20:=(by rw [← hnt];exact sY ic.out u);have hn0:0<nt:=(by rw [← hnt];exact List.length_pos_iff.2 (uW.out u (List.mem_of_getElem? hu)));have Yr:=qqh hnt;have Yh:=qqh (tP X back Ab At nb cb nt ct nt (aS l u) u wr hnb gJ.out (qp.out wr NS.out) hn0 (by omega) oJ.out.of);have GP:=qqh (show D.take (q+1)=D.take q++[u] by rw [List.take_add_one,hu];rfl);obtain⟨ob,ZB⟩:∃ ob,jb back (aS l u) nt u=ob:=⟨_,rfl⟩;rw [ZB]at Yh;have HOB:=qqh ZB;have JC:(0:Int)≤(q:Int):=(by omega);have hq1:(q:Int)<(D.length:Int):=(by omega);have Sm:decide ((q:Int)<(D.length:Int))=true:=decide_eq_true hq1;clear hu htc htr Y6 hnt ZB;cases ob
  ·go_wp2_with fail;refine Yh.out.mono ?_;rintro e w8 ⟨rfl,fI⟩;have hbz:=NS.out.trans (fI.mono NS.out.size);go_wp2_with fail;go_ret2;exact⟨⟨false,0,rfl,fun h=>by cases h⟩,hbz⟩
  have aaa:=qqh (show OQ l back u by unfold OQ;rw [Yr.out];exact HOB.out);go_wp2_with fail;refine Yh.out.mono ?_;rintro e w8 ⟨rfl,fI⟩;have rV:=qqh (Ek.out.trans (fI.mono Ek.out.size));clear fI Yh UE JH hb;go_wp2_with fail;go_loopw [87] (XW w7 l back re D u) (fun i _=>D.length - (intOf i).toNat);(case atStart=>exact⟨0,Nat.zero_le _,rfl,by simp,rV.out⟩);obtain⟨p,hp,rfl,hin,hb⟩:=hrel;have Ka:=qqh hin;have R4:=qqh hb;have SJ:=qqh (iU.out.trans (hb.mono iU.out.size));clear hin;by_cases Yp:p<D.length
  ·obtain⟨v,hv⟩:∃ v,D[p]? = some v:=⟨_,List.getElem?_eq_getElem Yp⟩;obtain⟨tb2,agk,Av,nv,cv,hae,_,abn,XQ,Sn⟩:=C6 Cw.out (k:=p) (t:=aS l v) (by rw [List.getElem?_map,hv];rfl);simp only [Option.some.injEq,Addr.mk.injEq,and_true]at hae;obtain⟨rfl,rfl⟩:=hae;have acH:=qqh (Sn.keep (aa.any hb));have UE:=(hb.cell (p:=⟨tb,Hy+p,none⟩) abn).trans XQ;have JH:=(hb.cell (p:=⟨ub,Ve+q,none⟩) NX).trans HUC.out;have aaJ:=qqh (ZE.out.keep (aa.any hb));have Qp:=Nat.lt_of_lt_of_le NX hb.size;have ZH:(aS l v).length=nv:=(by have:=Sn.1;rw [runeCells_length]at this;omega);have ac4:nv≤20:=(by rw [← ZH];exact sY ic.out v);have HNV:=qqh ZH;have HTP:=qqh (show D.take (p+1)=D.take p++[v] by rw [List.take_add_one,hv];rfl);have hp0:(0:Int)≤(p:Int):=(by omega);have hp1:(p:Int)<(D.length:Int):=(by omega);have hdp:decide ((p:Int)<(D.length:Int))=true:=decide_eq_true hp1;have v1:IntKind.i64.wrap ((nt:Int)+(nv:Int))=(nt:Int)+(nv:Int):=IntWalk.i64_in _ (by omega);clear hv XQ Sn ZH;by_cases aaV:re≤nt+nv;rotate_left
   ·have hlt2:decide ((nt:Int)+(nv:Int)<(re:Int))=true:=decide_eq_true (by omega);go_wp2_with fail;go_quiet (fail);have hbz:=below_drewN SJ.out nq;go_wp2_with fail;go_ret2;exact⟨⟨false,0,rfl,fun h=>by cases h⟩,hbz⟩
   have hlt2:decide ((nt:Int)+(nv:Int)<(re:Int))=false:=decide_eq_false (by omega);obtain⟨Ze,Xa⟩:∃ Ze,jb back (aS l u++aS l v) nt u=Ze:=⟨_,rfl⟩;have US:=qqh Xa;clear Xa;have qM:Below wr.heap.size wr ((wr.alloc (.cells #[.slice At nt ct,.slice Av nv cv] 33)).drew):=aC ((Below.refl wr.heap.size wr).alloc (Nat.le_refl _) _);have Kg:=qqh (show Calls Tryz.prog 32 #[.slice (some ⟨wr.heap.size,0,none⟩) 2 2] ((wr.alloc (.cells #[.slice At nt ct,.slice Av nv cv] 33)).drew) fun e w'=>(∃ z,e=.returned z∧w'.ownsRow ((wr.alloc (.cells #[.slice At nt ct,.slice Av nv cv] 33)).drew).heap.size 21 1 z (nt+nv) (runeCells (aS l u++aS l v)))∧Below ((wr.alloc (.cells #[.slice At nt ct,.slice Av nv cv] 33)).drew).heap.size ((wr.alloc (.cells #[.slice At nt ct,.slice Av nv cv] 33)).drew) w' by
    have ze:(aS l u++aS l v).length=nt+nv:=(by rw [List.length_append,Yr.out,HNV.out]);have h:=mO [aS l u,aS l v] [.slice At nt ct,.slice Av nv cv] (some ⟨wr.heap.size,0,none⟩) 2 2 ((wr.alloc (.cells #[.slice At nt ct,.slice Av nv cv] 33)).drew) rfl (by have h0:=Rd.new wr 33 1 2 [.slice At nt ct,.slice Av nv cv] rfl;exact h0.drew.more (by simp)) (aag (aaJ.out.keep (aa.any qM)).of (acH.out.keep (aa.any qM)).of) (by rw [KE,ze];omega) (by omega);rw [KE,ze]at h;exact h)
   have EA:=qqh qM;have QG:((wr.alloc (.cells #[.slice At nt ct,.slice Av nv cv] 33)).drew).heap.size=wr.heap.size+1:=(by simp);have BQ:=qqh QG;clear qM QG hb;go_upto_region 26 with fail;refine ay (S:=(fun w'=>w'.cell? ⟨ub,Ve+q,none⟩=some (.int .i32 u))) [18] (by kernel_rfl) JH (fun bg=>?_);apply tp 0 91 rfl (by kernel_rfl) (fun _ _ _ h=>h) (by rfl)
   ·intro wq _;go_simp;(try with_reducible rfl)
   (try simp only [zp,za,z0,zs]);apply tp 1 92 rfl (by kernel_rfl) (fun _ _ _ h=>h) (by rfl)
   ·intro wq _;go_simp;(try with_reducible rfl)
   (try simp only [zp,za,z0,zs]);apply tp 2 93 rfl (by kernel_rfl) (fun _ _ _ h=>h) (by rfl)
   ·intro wq _;go_simp;(try with_reducible rfl)
   (try simp only [zp,za,z0,zs]);apply tp 3 94 rfl (by kernel_rfl) (fun _ _ _ h=>h) (by rfl)
   ·intro wq _;go_simp;(try with_reducible rfl)
   (try simp only [zp,za,z0,zs]);apply tp 4 95 rfl (by kernel_rfl) (fun _ _ _ h=>h) (by rfl)
   ·intro wq _;go_simp;(try with_reducible rfl)
   (try simp only [zp,za,z0,zs]);apply tp 5 96 rfl (by kernel_rfl) (fun _ _ _ h=>h) (by rfl)
   ·intro wq _;go_simp;(try with_reducible rfl)
   (try simp only [zp,za,z0,zs]);apply tp 6 97 rfl (by kernel_rfl) (fun _ _ _ h=>h) (by rfl)
   ·intro wq _;go_simp;(try with_reducible rfl)
   (try simp only [zp,za,z0,zs]);apply tp 7 98 rfl (by kernel_rfl) (fun _ _ _ h=>h) (by rfl)
   ·intro wq _;go_simp;(try with_reducible rfl)
   (try simp only [zp,za,z0,zs]);apply tp 8 99 rfl (by kernel_rfl) (fun _ _ _ h=>h) (by rfl)
   ·intro wq _;go_simp;(try with_reducible rfl)
   (try simp only [zp,za,z0,zs]);apply tp 9 100 rfl (by kernel_rfl) (fun _ _ _ h=>h) (by rfl)
   ·intro wq _;go_simp;(try with_reducible rfl)
   (try simp only [zp,za,z0,zs]);apply tp 10 101 rfl (by kernel_rfl) (fun _ _ _ h=>h) (by rfl)
   ·intro wq _;go_simp;(try with_reducible rfl)
   (try simp only [zp,za,z0,zs]);apply tp 13 104 rfl (by kernel_rfl) (fun _ _ _ h=>h) (by rfl)
   ·intro wq _;go_simp;(try with_reducible rfl)
   (try simp only [zp,za,z0,zs]);apply tp 14 105 rfl (by kernel_rfl) (fun _ _ _ h=>h) (by rfl)
   ·intro wq _;go_simp;(try with_reducible rfl)
   (try simp only [zp,za,z0,zs]);apply tp 15 106 rfl (by kernel_rfl) (fun _ _ _ h=>h) (by rfl)
   ·intro wq _;go_simp;(try with_reducible rfl)
   (try simp only [zp,za,z0,zs]);apply tp 16 107 rfl (by kernel_rfl) (fun _ _ _ h=>h) (by rfl)
   ·intro wq _;go_simp;(try with_reducible rfl)
   (try simp only [zp,za,z0,zs]);apply tp 17 108 rfl (by kernel_rfl) (fun _ _ _ h=>h) (by rfl)
   ·intro wq _;go_simp;(try with_reducible rfl)
   (try simp only [zp,za,z0,zs]);apply tt 18 109 rfl (by kernel_rfl) (fun _ _ _ h=>h) (by rfl) (by assumption)
   ·intro wq mI;(try dsimp only at mI);go_simp;(try with_reducible rfl)
   (try simp only [zp,za,z0,zs]);refine aD (i:=11) (o:=⟨some 102,_,_,_,_,_⟩) (by kernel_rfl) rfl (fun K hK=>?_);go_simp;(try dsimp only);refine hK.out _ _ ?_ (fun bg=>?_);exact(EA.out.cell (p:=⟨ub,Ve+q,none⟩) Qp).trans JH;clear hK K;(try simp only [zp,za,z0,zs]);refine aD (i:=12) (o:=⟨some 103,_,_,_,_,_⟩) (by kernel_rfl) rfl (fun K hK=>?_);go_simp;go_at_call 32;refine Kg.out.mono ?_;rintro e Kn ⟨⟨v9,rfl,iP⟩,bY⟩;obtain⟨A9,c9,rfl,_⟩:=aI iP;have Du:=EA.out.trans (bY.mono (by have:=BQ.out;omega));have SD:=qqh (SJ.out.trans (Du.mono SJ.out.size));have Qq:=qqh (R4.out.trans (Du.mono R4.out.size));have QT:=tP X back Ab A9 nb cb (nt+nv) c9 nt (aS l u++aS l v) u Kn hnb gJ.out (qp.out Kn SD.out) (by omega) (by omega) (cE.cP (X:=fun _=>True) iP (fun _ _=>trivial)).of;rw [US.out]at QT;have XN:=qqh QT;have HBT:=qqh Du;clear iP bY Du Kg QT;(try dsimp only);refine hK.out _ _ ?_ (fun bg=>?_);exact(HBT.out.cell (p:=⟨ub,Ve+q,none⟩) Qp).trans JH;clear hK K;(try simp only [zp,za,z0,zs]);refine aA (i:=19) (o:=⟨some 110,_,_,_,_,_⟩) (by kernel_rfl) rfl (by kernel_rfl) (fun K hK=>?_);go_simp;go_at_call 31;refine XN.out.mono ?_;rintro e w11 ⟨rfl,Sq⟩;have aaE:=qqh (SD.out.trans (Sq.mono SD.out.size));have Vl:=qqh (Qq.out.trans (Sq.mono Qq.out.size));clear Sq XN;(try dsimp only);refine hK.out _ _ ?_;clear hK K;(try simp only [zp,za,z0,zs]);apply tp 20 111 rfl (by kernel_rfl) (fun _ _ _ h=>h) (by rfl)
   ·intro wq _;go_simp;(try with_reducible rfl)
   (try simp only [zp,za,z0,zs]);apply tp 21 112 rfl (by kernel_rfl) (fun _ _ _ h=>h) (by rfl)
   ·intro wq _;go_simp;(try with_reducible rfl)
   (try simp only [zp,za,z0,zs]);refine aJ (by kernel_rfl) ?_ _;go_simp;clear JH hlt2 v1 EA BQ HBT;cases Ze
   ·go_wp2_with fail;go_ret2;exact⟨⟨false,0,rfl,fun h=>by cases h⟩,aaE.out⟩
   go_wp2_with fail;refine⟨⟨p+1,by omega,by go_num,fun x hx=>?_,Vl.out⟩,by simp [intOf];omega⟩;rw [HTP.out]at hx;rcases List.mem_append.1 hx with hx | hx;exact Ka.out x hx;rw [List.mem_singleton.1 hx];exact⟨by rw [Yr.out,HNV.out];exact aaV,by rw [Yr.out];exact US.out⟩
  obtain hpn:p=D.length:=(by omega);have Y5:=qqh (show ∀ v∈D,OX l back re u v from fun v hv=>Ka.out v (by rw [hpn,List.take_length];exact hv));have hdp:decide ((p:Int)<(D.length:Int))=false:=decide_eq_false (by omega);clear hb;go_wp2_with fail;refine⟨⟨q+1,by omega,by go_num,fun x hx=>?_,R4.out⟩,by simp [intOf];omega⟩;rw [GP.out]at hx;rcases List.mem_append.1 hx with hx | hx;exact jH.out x hx;rw [List.mem_singleton.1 hx];exact⟨aaa.out,Y5.out⟩
 obtain VV:q=D.length:=(by omega);have abD:=qqh (show xo l back dom from O6 (re:=re) (by rw [HA.out]) (by rw [HB.out]) qo.out EI.out ZY.out MA.out (fun u hu=>uW.out u (by rw [← SZ.out];exact hu)) i4.out (fun u hu=>by
  rw [SZ.out]at hu ⊢;exact jH.out u (by rw [VV,List.take_length];exact hu)))
 have Sm:decide ((q:Int)<(D.length:Int))=false:=decide_eq_false (by omega);clear hb;go_wp2_with fail;go_ret2;exact⟨⟨true,0,rfl,fun _ _=>abD.out⟩,NS.out⟩
theorem vQ (l:List ai) (t:List Int):(cJ l t).1.text.length≤4000:=by
 unfold cJ;by_cases h1:(mS l t).1=0
 ·rw [if_neg (fun h2=>h2 h1)];have h3:=tf l (8*t.length+40) [] t 0 0 (by simpa using nE (LL h1).2);unfold jK;by_cases h2:(bK l (8*t.length+40) [] t 0 0).2=0
  ·rw [if_neg (fun h4=>h4 h2)];exact h3
  rw [if_pos h2];exact Nat.zero_le _
 rw [if_pos h1];exact Nat.zero_le _
theorem MY {l:List ai} {t:List Int} (h1:(b8 l).1=0) (h2:dW t=0):cJ l t=jK (bK l (8*t.length+40) [] t 0 0):=by
 have hc:mS l t=(dW t,0):=if_neg (fun h=>h h1);unfold cJ;rw [hc,if_neg (fun h=>h h2)]
theorem tJ {t:List Int} (h4:t.length≤4000) (h:∀ x∈t,b7 x=true):dW t=0:=by
 unfold dW;rw [if_neg (by omega),if_neg];intro hb;unfold cK at hb;obtain⟨x,hx,h2⟩:=List.any_eq_true.1 hb;rw [h x hx]at h2;cases h2
theorem BU {l:List ai} (hR:∀ r∈l,bQ r) {u:Int} (hu:b7 u=true):∀ x∈aS l u,b7 x=true:=by
 intro x hx;unfold aS at hx;rcases fE l [u] 0 with h | ⟨k,r,h,hk,_⟩
 ·rw [if_pos (by rw [h];decide)]at hx;rw [List.mem_singleton.1 hx];exact hu
 rw [if_neg (by rw [h];omega),h,Int.toNat_natCast,hk]at hx;have hb:=(hR r (List.mem_of_getElem? hk)).tgt.2;unfold cK at hb;have:=List.any_eq_false.1 hb x hx;simpa using this
theorem IV {α β:Type} {f:α→List β}:∀ {T:List α},(∀ x∈T,f x ≠ [])→T.length≤(T.flatMap f).length:=by
 intro T;induction T with
 | nil=>intro _;exact Nat.zero_le _
 | cons a T ih=>
  intro h;have h1:=List.length_pos_iff.2 (h a (by simp));have h2:=ih (fun x hx=>h x (by simp [hx]));rw [List.flatMap_cons,List.length_append,List.length_cons];omega
theorem OD {l back:List ai} {dom:af} {T:List Int} (h:xo l back dom) (hT:∀ x∈T,b7 x=true) (hd:∀ x∈T,bf dom x=true) :
    ((cJ l T).2.1=0∧(cJ back (cJ l T).1.text).2.1=0∧(cJ back (cJ l T).1.text).1.text=T)∨(cJ l T).2.1=4:=by
 obtain⟨h1,h2,_,hf,hb⟩:=h;by_cases h4:4000<T.length
 ·refine .inr ?_;have ht:dW T=4:=if_pos h4;have hc:mS l T=(dW T,0):=if_neg (fun h=>h h1);unfold cJ;rw [hc,ht];rfl
 have ht:=tJ (by omega) hT;have uo:=vQ l T;rw [MY h1 ht]at uo ⊢;rcases Jm hf T (8*T.length+40) [] 0 0 hd (by omega)with h5 | ⟨h5,h6⟩
 ·refine .inr ?_;unfold jK;rw [if_pos (by rw [h5];decide),h5]
 have e:jK (bK l (8*T.length+40) [] T 0 0)=((bK l (8*T.length+40) [] T 0 0).1,(0,0)):=by
  unfold jK;rw [if_neg (fun h=>h h5)]
 rw [e]at uo ⊢;dsimp only at uo ⊢;rw [h6,List.nil_append]at uo ⊢;have ht2:dW (T.flatMap (aS l))=0:=tJ uo (fun x hx=>by
  obtain⟨u,hu,hx⟩:=List.mem_flatMap.1 hx;exact BU (j8 (l:=l) h1) (hT u hu) x hx)
 have hlen:=IV (f:=aS l) (fun x hx=>hb.some x (hd x hx));obtain⟨g1,g2⟩:=K5 hb T (8*(T.flatMap (aS l)).length+40) [] 0 0 hd (by omega) (by simpa using uo);have e2:jK (bK back (8*(T.flatMap (aS l)).length+40) [] (T.flatMap (aS l)) 0 0)=((bK back (8*(T.flatMap (aS l)).length+40) [] (T.flatMap (aS l)) 0 0).1,(0,0)):=by
  unfold jK;rw [if_neg (fun h=>h g1)]
 refine .inl ⟨rfl,?_⟩;rw [MY h2 ht2,e2];exact⟨rfl,by rw [g2];rfl⟩
theorem Az {t:List Int} (h:∀ x∈t,Utf8.valid x=true):∀ x∈t,b7 x=true:=fun x hx=>by
 have:=h x hx;simp [Utf8.valid]at this;unfold b7;rw [decide_eq_true_iff];omega
def Wp (W:World) (s:af) (T:List Int) (i:Value) (wr:World):Prop:=∃ q:Nat,q≤T.length∧i=.int .i64 (q:Int)∧(∀ r∈T.take q,bf s r=true)∧Below W.heap.size W wr
theorem uc (HC:AH) (file text:ByteArray) (A0:Option Addr) (n0 c0:Nat) (s:af) (hf:file.size≤1099511627776) (ht:text.size≤1099511627776) (w:World) (hn0:n0<4611686018427387904) (hnc:n0≤c0) (hs:jz w w.heap.size A0 n0 s) :
    Calls Tryz.prog 4 #[.string file,.slice A0 n0 c0,.string text] w fun e w'=>e=.returned (.bool true)∧Below w.heap.size w w':=by
 have Kh:=qqh (fun(W:World)=>FK file hf W);unfold pI at Kh;have qB:=qqh (Az (lM text));have Zy:=wj text;have SI:=qqh (fun(W:World)=>pP text W ht);unfold Bb at SI;have HS:=qqh (fun(W:World) (hb:Below w.heap.size w W)=>show jz W W.heap.size A0 n0 s from(Rd.below hs hb).more hb.size);clear hs;generalize dm text 0=T at *;have hT:T.length≤1099511627776:=(by omega);clear Zy;go_enter Tryz.func4,Tryz.ntmps4;go_wp2_with fail;refine(Iw w).mono ?_;rintro e w1 ⟨rfl,aR⟩;have bJ:=qqh aR;clear aR;go_wp2_with fail;refine(Kh.out w1).mono ?_;rintro e w2 ⟨⟨A,n,c,B,m,d,ok,rfl,hok⟩,aU⟩;have bD:=qqh (bJ.out.trans (aU.mono bJ.out.size));have Gp:=qqh hok;clear aU bJ Kh hok;cases ok
 ·go_wp2_with fail;go_ret;exact⟨rfl,bD.out⟩
 obtain⟨⟨l,hl,hn⟩,⟨back,hbk,hm⟩⟩:=Gp.out rfl;have hkp:aa w2 (fun _=>True) w2 (fun b=>b<w2.heap.size):=aa.below (Below.refl _ _) (fun b _ hl=>hl);have HSU:=qqh (IJ HC (fun b=>b<w2.heap.size) l back A B A0 n c m d n0 c0 s w2 (fun _ h=>h) hn (hl.keep hkp (fun _ _=>aL.keep hkp)) hm (hbk.keep hkp (fun _ _=>aL.keep hkp)) (by omega) hnc (HS.out w2 bD.out));have KD:=qqh hl;have Nw:=qqh hbk;clear hkp hl hbk Gp;go_wp2_with fail;refine HSU.out.mono ?_;rintro e w3 ⟨⟨sb,er,rfl,hsu⟩,bL⟩;have HSO:=qqh hsu;have bG:=qqh (bD.out.trans (bL.mono bD.out.size));have Ob:=qqh (KD.out.keep (aa.any bL) (fun _ _=>aL.keep (aa.any bL)));have Tw:=qqh (Nw.out.keep (aa.any bL) (fun _ _=>aL.keep (aa.any bL)));clear hsu bL HSU KD Nw bD;go_wp2_with fail;refine(SI.out w3).mono ?_;rintro e w4 ⟨v,rfl,ho,hb4⟩;obtain⟨D,k,rfl,hk⟩:=aI ho;have oU:=qqh (Rd.cP ho);have dI:=qqh (bG.out.trans (hb4.mono bG.out.size));have QF:=qqh (Ob.out.keep (aa.any hb4) (fun _ _=>aL.keep (aa.any hb4)));have Y7:=qqh (Tw.out.keep (aa.any hb4) (fun _ _=>aL.keep (aa.any hb4)));clear ho hb4 SI Ob Tw bG;by_cases he:er=0;rotate_left
 ·go_wp2_with fail;go_ret;exact⟨rfl,dI.out⟩
 subst he;cases sb
 ·go_wp2_with fail;go_ret;exact⟨rfl,dI.out⟩
 have Sd:=qqh (show xo l back s from HSO.out rfl (by first | rfl | trivial));clear HSO;go_wp2_with fail;go_loopw [45] (Wp w4 s T) (fun i _=>T.length - (intOf i).toNat);(case atStart=>exact⟨0,Nat.zero_le _,rfl,by simp,Below.refl _ _⟩);obtain⟨q,hq,rfl,hall,hb⟩:=hrel;have jH:=qqh hall;have Ek:=qqh hb;have dn:=qqh (dI.out.trans (hb.mono dI.out.size));have YI:=qqh (Rd.more (Rd.below oU.out hb) hb.size);clear hall hb;by_cases hlt:q<T.length
 ·obtain⟨r,hr⟩:∃ r,T[q]? = some r:=⟨_,List.getElem?_eq_getElem hlt⟩;obtain⟨bu,ou,rfl,_,AQ⟩:=lX.at YI.out hlt;have hgu:T.getD q 0=r:=(by rw [List.getD_eq_getElem?_getD,hr];rfl);rw [hgu]at AQ;have GP:=qqh (show T.take (q+1)=T.take q++[r] by rw [List.take_add_one,hr];rfl);have HHA:=qqh (Oo A0 n0 c0 s r wr hn0 (HS.out wr dn.out));have JC:(0:Int)≤(q:Int):=(by omega);have hq1:(q:Int)<(T.length:Int):=(by omega);have Sm:decide ((q:Int)<(T.length:Int))=true:=decide_eq_true hq1;clear hr hgu;go_wp2_with fail;refine HHA.out.mono ?_;rintro e w6 ⟨⟨b,rfl,XR⟩,dV⟩;have fG:=qqh (dn.out.trans (dV.mono dn.out.size));have aaZ:=qqh (Ek.out.trans (dV.mono Ek.out.size));have NL:=qqh XR;clear dV XR;cases b
  ·go_wp2_with fail;go_ret;exact⟨rfl,fG.out⟩
  go_wp2_with fail;refine⟨⟨q+1,by omega,by go_num,fun x hx=>?_,aaZ.out⟩,by simp [intOf];omega⟩;rw [GP.out]at hx;rcases List.mem_append.1 hx with hx | hx;exact jH.out x hx;rw [List.mem_singleton.1 hx];exact(NL.out Sd.out.2.2.1).symm
 obtain VV:q=T.length:=(by omega);have Mp:=qqh (OD Sd.out qB.out (fun r hr=>jH.out r (by rw [VV,List.take_length];exact hr)));have hT3:T.length≤maxLen:=(by simp only [maxLen];omega);have T1:=qqh (QF.out.keep (aa.any Ek.out) (fun _ _=>aL.keep (aa.any Ek.out)));have Ys:=qqh (Y7.out.keep (aa.any Ek.out) (fun _ _=>aL.keep (aa.any Ek.out)));have kS:=qqh (CO (fun _=>True) l A n c T D T.length k wr hn T1.out hT3 YI.out);unfold sO at kS;have Sm:decide ((q:Int)<(T.length:Int))=false:=decide_eq_false (by omega);clear QF Y7 dI oU jH Ek qB Sd VV;go_wp2_with fail;refine kS.out.mono ?_;rintro e w6 ⟨⟨A3,n3,c3,rfl,kH,aht⟩,dV⟩;have uo:=vQ l T;obtain⟨⟨WB,s3,p3⟩,g1,g2,hC⟩:∃ o g1 g2,cJ l T=(o,(g1,g2)):=⟨_,_,_,rfl⟩;rw [hC]at kH uo Mp ⊢;dsimp only at kH uo Mp ⊢;have hba:=((Below.refl w6.heap.size w6).alloc (Nat.le_refl _) (.cells #[.slice A3 n3 c3,.int .i64 s3,.int .i64 p3] 51)).alloc (by simp) (.cells #[.int .i64 g1,.int .i64 g2] 38);have cH:=dV.trans (hba.mono dV.size);have iU:=qqh (dn.out.trans (cH.mono dn.out.size));have Jh:=qqh (show aj ((w6.alloc (.cells #[.slice A3 n3 c3,.int .i64 s3,.int .i64 p3] 51)).alloc (.cells #[.int .i64 g1,.int .i64 g2] 38)) w6.heap.size 51 #[.slice A3 n3 c3,.int .i64 s3,.int .i64 p3] from(aj.new w6 _ _).alloc _)
 have oQ:=qqh (show aj ((w6.alloc (.cells #[.slice A3 n3 c3,.int .i64 s3,.int .i64 p3] 51)).alloc (.cells #[.int .i64 g1,.int .i64 g2] 38)) (w6.heap.size+1) 38 #[.int .i64 g1,.int .i64 g2] by simpa using aj.new (w6.alloc (.cells #[.slice A3 n3 c3,.int .i64 s3,.int .i64 p3] 51)) 38 #[.int .i64 g1,.int .i64 g2]);have XC:=qqh (kH.keep (aa.any hba)).of;have HT7:=qqh ((cE.Dv (X:=fun b=>b<wr.heap.size) YI.out (Nat.le_refl _) (fun _ h=>h)).keep (X':=fun b=>b<w6.heap.size) (aa.below cH (fun b h _=>Nat.lt_of_lt_of_le h dV.size)));have Yf:=qqh (Ys.out.keep (aa.any cH) (fun _ _=>aL.keep (aa.any cH)));have Qz:n3≤maxLen:=(by have:=kH.1;rw [runeCells_length]at this;simp only [maxLen];omega);have HWZ:=qqh (Nat.le_trans (Nat.le_trans dn.out.size dV.size) (Nat.le_succ _));clear dV kH hba cH hC kS dn YI T1 Ys uo;go_upto_region 17 with fail;generalize (w6.alloc (.cells #[.slice A3 n3 c3,.int .i64 s3,.int .i64 p3] 51)).alloc (.cells #[.int .i64 g1,.int .i64 g2] 38)=W7 at *;have q0:=oQ.out.cell 0;have o0:=Jh.out.cell 0;by_cases hg:g1=0;rotate_left
 ·have h4:g1=4:=by
   rcases Mp.out with ⟨h,_⟩ | h;exact absurd h hg;exact h
  subst h4;go_wp2_with fail;go_ret;exact⟨rfl,iU.out⟩
 subst hg;have Vc:=qqh (show(cJ back WB).2.1=0∧(cJ back WB).1.text=T by
  rcases Mp.out with ⟨_,h⟩ | h;exact h;cases h)
 have gJ:=qqh (CO (fun _=>True) back B m d WB A3 n3 c3 W7 hm Yf.out Qz XC.out);unfold sO at gJ;clear Mp Yf XC;go_wp2_with fail;refine gJ.out.mono ?_;rintro e w8 ⟨⟨A4,n4,c4,rfl,DZ,_⟩,fI⟩;obtain⟨⟨VU,s4,p4⟩,h1,h2,hC2⟩:∃ o g1 g2,cJ back WB=(o,(g1,g2)):=⟨_,_,_,rfl⟩;have hla:=Vc.out;rw [hC2]at DZ hla ⊢;dsimp only at DZ hla ⊢;obtain⟨nQ,rM⟩:=hla;subst nQ;have Pa:=qqh rM;have rD:n4≤1099511627776:=(by have:=DZ.1;rw [runeCells_length,rM]at this;omega);clear rM;have nL:=(Below.refl w8.heap.size w8).alloc (Nat.le_refl _) (.cells #[.slice A4 n4 c4,.int .i64 s4,.int .i64 p4] 51);have bY:=fI.trans (nL.mono fI.size);have Tr:=oQ.out.below bY oQ.out.lt;have hO9:=aj.new w8 51 #[.slice A4 n4 c4,.int .i64 s4,.int .i64 p4];have SK:w6.heap.size+1<w8.heap.size:=Nat.lt_of_lt_of_le oQ.out.lt fI.size;have gL:=qqh ((hO9.ri (i:=0) (Nat.ne_of_gt SK) (.int .i64 0)).ri (i:=1) (Nat.ne_of_gt SK) (.int .i64 h2));have nj:=qqh ((Tr.put 0 (.int .i64 0)).put 1 (.int .i64 h2));have eG:=qqh (((iU.out.trans (bY.mono iU.out.size)).setCell (p:=⟨w6.heap.size+1,0,none⟩) HWZ.out (.int .i64 0)).setCell (p:=⟨w6.heap.size+1,1,none⟩) HWZ.out (.int .i64 h2));have Zq:=qqh (((DZ.keep (X':=fun b=>b≠w6.heap.size+1) (aa.below nL (fun b (h:W7.heap.size≤b) _=>by have:=oQ.out.lt;omega))).keep (aa.setCell (p:=⟨w6.heap.size+1,0,none⟩) (X':=fun b=>b≠w6.heap.size+1) (.int .i64 0) (fun b h=>h) (fun b h _=>h))).keep (aa.setCell (p:=⟨w6.heap.size+1,1,none⟩) (X':=fun b=>b≠w6.heap.size+1) (.int .i64 h2) (fun b h=>h) (fun b h _=>h)))
 have HT9:=qqh (((HT7.out.keep (X':=fun b=>b≠w6.heap.size+1) (aa.below bY (fun b (h:b<w6.heap.size) _=>by omega))).keep (aa.setCell (p:=⟨w6.heap.size+1,0,none⟩) (X':=fun b=>b≠w6.heap.size+1) (.int .i64 0) (fun b h=>h) (fun b h _=>h))).keep (aa.setCell (p:=⟨w6.heap.size+1,1,none⟩) (X':=fun b=>b≠w6.heap.size+1) (.int .i64 h2) (fun b h=>h) (fun b h _=>h)));have f0:=Tr.frozen 0;have k0:=Tr.cell 0;have f1:=(Tr.put 0 (.int .i64 0)).frozen 1;have k1:=(Tr.put 0 (.int .i64 0)).cell 1;clear DZ fI nL bY Tr hO9 SK q0 o0 gJ hC2 Jh oQ iU HT7 Vc HWZ;go_upto_region 20 with fail;clear f0 k0 f1 k1;generalize ((w8.alloc (.cells #[.slice A4 n4 c4,.int .i64 s4,.int .i64 p4] 51)).setCell ⟨w6.heap.size+1,0,none⟩ (.int .i64 0)).setCell ⟨w6.heap.size+1,1,none⟩ (.int .i64 h2)=W9 at *;have q0:W9.cell? ⟨w6.heap.size+1,0,none⟩=some (.int .i64 0):=nj.out.cell 0;have o0:W9.cell? ⟨w8.heap.size,0,none⟩=some (.slice A4 n4 c4):=gL.out.cell 0;have G6:=qqh (LO A4 D n4 T.length c4 k VU T W9 (by omega) Zq.out.of HT9.out.of);rw [show(VU == T)=true by rw [Pa.out];simp]at G6;go_wp2_with fail;refine G6.out.mono ?_;rintro e Kn ⟨rfl,nq,rfl⟩;have Xm:=rO eG.out nq;go_wp2_with fail;go_ret;exact⟨rfl,Xm⟩
theorem Pr:AH:=fun w X L A n c h k s hk=>by
 obtain⟨A0,n0,c0,e,h1,_⟩:=h;cases e;obtain⟨b,off,cs,e,hx,hb,⟨u,rfl,⟨A',n',c',rfl,h2,h3⟩,⟨A2,n2,c2,e2,h4⟩⟩,_,hc⟩:=(sg h1).at hk;cases e2;have:=hc 0 _ rfl;rw [Nat.mul_one,Nat.add_zero]at this;exact⟨b,off,A',n',c',e,hb,this,h2.of,h4⟩
theorem Eu (file text:ByteArray) (A0:Option Addr) (n0 c0:Nat) (s:af) (hf:file.size≤1099511627776) (ht:text.size≤1099511627776) (w:World) (hn0:n0<4611686018427387904) (hnc:n0≤c0) (hs:jz w w.heap.size A0 n0 s) :
    Calls Tryz.prog 4 #[.string file,.slice A0 n0 c0,.string text] w fun e w'=>e=.returned (.bool true)∧Below w.heap.size w w' :=
  uc Pr file text A0 n0 c0 s hf ht w hn0 hnc hs
end Go.Proofs.YtkggjgeihhialaaGreatDoor
