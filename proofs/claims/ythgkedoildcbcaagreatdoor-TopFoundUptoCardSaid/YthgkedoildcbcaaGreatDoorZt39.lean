/- Links + RefLinks + FindP + FindWalk -/
import Derived.Test.YthgkedoildcbcaaGreatDoorZt38
import Derived.Deep.RegionHeld3
import Derived.Test.YthgkedoildcbcaaGreatDoorZt26
import Derived.Test.YthgkedoildcbcaaGreatDoorZt37
import Derived.Test.YthgkedoildcbcaaGreatDoorRows
import Derived.Test.YthgkedoildcbcaaGreatDoorZt3
import Derived.Deep.QuietTactic
import Derived.BigQuiet
set_option maxHeartbeats 12800000
set_option maxRecDepth 100000
namespace Go.Proofs.YthgkedoildcbcaaGreatDoor
open Go.RowKit
theorem LG:(Tryz.prog.info? 74).map (fun i=>(i.zero,i.size,i.bytes))=some (some (.agg #[.int .i64 0,.int .i64 0,.int .i64 0,.int .i64 0,.int .i64 0]),5,40):=by kernel_rfl
def xS (lo:Nat) (w':World) (o:List ep × (Int × Int)) (e:Ending):Prop :=
  ∃ (A:Option Addr) (n c:Nat),e=.returned (.tuple #[.slice A n c,.agg #[.int .i64 o.2.1,.int .i64 o.2.2]])∧bW w' (fun b=>lo≤b) 5 A n (bK o.1)∧n≤100000∧n≤c
theorem xS.nil (lo:Nat) (w':World) (a b:Int):xS lo w' ([],(a,b)) (.returned (.tuple #[.slice none 0 0,.agg #[.int .i64 a,.int .i64 b]])) :=
  ⟨none,0,0,rfl,⟨rfl,fun h=>absurd h (Nat.lt_irrefl 0)⟩,Nat.zero_le _,Nat.le_refl _⟩
def Ky (l:List aj) (tr:List (Int × Int)) (n:Nat) (W3:World) (out src i:Value) (wr:World):Prop :=
  ∃ k:Nat,k≤n∧i=.int .i64 k∧src=.int .i64 (iW l (tr.take k))∧wr.ownsRow W3.heap.size 74 5 out k (bK (cI l 0 (tr.take k)))∧Below W3.heap.size W3 wr
theorem Il {tr:List (Int × Int)} {k:Nat} {a q:Int} (h:tr[k]? = some (a,q)):(aS tr)[k*2]? = some (.int .i64 a)∧(aS tr)[k*2+1]? = some (.int .i64 q):=by
 induction tr generalizing k with
 | nil=>simp at h
 | cons z tr ih=>
  cases k with
  | zero=>simp at h;subst h;simp [aS]
  | succ k=>
   have:=ih (by simpa using h);simp only [aS,List.flatMap_cons]at this ⊢;have e1:(k+1)*2=k*2+1+1:=(by omega);rw [e1];simpa using this
theorem Gy {α:Type} {l:List α} {k:Nat} {x:α} (h:l[k]? = some x):l.take (k+1)=l.take k++[x]:=by
 rw [List.take_add_one,h];rfl
theorem FH {l:List aj} {tr:List (Int × Int)} {k:Nat} {a q:Int} (h:tr[k]? = some (a,q)) :
    cI l 0 (tr.take (k+1))=cI l 0 (tr.take k)++[xu l (iW l (tr.take k)) a q]∧iW l (tr.take (k+1))=iW l (tr.take k)+jG l q:=by
 rw [Gy h,xp,Bo];simp [cI,iW]
theorem pQ (l:List aj) (F:Nat) (a:Int):xu l F a (-1)=⟨F,(F:Int)+1,a,a+1,-1⟩∧jG l (-1)=1:=⟨rfl,rfl⟩
theorem pU {l:List aj} {k:Nat} {r:aj} (h:l[k]? = some r) (F:Nat) (a:Int):xu l F a k=⟨F,(F:Int)+r.source.length,a,a+r.target.length,k⟩∧jG l k=r.source.length:=by
 unfold xu jG;rw [if_neg (by omega),Int.toNat_natCast,h];exact⟨rfl,rfl⟩
theorem Dk (X:Nat→Prop) (l:List aj) (Ar:Option Addr) (nr cr:Nat) (t:List Int) (At:Option Addr) (nt ct:Nat) (w:World) (wJ:nr≤maxLen) (hl:aZ (aO w X) w X 7 Ar nr l) (hnt:nt≤maxLen) (ht:mc w w.heap.size At nt t) :
    Calls Tryz.prog 23 #[.slice Ar nr cr,.slice At nt ct] w fun e w'=>xS w.heap.size w' (jg l t) e∧Below w.heap.size w w':=by
 obtain⟨i1,hi1,z0,z1,z2⟩:=info_parts LG;have hb0:=(Below.refl w.heap.size w).alloc (Nat.le_refl _) (.cells #[.int .i64 0,.int .i64 0] 32);have oV:=qqh (ai.new w 32 #[.int .i64 0,.int .i64 0]);have dO:=qqh hb0;have HL:=qqh (fun(W:World) (hb:Below w.heap.size w W)=>show aZ (aO W X) W X 7 Ar nr l from hl.keep (af.any hb) (fun _ _=>aO.keep (af.any hb)));have HP:=qqh (Mw X l Ar nr cr t At nt ct _ wJ (HL.out _ hb0) hnt ((Rd.below ht hb0).more hb0.size));have No:=qqh (show l.length=nr from hl.len);clear hb0 hl ht;go_enter Tryz.func23,Tryz.ntmps23;go_wp2_with fail;refine HP.out.mono ?_;rintro e w1 ⟨⟨As,ns,cs,rfl,hr,hns⟩,aW⟩;have oH:=qqh (ai.below oV.out aW oV.out.lt);have b7:=qqh (dO.out.trans (aW.mono dO.out.size));have iZ:=qqh hr;obtain⟨tr,f1,f2,hP⟩:∃ tr f1 f2,nP l t=(tr,(f1,f2)):=⟨_,_,_,rfl⟩;have Vo:=qqh hP;rw [hP]at iZ ⊢;dsimp only at iZ ⊢;have fm:=qqh (ai.new w1 32 #[.int .i64 f1,.int .i64 f2]);have hba:=(Below.refl w1.heap.size w1).alloc (Nat.le_refl _) (.cells #[.int .i64 f1,.int .i64 f2] 32);have mh:=qqh (ai.below oH.out hba oH.out.lt);have bG:=qqh (b7.out.trans (hba.mono b7.out.size));have iX:=qqh (iZ.out.keep (af.any hba));have hw1:=oH.out.lt;clear aW hr hP hba oV dO HP oH b7 iZ;go_upto_region 2 with fail;generalize w1.alloc (.cells #[.int .i64 f1,.int .i64 f2] 32)=W2 at *;have q0:=fm.out.cell 0;have q1:=fm.out.cell 1;have x0:=mh.out.cell 0;have x1:=mh.out.cell 1;have p0:=mh.out.frozen 0;have p1:=mh.out.frozen 1;by_cases hz:f1=0
 ·have RE:(cF l t).2.1=0:=by
   have h:=Vo.out;unfold nP at h;by_cases h0:(cF l t).2.1=0;exact h0;rw [if_pos h0]at h;exact absurd (show(cF l t).2.1=0 from(congrArg (fun z=>z.2.1) h).trans hz) h0
  have nC:=qqh (show tr=gv l t by
   have h:=Vo.out;unfold nP at h;rw [if_neg (fun h2=>h2 RE)]at h;exact(congrArg (fun z=>z.1) h).symm)
  have HA:=qqh (show jg l t=if ju l=false then ([],(8,0))else (cI l 0 tr,(0,0)) by unfold jg;rw [if_neg (fun h=>h RE),nC.out]);have HGD:=qqh (show tw l tr by rw [nC.out];exact Eb RE);have qO:=qqh (pK (oN RE).1);have ad6:l.length≤200:=(fV (oN RE).1).size;clear RE;subst hz;have HSU:=qqh (Cx X Ar nr cr l W2 (HL.out W2 bG.out) wJ);clear Vo nC;go_wp2_with fail;refine HSU.out.mono ?_;rintro e w3 ⟨rfl,bN⟩;have ou:=qqh (ai.below mh.out bN mh.out.lt);have bL:=qqh (bG.out.trans (bN.mono bG.out.size));have sX:=qqh (iX.out.keep (af.any bN));have zl:=ou.out.lt;clear bN mh bG iX fm q0 q1 x0 x1 p0 p1;cases hsu:ju l
  ·have HG:=qqh (HA.out.trans (if_pos hsu));have x0:=ou.out.cell 0;have x1:=ou.out.cell 1;have p0:=ou.out.frozen 0;have p1:=ou.out.frozen 1;have fO:=(bL.out.setCell (p:=⟨w.heap.size,0,none⟩) (by simp) (.int .i64 8)).setCell (p:=⟨w.heap.size,1,none⟩) (by simp) (.int .i64 0);have lO:=qqh fO;clear fO hsu HA;go_wp2_with fail;rw [HG.out];exact bodyPost_ret (v:=.tuple #[.slice none 0 0,.agg #[.int .i64 8,.int .i64 0]]) (by simp [results,Tryz.results23,go_sem,x0,x1]) rfl ⟨xS.nil _ _ _ _,lO.out⟩
  have HG:=qqh (HA.out.trans (if_neg (by rw [hsu];decide)));have TK:=qqh (show tr.length=ns by have:=sX.out.1;rw [jD]at this;omega);have Wl:=qqh (HL.out w3 bL.out);clear hsu HA;go_wp2_with fail;go_loopw [8,9,32] (Ky l tr ns w3) (fun _ _ i _=>ns - (intOf i).toNat);(case atStart=>exact⟨0,Nat.zero_le _,rfl,rfl,World.ownsRow_nil _ _ _ _,Below.refl _ _⟩);obtain⟨k,hk,rfl,rfl,ho,hb⟩:=hrel;have HO:=qqh ho;have HB:=qqh hb;have UO:=hb.size;obtain⟨Ao,co,rfl,hco⟩:=aI ho;by_cases hlt:k<ns
  ·obtain⟨⟨a,q⟩,hx⟩:∃ x,tr[k]? = some x:=⟨_,List.getElem?_eq_getElem (by rw [TK.out];exact hlt)⟩;obtain⟨ha0,mI,hq⟩:=HGD.out _ (List.mem_of_getElem? hx);dsimp only at ha0 mI hq;obtain⟨bs,os,rfl,_,XN,hcs⟩:=sX.out.2 (by omega);have d0:wr.cell? ⟨bs,os+k*2,none⟩=some (.int .i64 a):=(hb.cell (p:=⟨bs,os+k*2,none⟩) XN).trans (hcs _ _ (Il hx).1);have d1:wr.cell? ⟨bs,os+k*2+1,none⟩=some (.int .i64 q):=(hb.cell (p:=⟨bs,os+k*2+1,none⟩) XN).trans (by rw [Nat.add_assoc];exact hcs _ _ (Il hx).2);have vn:=qqh (FH (l:=l) hx);have hF:=Ml qO.out (tr.take k);obtain⟨F,hFe⟩:∃ F,iW l (tr.take k)=F:=⟨_,rfl⟩;rw [hFe]at vn hF ⊢;have hF2:F≤2000000:=by
    rw [List.length_take]at hF;omega
   have hba:=((Below.refl wr.heap.size wr).alloc (Nat.le_refl _) (.cells #[.int .i64 a,.int .i64 q] 119)).alloc (by simp) (.cells #[.int .i64 F,.int .i64 ((F:Int)+1),.int .i64 a,.int .i64 (a+1),.int .i64 (-1)] 74);have yU:=qqh ((ai.new wr 119 #[.int .i64 a,.int .i64 q]).alloc (.cells #[.int .i64 F,.int .i64 ((F:Int)+1),.int .i64 a,.int .i64 (a+1),.int .i64 (-1)] 74));have CY:=qqh (show ai ((wr.alloc (.cells #[.int .i64 a,.int .i64 q] 119)).alloc (.cells #[.int .i64 F,.int .i64 ((F:Int)+1),.int .i64 a,.int .i64 (a+1),.int .i64 (-1)] 74)) (wr.heap.size+1) 74 #[.int .i64 F,.int .i64 ((F:Int)+1),.int .i64 a,.int .i64 (a+1),.int .i64 (-1)] by
    have:=ai.new (wr.alloc (.cells #[.int .i64 a,.int .i64 q] 119)) 74 #[.int .i64 F,.int .i64 ((F:Int)+1),.int .i64 a,.int .i64 (a+1),.int .i64 (-1)];simpa using this)
   have ek:=qqh (HB.out.trans (hba.mono UO));have ox:=qqh (dy ho hba);have UQ:=qqh (show ∀ b,(Value.slice Ao k co).ownBlock=some b→b<wr.heap.size from fun b hb=>(aQ ho hb).2);clear hx hF hFe ho hb hcs hba HB HO;go_upto_region 12 with fail;generalize YZ:(wr.alloc (.cells #[.int .i64 a,.int .i64 q] 119)).alloc (.cells #[.int .i64 F,.int .i64 ((F:Int)+1),.int .i64 a,.int .i64 (a+1),.int .i64 (-1)] 74)=W4 at *;clear YZ d0 d1;have QO:=CY.out.lt;have s0:=yU.out.cell 0;have s1:=yU.out.cell 1;rcases hq with rfl | ⟨j,r,rfl,hj⟩
   ·have HE:=qqh (pQ l F a);have y0:=CY.out.cell 0;have y1:=CY.out.cell 1;have y2:=CY.out.cell 2;have y3:=CY.out.cell 3;have y4:=CY.out.cell 4;have HN:=qqh (Rd.new W4 74 5 1 [.int .i64 F,.int .i64 ((F:Int)+1),.int .i64 a,.int .i64 (a+1),.int .i64 (-1)] rfl);have H1:=qqh (show ∀ u ∈ [Value.int .i64 F,.int .i64 ((F:Int)+1),.int .i64 a,.int .i64 (a+1),.int .i64 (-1)],u.oneCell'=true by intro u hu;simp at hu;rcases hu with rfl | rfl | rfl | rfl | rfl <;> rfl);have ud:=qqh (World.ownsRow.alloc ox.out (.cells #[.int .i64 F,.int .i64 ((F:Int)+1),.int .i64 a,.int .i64 (a+1),.int .i64 (-1)] 74));have dQ:=qqh (ek.out.alloc ek.out.size (.cells #[.int .i64 F,.int .i64 ((F:Int)+1),.int .i64 a,.int .i64 (a+1),.int .i64 (-1)] 74));have KH:=qqh (CY.out.alloc (.cells #[.int .i64 F,.int .i64 ((F:Int)+1),.int .i64 a,.int .i64 (a+1),.int .i64 (-1)] 74));go_wp2_with (at_builtin;refine ak _ rfl (.tmp 72) (.tmp 74) 70 rfl w3.heap.size 74 i1 _ 5 40 Tryz.underlying70 hi1 z0 z1 z2 rfl (by decide) _ k _ rfl ud.out _ (some ⟨W4.heap.size,0,none⟩) 1 1 [.int .i64 F,.int .i64 ((F:Int)+1),.int .i64 a,.int .i64 (a+1),.int .i64 (-1)] rfl HN.out H1.out (by simp only [maxLen];omega) (by omega) dQ.out.size ?_);intro v' w9 au;have eK:=qqh (dQ.out.trans (au.below dQ.out.size ud.out));have Z8:=qqh (show ai w9 (wr.heap.size+1) 74 #[.int .i64 F,.int .i64 ((F:Int)+1),.int .i64 a,.int .i64 (a+1),.int .i64 (-1)] from(au.2.1.block _ KH.out.lt (fun e=>by have:=UQ.out _ e.symm;omega)).trans KH.out);have fN:=qqh (show w9.ownsRow w3.heap.size 74 5 v' (k+1) (bK (cI l 0 (tr.take (k+1)))) by
     rw [vn.out.1,HE.out.1,mT];exact au.own)
    clear au y0 y1 y2 y3 y4;have y1:=Z8.out.cell 1;go_wp2_with fail;exact⟨⟨k+1,by omega,by go_num,by rw [vn.out.2,HE.out.2];go_num,fN.out,eK.out⟩,by simp [intOf];omega⟩
   have hjn:j<nr:=(by have:=(List.getElem?_eq_some_iff.1 hj).1;have:=No.out;omega);obtain⟨rb,ro,A1,A2,A3,A4,n1,c1,n2,c2,n3,c3,n4,c4,rfl,_,dL,⟨_,_,_,d3,_,d5,_⟩,_,s2',_,T8,_⟩:=mu Wl.out hj;have hn2:r.source.length=n2:=s2'.list.len;have uH:r.target.length=n4:=(by have:=T8.1;rw [runeCells_length]at this;omega);subst hn2 uH;have jo:r.source.length≤20:=((qO.out r (List.mem_of_getElem? hj)).sets r.source (by simp [ee])).1;have TH:r.target.length≤20:=(qO.out r (List.mem_of_getElem? hj)).tgt.1;have HE:=qqh (pU hj F a);clear s2' T8 hj;have hj0:(0:Int)≤(j:Int):=(by omega);go_upto_region 14 with fail;have y0:=CY.out.cell 0;have y1:=CY.out.cell 1;have y3:=CY.out.cell 3;have y4:=CY.out.cell 4;have f1':=CY.out.frozen 1;have f3':=CY.out.frozen 3;have f4':=CY.out.frozen 4;have e3:W4.cell? ⟨rb,ro+j*7+3,none⟩=some (.slice A2 r.source.length c2):=(ek.out.cell (p:=⟨rb,ro+j*7+3,none⟩) dL).trans d3;have e5:W4.cell? ⟨rb,ro+j*7+5,none⟩=some (.slice A4 r.target.length c4):=(ek.out.cell (p:=⟨rb,ro+j*7+5,none⟩) dL).trans d5;have P8:¬ rb=wr.heap.size+1:=(by omega);have hn2:¬ wr.heap.size+1=rb:=(by omega);have RW:¬ wr.heap.size=wr.heap.size+1:=(by omega);have v1:IntKind.i64.wrap ((F:Int)+(r.source.length:Int))=(F:Int)+(r.source.length:Int):=IntWalk.i64_in _ (by omega);have v2:IntKind.i64.wrap (a+(r.target.length:Int))=a+(r.target.length:Int):=IntWalk.i64_in _ (by omega);clear d3 d5;go_region_held3 (fun w'=>w'.cell? ⟨rb,ro+j*7+3,none⟩=some (.slice A2 r.source.length c2)∧w'.cell? ⟨rb,ro+j*7+5,none⟩=some (.slice A4 r.target.length c4)∧w'.cell? ⟨wr.heap.size,0,none⟩=some (.int .i64 a)∧w'.cell? ⟨wr.heap.size,1,none⟩=some (.int .i64 j)) (go_keep) (fail);clear e3 e5 s0 s1 y0 y1 y3 y4;go_upto_region 15 with fail;clear v1 v2
   have KH:=qqh (show ai ((((W4.setCell ⟨wr.heap.size+1,1,none⟩ (.int .i64 ((F:Int)+(r.source.length:Int)))).setCell ⟨wr.heap.size+1,3,none⟩ (.int .i64 (a+(r.target.length:Int)))).setCell ⟨wr.heap.size+1,4,none⟩ (.int .i64 (j:Int))).drew) (wr.heap.size+1) 74 #[.int .i64 F,.int .i64 ((F:Int)+r.source.length),.int .i64 a,.int .i64 (a+r.target.length),.int .i64 (j:Int)] from((CY.out.put 1 (.int .i64 ((F:Int)+(r.source.length:Int)))).put 3 (.int .i64 (a+(r.target.length:Int)))).put 4 (.int .i64 (j:Int)));have dQ:=qqh (show Below w3.heap.size w3 ((((W4.setCell ⟨wr.heap.size+1,1,none⟩ (.int .i64 ((F:Int)+(r.source.length:Int)))).setCell ⟨wr.heap.size+1,3,none⟩ (.int .i64 (a+(r.target.length:Int)))).setCell ⟨wr.heap.size+1,4,none⟩ (.int .i64 (j:Int))).drew) from(((ek.out.setCell (p:=⟨wr.heap.size+1,1,none⟩) (by simp only;omega) _).setCell (p:=⟨wr.heap.size+1,3,none⟩) (by simp only;omega) _).setCell (p:=⟨wr.heap.size+1,4,none⟩) (by simp only;omega) _).drew)
   have ud:=qqh (show((((W4.setCell ⟨wr.heap.size+1,1,none⟩ (.int .i64 ((F:Int)+(r.source.length:Int)))).setCell ⟨wr.heap.size+1,3,none⟩ (.int .i64 (a+(r.target.length:Int)))).setCell ⟨wr.heap.size+1,4,none⟩ (.int .i64 (j:Int))).drew).ownsRow w3.heap.size 74 5 (.slice Ao k co) k (bK (cI l 0 (tr.take k))) from
     nQ (nQ (nQ ox.out (fun q hq=>Below.heap_setCell _ _ _ q (by have:=UQ.out q hq;simp only;omega))) (fun q hq=>Below.heap_setCell _ _ _ q (by have:=UQ.out q hq;simp only;omega))) (fun q hq=>Below.heap_setCell _ _ _ q (by have:=UQ.out q hq;simp only;omega)))
   generalize (((W4.setCell ⟨wr.heap.size+1,1,none⟩ (.int .i64 ((F:Int)+(r.source.length:Int)))).setCell ⟨wr.heap.size+1,3,none⟩ (.int .i64 (a+(r.target.length:Int)))).setCell ⟨wr.heap.size+1,4,none⟩ (.int .i64 (j:Int))).drew=W5 at *;have IC:=KH.out.lt;have y0:=KH.out.cell 0;have y1:=KH.out.cell 1;have y2:=KH.out.cell 2;have y3:=KH.out.cell 3;have y4:=KH.out.cell 4;have HN:=qqh (Rd.new W5 74 5 1 [.int .i64 F,.int .i64 ((F:Int)+r.source.length),.int .i64 a,.int .i64 (a+r.target.length),.int .i64 (j:Int)] rfl);have H1:=qqh (show ∀ u ∈ [Value.int .i64 F,.int .i64 ((F:Int)+r.source.length),.int .i64 a,.int .i64 (a+r.target.length),.int .i64 (j:Int)],u.oneCell'=true by intro u hu;simp at hu;rcases hu with rfl | rfl | rfl | rfl | rfl <;> rfl);have y8:=qqh (World.ownsRow.alloc ud.out (.cells #[.int .i64 F,.int .i64 ((F:Int)+r.source.length),.int .i64 a,.int .i64 (a+r.target.length),.int .i64 (j:Int)] 74));have gx:=qqh (dQ.out.alloc dQ.out.size (.cells #[.int .i64 F,.int .i64 ((F:Int)+r.source.length),.int .i64 a,.int .i64 (a+r.target.length),.int .i64 (j:Int)] 74));have Yp:=qqh (KH.out.alloc (.cells #[.int .i64 F,.int .i64 ((F:Int)+r.source.length),.int .i64 a,.int .i64 (a+r.target.length),.int .i64 (j:Int)] 74));go_wp2_with (at_builtin;refine ak _ rfl (.tmp 72) (.tmp 74) 70 rfl w3.heap.size 74 i1 _ 5 40 Tryz.underlying70 hi1 z0 z1 z2 rfl (by decide) _ k _ rfl y8.out _ (some ⟨W5.heap.size,0,none⟩) 1 1 [.int .i64 F,.int .i64 ((F:Int)+r.source.length),.int .i64 a,.int .i64 (a+r.target.length),.int .i64 (j:Int)] rfl HN.out H1.out (by simp only [maxLen];omega) (by omega) gx.out.size ?_);intro v' w9 au
   have eK:=qqh (gx.out.trans (au.below gx.out.size y8.out));have Z8:=qqh (show ai w9 (wr.heap.size+1) 74 #[.int .i64 F,.int .i64 ((F:Int)+r.source.length),.int .i64 a,.int .i64 (a+r.target.length),.int .i64 (j:Int)] from(au.2.1.block _ Yp.out.lt (fun e=>by have:=UQ.out _ e.symm;omega)).trans Yp.out);have fN:=qqh (show w9.ownsRow w3.heap.size 74 5 v' (k+1) (bK (cI l 0 (tr.take (k+1)))) by
    rw [vn.out.1,HE.out.1,mT];exact au.own)
   clear au y0 y1 y2 y3 y4;have y1:=Z8.out.cell 1;go_wp2_with fail;exact⟨⟨k+1,by omega,by go_num,by rw [vn.out.2,HE.out.2];go_num,fN.out,eK.out⟩,by simp [intOf];omega⟩
  obtain rfl:k=ns:=(by omega);have PT:=qqh (ai.below ou.out HB.out ou.out.lt);have x0:=PT.out.cell 0;have x1:=PT.out.cell 1;have p0:=PT.out.frozen 0;have p1:=PT.out.frozen 1;have eK:=qqh (bL.out.trans (HB.out.mono bL.out.size));have fO:=(eK.out.setCell (p:=⟨w.heap.size,0,none⟩) (by simp) (.int .i64 0)).setCell (p:=⟨w.heap.size,1,none⟩) (by simp) (.int .i64 0);have h5:=dR (dR HO.out (p:=⟨w.heap.size,0,none⟩) (by simp only;omega) (.int .i64 0)) (p:=⟨w.heap.size,1,none⟩) (by simp only;omega) (.int .i64 0);rw [List.take_of_length_le (by rw [TK.out];exact Nat.le_refl _)]at h5
  have HR:=qqh (show bW ((wr.setCell ⟨w.heap.size,0,none⟩ (.int .i64 0)).setCell ⟨w.heap.size,1,none⟩ (.int .i64 0)) (fun b=>w.heap.size≤b) 5 Ao k (bK (cI l 0 tr)) from
    bW.cy h5 (fun b hb=>Nat.le_trans (Nat.le_of_lt zl) (aQ h5 hb).1))
  have lO:=qqh fO;clear fO h5 ho hb;go_wp2_with fail;rw [HG.out];exact bodyPost_ret (v:=.tuple #[.slice Ao k co,.agg #[.int .i64 0,.int .i64 0]]) (by simp [results,Tryz.results23,go_sem,x0,x1]) rfl ⟨⟨Ao,k,co,rfl,HR.out,hns,hco⟩,lO.out⟩
 have HA:=qqh (show jg l t=([],(f1,f2)) by
  have h:=Vo.out;unfold nP at h;by_cases h0:(cF l t).2.1=0
  ·rw [if_neg (fun h2=>h2 h0)]at h;exact absurd (congrArg (fun z=>z.2.1) h).symm hz
  rw [if_pos h0]at h;unfold jg;rw [if_pos h0];exact congrArg (fun z=>(([]:List ep),z.2)) h)
 have xW:¬ w.heap.size=w1.heap.size:=(by omega);have yo:¬ w1.heap.size=w.heap.size:=(by omega);have fO:=((bG.out.setCell (p:=⟨w.heap.size,0,none⟩) (by simp) (.int .i64 f1)).setCell (p:=⟨w.heap.size,1,none⟩) (by simp) (.int .i64 f2)).drew;have lO:=qqh fO;clear fO;go_wp2_with fail;go_region
 all_goals
   go_wp2_with fail
   rw [HA.out]
   exact bodyPost_ret (v:=.tuple #[.slice none 0 0,.agg #[.int .i64 f1,.int .i64 f2]]) (by simp [results,Tryz.results23,go_sem,x0,x1]) rfl ⟨xS.nil _ _ _ _,lO.out⟩
theorem ID (l:List aj) (t:List Int) :
    (∃ c1 c2,c1≠0∧jB l t=(c1,c2)∧cF l t=(dw,(c1,c2)))∨∃ c2,jB l t=(0,c2) ∧
      ((∃ hs k1 k2,k1≠0∧dW l=(hs,(k1,k2))∧cF l t=(dw,(k1,k2)))∨∃ hs k2,dW l=(hs,(0,k2))∧cF l t=cN l t):=by
 obtain⟨r1,r2,hR⟩:∃ r1 r2,cT l=(r1,r2):=⟨_,_,rfl⟩;obtain⟨hs,k1,k2,hC⟩:∃ hs k1 k2,dW l=(hs,(k1,k2)):=⟨_,_,_,rfl⟩;unfold cF cN jB;rw [hR,hC];simp only;by_cases h1:r1=0
 ·rw [if_neg (fun h=>h h1),if_neg (fun h=>h h1)];by_cases h2:cP t=0
  ·rw [if_neg (fun h=>h h2)];refine .inr ⟨0,by rw [h2],?_⟩;by_cases h3:k1=0
   ·subst h3;exact .inr ⟨hs,k2,rfl,by rw [if_neg (fun h=>h rfl),if_neg (fun h=>h h2)]⟩
   exact .inl ⟨hs,k1,k2,h3,rfl,by rw [if_pos h3]⟩
  exact .inl ⟨_,_,h2,rfl,by rw [if_pos h2]⟩
 exact .inl ⟨r1,r2,h1,by rw [if_pos h1],by rw [if_pos h1]⟩
theorem uf (l:List aj) (t:List Int):jg l t=if (jB l t).1≠0 then ([],jB l t)else if (dW l).2.1≠0 then ([],(dW l).2)else if (cN l t).2.1≠0 then ([],(cN l t).2)else if ju l=false then ([],(8,0))else (cI l 0 (gv l t),(0,0)):=by
 unfold jg;rcases ID l t with ⟨k1,k2,hk,e1,e2⟩ | ⟨k2,e1,⟨hs,m1,m2,hk,e2,e3⟩ | ⟨hs,m2,e2,e3⟩⟩
 ·rw [e1,e2,if_pos hk,if_pos hk]
 ·rw [e1,e2,e3,if_pos hk,if_neg (fun h=>h rfl),if_pos hk]
 rw [e1,e2,e3,if_neg (c:=(0,k2).1≠0) (fun h=>h rfl),if_neg (c:=((hs,(0,m2)):List bt × (Int × Int)).2.1≠0) (fun h=>h rfl)]
theorem oI {l:List aj} {t:List Int} (h1:(jB l t).1=0) (h:(cN l t).2.1=0):(bC l (8*t.length+40) [] t 0 0).2=0:=by
 unfold cN at h;rw [if_neg (fun h2=>h2 h1)]at h;exact nS h
theorem tv (l:List aj):∀ (left:Nat) (done rest:List Int),(cY l left done rest).length≤left:=by
 intro left;induction left with
 | zero=>intro done rest;cases rest <;> simp [cY]
 | succ left ih=>
  intro done rest;cases rest with
  | nil=>rw [fQ];exact Nat.zero_le _
  | cons z rest=>
   rw [cY];split
   ·have:=ih (done++[z]) rest;simp only [List.length_cons];omega
   split
   ·simp
   simp only [List.length_cons];rename_i r _;have:=ih (done++(r.target++(z::rest).drop r.source.length).take r.aa.toNat) ((r.target++(z::rest).drop r.source.length).drop r.aa.toNat);omega
def Vb:Value→Nat
  | .slice _ n _=>n
  | _=>0
def abV (v:Value) (b:Nat):Prop:=v.ownBlock≠some b
def acR (l:List aj) (t:List Int) (bO:Nat) (W3:World) (out now src at_:Value) (wr:World):Prop :=
  ∃ (tr:List (Int × Int)) (done rest:List Int) (left s p m:Nat) (b o c:Nat),cY l bO [] t=tr++cY l left done rest∧bC l bO [] t 0 0=bC l left done rest s p∧m+left=bO∧tr.length=m ∧
    done.length+rest.length≤4000∧at_=.int .i64 done.length∧src=.int .i64 (iW l tr)∧now=.slice (some ⟨b,o,none⟩) (done.length+rest.length) c∧done.length+rest.length≤c ∧
    wr.ownsRow W3.heap.size 74 5 out m (bK (cI l 0 tr))∧bW wr (abV out) 1 (some ⟨b,o,none⟩) (done.length+rest.length) (runeCells (done++rest))∧Below W3.heap.size W3 wr
theorem yA {l:List aj} (h:ju l=true) {k:Nat} {r:aj} (hk:l[k]? = some r):r.aa.toNat=r.target.length:=by
 unfold ju at h;have:=List.all_eq_true.1 h r (List.mem_of_getElem? hk);rw [beq_iff_eq]at this;omega
def lC:List ep→Int→Int→Prop
  | [],b,e=>b=e
  | x::L,b,e=>x.Cd=b∧b≤x.fin∧lC L x.fin e
theorem tV {l:List aj} (hs:ju l=true):∀ (left:Nat) (done rest:List Int) (s p src:Nat),(bC l left done rest s p).2=0→lC (cI l src (cY l left done rest)) done.length ((bC l left done rest s p).1.text.length):=by
 intro left;induction left with
 | zero=>
  intro done rest s p src h;cases rest with
  | nil=>rw [fQ,fI];rfl
  | cons z rest=>rw [jz l done s p (by simp)]at h;cases h
 | succ left ih=>
  intro done rest s p src h;cases rest with
  | nil=>rw [fQ,fI];rfl
  | cons z rest=>
   rcases fW l (done++z::rest) done.length with jt | ⟨k,r,jt,hk,nZ⟩
   ·rw [iQ jt]at h ⊢;rw [jd jt,cI];refine⟨rfl,?_,?_⟩
    ·rw [(pQ l src _).1];show(done.length:Int)≤(done.length:Int)+1;omega
    have h2:=ih _ _ _ _ (src+jG l (-1)) h;rw [List.length_append,List.length_singleton]at h2;exact h2
   by_cases x7:4000<done.length+(r.target++(z::rest).drop r.source.length).length
   ·rw [iL jt hk x7]at h;cases h
   have G7:=yA hs hk;rw [iO jt hk x7,List.take_left' G7.symm,List.drop_left' G7.symm]at h ⊢;rw [i4 jt hk,List.take_left' G7.symm,List.drop_left' G7.symm,cI];have hl:=(pU hk src (done.length:Int)).1;refine⟨by rw [hl],?_,?_⟩
   ·rw [hl];show(done.length:Int)≤(done.length:Int)+r.target.length;omega
   have h2:=ih _ _ _ _ (src+jG l k) h;rw [hl];rw [List.length_append]at h2;exact_mod_cast h2
theorem Eu:∀ (L:List ep) (b e:Int),lC L b e→b≤e∧∀ x∈L,b≤x.Cd∧x.Cd≤x.fin∧x.fin≤e:=by
 intro L;induction L with
 | nil=>intro b e h;exact⟨Int.le_of_eq h,fun x hx=>by cases hx⟩
 | cons y L ih=>
  intro b e h;obtain⟨h1,h2,h3⟩:=h;obtain⟨h4,h5⟩:=ih _ _ h3;refine⟨by omega,fun x hx=>?_⟩;rcases List.mem_cons.1 hx with rfl | hx;exact⟨by omega,by omega,by omega⟩;have:=h5 x hx;exact⟨by omega,this.2.1,this.2.2⟩
theorem xE:∀ (L:List ep) (b e:Int) (k:Nat),lC L b e→∃ b',b≤b'∧lC (L.drop k) b' e:=by
 intro L;induction L with
 | nil=>intro b e k h;exact⟨b,Int.le_refl _,by simpa using h⟩
 | cons y L ih=>
  intro b e k h;cases k with
  | zero=>exact⟨b,Int.le_refl _,h⟩
  | succ k=>
   obtain⟨h1,h2,h3⟩:=h;obtain⟨b',h4,h5⟩:=ih _ _ k h3;exact⟨b',by omega,h5⟩
def vS (fC:List Int) (b e:Int):List Int:=(fC.drop b.toNat).take (e - b).toNat
theorem Oo {fC:List Int} {b e:Int} (h0:0≤b) (h1:b≤e) (h2:e≤fC.length):(vS fC b e).length=(e - b).toNat:=by
 unfold vS;rw [List.length_take,List.length_drop];omega
def qK (fC p:List Int) (x y:ep):List (Int × Int):=if (vS fC x.Cd y.fin == p)=true then [(x.src,y.upto)]else []
def qU (fC p:List Int) (x:ep) (ys:List ep):List (Int × Int):=ys.flatMap (qK fC p x)
def kA (fC p:List Int):List ep→List (Int × Int)
  | []=>[]
  | x::ys=>qU fC p x (x::ys)++kA fC p ys
theorem tf (fC p:List Int) (x:ep) (ys:List ep):kA fC p (x::ys)=qU fC p x (x::ys)++kA fC p ys:=rfl
theorem T1 (fC p:List Int) (x y:ep) (ys:List ep):qU fC p x (y::ys)=qK fC p x y++qU fC p x ys:=rfl
theorem Mm {fC p:List Int} {x y:ep} {ys:List ep} {b:Int} (h0:0≤x.Cd) (hc:lC (y::ys) b fC.length) (hf:(p.length:Int)<y.fin - x.Cd):qU fC p x (y::ys) = []:=by
 unfold qU;rw [List.flatMap_eq_nil_iff];obtain⟨h1,h2,h3⟩:=hc;obtain⟨h4,h5⟩:=Eu _ _ _ h3;intro z hz;have yW:y.fin≤z.fin∧z.fin≤fC.length:=by
  rcases List.mem_cons.1 hz with rfl | hz;exact⟨by omega,by omega⟩;have:=h5 z hz;exact⟨by omega,by omega⟩
 unfold qK;rw [if_neg];intro h;rw [beq_iff_eq]at h;have:=Oo (fC:=fC) (b:=x.Cd) (e:=z.fin) h0 (by omega) yW.2;rw [h]at this;omega
def DI (l:List aj) (t p:List Int):List (Int × Int) × (Int × Int) :=
  if (jg l t).2.1≠0 then ([],(jg l t).2)else if cP p≠0 then ([],(cP p,1))else if p.length=0 then ([],(6,1))else (kA (cN l t).1.text p (jg l t).1,(0,0))
theorem nM (l:List aj):∀ (left:Nat) (done rest:List Int) (s p:Nat),done.length+rest.length≤4000→(bC l left done rest s p).1.text.length≤4000:=by
 intro left;induction left with
 | zero=>
  intro done rest s p h;cases rest with
  | nil=>simpa [fI] using h
  | cons z rest=>exact Nat.zero_le _
 | succ left ih=>
  intro done rest s p h;cases rest with
  | nil=>simpa [fI] using h
  | cons z rest=>
   rw [bC];split
   ·refine ih _ _ _ _ ?_;simp only [List.length_append,List.length_cons,List.length_nil]at h ⊢;omega
   split;exact Nat.zero_le _;split;exact Nat.zero_le _;rename_i hm;refine ih _ _ _ _ ?_;rw [List.length_append,Nat.add_assoc,← List.length_append,List.take_append_drop];omega
theorem xT {l:List aj} {t:List Int} (h:(jg l t).2.1=0):lC (jg l t).1 0 (cN l t).1.text.length∧(jg l t).1.length≤40000∧(cN l t).1.text.length≤4000:=by
 rw [uf]at h ⊢;by_cases h1:(jB l t).1=0
 ·rw [if_neg (fun h2=>h2 h1)]at h ⊢;by_cases h2:(dW l).2.1=0
  ·rw [if_neg (fun h3=>h3 h2)]at h ⊢;by_cases h3:(cN l t).2.1=0
   ·rw [if_neg (fun h4=>h4 h3)]at h ⊢;cases hs:ju l
    ·rw [if_pos hs]at h;cases h
    rw [if_neg (by decide)];have h0:=oI h1 h3;have hr:(cN l t).1=(bC l (8*t.length+40) [] t 0 0).1:=by
     unfold cN;rw [if_neg (fun h2=>h2 h1)];unfold jV;rw [if_neg (fun h2=>h2 h0)]
    have ht:=(mV (xL h1).2).1;rw [hr];refine⟨tV hs _ _ _ _ _ 0 h0,?_,nM l _ _ _ _ _ (by simpa using ht)⟩;rw [yd];have:=tv l (8*t.length+40) [] t;unfold gv;omega
   rw [if_pos h3]at h;exact absurd h h3
  rw [if_pos h2]at h;exact absurd h h2
 rw [if_pos h1]at h;exact absurd h h1
theorem PA:(Tryz.prog.info? 39).map (fun i=>(i.zero,i.size,i.bytes))=some (some (.agg #[.int .i64 0,.int .i64 0]),2,16):=by kernel_rfl
def oP (lo:Nat) (w':World) (o:List (Int × Int) × (Int × Int)) (e:Ending):Prop :=
  ∃ (A:Option Addr) (n c:Nat),e=.returned (.tuple #[.slice A n c,.agg #[.int .i64 o.2.1,.int .i64 o.2.2]])∧bW w' (fun b=>lo≤b) 2 A n (aS o.1)∧n≤1700000000
theorem oP.nil (lo:Nat) (w':World) (a b:Int):oP lo w' ([],(a,b)) (.returned (.tuple #[.slice none 0 0,.agg #[.int .i64 a,.int .i64 b]])) :=
  ⟨none,0,0,rfl,⟨rfl,fun h=>absurd h (Nat.lt_irrefl 0)⟩,Nat.zero_le _⟩
theorem MP {l:List ep} {k:Nat} {x:ep} (h:l[k]? = some x):(bK l)[k*5]? = some (.int .i64 x.src)∧(bK l)[k*5+1]? = some (.int .i64 x.upto)∧(bK l)[k*5+2]? = some (.int .i64 x.Cd)∧(bK l)[k*5+3]? = some (.int .i64 x.fin)∧(bK l)[k*5+4]? = some (.int .i64 x.rule):=by
 induction l generalizing k with
 | nil=>simp at h
 | cons z l ih=>
  cases k with
  | zero=>simp at h;subst h;exact⟨by simp [bK],by simp [bK],by simp [bK],by simp [bK],by simp [bK]⟩
  | succ k=>
   have:=ih (k:=k) (by simpa using h);simp only [bK,List.flatMap_cons]at this ⊢;have e1:(k+1)*5=k*5+1+1+1+1+1:=(by omega);rw [e1];simpa using this
def U5 (L:List ep) (fC p:List Int) (m:Nat) (W3:World) (out i:Value) (wr:World):Prop :=
  ∃ (k:Nat) (hs:List (Int × Int)) (n:Nat),k≤m∧i=.int .i64 k∧hs.length=n∧n≤k*40000∧kA fC p L=hs++kA fC p (L.drop k)∧wr.ownsRow W3.heap.size 39 2 out n (aS hs)∧Below W3.heap.size W3 wr
def Su (L:List ep) (fC p:List Int) (m k off:Nat) (x:ep) (W3:World) (out j:Value) (wr:World):Prop :=
  ∃ (q:Nat) (hs:List (Int × Int)) (n:Nat),k≤q∧q≤m∧j=.int .i64 ((q - off:Nat):Int)∧hs.length=n∧n≤k*40000+(q - k)∧kA fC p L=hs++(qU fC p x (L.drop q)++kA fC p (L.drop (k+1)))∧wr.ownsRow W3.heap.size 39 2 out n (aS hs)∧Below W3.heap.size W3 wr
def ach (L:List ep) (fC p:List Int) (m k g:Nat) (x:ep) (cs:Array Value) (W3:World) (out j:Value) (wr:World):Prop :=
  ∃ (q:Nat) (hs:List (Int × Int)) (n:Nat),k≤q∧q≤m∧j=.int .i64 ((q - k:Nat):Int)∧hs.length=n∧n≤k*40000+(q - k)∧kA fC p L=hs++(qU fC p x (L.drop q)++kA fC p (L.drop (k+1)))∧wr.ownsRow W3.heap.size 39 2 out n (aS hs)∧Below W3.heap.size W3 wr∧ai wr g 74 cs
theorem PN (fC:List Int) (b:Int):vS fC b b = []:=by unfold vS;simp
theorem OD (fC:List Int) (b e:Nat):vS fC b e=(fC.drop b).take (e - b):=by
 unfold vS;rw [Int.toNat_natCast,show((e:Int) - (b:Int)).toNat=e - b by omega]
theorem Ng {fC p:List Int} {x y:ep} (h:(vS fC x.Cd y.fin == p)=false):qK fC p x y = []:=by unfold qK;rw [if_neg (by rw [h];decide)]
theorem Ph {fC p:List Int} {x y:ep} (h:(vS fC x.Cd y.fin == p)=true):qK fC p x y = [(x.src,y.upto)]:=by unfold qK;rw [if_pos h]
theorem H9 {p:List Int} (h:p.length≠0):(([]:List Int) == p)=false:=by
 rw [beq_eq_false_iff_ne];rintro rfl;exact h rfl
theorem Ow {L:List ep} {n:Int} {k q:Nat} {x y:ep} (hc:lC L 0 n) (hx:L[k]? = some x) (hy:L[q]? = some y) (Ik:k≤q):0≤x.Cd∧x.Cd≤y.fin∧y.fin≤n∧∃ b,x.Cd≤b∧lC (L.drop q) b n:=by
 obtain⟨b1,h1,c1⟩:=xE L 0 n k hc;rw [cB hx]at c1;have e1:x.Cd=b1:=c1.1;obtain⟨b2,h2,c2⟩:=xE (x::L.drop (k+1)) b1 n (q - k) c1;have e2:(x::L.drop (k+1)).drop (q - k)=L.drop q:=by
  rw [← cB hx,List.drop_drop];congr 1;omega
 rw [e2]at c2;have c3:=c2;rw [cB hy]at c3;obtain⟨_,h5⟩:=Eu _ _ _ c3;have h6:=h5 y (by simp);exact⟨by omega,by omega,h6.2.2,b2,by omega,c2⟩
theorem Au (X:Nat→Prop) (l:List aj) (Ar:Option Addr) (nr cr:Nat) (t p:List Int) (At Ap:Option Addr) (nt ct np cp:Nat) (w:World) (wJ:nr≤maxLen) (hl:aZ (aO w X) w X 7 Ar nr l) (hnt:nt≤maxLen) (ht:mc w w.heap.size At nt t) (hnp:np≤maxLen) (hp:mc w w.heap.size Ap np p) :
    Calls Tryz.prog 9 #[.slice Ar nr cr,.slice At nt ct,.slice Ap np cp] w fun e w'=>oP w.heap.size w' (DI l t p) e∧Below w.heap.size w w':=by
 obtain⟨i1,hi1,QY,z1,z2⟩:=info_parts PA;have hb0:=(Below.refl w.heap.size w).alloc (Nat.le_refl _) (.cells #[.int .i64 0,.int .i64 0] 32);have oV:=qqh (ai.new w 32 #[.int .i64 0,.int .i64 0]);have dO:=qqh hb0;have HL:=qqh (fun(W:World) (hb:Below w.heap.size w W)=>show aZ (aO W X) W X 7 Ar nr l from hl.keep (af.any hb) (fun _ _=>aO.keep (af.any hb)));have Qq:=qqh (fun(W:World) (hb:Below w.heap.size w W)=>show mc W W.heap.size At nt t from(Rd.below ht hb).more hb.size);have qt:=qqh (fun(W:World) (hb:Below w.heap.size w W)=>show mc W W.heap.size Ap np p from(Rd.below hp hb).more hb.size);have HP:=qqh (Dk X l Ar nr cr t At nt ct _ wJ (HL.out _ hb0) hnt (Qq.out _ hb0));have qs:=qqh (show p.length=np from hp.len);have hok:=@xT l t;clear hb0 hl ht hp;go_enter Tryz.func9,Tryz.ntmps9;go_wp2_with fail;refine HP.out.mono ?_;rintro e w1 ⟨⟨A1,n1,c1,rfl,hr,P8,afy⟩,aW⟩;obtain⟨L,f1,f2,hP⟩:∃ L f1 f2,jg l t=(L,(f1,f2)):=⟨_,_,_,rfl⟩;have HFI:=qqh (show DI l t p=if f1≠0 then ([],(f1,f2))else if cP p≠0 then ([],(cP p,1))else if p.length=0 then ([],(6,1))else (kA (cN l t).1.text p L,(0,0)) by unfold DI;rw [hP]);rw [hP]at hr hok ⊢;dsimp only at hr hok ⊢;have GH:=qqh hok;have hba:=(Below.refl w1.heap.size w1).alloc (Nat.le_refl _) (.cells #[.int .i64 f1,.int .i64 f2] 32);have dL:=aW.trans (hba.mono aW.size);have fm:=qqh (ai.new w1 32 #[.int .i64 f1,.int .i64 f2]);have mh:=qqh (ai.below oV.out dL oV.out.lt);have bG:=qqh (dO.out.trans (dL.mono dO.out.size));have iX:=qqh (hr.keep (af.any hba));have hw1:w.heap.size<w1.heap.size:=Nat.lt_of_lt_of_le oV.out.lt aW.size
 clear aW hr hP hba dL oV dO HP hok;go_upto_region 2 with fail;generalize w1.alloc (.cells #[.int .i64 f1,.int .i64 f2] 32)=W2 at *;have q0:=fm.out.cell 0;have q1:=fm.out.cell 1;have x0:=mh.out.cell 0;have x1:=mh.out.cell 1;have p0:=mh.out.frozen 0;have p1:=mh.out.frozen 1;by_cases hz:f1=0
 ·subst hz;have HA:=qqh (HFI.out.trans (if_neg (fun h=>h rfl)));obtain⟨hch,hLn,htn⟩:=GH.out rfl;have Db:=qqh hch;have vn:=qqh (show L.length=n1 by have:=iX.out.1;rw [tD]at this;omega);have ae2:n1≤40000:=(by have:=vn.out;omega);have vu:=qqh (ld Ap np cp p W2 hnp (qt.out W2 bG.out));clear hch hLn HFI GH q1 x0 x1 p0 p1;go_wp2_with fail;refine vu.out.mono ?_;rintro e w3 ⟨rfl,bN⟩;have ou:=qqh (ai.below mh.out bN mh.out.lt);have bL:=qqh (bG.out.trans (bN.mono bG.out.size));have sX:=qqh (iX.out.keep (af.any bN));clear bN mh bG iX vu fm q0;have x0:=ou.out.cell 0;have x1:=ou.out.cell 1;have p0:=ou.out.frozen 0;have p1:=ou.out.frozen 1;obtain⟨tp,nT⟩:∃ tp,cP p=tp:=⟨_,rfl⟩;have Vo:=qqh nT;rw [nT]at HA ⊢;by_cases hz:tp=0
  ·subst hz;have Ty:=qqh (HA.out.trans (if_neg (fun h=>h rfl)));have VK:=(mV nT).1;clear nT HA;by_cases hz:np=0
   ·have HG:=qqh (Ty.out.trans (if_pos (by rw [qs.out];exact hz)));subst hz;have fO:=(bL.out.setCell (p:=⟨w.heap.size,0,none⟩) (by simp) (.int .i64 6)).setCell (p:=⟨w.heap.size,1,none⟩) (by simp) (.int .i64 1);have lO:=qqh fO;clear fO Ty;go_wp2_with fail;rw [HG.out];exact bodyPost_ret (v:=.tuple #[.slice none 0 0,.agg #[.int .i64 6,.int .i64 1]]) (by simp [results,Tryz.results9,go_sem,x0,x1]) rfl ⟨oP.nil _ _ _ _,lO.out⟩
   have HG:=qqh (Ty.out.trans (if_neg (by rw [qs.out];exact hz)));have hp0:((np:Int) == 0)=false:=(by rw [beq_eq_false_iff_ne];omega);have aff:np≤4000:=(by have:=qs.out;omega);have af9:1≤np:=(by omega);have lZ:=qqh (rW X l Ar nr cr t At nt ct w3 wJ (HL.out w3 bL.out) hnt (Qq.out w3 bL.out));have zl:=ou.out.lt;clear hz Ty VK x0 x1 p0 p1;go_wp2_with fail;refine lZ.out.mono ?_;rintro e w4 ⟨⟨A3,n3,c3,rfl,lF,afM⟩,hb4⟩;obtain⟨⟨fC,s3,p3⟩,g1,g2,hC⟩:∃ o g1 g2,cN l t=(o,(g1,g2)):=⟨_,_,_,rfl⟩;rw [hC]at HG Db htn lF ⊢;dsimp only at HG Db htn lF ⊢;have hba:=((Below.refl w4.heap.size w4).alloc (Nat.le_refl _) (.cells #[.slice A3 n3 c3,.int .i64 s3,.int .i64 p3] 29)).alloc (by simp) (.cells #[.int .i64 g1,.int .i64 g2] 32);have dL:=hb4.trans (hba.mono hb4.size);have GX:=qqh (ai.below ou.out dL ou.out.lt);have ek:=qqh (bL.out.trans (dL.mono bL.out.size));have El:=qqh (sX.out.keep (af.any dL));have ox:=qqh (show ai ((w4.alloc (.cells #[.slice A3 n3 c3,.int .i64 s3,.int .i64 p3] 29)).alloc (.cells #[.int .i64 g1,.int .i64 g2] 32)) w4.heap.size 29 #[.slice A3 n3 c3,.int .i64 s3,.int .i64 p3] from(ai.new w4 _ _).alloc _);have HT4:=qqh (lF.keep (af.any hba));have GZ:=qqh (show fC.length=n3 by have:=lF.1;rw [runeCells_length]at this;omega);have ahg:n3≤4000:=(by have:=GZ.out;omega);have wS:=qqh (qt.out _ ek.out);have QO:w.heap.size<w4.heap.size:=Nat.lt_of_lt_of_le zl hb4.size;clear hb4 lF hba dL hC htn ou bL sX lZ;go_upto_region 10 with fail;generalize (w4.alloc (.cells #[.slice A3 n3 c3,.int .i64 s3,.int .i64 p3] 29)).alloc (.cells #[.int .i64 g1,.int .i64 g2] 32)=W3 at *;have agh:=ox.out.lt
   have hwW:w.heap.size<W3.heap.size:=(by omega);go_wp2_with fail;go_loopw [13,44] (U5 L fC p n1 W3) (fun _ i _=>n1 - (intOf i).toNat);(case atStart=>exact⟨0,[],0,Nat.zero_le _,rfl,rfl,Nat.le_refl _,rfl,World.ownsRow_nil _ _ _ _,Below.refl _ _⟩);obtain⟨k,hs,n,hk,rfl,hhl,hnk,hall,ho,hb⟩:=hrel;have ue:=qqh hall;have HHL:=qqh hhl;have HO:=qqh ho;have HB:=qqh hb;have hz:=hb.size;obtain⟨Ao,co,rfl,_⟩:=aI ho;clear hall hhl ho;by_cases hlt:k<n1
   ·obtain⟨x,hx⟩:∃ x,L[k]? = some x:=⟨_,List.getElem?_eq_getElem (by rw [vn.out];exact hlt)⟩;obtain⟨b1,o1,rfl,_,LN,Aj⟩:=El.out.2 (by omega);have Oz:=qqh (fun(W:World) (hb:Below W3.heap.size W3 W) (q:Nat) (y:ep) (hy:L[q]? = some y)=>show W.cell? ⟨b1,o1+q*5,none⟩=some (.int .i64 y.src)∧W.cell? ⟨b1,o1+q*5+1,none⟩=some (.int .i64 y.upto)∧W.cell? ⟨b1,o1+q*5+2,none⟩=some (.int .i64 y.Cd)∧W.cell? ⟨b1,o1+q*5+3,none⟩=some (.int .i64 y.fin)∧W.cell? ⟨b1,o1+q*5+4,none⟩=some (.int .i64 y.rule) from by
     obtain⟨g0,g1,g2,g3,g4⟩:=MP hy;refine⟨(hb.cell (p:=⟨b1,o1+q*5,none⟩) LN).trans (Aj _ _ g0),(hb.cell (p:=⟨b1,o1+q*5+1,none⟩) LN).trans ?_,(hb.cell (p:=⟨b1,o1+q*5+2,none⟩) LN).trans ?_,(hb.cell (p:=⟨b1,o1+q*5+3,none⟩) LN).trans ?_,(hb.cell (p:=⟨b1,o1+q*5+4,none⟩) LN).trans ?_⟩;(all_goals rw [Nat.add_assoc]);exact Aj _ _ g1;exact Aj _ _ g2;exact Aj _ _ g3;exact Aj _ _ g4)
    have G8:=qqh hx;have fB:=qqh (show kA fC p L=hs++(qU fC p x (L.drop k)++kA fC p (L.drop (k+1))) by rw [ue.out,cB hx,tf]);obtain⟨wo,rfl⟩:∃ wo:World,wo=wr:=⟨_,rfl⟩;clear hx Aj hb;go_wp2_with fail;go_loopw [13,15] (Su L fC p n1 k 0 x W3) (fun _ j _=>n1 - (intOf j).toNat);(case atStart=>exact⟨k,hs,n,Nat.le_refl _,hk,rfl,HHL.out,by omega,fB.out,HO.out,HB.out⟩);obtain⟨q,nj,n2,Ik,hqm,rfl,V3,hn2,QI,E3,bu⟩:=hrel;have CO:=qqh QI;have Kh:=qqh V3;have qS:=qqh E3;have JM:=qqh bu;have yW:=bu.size;obtain⟨Rn,Rc,rfl,_⟩:=aI E3;rw [Nat.sub_zero];clear QI V3 E3;by_cases ZR:q<n1
    ·obtain⟨y,hy⟩:∃ y,L[q]? = some y:=⟨_,List.getElem?_eq_getElem (by rw [vn.out];exact ZR)⟩;obtain⟨hi0,hi1,hi2,bb,hi3,hi4⟩:=Ow Db.out G8.out hy Ik;obtain⟨bx,iS⟩:∃ n:Nat,x.Cd=(n:Int):=⟨x.Cd.toNat,by omega⟩;obtain⟨fy,YU⟩:∃ n:Nat,y.fin=(n:Int):=⟨y.fin.toNat,by omega⟩;obtain⟨_,_,cb,_,_⟩:=Oz.out wr JM.out k x G8.out;obtain⟨_,_,_,cf,_⟩:=Oz.out wr JM.out q y hy;have ZT:=qqh (fun(h:np+bx<fy)=>show qU fC p x (L.drop q) = [] by
      rw [cB hy]at hi4 ⊢;exact Mm hi0 hi4 (by rw [qs.out,YU,iS];omega))
     have fO:bx≤fy:=(by omega);have hfn:fy≤n3:=(by have:=GZ.out;omega);have IW:=qqh (show qU fC p x (L.drop q)=qK fC p x y++qU fC p x (L.drop (q+1)) by rw [cB hy];rfl);have BE:=qqh iS;have HFY:=qqh YU;have HYY:=qqh hy;rw [iS]at cb;rw [YU]at cf;have hg:decide ((q:Int)<(n1:Int))=true:=decide_eq_true (by omega);have v1:IntKind.i64.wrap ((fy:Int) - (bx:Int))=(fy:Int) - (bx:Int):=IntWalk.i64_in _ (by omega);have Q5:(0:Int)≤(q:Int):=(by omega);have hq1:(q:Int)<(n1:Int):=(by omega);have hk0:(0:Int)≤(k:Int):=(by omega);have hk1:(k:Int)<(n1:Int):=(by omega);clear hi0 hi1 hi2 hi3 hi4 iS YU hy bu;by_cases hle:fy≤np+bx
     ·have hd:decide ((fy:Int) - (bx:Int)≤(np:Int))=true:=decide_eq_true (by omega);go_wp2_with fail;go_quiet (fail);have EV:=qqh (below_drewN JM.out nq);have HOQ:=qqh (show(wr.drewN nq).ownsRow W3.heap.size 39 2 (.slice Rn n2 Rc) n2 (aS nj) from qS.out);clear cb cf JM qS v1 hg hd;generalize wr.drewN nq=wq at *;have hzq:=EV.out.size;obtain⟨xs0,_,cb,_,_⟩:=Oz.out wq EV.out k x G8.out;obtain⟨_,yu0,_,cf,_⟩:=Oz.out wq EV.out q y HYY.out;rw [BE.out]at cb;rw [HFY.out]at cf;have fN:=qqh (ai.below ox.out EV.out ox.out.lt);have t0:wq.cell? ⟨w4.heap.size,0,none⟩=some (.slice A3 n3 c3):=fN.out.cell 0;have af':(0:Int)≤(bx:Int):=(by omega);have ae5:(bx:Int)≤(fy:Int):=(by omega);have ahB:(fy:Int)≤(c3:Int):=(by omega);have Xy:=qqh (show ∃ E:Bool,(vS fC x.Cd y.fin == p)=E from⟨_,rfl⟩);obtain⟨E,hE⟩:=Xy.out;have Wu:=qqh hE;have HPQ:=qqh (Rd.more (Rd.below wS.out EV.out) EV.out.size);clear hE Xy;have Zz:True:=trivial;by_cases ZC:fy=bx
      ·subst ZC;have hEf:E=false:=(by rw [← Wu.out,BE.out,HFY.out,PN];exact H9 (by rw [qs.out];omega));subst hEf;have EW:=qqh (fun(A':Option Addr) (cc qq:Nat)=>show Calls Tryz.prog 24 #[.slice A' 0 cc,.slice Ap np cp] (wq.drewN qq) fun e w'=>e=.returned (.bool false)∧∃ k,w'=(wq.drewN qq).drewN k by
        have h:=uD A' Ap 0 np cc cp [] p (wq.drewN qq) (by omega) Rd.nil HPQ.out;rwa [H9 (by rw [qs.out];omega)]at h)
       have ng:=qqh (show kA fC p L=nj++(qU fC p x (L.drop (q+1))++kA fC p (L.drop (k+1))) by rw [CO.out,IW.out,Ng Wu.out,List.nil_append]);cases A3 with
       | none=>
        have Zt:n3=0:=by
         rcases Nat.eq_zero_or_pos n3 with h | h;exact h;obtain⟨_,_,e,_⟩:=HT4.out.2 h;cases e
        subst Zt;obtain rfl:fy=0:=(by omega);go_wp2_with fail;go_quiet (first | (go_at_call 24;exact Calls.quiet_of (EW.out _ _ _)));have Ch:=qqh (below_drewN EV.out nq);have JG:=qqh (show(wq.drewN nq).ownsRow W3.heap.size 39 2 (.slice Rn n2 Rc) n2 (aS nj) from HOQ.out);go_wp2_with fail;exact⟨⟨q+1,nj,n2,by omega,by omega,by rw [Nat.sub_zero];go_num,Kh.out,by omega,ng.out,JG.out,Ch.out⟩,by simp [intOf];omega⟩
       | some a3=>
        obtain⟨b3,o3,s3'⟩:=a3;go_wp2_with fail;go_quiet (first | (go_at_call 24;exact Calls.quiet_of (EW.out _ _ _)));have Ch:=qqh (below_drewN EV.out nq);have JG:=qqh (show(wq.drewN nq).ownsRow W3.heap.size 39 2 (.slice Rn n2 Rc) n2 (aS nj) from HOQ.out);go_wp2_with fail;exact⟨⟨q+1,nj,n2,by omega,by omega,by rw [Nat.sub_zero];go_num,Kh.out,by omega,ng.out,JG.out,Ch.out⟩,by simp [intOf];omega⟩
      obtain⟨b3,o3,rfl,_,bN,lU⟩:=HT4.out.2 (by omega);have M7:¬ c3=bx:=(by omega);have EW:=qqh (fun(qq:Nat)=>show Calls Tryz.prog 24 #[.slice (some ⟨b3,o3+bx,none⟩) (fy - bx) (c3 - bx),.slice Ap np cp] (wq.drewN qq) fun e w'=>e=.returned (.bool E)∧∃ k,w'=(wq.drewN qq).drewN k by
       have hrd:=(oM (k:=fy - bx) (oW (k:=bx) (HT4.out.keep (af.any EV.out)) (by omega)) (by omega)).of;rw [i9,gU]at hrd;have h:=uD (some ⟨b3,o3+bx,none⟩) Ap (fy - bx) np (c3 - bx) cp _ p (wq.drewN qq) (by omega) hrd HPQ.out;rwa [← OD,← BE.out,← HFY.out,Wu.out]at h)
      clear lU;go_wp2_with fail;go_quiet (first | (go_at_call 24;exact Calls.quiet_of (EW.out _)));have Ch:=qqh (below_drewN EV.out nq);have JG:=qqh (show(wq.drewN nq).ownsRow W3.heap.size 39 2 (.slice Rn n2 Rc) n2 (aS nj) from HOQ.out);clear t0 cb cf xs0 yu0 EW;generalize wq.drewN nq=wz at *;cases E
      ·have ng:=qqh (show kA fC p L=nj++(qU fC p x (L.drop (q+1))++kA fC p (L.drop (k+1))) by rw [CO.out,IW.out,Ng Wu.out,List.nil_append]);go_wp2_with fail;exact⟨⟨q+1,nj,n2,by omega,by omega,by rw [Nat.sub_zero];go_num,Kh.out,by omega,ng.out,JG.out,Ch.out⟩,by simp [intOf];omega⟩
      have ng:=qqh (show kA fC p L=(nj++[(x.src,y.upto)])++(qU fC p x (L.drop (q+1))++kA fC p (L.drop (k+1))) by rw [CO.out,IW.out,Ph Wu.out,List.append_assoc,List.append_assoc]);obtain⟨xs0,_,_,_,_⟩:=Oz.out wz Ch.out k x G8.out;obtain⟨_,yu0,_,_,_⟩:=Oz.out wz Ch.out q y HYY.out;have hzz:=Ch.out.size;go_upto_region 18 with fail;have hba:Below wz.heap.size wz ((wz.alloc (.cells #[.int .i64 x.src,.int .i64 y.upto] 39)).drew):=aD ((Below.refl wz.heap.size wz).alloc (Nat.le_refl _) _);have UL:=qqh (show((wz.alloc (.cells #[.int .i64 x.src,.int .i64 y.upto] 39)).drew).ownsRow W3.heap.size 39 2 (.slice Rn n2 Rc) n2 (aS nj) from World.ownsRow.alloc JG.out (.cells #[.int .i64 x.src,.int .i64 y.upto] 39));have xo:=qqh (Ch.out.trans (hba.mono hzz));have HNA:=qqh (show Rd ((wz.alloc (.cells #[.int .i64 x.src,.int .i64 y.upto] 39)).drew) ((wz.alloc (.cells #[.int .i64 x.src,.int .i64 y.upto] 39)).drew).heap.size 2 (some ⟨wz.heap.size,0,none⟩) 1 [.int .i64 x.src,.int .i64 y.upto] by
       have h0:=Rd.new wz 39 2 1 [.int .i64 x.src,.int .i64 y.upto] rfl;exact h0.drew.more (by simp))
      have H1A:=qqh (show ∀ u ∈ [Value.int .i64 x.src,.int .i64 y.upto],u.oneCell'=true by intro u hu;simp at hu;rcases hu with rfl | rfl <;> rfl);clear hba;refine ay (S:=(fun w'=>w'.cell? ⟨b1,o1+k*5,none⟩=some (.int .i64 x.src)∧w'.cell? ⟨b1,o1+q*5+1,none⟩=some (.int .i64 y.upto))) [5,10] (by kernel_rfl) ⟨xs0,yu0⟩ (fun bH=>?_);refine tq 0 85 ?_;(try simp only [zp,za,z0,zs]);refine tq 1 86 ?_;(try simp only [zp,za,z0,zs]);refine tq 2 87 ?_;(try simp only [zp,za,z0,zs]);refine tq 3 88 ?_;(try simp only [zp,za,z0,zs]);refine tq 4 89 ?_;(try simp only [zp,za,z0,zs]);refine tu 5 90 ?_;(try simp only [zp,za,z0,zs]);refine tq 6 91 ?_;(try simp only [zp,za,z0,zs]);refine tq 7 92 ?_;(try simp only [zp,za,z0,zs]);refine tq 8 93 ?_;(try simp only [zp,za,z0,zs]);refine tq 9 94 ?_;(try simp only [zp,za,z0,zs]);refine tu 10 95 ?_;(try simp only [zp,za,z0,zs]);refine tq 11 96 ?_;(try simp only [zp,za,z0,zs]);refine aA (i:=12) (o:=⟨some 97,_,_,_,_,_⟩) (by kernel_rfl) rfl (by kernel_rfl) (fun K hK=>?_);go_simp;(try dsimp only);refine hK.out _ _ ?_;clear hK K;(try simp only [zp,za,z0,zs]);refine aA (i:=13) (o:=⟨some 98,_,_,_,_,_⟩) (by kernel_rfl) rfl (by kernel_rfl) (fun K hK=>?_);refine cj _ rfl (.tmp 85) (.tmp 97) 35 rfl W3.heap.size 39 i1 _ 2 16 Tryz.underlying35 hi1 QY z1 z2 rfl (by decide) _ n2 _ rfl UL.out _ (some ⟨wz.heap.size,0,none⟩) 1 1 [.int .i64 x.src,.int .i64 y.upto] rfl HNA.out H1A.out (by simp only [maxLen];omega) (by omega) xo.out.size ?_;intro v9 w9 au;have eK:=qqh (xo.out.trans (au.below xo.out.size UL.out));have abM:=qqh (show w9.ownsRow W3.heap.size 39 2 v9 (n2+1) (aS (nj++[(x.src,y.upto)])) by rw [jC];exact au.own);clear au UL HNA H1A xo;(try dsimp only);refine hK.out _ _ ?_;clear hK K
      (try simp only [zp,za,z0,zs]);refine tq 14 13 ?_;(try simp only [zp,za,z0,zs]);refine aJ (by kernel_rfl) ?_ _;go_simp;go_wp2_with fail;exact⟨⟨q+1,nj++[(x.src,y.upto)],n2+1,by omega,by omega,by rw [Nat.sub_zero];go_num,by rw [List.length_append,Kh.out];rfl,by omega,ng.out,abM.out,eK.out⟩,by simp [intOf];omega⟩
     have hd:decide ((fy:Int) - (bx:Int)≤(np:Int))=false:=decide_eq_false (by omega);have ng:=qqh (show kA fC p L=nj++kA fC p (L.drop (k+1)) by rw [CO.out,ZT.out (by omega),List.nil_append]);go_wp2_with fail;go_quiet (fail);have P5:=qqh (below_drewN JM.out nq);have HOZ:=qqh (show(wr.drewN nq).ownsRow W3.heap.size 39 2 (.slice Rn n2 Rc) n2 (aS nj) from qS.out);go_wp2_with fail;exact⟨⟨k+1,nj,n2,by omega,by go_num,Kh.out,by omega,ng.out,HOZ.out,P5.out⟩,by simp [intOf];omega⟩
    obtain rfl:q=n1:=(by omega);have hg:decide ((q:Int)<(q:Int))=false:=decide_eq_false (by omega);go_wp2_with fail;go_quiet (fail);have P5:=qqh (below_drewN JM.out nq);have HOZ:=qqh (show(wr.drewN nq).ownsRow W3.heap.size 39 2 (.slice Rn n2 Rc) n2 (aS nj) from qS.out);go_wp2_with fail;refine⟨⟨k+1,nj,n2,by omega,by go_num,Kh.out,by omega,?_,HOZ.out,P5.out⟩,by simp [intOf];omega⟩;rw [CO.out,List.drop_of_length_le (by rw [vn.out];exact Nat.le_refl _)];rfl
   obtain rfl:k=n1:=(by omega);have vv:=qqh (show kA fC p L=hs by rw [ue.out,List.drop_of_length_le (by rw [vn.out];exact Nat.le_refl _)];exact List.append_nil _);have PT:=qqh (ai.below GX.out HB.out GX.out.lt);have x0:=PT.out.cell 0;have x1:=PT.out.cell 1;have p0:=PT.out.frozen 0;have p1:=PT.out.frozen 1;have eK:=qqh (ek.out.trans (HB.out.mono ek.out.size));have fO:=(eK.out.setCell (p:=⟨w.heap.size,0,none⟩) (by simp) (.int .i64 0)).setCell (p:=⟨w.heap.size,1,none⟩) (by simp) (.int .i64 0);have h5:=dR (dR HO.out (p:=⟨w.heap.size,0,none⟩) (by simp only;omega) (.int .i64 0)) (p:=⟨w.heap.size,1,none⟩) (by simp only;omega) (.int .i64 0);have HR:=qqh (show bW ((wr.setCell ⟨w.heap.size,0,none⟩ (.int .i64 0)).setCell ⟨w.heap.size,1,none⟩ (.int .i64 0)) (fun b=>w.heap.size≤b) 2 Ao n (aS (kA fC p L)) by
    rw [vv.out];exact bW.cy h5 (fun b hb=>Nat.le_trans (Nat.le_of_lt hwW) (aQ h5 hb).1))
   have lO:=qqh fO;clear fO h5 hb;go_wp2_with fail;rw [HG.out];exact bodyPost_ret (v:=.tuple #[.slice Ao n co,.agg #[.int .i64 0,.int .i64 0]]) (by simp [results,Tryz.results9,go_sem,x0,x1]) rfl ⟨⟨Ao,n,co,rfl,HR.out,by omega⟩,lO.out⟩
  have HG:=qqh (HA.out.trans (if_pos hz));have fO:=(bL.out.setCell (p:=⟨w.heap.size,0,none⟩) (by simp) (.int .i64 tp)).setCell (p:=⟨w.heap.size,1,none⟩) (by simp) (.int .i64 1);have lO:=qqh fO;clear fO HA nT;go_wp2_with fail;rw [HG.out];exact bodyPost_ret (v:=.tuple #[.slice none 0 0,.agg #[.int .i64 tp,.int .i64 1]]) (by simp [results,Tryz.results9,go_sem,x0,x1]) rfl ⟨oP.nil _ _ _ _,lO.out⟩
 have HA:=qqh (HFI.out.trans (if_pos hz));have xW:¬ w.heap.size=w1.heap.size:=(by omega);have yo:¬ w1.heap.size=w.heap.size:=(by omega);have fO:=((bG.out.setCell (p:=⟨w.heap.size,0,none⟩) (by simp) (.int .i64 f1)).setCell (p:=⟨w.heap.size,1,none⟩) (by simp) (.int .i64 f2)).drew;have lO:=qqh fO;clear fO;go_wp2_with fail;go_region
 all_goals
   go_wp2_with fail
   rw [HA.out]
   exact bodyPost_ret (v:=.tuple #[.slice none 0 0,.agg #[.int .i64 f1,.int .i64 f2]]) (by simp [results,Tryz.results9,go_sem,x0,x1]) rfl ⟨oP.nil _ _ _ _,lO.out⟩
end Go.Proofs.YthgkedoildcbcaaGreatDoor
