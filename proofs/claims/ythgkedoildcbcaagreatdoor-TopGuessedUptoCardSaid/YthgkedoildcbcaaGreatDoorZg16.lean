/- RulesBoth -/
import Derived.Test.YthgkedoildcbcaaGreatDoorZg11
import Derived.Test.YthgkedoildcbcaaGreatDoorZg6
import Derived.Deep.DeepCutAuto
import Derived.Deep.CutBlock
import Derived.Test.YthgkedoildcbcaaGreatDoorZg8
set_option maxHeartbeats 3200000
set_option maxRecDepth 100000
namespace Go.Proofs.YthgkedoildcbcaaGreatDoor
open Go.RowKit
def cm:List Int→Int
  | []=>0
  | x::r=>if x≠0 then x else cm r
def ji (l:List af):Int:=if 20<l.length then 5 else cm (l.map bA)
def ei (r:ax):List (List af):=[r.before,r.source,r.after]
def cV (l:List Int):Bool:=l.any fun x=>!bT x
def oH (r:ax):Int :=
  if r.source.length=0 then 6 else if 20<r.target.length then 5 else if cV r.target=true then 3 else if r.ag<0∨(r.target.length:Int)<r.ag then 3 else 0
def kf (r:ax):Int:=if cm ((ei r).map ji)≠0 then cm ((ei r).map ji)else oH r
theorem jH {x:Int} (r:List Int) (h:x≠0):cm (x::r)=x:=by simp [cm,h]
theorem lC {x:Int} (r:List Int) (h:x=0):cm (x::r)=cm r:=by simp [cm,h]
theorem CG (x:Int) (w:World):Calls Tryz.prog 72 #[.int .i32 x] w fun e w'=>e=.returned (.bool (!bT x))∧w'=w:=by
 go_enter Tryz.func72,Tryz.ntmps72;go_wp2_with fail;refine(fm _ _).mono ?_;rintro e w1 ⟨rfl,rfl⟩;go_wp2_with fail;go_ret;exact⟨rfl,rfl⟩
def OZ (w:World) (l:List Int) (n:Nat) (i:Value) (wr:World):Prop :=
  ∃ j:Nat,j≤n∧i=.int .i64 j∧cV l=cV (l.drop j)∧Below w.heap.size w wr
theorem K7 (A:Option Addr) (n c:Nat) (l:List Int) (w:World) (hn:n≤9223372036854775807) (hl:kJ w w.heap.size A n l) :
    Calls Tryz.prog 73 #[.slice A n c,.func (.func 72) #[] #[]] w fun e w'=>(∃ k:Int,e=.returned (.int .i64 k)∧decide (0≤k)=cV l)∧Below w.heap.size w w':=by
 have aO:=qqh hl.len;have HL:=qqh hl;clear hl;go_enter Tryz.func73,Tryz.ntmps73;go_wp2_with fail;go_loopw [8] (OZ w l n) (fun i _=>n - (intOf i).toNat);(case atStart=>exact⟨0,Nat.zero_le _,rfl,rfl,Below.refl _ _⟩);obtain⟨j,hj,rfl,aV,hb⟩:=hrel;by_cases hlt:j<n
 ·obtain⟨x,hx⟩:∃ z,l[j]? = some z:=⟨_,List.getElem?_eq_getElem (by rw [aO.out];exact hlt)⟩;obtain⟨b,off,rfl,cC,c0⟩:=HL.out.at hlt;rw [show l.getD j 0=x by simp [List.getD,hx]]at c0;have d0:=(hb.cell (p:=⟨b,off+j,none⟩) cC).trans c0;rw [cW hx,show cV (x::l.drop (j+1))=(!bT x || cV (l.drop (j+1))) from rfl]at aV;have HG:=qqh aV;have HX:=qqh hx;clear aV hx c0;go_wp2_with fail;refine(CG _ _).mono ?_;rintro e w1 ⟨rfl,rfl⟩;cases hr:bT x
  ·have HR:=qqh hr;clear hr;go_wp2_with fail;go_ret;refine⟨⟨_,rfl,?_⟩,hb⟩;rw [HG.out,HR.out];simp
  have HR:=qqh hr;clear hr;go_wp2_with fail;exact⟨⟨j+1,by omega,by go_num,by rw [HG.out,HR.out];rfl,hb⟩,by simp [intOf];omega⟩
 obtain rfl:j=n:=(by omega);rw [List.drop_of_length_le (by rw [aO.out];omega)]at aV;have HG:=qqh (aV.trans (show cV [] = false from rfl));clear aV;go_wp2_with fail;go_ret;exact⟨⟨_,rfl,by rw [HG.out];rfl⟩,hb⟩
theorem C5 (A:Option Addr) (n c:Nat) (l:List Int) (w:World) (hn:n≤9223372036854775807) (hl:kJ w w.heap.size A n l) :
    Calls Tryz.prog 41 #[.slice A n c,.func (.func 72) #[] #[]] w fun e w'=>e=.returned (.bool (cV l))∧Below w.heap.size w w':=by
 have H:=qqh (K7 A n c l w hn hl);clear hl;go_enter Tryz.func41,Tryz.ntmps41;go_wp2_with fail;refine H.out.mono ?_;rintro e w1 ⟨⟨k,rfl,hk⟩,hb⟩;have HK:=qqh hk;clear hk;go_wp2_with fail;go_ret;refine⟨?_,hb⟩;rw [← HK.out];rfl
def VA (w1:World) (l:List af) (n:Nat) (i:Value) (wr:World):Prop :=
  ∃ j:Nat,j≤n∧i=.int .i64 j∧cm (l.map bA)=cm ((l.drop j).map bA)∧Below w1.heap.size w1 wr
def Vv (w1:World) (r:ax) (i:Value) (wr:World):Prop :=
  ∃ k:Nat,k≤3∧i=.int .i64 k∧cm ((ei r).map ji)=cm (((ei r).drop k).map ji)∧Below w1.heap.size w1 wr
theorem Ci (r:ax) (X:Nat→Prop) (u1 u2 u3:Value) (A:Option Addr) (n c:Nat) (w:World) (h1:fE w X r.before u1) (h2:fE w X r.source u2) (h3:fE w X r.after u3) (h4:cE w X 1 A n (runeCells r.target)) (hn:n≤maxLen) :
    Calls Tryz.prog 40 #[.agg #[.bool r.start,.bool r.fin,u1,u2,u3,.slice A n c,.int .i64 r.ag]] w fun e w'=>e=.returned (.int .i64 (kf r))∧Below w.heap.size w w':=by
 obtain⟨A1,n1,c1,rfl,p1,q1⟩:=h1;obtain⟨A2,n2,c2,rfl,p2,q2⟩:=h2;obtain⟨A3,n3,c3,rfl,p3,q3⟩:=h3;have hsz:r.target.length=n:=(by have:=h4.1;rw [runeCells_length]at this;omega);have hb0:=((Below.refl w.heap.size w).alloc (Nat.le_refl _) (.cells #[.bool r.start,.bool r.fin,.slice A1 n1 c1,.slice A2 n2 c2,.slice A3 n3 c3,.slice A n c,.int .i64 r.ag] 68)).alloc (by simp) (.cells #[.slice A1 n1 c1,.slice A2 n2 c2,.slice A3 n3 c3] 66);have OH:∀ k,k<3→∃ (s:List af) (A':Option Addr) (n' c':Nat),(ei r)[k]? = some s∧(#[Value.slice A1 n1 c1,.slice A2 n2 c2,.slice A3 n3 c3])[k]? = some (.slice A' n' c')∧bH (mU w X) w X 1 A' n' s∧n'≤maxLen:=by
  intro k hk;match k,hk with
  | 0,_=>exact⟨_,_,_,_,rfl,rfl,p1,q1⟩
  | 1,_=>exact⟨_,_,_,_,rfl,rfl,p2,q2⟩
  | 2,_=>exact⟨_,_,_,_,rfl,rfl,p3,q3⟩
 have NB:=qqh (show r.source.length=n2 from p2.len);have RV:=qqh hsz;have HT:=qqh h4;have HS:=qqh OH;have dF:=qqh hb0;have hG:=ai.alloc (ai.new w 68 #[.bool r.start,.bool r.fin,.slice A1 n1 c1,.slice A2 n2 c2,.slice A3 n3 c3,.slice A n c,.int .i64 r.ag]) (.cells #[.slice A1 n1 c1,.slice A2 n2 c2,.slice A3 n3 c3] 66);have hL:=ai.new (w.alloc (.cells #[.bool r.start,.bool r.fin,.slice A1 n1 c1,.slice A2 n2 c2,.slice A3 n3 c3,.slice A n c,.int .i64 r.ag] 68)) 66 #[.slice A1 n1 c1,.slice A2 n2 c2,.slice A3 n3 c3];rw [show(w.alloc (.cells #[.bool r.start,.bool r.fin,.slice A1 n1 c1,.slice A2 n2 c2,.slice A3 n3 c3,.slice A n c,.int .i64 r.ag] 68)).heap.size=w.heap.size+1 by simp]at hL;have HG:=qqh hG;have HL:=qqh hL;clear h4 p1 p2 p3 OH hb0 hG hL hsz;simp only [maxLen]at hn q1 q2 q3;go_enter Tryz.func40,Tryz.ntmps40;go_wp2_with fail;go_loopw [16] (Vv ((w.alloc (.cells #[.bool r.start,.bool r.fin,.slice A1 n1 c1,.slice A2 n2 c2,.slice A3 n3 c3,.slice A n c,.int .i64 r.ag] 68)).alloc (.cells #[.slice A1 n1 c1,.slice A2 n2 c2,.slice A3 n3 c3] 66)) r) (fun i _=>3 - (intOf i).toNat);(case atStart=>exact⟨0,Nat.zero_le _,rfl,rfl,Below.refl _ _⟩);obtain⟨k,hk,rfl,aV,hb⟩:=hrel;have jX:=dF.out.trans (hb.mono dF.out.size);by_cases hlt:k<3
 ·have OY:decide ((k:Int)<3)=true:=decide_eq_true (by omega);obtain⟨s,A',n',c',hs,hu,hls,hn'⟩:=HS.out k hlt;have hcell:wr.cell? ⟨w.heap.size+1,k,none⟩=some (.slice A' n' c'):=((ai.below HL.out hb HL.out.lt).cell k).trans hu;have yJ:=qqh (show s.length=n' from hls.len);have aV:cm ((ei r).map ji)=cm (ji s::((ei r).drop (k+1)).map ji):=(by rw [aV,cW hs,List.map_cons]);simp only [maxLen]at hn';have HLS:=qqh hls;have iG:=qqh jX;have HB:=qqh hb;clear hs hu hls jX hb;by_cases h20:20<n'
  ·rw [show ji s=5 by unfold ji;rw [if_pos (by rw [yJ.out];exact h20)],jH _ (by decide)]at aV;have dQ:=qqh aV;clear aV;go_wp2_with fail;go_ret;refine⟨?_,iG.out⟩;rw [kf,if_pos (by rw [dQ.out];decide),dQ.out];rfl
  have dQ:=qqh aV;have Vq:=qqh (show ji s=cm (s.map bA) by unfold ji;rw [if_neg (by rw [yJ.out];exact h20)]);clear aV;have agn:decide ((20:Int)<(n':Int))=false:=decide_eq_false (by omega);go_wp2_with fail;go_loopw [25] (VA wr s n') (fun i _=>n' - (intOf i).toNat);(case atStart=>exact⟨0,Nat.zero_le _,rfl,rfl,Below.refl _ _⟩);obtain⟨j,hj,rfl,hg2,aR⟩:=hrel;have bw:=qqh (HB.out.trans (aR.mono HB.out.size));have Oh:=qqh (iG.out.trans (aR.mono iG.out.size));by_cases hlt2:j<n'
  ·obtain⟨x,hx⟩:∃ z,s[j]? = some z:=⟨_,List.getElem?_eq_getElem (by rw [yJ.out];exact hlt2)⟩;obtain⟨b,off,A'',n'',c'',rfl,_,cC,qB,hrd,_,hnn⟩:=uw (HLS.out.keep (aa.any Oh.out) (fun _ _=>mU.keep (aa.any Oh.out))) hx;simp only [maxLen]at hnn;have hg2:cm (s.map bA)=cm (bA x::(s.drop (j+1)).map bA):=(by rw [hg2,cW hx,List.map_cons]);have kB:=qqh hg2;have HX:=qqh hx;have bF:=qqh aR;clear hg2 hx aR;go_wp2_with fail;refine(gR A'' n'' c'' x _ (by omega) hrd).mono ?_;rintro e w9 ⟨rfl,cj⟩;have fe:=qqh cj;clear cj hrd;by_cases hz:bA x=0
   ·have HZ:=qqh hz;have HR:=qqh (kB.out.trans (lC _ hz));rw [hz];clear hz;go_wp2_with fail;exact⟨⟨j+1,by omega,by go_num,HR.out,bF.out.trans (fe.out.mono bF.out.size)⟩,by simp [intOf];omega⟩
   have HR:=qqh (kB.out.trans (jH _ hz));go_wp2_with fail;go_ret;refine⟨?_,Oh.out.trans (fe.out.mono Oh.out.size)⟩;rw [kf,dQ.out,Vq.out,HR.out,jH _ hz,if_pos hz];rfl
  obtain rfl:j=n':=(by omega);rw [List.drop_of_length_le (by rw [yJ.out];omega)]at hg2;have kB:=qqh (Vq.out.trans hg2);have bF:=qqh aR;clear hg2 aR;go_wp2_with fail;exact⟨⟨k+1,by omega,by go_num,dQ.out.trans (lC _ kB.out),bw.out⟩,by simp [intOf];omega⟩
 have OY:k=3:=(by omega);have HR:=qqh (show kf r=oH r by rw [kf,if_neg (by rw [aV,OY,show(ei r).drop 3 = [] from rfl];decide)]);clear OY;have hG:=ai.below HG.out hb HG.out.lt;have d3:wr.cell? ⟨w.heap.size,3,none⟩=some (.slice A2 n2 c2):=hG.cell 3;have d5:wr.cell? ⟨w.heap.size,5,none⟩=some (.slice A n c):=hG.cell 5;have iG:=qqh jX;have DS:=qqh hG;clear aV hG hb jX;by_cases hs0:n2=0
 ·subst hs0;have HP:=qqh (show oH r=6 by rw [oH,if_pos NB.out]);go_wp2_with fail;go_ret;rw [HR.out,HP.out];exact⟨rfl,iG.out⟩
 by_cases ht:20<n
 ·have HP:=qqh (show oH r=5 by rw [oH,if_neg (by rw [NB.out];exact hs0),if_pos (by rw [RV.out];exact ht)]);have hs1:decide ((n2:Int)=0)=false:=(by simpa using hs0);go_wp2_with fail;go_ret;rw [HR.out,HP.out];exact⟨rfl,iG.out⟩
 have HP:=qqh (show oH r=_ by rw [oH,if_neg (by rw [NB.out];exact hs0),if_neg (by rw [RV.out];exact ht)]);have hs1:decide ((n2:Int)=0)=false:=(by simpa using hs0);go_wp2_with fail;refine(C5 A n c r.target _ (by omega) (HT.out.keep (aa.any iG.out)).of).mono ?_;rintro e w9 ⟨rfl,cj⟩;have d6:w9.cell? ⟨w.heap.size,6,none⟩=some (.int .i64 r.ag):=(ai.below DS.out cj DS.out.lt).cell 6;have d5:w9.cell? ⟨w.heap.size,5,none⟩=some (.slice A n c):=(ai.below DS.out cj DS.out.lt).cell 5;have fe:=qqh (iG.out.trans (cj.mono iG.out.size));clear cj;cases hbd:cV r.target
 ·rw [hbd]at HP;have HP:=qqh (HP.out.trans (if_neg (by decide)));clear hbd;by_cases hc0:r.ag<0
  ·have HP:=qqh (HP.out.trans (if_pos (Or.inl hc0)));go_wp2_with fail;go_ret;rw [HR.out,HP.out];exact⟨rfl,fe.out⟩
  by_cases hc1:(n:Int)<r.ag
  ·have HP:=qqh (HP.out.trans (if_pos (Or.inr (by rw [RV.out];exact hc1))));go_wp2_with fail;go_ret;rw [HR.out,HP.out];exact⟨rfl,fe.out⟩
  have HP:=qqh (HP.out.trans (if_neg (by rw [RV.out];omega)));go_wp2_with fail;go_ret;rw [HR.out,HP.out];exact⟨rfl,fe.out⟩
 rw [hbd]at HP;have HP:=qqh (HP.out.trans (if_pos rfl));clear hbd;go_wp2_with fail;go_ret;rw [HR.out,HP.out];exact⟨rfl,fe.out⟩
def jP:Nat→List ax→Int × Int
  | _,[]=>(0,0)
  | i,r::l=>if kf r≠0 then (kf r,(i:Int))else jP (i+1) l
def cz (l:List ax):Int × Int:=if 200<l.length then (5,0)else jP 0 l
theorem nF {w:World} {X:Nat→Prop} {A:Option Addr} {n:Nat} {l:List ax} (h:bH (aW w X) w X 7 A n l) {k:Nat} {r:ax} (hk:l[k]? = some r) :
    ∃ (b off:Nat) (A1 A2 A3 A4:Option Addr) (n1 c1 n2 c2 n3 c3 n4 c4:Nat),A=some ⟨b,off,none⟩∧X b∧b<w.heap.size ∧
      (w.cell? ⟨b,off+k*7,none⟩=some (.bool r.start)∧w.cell? ⟨b,off+k*7+1,none⟩=some (.bool r.fin)∧w.cell? ⟨b,off+k*7+2,none⟩=some (.slice A1 n1 c1)∧w.cell? ⟨b,off+k*7+3,none⟩=some (.slice A2 n2 c2)∧w.cell? ⟨b,off+k*7+4,none⟩=some (.slice A3 n3 c3)∧w.cell? ⟨b,off+k*7+5,none⟩=some (.slice A4 n4 c4)∧w.cell? ⟨b,off+k*7+6,none⟩=some (.int .i64 r.ag)) ∧
      fE w X r.before (.slice A1 n1 c1)∧fE w X r.source (.slice A2 n2 c2)∧fE w X r.after (.slice A3 n3 c3)∧cE w X 1 A4 n4 (runeCells r.target)∧n4≤maxLen:=by
 obtain⟨b,off,cs,e,hx,hb,⟨u1,u2,u3,A4,n4,c4,rfl,h1,h2,h3,h4,h5⟩,_,hc⟩:=h.at hk;obtain⟨A1,n1,c1,rfl,h1⟩:=h1;obtain⟨A2,n2,c2,rfl,h2⟩:=h2;obtain⟨A3,n3,c3,rfl,h3⟩:=h3;exact⟨b,off,A1,A2,A3,A4,n1,c1,n2,c2,n3,c3,n4,c4,e,hx,hb,⟨hc 0 _ rfl,hc 1 _ rfl,hc 2 _ rfl,hc 3 _ rfl,hc 4 _ rfl,hc 5 _ rfl,hc 6 _ rfl⟩,⟨_,_,_,rfl,h1⟩,⟨_,_,_,rfl,h2⟩,⟨_,_,_,rfl,h3⟩,h4,h5⟩
def SV (w:World) (l:List ax) (n:Nat) (i:Value) (wr:World):Prop :=
  ∃ k:Nat,k≤n∧i=.int .i64 k∧jP 0 l=jP k (l.drop k)∧ai wr w.heap.size 32 #[.int .i64 0,.int .i64 0]∧Below w.heap.size w wr
theorem jU (X:Nat→Prop) (l:List ax) (A:Option Addr) (n c:Nat) (w:World) (hn:n≤maxLen) (hl:bH (aW w X) w X 7 A n l) :
    Calls Tryz.prog 17 #[.slice A n c] w fun e w'=>e=.returned (.agg #[.int .i64 (cz l).1,.int .i64 (cz l).2])∧Below w.heap.size w w':=by
 have aO:=qqh (show l.length=n from hl.len);have HL:=qqh hl;have q7:=qqh (ai.new w 32 #[.int .i64 0,.int .i64 0]);clear hl;simp only [maxLen]at hn;by_cases h2:200<n
 ·have HP:=qqh (show cz l=(5,0) by unfold cz;rw [if_pos (by rw [aO.out];exact h2)]);go_enter Tryz.func17,Tryz.ntmps17;go_wp2_with fail;rw [HP.out];exact bodyPost_ret (v:=.agg #[.int .i64 5,.int .i64 0]) (by simp [results,Tryz.results17,go_sem]) rfl ⟨rfl,(Below.refl _ _).alloc (Nat.le_refl _) _⟩
 have HP:=qqh (show cz l=jP 0 l by unfold cz;rw [if_neg (by rw [aO.out];exact h2)]);go_enter Tryz.func17,Tryz.ntmps17;go_wp2_with fail;go_loopw [12] (SV w l n) (fun i _=>n - (intOf i).toNat);(case atStart=>exact⟨0,Nat.zero_le _,rfl,rfl,q7.out,(Below.refl _ _).alloc (Nat.le_refl _) _⟩);obtain⟨k,hk,rfl,aV,N5,hb⟩:=hrel;have hz:=hb.size;by_cases hlt:k<n
 ·obtain⟨r,hr⟩:∃ z,l[k]? = some z:=⟨_,List.getElem?_eq_getElem (by rw [aO.out];exact hlt)⟩;obtain⟨b,off,A1,A2,A3,A4,n1,c1,n2,c2,n3,c3,n4,c4,rfl,_,cC,⟨d0,d1,d2,d3,d4,d5,d6⟩,s1,s2,s3,s4,AW⟩:=nF (HL.out.keep (aa.any hb) (fun _ _=>aW.keep (aa.any hb))) hr;rw [cW hr,jP]at aV;have dQ:=qqh aV;have HR:=qqh hr;have eT:=qqh (N5.alloc (.cells #[.bool r.start,.bool r.fin,.slice A1 n1 c1,.slice A2 n2 c2,.slice A3 n3 c3,.slice A4 n4 c4,.int .i64 r.ag] 68));have bw:=qqh (hb.alloc hb.size (.cells #[.bool r.start,.bool r.fin,.slice A1 n1 c1,.slice A2 n2 c2,.slice A3 n3 c3,.slice A4 n4 c4,.int .i64 r.ag] 68));have HK:=qqh (aa.any (X:=X) ((Below.refl wr.heap.size wr).alloc (Nat.le_refl _) (.cells #[.bool r.start,.bool r.fin,.slice A1 n1 c1,.slice A2 n2 c2,.slice A3 n3 c3,.slice A4 n4 c4,.int .i64 r.ag] 68)));have MT:=qqh (Ci r X (.slice A1 n1 c1) (.slice A2 n2 c2) (.slice A3 n3 c3) A4 n4 c4 (wr.alloc (.cells #[.bool r.start,.bool r.fin,.slice A1 n1 c1,.slice A2 n2 c2,.slice A3 n3 c3,.slice A4 n4 c4,.int .i64 r.ag] 68)) (s1.keep HK.out) (s2.keep HK.out) (s3.keep HK.out) (s4.keep HK.out) AW);clear aV hr N5 hb s1 s2 s3 s4 AW;go_wp2_with fail;refine MT.out.mono ?_;rintro e w9 ⟨rfl,cj⟩;have nV:=qqh (ai.below eT.out cj eT.out.lt);have fe:=qqh (bw.out.trans (cj.mono bw.out.size));have e0:w9.cell? ⟨w.heap.size,0,none⟩=some (.int .i64 0):=nV.out.cell 0;have e1:w9.cell? ⟨w.heap.size,1,none⟩=some (.int .i64 0):=nV.out.cell 1;have ef0:=nV.out.frozen 0;have ef1:=nV.out.frozen 1;clear cj;by_cases hz:kf r=0
  ·have lV:=qqh (dQ.out.trans (if_neg (by rw [hz];decide)));rw [hz];clear hz;go_wp2_with fail;exact⟨⟨k+1,by omega,by go_num,lV.out,nV.out,fe.out⟩,by simp [intOf];omega⟩
  have lV:=qqh (dQ.out.trans (if_pos hz));go_wp2_with fail;rw [HP.out,lV.out];exact bodyPost_ret (v:=.agg #[.int .i64 (kf r),.int .i64 k]) (by simp [results,Tryz.results17,go_sem,e0,e1]) rfl ⟨rfl,(fe.out.setCell (by simp) _).setCell (by simp) _⟩
 obtain rfl:k=n:=(by omega);rw [List.drop_of_length_le (by rw [aO.out];omega)]at aV;have HG:=qqh (aV.trans (show jP k [] =(0,0) from rfl));have e0:wr.cell? ⟨w.heap.size,0,none⟩=some (.int .i64 0):=N5.cell 0;have e1:wr.cell? ⟨w.heap.size,1,none⟩=some (.int .i64 0):=N5.cell 1;have ef0:=N5.frozen 0;have ef1:=N5.frozen 1;clear aV;go_wp2_with fail;rw [HP.out,HG.out];exact bodyPost_ret (v:=.agg #[.int .i64 0,.int .i64 0]) (by simp [results,Tryz.results17,go_sem,e0,e1]) rfl ⟨rfl,(hb.setCell (by simp) _).setCell (by simp) _⟩
end Go.Proofs.YthgkedoildcbcaaGreatDoor
