/- RulesBoth -/
import Derived.Test.YtkggjgeihhialaaGreatDoorZs12
import Derived.Test.YtkggjgeihhialaaGreatDoorZs6
import Derived.Deep.DeepCutAuto
import Derived.Deep.CutBlock
import Derived.Test.YtkggjgeihhialaaGreatDoorZs9
set_option maxHeartbeats 3200000
set_option maxRecDepth 100000
namespace Go.Proofs.YtkggjgeihhialaaGreatDoor
open Go.RowKit
def cB:List Int→Int
  | []=>0
  | x::r=>if x≠0 then x else cB r
def jh (l:List ag):Int:=if 20<l.length then 5 else cB (l.map bL)
def dA (r:ax):List (List ag):=[r.before,r.source,r.after]
def cC (l:List Int):Bool:=l.any fun x=>!cV x
def oq (r:ax):Int :=
  if r.source.length=0 then 6 else if 20<r.target.length then 5 else if cC r.target=true then 3 else if r.af<0∨(r.target.length:Int)<r.af then 3 else 0
def jX (r:ax):Int:=if cB ((dA r).map jh)≠0 then cB ((dA r).map jh)else oq r
theorem jI {x:Int} (r:List Int) (h:x≠0):cB (x::r)=x:=by simp [cB,h]
theorem kS {x:Int} (r:List Int) (h:x=0):cB (x::r)=cB r:=by simp [cB,h]
theorem Bb (x:Int) (w:World):Calls Tryz.prog 89 #[.int .i32 x] w fun e w'=>e=.returned (.bool (!cV x))∧w'=w:=by
 go_enter Tryz.func89,Tryz.ntmps89;go_wp2_with fail;refine(gn _ _).mono ?_;rintro e w1 ⟨rfl,rfl⟩;go_wp2_with fail;go_ret;exact⟨rfl,rfl⟩
def OY (w:World) (l:List Int) (n:Nat) (i:Value) (wr:World):Prop :=
  ∃ j:Nat,j≤n∧i=.int .i64 j∧cC l=cC (l.drop j)∧Below w.heap.size w wr
theorem Kc (A:Option Addr) (n c:Nat) (l:List Int) (w:World) (hn:n≤9223372036854775807) (hl:pN w w.heap.size A n l) :
    Calls Tryz.prog 83 #[.slice A n c,.func (.func 89) #[] #[]] w fun e w'=>(∃ k:Int,e=.returned (.int .i64 k)∧decide (0≤k)=cC l)∧Below w.heap.size w w':=by
 have aS:=qqh hl.len;have HL:=qqh hl;clear hl;go_enter Tryz.func83,Tryz.ntmps83;go_wp2_with fail;go_loopw [8] (OY w l n) (fun i _=>n - (intOf i).toNat);(case atStart=>exact⟨0,Nat.zero_le _,rfl,rfl,Below.refl _ _⟩);obtain⟨j,hj,rfl,aY,hb⟩:=hrel;by_cases hlt:j<n
 ·obtain⟨x,hx⟩:∃ z,l[j]? = some z:=⟨_,List.getElem?_eq_getElem (by rw [aS.out];exact hlt)⟩;obtain⟨b,off,rfl,dL,c0⟩:=HL.out.at hlt;rw [show l.getD j 0=x by simp [List.getD,hx]]at c0;have d0:=(hb.cell (p:=⟨b,off+j,none⟩) dL).trans c0;rw [dH hx,show cC (x::l.drop (j+1))=(!cV x || cC (l.drop (j+1))) from rfl]at aY;have HG:=qqh aY;have HX:=qqh hx;clear aY hx c0;go_wp2_with fail;refine(Bb _ _).mono ?_;rintro e w1 ⟨rfl,rfl⟩;cases hr:cV x
  ·have HR:=qqh hr;clear hr;go_wp2_with fail;go_ret;refine⟨⟨_,rfl,?_⟩,hb⟩;rw [HG.out,HR.out];simp
  have HR:=qqh hr;clear hr;go_wp2_with fail;exact⟨⟨j+1,by omega,by go_num,by rw [HG.out,HR.out];rfl,hb⟩,by simp [intOf];omega⟩
 obtain rfl:j=n:=(by omega);rw [List.drop_of_length_le (by rw [aS.out];omega)]at aY;have HG:=qqh (aY.trans (show cC [] = false from rfl));clear aY;go_wp2_with fail;go_ret;exact⟨⟨_,rfl,by rw [HG.out];rfl⟩,hb⟩
theorem BN (A:Option Addr) (n c:Nat) (l:List Int) (w:World) (hn:n≤9223372036854775807) (hl:pN w w.heap.size A n l) :
    Calls Tryz.prog 48 #[.slice A n c,.func (.func 89) #[] #[]] w fun e w'=>e=.returned (.bool (cC l))∧Below w.heap.size w w':=by
 have H:=qqh (Kc A n c l w hn hl);clear hl;go_enter Tryz.func48,Tryz.ntmps48;go_wp2_with fail;refine H.out.mono ?_;rintro e w1 ⟨⟨k,rfl,hk⟩,hb⟩;have HK:=qqh hk;clear hk;go_wp2_with fail;go_ret;refine⟨?_,hb⟩;rw [← HK.out];rfl
def TH (w1:World) (l:List ag) (n:Nat) (i:Value) (wr:World):Prop :=
  ∃ j:Nat,j≤n∧i=.int .i64 j∧cB (l.map bL)=cB ((l.drop j).map bL)∧Below w1.heap.size w1 wr
def Uo (w1:World) (r:ax) (i:Value) (wr:World):Prop :=
  ∃ k:Nat,k≤3∧i=.int .i64 k∧cB ((dA r).map jh)=cB (((dA r).drop k).map jh)∧Below w1.heap.size w1 wr
theorem BA (r:ax) (X:Nat→Prop) (u1 u2 u3:Value) (A:Option Addr) (n c:Nat) (w:World) (h1:eU w X r.before u1) (h2:eU w X r.source u2) (h3:eU w X r.after u3) (h4:cy w X 1 A n (runeCells r.target)) (hn:n≤maxLen) :
    Calls Tryz.prog 54 #[.agg #[.bool r.start,.bool r.fin,u1,u2,u3,.slice A n c,.int .i64 r.af]] w fun e w'=>e=.returned (.int .i64 (jX r))∧Below w.heap.size w w':=by
 obtain⟨A1,n1,c1,rfl,p1,q1⟩:=h1;obtain⟨A2,n2,c2,rfl,p2,q2⟩:=h2;obtain⟨A3,n3,c3,rfl,p3,q3⟩:=h3;replace p1:=wg p1;replace p2:=wg p2;replace p3:=wg p3;have hsz:r.target.length=n:=(by have:=h4.1;rw [runeCells_length]at this;omega);have hb0:=((Below.refl w.heap.size w).alloc (Nat.le_refl _) (.cells #[.bool r.start,.bool r.fin,.slice A1 n1 c1,.slice A2 n2 c2,.slice A3 n3 c3,.slice A n c,.int .i64 r.af] 89)).alloc (by simp) (.cells #[.slice A1 n1 c1,.slice A2 n2 c2,.slice A3 n3 c3] 87);have O6:∀ k,k<3→∃ (s:List ag) (A':Option Addr) (n' c':Nat),(dA r)[k]? = some s∧(#[Value.slice A1 n1 c1,.slice A2 n2 c2,.slice A3 n3 c3])[k]? = some (.slice A' n' c')∧bh (mc w X) w X 1 A' n' s∧n'≤maxLen:=by
  intro k hk;match k,hk with
  | 0,_=>exact⟨_,_,_,_,rfl,rfl,p1,q1⟩
  | 1,_=>exact⟨_,_,_,_,rfl,rfl,p2,q2⟩
  | 2,_=>exact⟨_,_,_,_,rfl,rfl,p3,q3⟩
 have Ki:=qqh (show r.source.length=n2 from p2.len);have Fm:=qqh hsz;have HT:=qqh h4;have HS:=qqh O6;have dV:=qqh hb0;have hG:=aj.alloc (aj.new w 89 #[.bool r.start,.bool r.fin,.slice A1 n1 c1,.slice A2 n2 c2,.slice A3 n3 c3,.slice A n c,.int .i64 r.af]) (.cells #[.slice A1 n1 c1,.slice A2 n2 c2,.slice A3 n3 c3] 87);have hL:=aj.new (w.alloc (.cells #[.bool r.start,.bool r.fin,.slice A1 n1 c1,.slice A2 n2 c2,.slice A3 n3 c3,.slice A n c,.int .i64 r.af] 89)) 87 #[.slice A1 n1 c1,.slice A2 n2 c2,.slice A3 n3 c3];rw [show(w.alloc (.cells #[.bool r.start,.bool r.fin,.slice A1 n1 c1,.slice A2 n2 c2,.slice A3 n3 c3,.slice A n c,.int .i64 r.af] 89)).heap.size=w.heap.size+1 by simp]at hL;have HG:=qqh hG;have HL:=qqh hL;clear h4 p1 p2 p3 O6 hb0 hG hL hsz;simp only [maxLen]at hn q1 q2 q3;go_enter Tryz.func54,Tryz.ntmps54;go_wp2_with fail;go_loopw [16] (Uo ((w.alloc (.cells #[.bool r.start,.bool r.fin,.slice A1 n1 c1,.slice A2 n2 c2,.slice A3 n3 c3,.slice A n c,.int .i64 r.af] 89)).alloc (.cells #[.slice A1 n1 c1,.slice A2 n2 c2,.slice A3 n3 c3] 87)) r) (fun i _=>3 - (intOf i).toNat);(case atStart=>exact⟨0,Nat.zero_le _,rfl,rfl,Below.refl _ _⟩);obtain⟨k,hk,rfl,aY,hb⟩:=hrel;have jg:=dV.out.trans (hb.mono dV.out.size);by_cases hlt:k<3
 ·have Pe:decide ((k:Int)<3)=true:=decide_eq_true (by omega);obtain⟨s,A',n',c',hs,hu,hls,hn'⟩:=HS.out k hlt;have hcell:wr.cell? ⟨w.heap.size+1,k,none⟩=some (.slice A' n' c'):=((aj.below HL.out hb HL.out.lt).cell k).trans hu;have xV:=qqh (show s.length=n' from hls.len);have aY:cB ((dA r).map jh)=cB (jh s::((dA r).drop (k+1)).map jh):=(by rw [aY,dH hs,List.map_cons]);simp only [maxLen]at hn';have ZN:=qqh hls;have lQ:=qqh jg;have HB:=qqh hb;clear hs hu hls jg hb;by_cases h20:20<n'
  ·rw [show jh s=5 by unfold jh;rw [if_pos (by rw [xV.out];exact h20)],jI _ (by decide)]at aY;have ep:=qqh aY;clear aY;go_wp2_with fail;go_ret;refine⟨?_,lQ.out⟩;rw [jX,if_pos (by rw [ep.out];decide),ep.out];rfl
  have ep:=qqh aY;have Uj:=qqh (show jh s=cB (s.map bL) by unfold jh;rw [if_neg (by rw [xV.out];exact h20)]);clear aY;have adF:decide ((20:Int)<(n':Int))=false:=decide_eq_false (by omega);go_wp2_with fail;go_loopw [25] (TH wr s n') (fun i _=>n' - (intOf i).toNat);(case atStart=>exact⟨0,Nat.zero_le _,rfl,rfl,Below.refl _ _⟩);obtain⟨j,hj,rfl,hg2,aQ⟩:=hrel;have bt:=qqh (HB.out.trans (aQ.mono HB.out.size));have Nf:=qqh (lQ.out.trans (aQ.mono lQ.out.size));by_cases hlt2:j<n'
  ·obtain⟨x,hx⟩:∃ z,s[j]? = some z:=⟨_,List.getElem?_eq_getElem (by rw [xV.out];exact hlt2)⟩;obtain⟨b,off,A'',n'',c'',rfl,_,dL,qj,hrd,_,hnn⟩:=tE (ZN.out.keep (aa.any Nf.out) (fun _ _=>mc.keep (aa.any Nf.out))) hx;simp only [maxLen]at hnn;have hg2:cB (s.map bL)=cB (bL x::(s.drop (j+1)).map bL):=(by rw [hg2,dH hx,List.map_cons]);have lg:=qqh hg2;have HX:=qqh hx;have bN:=qqh aQ;clear hg2 hx aQ;go_wp2_with fail;refine(iS A'' n'' c'' x _ (by omega) hrd).mono ?_;rintro e w9 ⟨rfl,cF⟩;have eE:=qqh cF;clear cF hrd;by_cases hz:bL x=0
   ·have HZ:=qqh hz;have HR:=qqh (lg.out.trans (kS _ hz));rw [hz];clear hz;go_wp2_with fail;exact⟨⟨j+1,by omega,by go_num,HR.out,bN.out.trans (eE.out.mono bN.out.size)⟩,by simp [intOf];omega⟩
   have HR:=qqh (lg.out.trans (jI _ hz));go_wp2_with fail;go_ret;refine⟨?_,Nf.out.trans (eE.out.mono Nf.out.size)⟩;rw [jX,ep.out,Uj.out,HR.out,jI _ hz,if_pos hz];rfl
  obtain rfl:j=n':=(by omega);rw [List.drop_of_length_le (by rw [xV.out];omega)]at hg2;have lg:=qqh (Uj.out.trans hg2);have bN:=qqh aQ;clear hg2 aQ;go_wp2_with fail;exact⟨⟨k+1,by omega,by go_num,ep.out.trans (kS _ lg.out),bt.out⟩,by simp [intOf];omega⟩
 have Pe:k=3:=(by omega);have HR:=qqh (show jX r=oq r by rw [jX,if_neg (by rw [aY,Pe,show(dA r).drop 3 = [] from rfl];decide)]);clear Pe;have hG:=aj.below HG.out hb HG.out.lt;have d3:wr.cell? ⟨w.heap.size,3,none⟩=some (.slice A2 n2 c2):=hG.cell 3;have d5:wr.cell? ⟨w.heap.size,5,none⟩=some (.slice A n c):=hG.cell 5;have lQ:=qqh jg;have OM:=qqh hG;clear aY hG hb jg;by_cases hs0:n2=0
 ·subst hs0;have HP:=qqh (show oq r=6 by rw [oq,if_pos Ki.out]);go_wp2_with fail;go_ret;rw [HR.out,HP.out];exact⟨rfl,lQ.out⟩
 by_cases ht:20<n
 ·have HP:=qqh (show oq r=5 by rw [oq,if_neg (by rw [Ki.out];exact hs0),if_pos (by rw [Fm.out];exact ht)]);have hs1:decide ((n2:Int)=0)=false:=(by simpa using hs0);go_wp2_with fail;go_ret;rw [HR.out,HP.out];exact⟨rfl,lQ.out⟩
 have HP:=qqh (show oq r=_ by rw [oq,if_neg (by rw [Ki.out];exact hs0),if_neg (by rw [Fm.out];exact ht)]);have hs1:decide ((n2:Int)=0)=false:=(by simpa using hs0);go_wp2_with fail;refine(BN A n c r.target _ (by omega) (HT.out.keep (aa.any lQ.out)).of).mono ?_;rintro e w9 ⟨rfl,cF⟩;have d6:w9.cell? ⟨w.heap.size,6,none⟩=some (.int .i64 r.af):=(aj.below OM.out cF OM.out.lt).cell 6;have d5:w9.cell? ⟨w.heap.size,5,none⟩=some (.slice A n c):=(aj.below OM.out cF OM.out.lt).cell 5;have eE:=qqh (lQ.out.trans (cF.mono lQ.out.size));clear cF;cases hbd:cC r.target
 ·rw [hbd]at HP;have HP:=qqh (HP.out.trans (if_neg (by decide)));clear hbd;by_cases hc0:r.af<0
  ·have HP:=qqh (HP.out.trans (if_pos (Or.inl hc0)));go_wp2_with fail;go_ret;rw [HR.out,HP.out];exact⟨rfl,eE.out⟩
  by_cases hc1:(n:Int)<r.af
  ·have HP:=qqh (HP.out.trans (if_pos (Or.inr (by rw [Fm.out];exact hc1))));go_wp2_with fail;go_ret;rw [HR.out,HP.out];exact⟨rfl,eE.out⟩
  have HP:=qqh (HP.out.trans (if_neg (by rw [Fm.out];omega)));go_wp2_with fail;go_ret;rw [HR.out,HP.out];exact⟨rfl,eE.out⟩
 rw [hbd]at HP;have HP:=qqh (HP.out.trans (if_pos rfl));clear hbd;go_wp2_with fail;go_ret;rw [HR.out,HP.out];exact⟨rfl,eE.out⟩
def jG:Nat→List ax→Int × Int
  | _,[]=>(0,0)
  | i,r::l=>if jX r≠0 then (jX r,(i:Int))else jG (i+1) l
def cP (l:List ax):Int × Int:=if 200<l.length then (5,0)else jG 0 l
theorem lV {w:World} {X:Nat→Prop} {A:Option Addr} {n:Nat} {l:List ax} (h:bh (aO w X) w X 7 A n l) {k:Nat} {r:ax} (hk:l[k]? = some r) :
    ∃ (b off:Nat) (A1 A2 A3 A4:Option Addr) (n1 c1 n2 c2 n3 c3 n4 c4:Nat),A=some ⟨b,off,none⟩∧X b∧b<w.heap.size ∧
      (w.cell? ⟨b,off+k*7,none⟩=some (.bool r.start)∧w.cell? ⟨b,off+k*7+1,none⟩=some (.bool r.fin)∧w.cell? ⟨b,off+k*7+2,none⟩=some (.slice A1 n1 c1)∧w.cell? ⟨b,off+k*7+3,none⟩=some (.slice A2 n2 c2)∧w.cell? ⟨b,off+k*7+4,none⟩=some (.slice A3 n3 c3)∧w.cell? ⟨b,off+k*7+5,none⟩=some (.slice A4 n4 c4)∧w.cell? ⟨b,off+k*7+6,none⟩=some (.int .i64 r.af)) ∧
      eU w X r.before (.slice A1 n1 c1)∧eU w X r.source (.slice A2 n2 c2)∧eU w X r.after (.slice A3 n3 c3)∧cy w X 1 A4 n4 (runeCells r.target)∧n4≤maxLen:=by
 obtain⟨b,off,cs,e,hx,hb,⟨u1,u2,u3,A4,n4,c4,rfl,h1,h2,h3,h4,h5⟩,_,hc⟩:=h.at hk;obtain⟨A1,n1,c1,rfl,h1⟩:=h1;obtain⟨A2,n2,c2,rfl,h2⟩:=h2;obtain⟨A3,n3,c3,rfl,h3⟩:=h3;exact⟨b,off,A1,A2,A3,A4,n1,c1,n2,c2,n3,c3,n4,c4,e,hx,hb,⟨hc 0 _ rfl,hc 1 _ rfl,hc 2 _ rfl,hc 3 _ rfl,hc 4 _ rfl,hc 5 _ rfl,hc 6 _ rfl⟩,⟨_,_,_,rfl,h1⟩,⟨_,_,_,rfl,h2⟩,⟨_,_,_,rfl,h3⟩,h4,h5⟩
def SJ (w:World) (l:List ax) (n:Nat) (i:Value) (wr:World):Prop :=
  ∃ k:Nat,k≤n∧i=.int .i64 k∧jG 0 l=jG k (l.drop k)∧aj wr w.heap.size 38 #[.int .i64 0,.int .i64 0]∧Below w.heap.size w wr
theorem lz (X:Nat→Prop) (l:List ax) (A:Option Addr) (n c:Nat) (w:World) (hn:n≤maxLen) (hl:bh (aO w X) w X 7 A n l) :
    Calls Tryz.prog 26 #[.slice A n c] w fun e w'=>e=.returned (.agg #[.int .i64 (cP l).1,.int .i64 (cP l).2])∧Below w.heap.size w w':=by
 have aS:=qqh (show l.length=n from hl.len);have HL:=qqh hl;have qR:=qqh (aj.new w 38 #[.int .i64 0,.int .i64 0]);clear hl;simp only [maxLen]at hn;by_cases h2:200<n
 ·have HP:=qqh (show cP l=(5,0) by unfold cP;rw [if_pos (by rw [aS.out];exact h2)]);go_enter Tryz.func26,Tryz.ntmps26;go_wp2_with fail;rw [HP.out];exact bodyPost_ret (v:=.agg #[.int .i64 5,.int .i64 0]) (by simp [results,Tryz.results26,go_sem]) rfl ⟨rfl,(Below.refl _ _).alloc (Nat.le_refl _) _⟩
 have HP:=qqh (show cP l=jG 0 l by unfold cP;rw [if_neg (by rw [aS.out];exact h2)]);go_enter Tryz.func26,Tryz.ntmps26;go_wp2_with fail;go_loopw [12] (SJ w l n) (fun i _=>n - (intOf i).toNat);(case atStart=>exact⟨0,Nat.zero_le _,rfl,rfl,qR.out,(Below.refl _ _).alloc (Nat.le_refl _) _⟩);obtain⟨k,hk,rfl,aY,Ns,hb⟩:=hrel;have hz:=hb.size;by_cases hlt:k<n
 ·obtain⟨r,hr⟩:∃ z,l[k]? = some z:=⟨_,List.getElem?_eq_getElem (by rw [aS.out];exact hlt)⟩;obtain⟨b,off,A1,A2,A3,A4,n1,c1,n2,c2,n3,c3,n4,c4,rfl,_,dL,⟨d0,d1,d2,d3,d4,d5,d6⟩,s1,s2,s3,s4,AI⟩:=lV (HL.out.keep (aa.any hb) (fun _ _=>aO.keep (aa.any hb))) hr;rw [dH hr,jG]at aY;have ep:=qqh aY;have HR:=qqh hr;have eT:=qqh (Ns.alloc (.cells #[.bool r.start,.bool r.fin,.slice A1 n1 c1,.slice A2 n2 c2,.slice A3 n3 c3,.slice A4 n4 c4,.int .i64 r.af] 89));have bt:=qqh (hb.alloc hb.size (.cells #[.bool r.start,.bool r.fin,.slice A1 n1 c1,.slice A2 n2 c2,.slice A3 n3 c3,.slice A4 n4 c4,.int .i64 r.af] 89));have HK:=qqh (aa.any (X:=X) ((Below.refl wr.heap.size wr).alloc (Nat.le_refl _) (.cells #[.bool r.start,.bool r.fin,.slice A1 n1 c1,.slice A2 n2 c2,.slice A3 n3 c3,.slice A4 n4 c4,.int .i64 r.af] 89)));have I3:=qqh (BA r X (.slice A1 n1 c1) (.slice A2 n2 c2) (.slice A3 n3 c3) A4 n4 c4 (wr.alloc (.cells #[.bool r.start,.bool r.fin,.slice A1 n1 c1,.slice A2 n2 c2,.slice A3 n3 c3,.slice A4 n4 c4,.int .i64 r.af] 89)) (s1.keep HK.out) (s2.keep HK.out) (s3.keep HK.out) (s4.keep HK.out) AI);clear aY hr Ns hb s1 s2 s3 s4 AI;go_wp2_with fail;refine I3.out.mono ?_;rintro e w9 ⟨rfl,cF⟩;have nL:=qqh (aj.below eT.out cF eT.out.lt);have eE:=qqh (bt.out.trans (cF.mono bt.out.size));have e0:w9.cell? ⟨w.heap.size,0,none⟩=some (.int .i64 0):=nL.out.cell 0;have e1:w9.cell? ⟨w.heap.size,1,none⟩=some (.int .i64 0):=nL.out.cell 1;have ef0:=nL.out.frozen 0;have ef1:=nL.out.frozen 1;clear cF;by_cases hz:jX r=0
  ·have uq:=qqh (ep.out.trans (if_neg (by rw [hz];decide)));rw [hz];clear hz;go_wp2_with fail;exact⟨⟨k+1,by omega,by go_num,uq.out,nL.out,eE.out⟩,by simp [intOf];omega⟩
  have uq:=qqh (ep.out.trans (if_pos hz));go_wp2_with fail;rw [HP.out,uq.out];exact bodyPost_ret (v:=.agg #[.int .i64 (jX r),.int .i64 k]) (by simp [results,Tryz.results26,go_sem,e0,e1]) rfl ⟨rfl,(eE.out.setCell (by simp) _).setCell (by simp) _⟩
 obtain rfl:k=n:=(by omega);rw [List.drop_of_length_le (by rw [aS.out];omega)]at aY;have HG:=qqh (aY.trans (show jG k [] =(0,0) from rfl));have e0:wr.cell? ⟨w.heap.size,0,none⟩=some (.int .i64 0):=Ns.cell 0;have e1:wr.cell? ⟨w.heap.size,1,none⟩=some (.int .i64 0):=Ns.cell 1;have ef0:=Ns.frozen 0;have ef1:=Ns.frozen 1;clear aY;go_wp2_with fail;rw [HP.out,HG.out];exact bodyPost_ret (v:=.agg #[.int .i64 0,.int .i64 0]) (by simp [results,Tryz.results26,go_sem,e0,e1]) rfl ⟨rfl,(hb.setCell (by simp) _).setCell (by simp) _⟩
end Go.Proofs.YtkggjgeihhialaaGreatDoor
