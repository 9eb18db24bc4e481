/- RulesBoth -/
import Derived.Test.YtkggjgeihhialaaGreatDoorZu11
import Derived.Test.YtkggjgeihhialaaGreatDoorZu6
import Derived.Deep.DeepCutAuto
import Derived.Deep.CutBlock
import Derived.Test.YtkggjgeihhialaaGreatDoorZu8
set_option maxHeartbeats 3200000
set_option maxRecDepth 100000
namespace Go.Proofs.YtkggjgeihhialaaGreatDoor
open Go.RowKit
def cG:List Int→Int
  | []=>0
  | x::r=>if x≠0 then x else cG r
def jh (l:List af):Int:=if 20<l.length then 5 else cG (l.map bC)
def cB (r:ai):List (List af):=[r.before,r.source,r.after]
def cK (l:List Int):Bool:=l.any fun x=>!b7 x
def oY (r:ai):Int :=
  if r.source.length=0 then 6 else if 20<r.target.length then 5 else if cK r.target=true then 3 else if r.ag<0∨(r.target.length:Int)<r.ag then 3 else 0
def kP (r:ai):Int:=if cG ((cB r).map jh)≠0 then cG ((cB r).map jh)else oY r
theorem jY {x:Int} (r:List Int) (h:x≠0):cG (x::r)=x:=by simp [cG,h]
theorem lO {x:Int} (r:List Int) (h:x=0):cG (x::r)=cG r:=by simp [cG,h]
theorem Dy (x:Int) (w:World):Calls Tryz.prog 89 #[.int .i32 x] w fun e w'=>e=.returned (.bool (!b7 x))∧w'=w:=by
 go_enter Tryz.func89,Tryz.ntmps89;go_wp2_with fail;refine(gw _ _).mono ?_;rintro e w1 ⟨rfl,rfl⟩;go_wp2_with fail;go_ret;exact⟨rfl,rfl⟩
def Qb (w:World) (l:List Int) (n:Nat) (i:Value) (wr:World):Prop :=
  ∃ j:Nat,j≤n∧i=.int .i64 j∧cK l=cK (l.drop j)∧Below w.heap.size w wr
theorem MH (A:Option Addr) (n c:Nat) (l:List Int) (w:World) (hn:n≤9223372036854775807) (hl:lX w w.heap.size A n l) :
    Calls Tryz.prog 83 #[.slice A n c,.func (.func 89) #[] #[]] w fun e w'=>(∃ k:Int,e=.returned (.int .i64 k)∧decide (0≤k)=cK l)∧Below w.heap.size w w':=by
 have aQ:=qqh hl.len;have HL:=qqh hl;clear hl;go_enter Tryz.func83,Tryz.ntmps83;go_wp2_with fail;go_loopw [8] (Qb w l n) (fun i _=>n - (intOf i).toNat);(case atStart=>exact⟨0,Nat.zero_le _,rfl,rfl,Below.refl _ _⟩);obtain⟨j,hj,rfl,aV,hb⟩:=hrel;by_cases hlt:j<n
 ·obtain⟨x,hx⟩:∃ z,l[j]? = some z:=⟨_,List.getElem?_eq_getElem (by rw [aQ.out];exact hlt)⟩;obtain⟨b,off,rfl,cH,c0⟩:=HL.out.at hlt;rw [show l.getD j 0=x by simp [List.getD,hx]]at c0;have d0:=(hb.cell (p:=⟨b,off+j,none⟩) cH).trans c0;rw [cW hx,show cK (x::l.drop (j+1))=(!b7 x || cK (l.drop (j+1))) from rfl]at aV;have HG:=qqh aV;have HX:=qqh hx;clear aV hx c0;go_wp2_with fail;refine(Dy _ _).mono ?_;rintro e w1 ⟨rfl,rfl⟩;cases hr:b7 x
  ·have HR:=qqh hr;clear hr;go_wp2_with fail;go_ret;refine⟨⟨_,rfl,?_⟩,hb⟩;rw [HG.out,HR.out];simp
  have HR:=qqh hr;clear hr;go_wp2_with fail;exact⟨⟨j+1,by omega,by go_num,by rw [HG.out,HR.out];rfl,hb⟩,by simp [intOf];omega⟩
 obtain rfl:j=n:=(by omega);rw [List.drop_of_length_le (by rw [aQ.out];omega)]at aV;have HG:=qqh (aV.trans (show cK [] = false from rfl));clear aV;go_wp2_with fail;go_ret;exact⟨⟨_,rfl,by rw [HG.out];rfl⟩,hb⟩
theorem Cr (A:Option Addr) (n c:Nat) (l:List Int) (w:World) (hn:n≤9223372036854775807) (hl:lX w w.heap.size A n l) :
    Calls Tryz.prog 48 #[.slice A n c,.func (.func 89) #[] #[]] w fun e w'=>e=.returned (.bool (cK l))∧Below w.heap.size w w':=by
 have H:=qqh (MH A n c l w hn hl);clear hl;go_enter Tryz.func48,Tryz.ntmps48;go_wp2_with fail;refine H.out.mono ?_;rintro e w1 ⟨⟨k,rfl,hk⟩,hb⟩;have HK:=qqh hk;clear hk;go_wp2_with fail;go_ret;refine⟨?_,hb⟩;rw [← HK.out];rfl
def Vt (w1:World) (l:List af) (n:Nat) (i:Value) (wr:World):Prop :=
  ∃ j:Nat,j≤n∧i=.int .i64 j∧cG (l.map bC)=cG ((l.drop j).map bC)∧Below w1.heap.size w1 wr
def Wn (w1:World) (r:ai) (i:Value) (wr:World):Prop :=
  ∃ k:Nat,k≤3∧i=.int .i64 k∧cG ((cB r).map jh)=cG (((cB r).drop k).map jh)∧Below w1.heap.size w1 wr
theorem Cq (r:ai) (X:Nat→Prop) (u1 u2 u3:Value) (A:Option Addr) (n c:Nat) (w:World) (h1:fq w X r.before u1) (h2:fq w X r.source u2) (h3:fq w X r.after u3) (h4:cE w X 1 A n (runeCells r.target)) (hn:n≤maxLen) :
    Calls Tryz.prog 54 #[.agg #[.bool r.start,.bool r.fin,u1,u2,u3,.slice A n c,.int .i64 r.ag]] w fun e w'=>e=.returned (.int .i64 (kP r))∧Below w.heap.size w w':=by
 obtain⟨A1,n1,c1,rfl,p1,q1⟩:=h1;obtain⟨A2,n2,c2,rfl,p2,q2⟩:=h2;obtain⟨A3,n3,c3,rfl,p3,q3⟩:=h3;replace p1:=sg p1;replace p2:=sg p2;replace p3:=sg p3;have hsz:r.target.length=n:=(by have:=h4.1;rw [runeCells_length]at this;omega);have hb0:=((Below.refl w.heap.size w).alloc (Nat.le_refl _) (.cells #[.bool r.start,.bool r.fin,.slice A1 n1 c1,.slice A2 n2 c2,.slice A3 n3 c3,.slice A n c,.int .i64 r.ag] 89)).alloc (by simp) (.cells #[.slice A1 n1 c1,.slice A2 n2 c2,.slice A3 n3 c3] 87);have Qu:∀ k,k<3→∃ (s:List af) (A':Option Addr) (n' c':Nat),(cB r)[k]? = some s∧(#[Value.slice A1 n1 c1,.slice A2 n2 c2,.slice A3 n3 c3])[k]? = some (.slice A' n' c')∧bt (mG w X) w X 1 A' n' s∧n'≤maxLen:=by
  intro k hk;match k,hk with
  | 0,_=>exact⟨_,_,_,_,rfl,rfl,p1,q1⟩
  | 1,_=>exact⟨_,_,_,_,rfl,rfl,p2,q2⟩
  | 2,_=>exact⟨_,_,_,_,rfl,rfl,p3,q3⟩
 have Mn:=qqh (show r.source.length=n2 from p2.len);have TM:=qqh hsz;have HT:=qqh h4;have HS:=qqh Qu;have dY:=qqh hb0;have hG:=aj.alloc (aj.new w 89 #[.bool r.start,.bool r.fin,.slice A1 n1 c1,.slice A2 n2 c2,.slice A3 n3 c3,.slice A n c,.int .i64 r.ag]) (.cells #[.slice A1 n1 c1,.slice A2 n2 c2,.slice A3 n3 c3] 87);have hL:=aj.new (w.alloc (.cells #[.bool r.start,.bool r.fin,.slice A1 n1 c1,.slice A2 n2 c2,.slice A3 n3 c3,.slice A n c,.int .i64 r.ag] 89)) 87 #[.slice A1 n1 c1,.slice A2 n2 c2,.slice A3 n3 c3];rw [show(w.alloc (.cells #[.bool r.start,.bool r.fin,.slice A1 n1 c1,.slice A2 n2 c2,.slice A3 n3 c3,.slice A n c,.int .i64 r.ag] 89)).heap.size=w.heap.size+1 by simp]at hL;have HG:=qqh hG;have HL:=qqh hL;clear h4 p1 p2 p3 Qu hb0 hG hL hsz;simp only [maxLen]at hn q1 q2 q3;go_enter Tryz.func54,Tryz.ntmps54;go_wp2_with fail;go_loopw [16] (Wn ((w.alloc (.cells #[.bool r.start,.bool r.fin,.slice A1 n1 c1,.slice A2 n2 c2,.slice A3 n3 c3,.slice A n c,.int .i64 r.ag] 89)).alloc (.cells #[.slice A1 n1 c1,.slice A2 n2 c2,.slice A3 n3 c3] 87)) r) (fun i _=>3 - (intOf i).toNat);(case atStart=>exact⟨0,Nat.zero_le _,rfl,rfl,Below.refl _ _⟩);obtain⟨k,hk,rfl,aV,hb⟩:=hrel;have j6:=dY.out.trans (hb.mono dY.out.size);by_cases hlt:k<3
 ·have Qs:decide ((k:Int)<3)=true:=decide_eq_true (by omega);obtain⟨s,A',n',c',hs,hu,hls,hn'⟩:=HS.out k hlt;have hcell:wr.cell? ⟨w.heap.size+1,k,none⟩=some (.slice A' n' c'):=((aj.below HL.out hb HL.out.lt).cell k).trans hu;have yS:=qqh (show s.length=n' from hls.len);have aV:cG ((cB r).map jh)=cG (jh s::((cB r).drop (k+1)).map jh):=(by rw [aV,cW hs,List.map_cons]);simp only [maxLen]at hn';have HLS:=qqh hls;have iY:=qqh j6;have HB:=qqh hb;clear hs hu hls j6 hb;by_cases h20:20<n'
  ·rw [show jh s=5 by unfold jh;rw [if_pos (by rw [yS.out];exact h20)],jY _ (by decide)]at aV;have dO:=qqh aV;clear aV;go_wp2_with fail;go_ret;refine⟨?_,iY.out⟩;rw [kP,if_pos (by rw [dO.out];decide),dO.out];rfl
  have dO:=qqh aV;have Um:=qqh (show jh s=cG (s.map bC) by unfold jh;rw [if_neg (by rw [yS.out];exact h20)]);clear aV;have agZ:decide ((20:Int)<(n':Int))=false:=decide_eq_false (by omega);go_wp2_with fail;go_loopw [25] (Vt wr s n') (fun i _=>n' - (intOf i).toNat);(case atStart=>exact⟨0,Nat.zero_le _,rfl,rfl,Below.refl _ _⟩);obtain⟨j,hj,rfl,hg2,aU⟩:=hrel;have bD:=qqh (HB.out.trans (aU.mono HB.out.size));have Pb:=qqh (iY.out.trans (aU.mono iY.out.size));by_cases hlt2:j<n'
  ·obtain⟨x,hx⟩:∃ z,s[j]? = some z:=⟨_,List.getElem?_eq_getElem (by rw [yS.out];exact hlt2)⟩;obtain⟨b,off,A'',n'',c'',rfl,_,cH,qw,hrd,_,hnn⟩:=uO (HLS.out.keep (aa.any Pb.out) (fun _ _=>mG.keep (aa.any Pb.out))) hx;simp only [maxLen]at hnn;have hg2:cG (s.map bC)=cG (bC x::(s.drop (j+1)).map bC):=(by rw [hg2,cW hx,List.map_cons]);have lT:=qqh hg2;have HX:=qqh hx;have bG:=qqh aU;clear hg2 hx aU;go_wp2_with fail;refine(hJ A'' n'' c'' x _ (by omega) hrd).mono ?_;rintro e w9 ⟨rfl,bY⟩;have eG:=qqh bY;clear bY hrd;by_cases hz:bC x=0
   ·have HZ:=qqh hz;have HR:=qqh (lT.out.trans (lO _ hz));rw [hz];clear hz;go_wp2_with fail;exact⟨⟨j+1,by omega,by go_num,HR.out,bG.out.trans (eG.out.mono bG.out.size)⟩,by simp [intOf];omega⟩
   have HR:=qqh (lT.out.trans (jY _ hz));go_wp2_with fail;go_ret;refine⟨?_,Pb.out.trans (eG.out.mono Pb.out.size)⟩;rw [kP,dO.out,Um.out,HR.out,jY _ hz,if_pos hz];rfl
  obtain rfl:j=n':=(by omega);rw [List.drop_of_length_le (by rw [yS.out];omega)]at hg2;have lT:=qqh (Um.out.trans hg2);have bG:=qqh aU;clear hg2 aU;go_wp2_with fail;exact⟨⟨k+1,by omega,by go_num,dO.out.trans (lO _ lT.out),bD.out⟩,by simp [intOf];omega⟩
 have Qs:k=3:=(by omega);have HR:=qqh (show kP r=oY r by rw [kP,if_neg (by rw [aV,Qs,show(cB r).drop 3 = [] from rfl];decide)]);clear Qs;have hG:=aj.below HG.out hb HG.out.lt;have d3:wr.cell? ⟨w.heap.size,3,none⟩=some (.slice A2 n2 c2):=hG.cell 3;have d5:wr.cell? ⟨w.heap.size,5,none⟩=some (.slice A n c):=hG.cell 5;have iY:=qqh j6;have L4:=qqh hG;clear aV hG hb j6;by_cases hs0:n2=0
 ·subst hs0;have HP:=qqh (show oY r=6 by rw [oY,if_pos Mn.out]);go_wp2_with fail;go_ret;rw [HR.out,HP.out];exact⟨rfl,iY.out⟩
 by_cases ht:20<n
 ·have HP:=qqh (show oY r=5 by rw [oY,if_neg (by rw [Mn.out];exact hs0),if_pos (by rw [TM.out];exact ht)]);have hs1:decide ((n2:Int)=0)=false:=(by simpa using hs0);go_wp2_with fail;go_ret;rw [HR.out,HP.out];exact⟨rfl,iY.out⟩
 have HP:=qqh (show oY r=_ by rw [oY,if_neg (by rw [Mn.out];exact hs0),if_neg (by rw [TM.out];exact ht)]);have hs1:decide ((n2:Int)=0)=false:=(by simpa using hs0);go_wp2_with fail;refine(Cr A n c r.target _ (by omega) (HT.out.keep (aa.any iY.out)).of).mono ?_;rintro e w9 ⟨rfl,bY⟩;have d6:w9.cell? ⟨w.heap.size,6,none⟩=some (.int .i64 r.ag):=(aj.below L4.out bY L4.out.lt).cell 6;have d5:w9.cell? ⟨w.heap.size,5,none⟩=some (.slice A n c):=(aj.below L4.out bY L4.out.lt).cell 5;have eG:=qqh (iY.out.trans (bY.mono iY.out.size));clear bY;cases hbd:cK r.target
 ·rw [hbd]at HP;have HP:=qqh (HP.out.trans (if_neg (by decide)));clear hbd;by_cases hc0:r.ag<0
  ·have HP:=qqh (HP.out.trans (if_pos (Or.inl hc0)));go_wp2_with fail;go_ret;rw [HR.out,HP.out];exact⟨rfl,eG.out⟩
  by_cases hc1:(n:Int)<r.ag
  ·have HP:=qqh (HP.out.trans (if_pos (Or.inr (by rw [TM.out];exact hc1))));go_wp2_with fail;go_ret;rw [HR.out,HP.out];exact⟨rfl,eG.out⟩
  have HP:=qqh (HP.out.trans (if_neg (by rw [TM.out];omega)));go_wp2_with fail;go_ret;rw [HR.out,HP.out];exact⟨rfl,eG.out⟩
 rw [hbd]at HP;have HP:=qqh (HP.out.trans (if_pos rfl));clear hbd;go_wp2_with fail;go_ret;rw [HR.out,HP.out];exact⟨rfl,eG.out⟩
def jP:Nat→List ai→Int × Int
  | _,[]=>(0,0)
  | i,r::l=>if kP r≠0 then (kP r,(i:Int))else jP (i+1) l
def b8 (l:List ai):Int × Int:=if 200<l.length then (5,0)else jP 0 l
theorem gT {w:World} {X:Nat→Prop} {A:Option Addr} {n:Nat} {l:List ai} (h:bt (aL w X) w X 7 A n l) {k:Nat} {r:ai} (hk:l[k]? = some r) :
    ∃ (b off:Nat) (A1 A2 A3 A4:Option Addr) (n1 c1 n2 c2 n3 c3 n4 c4:Nat),A=some ⟨b,off,none⟩∧X b∧b<w.heap.size ∧
      (w.cell? ⟨b,off+k*7,none⟩=some (.bool r.start)∧w.cell? ⟨b,off+k*7+1,none⟩=some (.bool r.fin)∧w.cell? ⟨b,off+k*7+2,none⟩=some (.slice A1 n1 c1)∧w.cell? ⟨b,off+k*7+3,none⟩=some (.slice A2 n2 c2)∧w.cell? ⟨b,off+k*7+4,none⟩=some (.slice A3 n3 c3)∧w.cell? ⟨b,off+k*7+5,none⟩=some (.slice A4 n4 c4)∧w.cell? ⟨b,off+k*7+6,none⟩=some (.int .i64 r.ag)) ∧
      fq w X r.before (.slice A1 n1 c1)∧fq w X r.source (.slice A2 n2 c2)∧fq w X r.after (.slice A3 n3 c3)∧cE w X 1 A4 n4 (runeCells r.target)∧n4≤maxLen:=by
 obtain⟨b,off,cs,e,hx,hb,⟨u1,u2,u3,A4,n4,c4,rfl,h1,h2,h3,h4,h5⟩,_,hc⟩:=h.at hk;obtain⟨A1,n1,c1,rfl,h1⟩:=h1;obtain⟨A2,n2,c2,rfl,h2⟩:=h2;obtain⟨A3,n3,c3,rfl,h3⟩:=h3;exact⟨b,off,A1,A2,A3,A4,n1,c1,n2,c2,n3,c3,n4,c4,e,hx,hb,⟨hc 0 _ rfl,hc 1 _ rfl,hc 2 _ rfl,hc 3 _ rfl,hc 4 _ rfl,hc 5 _ rfl,hc 6 _ rfl⟩,⟨_,_,_,rfl,h1⟩,⟨_,_,_,rfl,h2⟩,⟨_,_,_,rfl,h3⟩,h4,h5⟩
def Ue (w:World) (l:List ai) (n:Nat) (i:Value) (wr:World):Prop :=
  ∃ k:Nat,k≤n∧i=.int .i64 k∧jP 0 l=jP k (l.drop k)∧aj wr w.heap.size 38 #[.int .i64 0,.int .i64 0]∧Below w.heap.size w wr
theorem i5 (X:Nat→Prop) (l:List ai) (A:Option Addr) (n c:Nat) (w:World) (hn:n≤maxLen) (hl:bt (aL w X) w X 7 A n l) :
    Calls Tryz.prog 26 #[.slice A n c] w fun e w'=>e=.returned (.agg #[.int .i64 (b8 l).1,.int .i64 (b8 l).2])∧Below w.heap.size w w':=by
 have aQ:=qqh (show l.length=n from hl.len);have HL:=qqh hl;have rN:=qqh (aj.new w 38 #[.int .i64 0,.int .i64 0]);clear hl;simp only [maxLen]at hn;by_cases h2:200<n
 ·have HP:=qqh (show b8 l=(5,0) by unfold b8;rw [if_pos (by rw [aQ.out];exact h2)]);go_enter Tryz.func26,Tryz.ntmps26;go_wp2_with fail;rw [HP.out];exact bodyPost_ret (v:=.agg #[.int .i64 5,.int .i64 0]) (by simp [results,Tryz.results26,go_sem]) rfl ⟨rfl,(Below.refl _ _).alloc (Nat.le_refl _) _⟩
 have HP:=qqh (show b8 l=jP 0 l by unfold b8;rw [if_neg (by rw [aQ.out];exact h2)]);go_enter Tryz.func26,Tryz.ntmps26;go_wp2_with fail;go_loopw [12] (Ue w l n) (fun i _=>n - (intOf i).toNat);(case atStart=>exact⟨0,Nat.zero_le _,rfl,rfl,rN.out,(Below.refl _ _).alloc (Nat.le_refl _) _⟩);obtain⟨k,hk,rfl,aV,PE,hb⟩:=hrel;have hz:=hb.size;by_cases hlt:k<n
 ·obtain⟨r,hr⟩:∃ z,l[k]? = some z:=⟨_,List.getElem?_eq_getElem (by rw [aQ.out];exact hlt)⟩;obtain⟨b,off,A1,A2,A3,A4,n1,c1,n2,c2,n3,c3,n4,c4,rfl,_,cH,⟨d0,d1,d2,d3,d4,d5,d6⟩,s1,s2,s3,s4,rD⟩:=gT (HL.out.keep (aa.any hb) (fun _ _=>aL.keep (aa.any hb))) hr;rw [cW hr,jP]at aV;have dO:=qqh aV;have HR:=qqh hr;have eZ:=qqh (PE.alloc (.cells #[.bool r.start,.bool r.fin,.slice A1 n1 c1,.slice A2 n2 c2,.slice A3 n3 c3,.slice A4 n4 c4,.int .i64 r.ag] 89));have bD:=qqh (hb.alloc hb.size (.cells #[.bool r.start,.bool r.fin,.slice A1 n1 c1,.slice A2 n2 c2,.slice A3 n3 c3,.slice A4 n4 c4,.int .i64 r.ag] 89));have HK:=qqh (aa.any (X:=X) ((Below.refl wr.heap.size wr).alloc (Nat.le_refl _) (.cells #[.bool r.start,.bool r.fin,.slice A1 n1 c1,.slice A2 n2 c2,.slice A3 n3 c3,.slice A4 n4 c4,.int .i64 r.ag] 89)));have OK:=qqh (Cq r X (.slice A1 n1 c1) (.slice A2 n2 c2) (.slice A3 n3 c3) A4 n4 c4 (wr.alloc (.cells #[.bool r.start,.bool r.fin,.slice A1 n1 c1,.slice A2 n2 c2,.slice A3 n3 c3,.slice A4 n4 c4,.int .i64 r.ag] 89)) (s1.keep HK.out) (s2.keep HK.out) (s3.keep HK.out) (s4.keep HK.out) rD);clear aV hr PE hb s1 s2 s3 s4 rD;go_wp2_with fail;refine OK.out.mono ?_;rintro e w9 ⟨rfl,bY⟩;have nj:=qqh (aj.below eZ.out bY eZ.out.lt);have eG:=qqh (bD.out.trans (bY.mono bD.out.size));have e0:w9.cell? ⟨w.heap.size,0,none⟩=some (.int .i64 0):=nj.out.cell 0;have e1:w9.cell? ⟨w.heap.size,1,none⟩=some (.int .i64 0):=nj.out.cell 1;have ef0:=nj.out.frozen 0;have ef1:=nj.out.frozen 1;clear bY;by_cases hz:kP r=0
  ·have me:=qqh (dO.out.trans (if_neg (by rw [hz];decide)));rw [hz];clear hz;go_wp2_with fail;exact⟨⟨k+1,by omega,by go_num,me.out,nj.out,eG.out⟩,by simp [intOf];omega⟩
  have me:=qqh (dO.out.trans (if_pos hz));go_wp2_with fail;rw [HP.out,me.out];exact bodyPost_ret (v:=.agg #[.int .i64 (kP r),.int .i64 k]) (by simp [results,Tryz.results26,go_sem,e0,e1]) rfl ⟨rfl,(eG.out.setCell (by simp) _).setCell (by simp) _⟩
 obtain rfl:k=n:=(by omega);rw [List.drop_of_length_le (by rw [aQ.out];omega)]at aV;have HG:=qqh (aV.trans (show jP k [] =(0,0) from rfl));have e0:wr.cell? ⟨w.heap.size,0,none⟩=some (.int .i64 0):=PE.cell 0;have e1:wr.cell? ⟨w.heap.size,1,none⟩=some (.int .i64 0):=PE.cell 1;have ef0:=PE.frozen 0;have ef1:=PE.frozen 1;clear aV;go_wp2_with fail;rw [HP.out,HG.out];exact bodyPost_ret (v:=.agg #[.int .i64 0,.int .i64 0]) (by simp [results,Tryz.results26,go_sem,e0,e1]) rfl ⟨rfl,(hb.setCell (by simp) _).setCell (by simp) _⟩
end Go.Proofs.YtkggjgeihhialaaGreatDoor
