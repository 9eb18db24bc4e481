/- RulesBoth -/
import Derived.Test.YtblinekbpcdbfaaGreatDoorZv12
import Derived.Test.YtblinekbpcdbfaaGreatDoorZv7
import Derived.Deep.DeepCutAuto
import Derived.Deep.CutBlock
import Derived.Test.YtblinekbpcdbfaaGreatDoorZv9
set_option maxHeartbeats 3200000
set_option maxRecDepth 100000
namespace Go.Proofs.YtblinekbpcdbfaaGreatDoor
open Go.RowKit
def cz:List Int→Int
  | []=>0
  | x::r=>if x≠0 then x else cz r
def jw (l:List aa):Int:=if 20<l.length then 5 else cz (l.map bA)
def eE (r:aB):List (List aa):=[r.before,r.source,r.after]
def cI (l:List Int):Bool:=l.any fun x=>!bE x
def pL (r:aB):Int :=
  if r.source.length=0 then 6 else if 20<r.target.length then 5 else if cI r.target=true then 3 else if r.af<0∨(r.target.length:Int)<r.af then 3 else 0
def kT (r:aB):Int:=if cz ((eE r).map jw)≠0 then cz ((eE r).map jw)else pL r
theorem jW {x:Int} (r:List Int) (h:x≠0):cz (x::r)=x:=by simp [cz,h]
theorem lT {x:Int} (r:List Int) (h:x=0):cz (x::r)=cz r:=by simp [cz,h]
theorem Ct (x:Int) (w:World):Calls Tryz.prog 114 #[.int .i32 x] w fun e w'=>e=.returned (.bool (!bE x))∧w'=w:=by
 go_enter Tryz.func114,Tryz.ntmps114;go_wp2_with fail;refine(gx _ _).mono ?_;rintro e w1 ⟨rfl,rfl⟩;go_wp2_with fail;go_ret;exact⟨rfl,rfl⟩
def QV (w:World) (l:List Int) (n:Nat) (i:Value) (wr:World):Prop :=
  ∃ j:Nat,j≤n∧i=.int .i64 j∧cI l=cI (l.drop j)∧Below w.heap.size w wr
theorem N4 (A:Option Addr) (n c:Nat) (l:List Int) (w:World) (hn:n≤9223372036854775807) (hl:nK w w.heap.size A n l) :
    Calls Tryz.prog 72 #[.slice A n c,.func (.func 114) #[] #[]] w fun e w'=>(∃ k:Int,e=.returned (.int .i64 k)∧decide (0≤k)=cI l)∧Below w.heap.size w w':=by
 have aW:=qqh hl.len;have HL:=qqh hl;clear hl;go_enter Tryz.func72,Tryz.ntmps72;go_wp2_with fail;go_loopw [8] (QV w l n) (fun i _=>n - (intOf i).toNat);(case atStart=>exact⟨0,Nat.zero_le _,rfl,rfl,qqb⟩);obtain⟨j,hj,rfl,aZ,hb⟩:=hrel;by_cases hlt:j<n
 ·obtain⟨x,hx⟩:∃ z,l[j]? = some z:=⟨_,List.getElem?_eq_getElem (by rw [aW.out];exact hlt)⟩;obtain⟨b,off,rfl,ey,c0⟩:=HL.out.at hlt;rw [show l.getD j 0=x by simp [List.getD,hx]]at c0;have d0:=(hb.cell (p:=⟨b,off+j,none⟩) ey).trans c0;rw [cT hx,show cI (x::l.drop (j+1))=(!bE x || cI (l.drop (j+1))) from rfl]at aZ;have HG:=qqh aZ;have HX:=qqh hx;clear aZ hx c0;go_wp2_with fail;refine(Ct _ _).mono ?_;rintro e w1 ⟨rfl,rfl⟩;cases hr:bE x
  ·have HR:=qqh hr;clear hr;go_wp2_with fail;go_ret;refine⟨⟨_,rfl,?_⟩,hb⟩;rw [HG.out,HR.out];simp
  have HR:=qqh hr;clear hr;go_wp2_with fail;exact⟨⟨j+1,by omega,by go_num,by rw [HG.out,HR.out];rfl,hb⟩,by simp [intOf];omega⟩
 obtain rfl:j=n:=(by omega);rw [List.drop_of_length_le (by rw [aW.out];omega)]at aZ;have HG:=qqh (aZ.trans (show cI [] = false from rfl));clear aZ;go_wp2_with fail;go_ret;exact⟨⟨_,rfl,by rw [HG.out];rfl⟩,hb⟩
theorem DX (A:Option Addr) (n c:Nat) (l:List Int) (w:World) (hn:n≤9223372036854775807) (hl:nK w w.heap.size A n l) :
    Calls Tryz.prog 41 #[.slice A n c,.func (.func 114) #[] #[]] w fun e w'=>e=.returned (.bool (cI l))∧Below w.heap.size w w':=by
 have H:=qqh (N4 A n c l w hn hl);clear hl;go_enter Tryz.func41,Tryz.ntmps41;go_wp2_with fail;refine H.out.mono ?_;rintro e w1 ⟨⟨k,rfl,hk⟩,hb⟩;have HK:=qqh hk;clear hk;go_wp2_with fail;go_ret;refine⟨?_,hb⟩;rw [← HK.out];rfl
def VS (w1:World) (l:List aa) (n:Nat) (i:Value) (wr:World):Prop :=
  ∃ j:Nat,j≤n∧i=.int .i64 j∧cz (l.map bA)=cz ((l.drop j).map bA)∧Below w1.heap.size w1 wr
def Wl (w1:World) (r:aB) (i:Value) (wr:World):Prop :=
  ∃ k:Nat,k≤3∧i=.int .i64 k∧cz ((eE r).map jw)=cz (((eE r).drop k).map jw)∧Below w1.heap.size w1 wr
theorem DJ (r:aB) (X:Nat→Prop) (u1 u2 u3:Value) (A:Option Addr) (n c:Nat) (w:World) (h1:gO w X r.before u1) (h2:gO w X r.source u2) (h3:gO w X r.after u3) (h4:cV w X 1 A n (runeCells r.target)) (hn:n≤maxLen) :
    Calls Tryz.prog 94 #[.agg #[.bool r.start,.bool r.fin,u1,u2,u3,.slice A n c,.int .i64 r.af]] w fun e w'=>e=.returned (.int .i64 (kT r))∧Below w.heap.size w w':=by
 obtain⟨A1,n1,c1,rfl,p1,q1⟩:=h1;obtain⟨A2,n2,c2,rfl,p2,q2⟩:=h2;obtain⟨A3,n3,c3,rfl,p3,q3⟩:=h3;have hsz:r.target.length=n:=(by have:=h4.1;rw [runeCells_length]at this;omega);have hb0:=((Below.refl w.heap.size w).alloc qql (.cells #[.bool r.start,.bool r.fin,.slice A1 n1 c1,.slice A2 n2 c2,.slice A3 n3 c3,.slice A n c,.int .i64 r.af] 138)).alloc (by simp) (.cells #[.slice A1 n1 c1,.slice A2 n2 c2,.slice A3 n3 c3] 136);have QL:∀ k,k<3→∃ (s:List aa) (A':Option Addr) (n' c':Nat),(eE r)[k]? = some s∧(#[Value.slice A1 n1 c1,.slice A2 n2 c2,.slice A3 n3 c3])[k]? = some (.slice A' n' c')∧ck (nS w X) w X 1 A' n' s∧n'≤maxLen:=by
  intro k hk;match k,hk with
  | 0,_=>exact⟨_,_,_,_,rfl,rfl,p1,q1⟩
  | 1,_=>exact⟨_,_,_,_,rfl,rfl,p2,q2⟩
  | 2,_=>exact⟨_,_,_,_,rfl,rfl,p3,q3⟩
 have OJ:=qqh (show r.source.length=n2 from p2.len);have zn:=qqh hsz;have HT:=qqh h4;have HS:=qqh QL;have ep:=qqh hb0;have hG:=aj.alloc (aj.new w 138 #[.bool r.start,.bool r.fin,.slice A1 n1 c1,.slice A2 n2 c2,.slice A3 n3 c3,.slice A n c,.int .i64 r.af]) (.cells #[.slice A1 n1 c1,.slice A2 n2 c2,.slice A3 n3 c3] 136);have hL:=aj.new (w.alloc (.cells #[.bool r.start,.bool r.fin,.slice A1 n1 c1,.slice A2 n2 c2,.slice A3 n3 c3,.slice A n c,.int .i64 r.af] 138)) 136 #[.slice A1 n1 c1,.slice A2 n2 c2,.slice A3 n3 c3];rw [show(w.alloc (.cells #[.bool r.start,.bool r.fin,.slice A1 n1 c1,.slice A2 n2 c2,.slice A3 n3 c3,.slice A n c,.int .i64 r.af] 138)).heap.size=w.heap.size+1 by simp]at hL;have HG:=qqh hG;have HL:=qqh hL;clear h4 p1 p2 p3 QL hb0 hG hL hsz;simp only [maxLen]at hn q1 q2 q3;go_enter Tryz.func94,Tryz.ntmps94;go_wp2_with fail;go_loopw [16] (Wl ((w.alloc (.cells #[.bool r.start,.bool r.fin,.slice A1 n1 c1,.slice A2 n2 c2,.slice A3 n3 c3,.slice A n c,.int .i64 r.af] 138)).alloc (.cells #[.slice A1 n1 c1,.slice A2 n2 c2,.slice A3 n3 c3] 136)) r) (fun i _=>3 - (intOf i).toNat);(case atStart=>exact⟨0,Nat.zero_le _,rfl,rfl,qqb⟩);obtain⟨k,hk,rfl,aZ,hb⟩:=hrel;have ko:=ep.out.trans (hb.mono ep.out.size);by_cases hlt:k<3
 ·have QM:decide ((k:Int)<3)=true:=decide_eq_true (by omega);obtain⟨s,A',n',c',hs,hu,hls,hn'⟩:=HS.out k hlt;have hcell:wr.cell? ⟨w.heap.size+1,k,none⟩=some (.slice A' n' c'):=((aj.below HL.out hb HL.out.lt).cell k).trans hu;have zc:=qqh (show s.length=n' from hls.len);have aZ:cz ((eE r).map jw)=cz (jw s::((eE r).drop (k+1)).map jw):=(by rw [aZ,cT hs,List.map_cons]);simp only [maxLen]at hn';have HLS:=qqh hls;have nx:=qqh ko;have HB:=qqh hb;clear hs hu hls ko hb;by_cases h20:20<n'
  ·rw [show jw s=5 by unfold jw;rw [if_pos (by rw [zc.out];exact h20)],jW _ (by decide)]at aZ;have eU:=qqh aZ;clear aZ;go_wp2_with fail;go_ret;refine⟨?_,nx.out⟩;rw [kT,if_pos (by rw [eU.out];decide),eU.out];rfl
  have eU:=qqh aZ;have V2:=qqh (show jw s=cz (s.map bA) by unfold jw;rw [if_neg (by rw [zc.out];exact h20)]);clear aZ;have ahB:decide ((20:Int)<(n':Int))=false:=decide_eq_false (by omega);go_wp2_with fail;go_loopw [25] (VS wr s n') (fun i _=>n' - (intOf i).toNat);(case atStart=>exact⟨0,Nat.zero_le _,rfl,rfl,qqb⟩);obtain⟨j,hj,rfl,hg2,aX⟩:=hrel;have bL:=qqh (HB.out.trans (aX.mono HB.out.size));have PD:=qqh (nx.out.trans (aX.mono nx.out.size));by_cases hlt2:j<n'
  ·obtain⟨x,hx⟩:∃ z,s[j]? = some z:=⟨_,List.getElem?_eq_getElem (by rw [zc.out];exact hlt2)⟩;obtain⟨b,off,A'',n'',c'',rfl,_,ey,qF,hrd,_,hnn⟩:=uX (HLS.out.keep (ag.any PD.out) (fun _ _=>nS.keep (ag.any PD.out))) hx;simp only [maxLen]at hnn;have hg2:cz (s.map bA)=cz (bA x::(s.drop (j+1)).map bA):=(by rw [hg2,cT hx,List.map_cons]);have kY:=qqh hg2;have HX:=qqh hx;have bM:=qqh aX;clear hg2 hx aX;go_wp2_with fail;refine(iy A'' n'' c'' x _ (by omega) hrd).mono ?_;rintro e w9 ⟨rfl,cN⟩;have eF:=qqh cN;clear cN hrd;by_cases hz:bA x=0
   ·have HZ:=qqh hz;have HR:=qqh (kY.out.trans (lT _ hz));rw [hz];clear hz;go_wp2_with fail;exact⟨⟨j+1,by omega,by go_num,HR.out,bM.out.trans (eF.out.mono bM.out.size)⟩,by simp [intOf];omega⟩
   have HR:=qqh (kY.out.trans (jW _ hz));go_wp2_with fail;go_ret;refine⟨?_,PD.out.trans (eF.out.mono PD.out.size)⟩;rw [kT,eU.out,V2.out,HR.out,jW _ hz,if_pos hz];rfl
  obtain rfl:j=n':=(by omega);rw [List.drop_of_length_le (by rw [zc.out];omega)]at hg2;have kY:=qqh (V2.out.trans hg2);have bM:=qqh aX;clear hg2 aX;go_wp2_with fail;exact⟨⟨k+1,by omega,by go_num,eU.out.trans (lT _ kY.out),bL.out⟩,by simp [intOf];omega⟩
 have QM:k=3:=(by omega);have HR:=qqh (show kT r=pL r by rw [kT,if_neg (by rw [aZ,QM,show(eE r).drop 3 = [] from rfl];decide)]);clear QM;have hG:=aj.below HG.out hb HG.out.lt;have d3:wr.cell? ⟨w.heap.size,3,none⟩=some (.slice A2 n2 c2):=hG.cell 3;have d5:wr.cell? ⟨w.heap.size,5,none⟩=some (.slice A n c):=hG.cell 5;have nx:=qqh ko;have QK:=qqh hG;clear aZ hG hb ko;by_cases hs0:n2=0
 ·subst hs0;have HP:=qqh (show pL r=6 by rw [pL,if_pos OJ.out]);go_wp2_with fail;go_ret;rw [HR.out,HP.out];exact⟨rfl,nx.out⟩
 by_cases ht:20<n
 ·have HP:=qqh (show pL r=5 by rw [pL,if_neg (by rw [OJ.out];exact hs0),if_pos (by rw [zn.out];exact ht)]);have hs1:decide ((n2:Int)=0)=false:=(by simpa using hs0);go_wp2_with fail;go_ret;rw [HR.out,HP.out];exact⟨rfl,nx.out⟩
 have HP:=qqh (show pL r=_ by rw [pL,if_neg (by rw [OJ.out];exact hs0),if_neg (by rw [zn.out];exact ht)]);have hs1:decide ((n2:Int)=0)=false:=(by simpa using hs0);go_wp2_with fail;refine(DX A n c r.target _ (by omega) (HT.out.keep (ag.any nx.out)).of).mono ?_;rintro e w9 ⟨rfl,cN⟩;have d6:w9.cell? ⟨w.heap.size,6,none⟩=some (.int .i64 r.af):=(aj.below QK.out cN QK.out.lt).cell 6;have d5:w9.cell? ⟨w.heap.size,5,none⟩=some (.slice A n c):=(aj.below QK.out cN QK.out.lt).cell 5;have eF:=qqh (nx.out.trans (cN.mono nx.out.size));clear cN;cases hbd:cI r.target
 ·rw [hbd]at HP;have HP:=qqh (HP.out.trans (if_neg (by decide)));clear hbd;by_cases hc0:r.af<0
  ·have HP:=qqh (HP.out.trans (if_pos (Or.inl hc0)));go_wp2_with fail;go_ret;rw [HR.out,HP.out];exact⟨rfl,eF.out⟩
  by_cases hc1:(n:Int)<r.af
  ·have HP:=qqh (HP.out.trans (if_pos (Or.inr (by rw [zn.out];exact hc1))));go_wp2_with fail;go_ret;rw [HR.out,HP.out];exact⟨rfl,eF.out⟩
  have HP:=qqh (HP.out.trans (if_neg (by rw [zn.out];omega)));go_wp2_with fail;go_ret;rw [HR.out,HP.out];exact⟨rfl,eF.out⟩
 rw [hbd]at HP;have HP:=qqh (HP.out.trans (if_pos rfl));clear hbd;go_wp2_with fail;go_ret;rw [HR.out,HP.out];exact⟨rfl,eF.out⟩
def jX:Nat→List aB→Int × Int
  | _,[]=>(0,0)
  | i,r::l=>if kT r≠0 then (kT r,(i:Int))else jX (i+1) l
def eC (l:List aB):Int × Int:=if 200<l.length then (5,0)else jX 0 l
theorem uS {w:World} {X:Nat→Prop} {A:Option Addr} {n:Nat} {l:List aB} (h:ck (bC w X) w X 7 A n l) {k:Nat} {r:aB} (hk:l[k]? = some r) :
    ∃ (b off:Nat) (A1 A2 A3 A4:Option Addr) (n1 c1 n2 c2 n3 c3 n4 c4:Nat),A=some ⟨b,off,none⟩∧X b∧b<w.heap.size ∧
      (w.cell? ⟨b,off+k*7,none⟩=some (.bool r.start)∧w.cell? ⟨b,off+k*7+1,none⟩=some (.bool r.fin)∧w.cell? ⟨b,off+k*7+2,none⟩=some (.slice A1 n1 c1)∧w.cell? ⟨b,off+k*7+3,none⟩=some (.slice A2 n2 c2)∧w.cell? ⟨b,off+k*7+4,none⟩=some (.slice A3 n3 c3)∧w.cell? ⟨b,off+k*7+5,none⟩=some (.slice A4 n4 c4)∧w.cell? ⟨b,off+k*7+6,none⟩=some (.int .i64 r.af)) ∧
      gO w X r.before (.slice A1 n1 c1)∧gO w X r.source (.slice A2 n2 c2)∧gO w X r.after (.slice A3 n3 c3)∧cV w X 1 A4 n4 (runeCells r.target)∧n4≤maxLen:=by
 obtain⟨b,off,cs,e,hx,hb,⟨u1,u2,u3,A4,n4,c4,rfl,h1,h2,h3,h4,h5⟩,_,hc⟩:=h.at hk;obtain⟨A1,n1,c1,rfl,h1⟩:=h1;obtain⟨A2,n2,c2,rfl,h2⟩:=h2;obtain⟨A3,n3,c3,rfl,h3⟩:=h3;exact⟨b,off,A1,A2,A3,A4,n1,c1,n2,c2,n3,c3,n4,c4,e,hx,hb,⟨hc 0 _ rfl,hc 1 _ rfl,hc 2 _ rfl,hc 3 _ rfl,hc 4 _ rfl,hc 5 _ rfl,hc 6 _ rfl⟩,⟨_,_,_,rfl,h1⟩,⟨_,_,_,rfl,h2⟩,⟨_,_,_,rfl,h3⟩,h4,h5⟩
def WV (w:World) (l:List aB) (n:Nat) (i:Value) (wr:World):Prop :=
  ∃ k:Nat,k≤n∧i=.int .i64 k∧jX 0 l=jX k (l.drop k)∧aj wr w.heap.size 38 #[.int .i64 0,.int .i64 0]∧Below w.heap.size w wr
theorem oK (X:Nat→Prop) (l:List aB) (A:Option Addr) (n c:Nat) (w:World) (hn:n≤maxLen) (hl:ck (bC w X) w X 7 A n l) :
    Calls Tryz.prog 68 #[.slice A n c] w fun e w'=>e=.returned (.agg #[.int .i64 (eC l).1,.int .i64 (eC l).2])∧Below w.heap.size w w':=by
 have aW:=qqh (show l.length=n from hl.len);have HL:=qqh hl;have rT:=qqh (aj.new w 38 #[.int .i64 0,.int .i64 0]);clear hl;simp only [maxLen]at hn;by_cases h2:200<n
 ·have HP:=qqh (show eC l=(5,0) by unfold eC;rw [if_pos (by rw [aW.out];exact h2)]);go_enter Tryz.func68,Tryz.ntmps68;go_wp2_with fail;rw [HP.out];exact bodyPost_ret (v:=.agg #[.int .i64 5,.int .i64 0]) (by simp [results,Tryz.results68,go_sem]) rfl ⟨rfl,qqb.alloc qql _⟩
 have HP:=qqh (show eC l=jX 0 l by unfold eC;rw [if_neg (by rw [aW.out];exact h2)]);go_enter Tryz.func68,Tryz.ntmps68;go_wp2_with fail;go_loopw [12] (WV w l n) (fun i _=>n - (intOf i).toNat);(case atStart=>exact⟨0,Nat.zero_le _,rfl,rfl,rT.out,qqb.alloc qql _⟩);obtain⟨k,hk,rfl,aZ,Pj,hb⟩:=hrel;have hz:=hb.size;by_cases hlt:k<n
 ·obtain⟨r,hr⟩:∃ z,l[k]? = some z:=⟨_,List.getElem?_eq_getElem (by rw [aW.out];exact hlt)⟩;obtain⟨b,off,A1,A2,A3,A4,n1,c1,n2,c2,n3,c3,n4,c4,rfl,_,ey,⟨d0,d1,d2,d3,d4,d5,d6⟩,s1,s2,s3,s4,KS⟩:=uS (HL.out.keep (ag.any hb) (fun _ _=>bC.keep (ag.any hb))) hr;rw [cT hr,jX]at aZ;have eU:=qqh aZ;have HR:=qqh hr;have fo:=qqh (Pj.alloc (.cells #[.bool r.start,.bool r.fin,.slice A1 n1 c1,.slice A2 n2 c2,.slice A3 n3 c3,.slice A4 n4 c4,.int .i64 r.af] 138));have bL:=qqh (hb.alloc hb.size (.cells #[.bool r.start,.bool r.fin,.slice A1 n1 c1,.slice A2 n2 c2,.slice A3 n3 c3,.slice A4 n4 c4,.int .i64 r.af] 138));have HK:=qqh (ag.any (X:=X) ((Below.refl wr.heap.size wr).alloc qql (.cells #[.bool r.start,.bool r.fin,.slice A1 n1 c1,.slice A2 n2 c2,.slice A3 n3 c3,.slice A4 n4 c4,.int .i64 r.af] 138)));have Eg:=qqh (DJ r X (.slice A1 n1 c1) (.slice A2 n2 c2) (.slice A3 n3 c3) A4 n4 c4 (wr.alloc (.cells #[.bool r.start,.bool r.fin,.slice A1 n1 c1,.slice A2 n2 c2,.slice A3 n3 c3,.slice A4 n4 c4,.int .i64 r.af] 138)) (s1.keep HK.out) (s2.keep HK.out) (s3.keep HK.out) (s4.keep HK.out) KS);clear aZ hr Pj hb s1 s2 s3 s4 KS;go_wp2_with fail;refine Eg.out.mono ?_;rintro e w9 ⟨rfl,cN⟩;have oE:=qqh (aj.below fo.out cN fo.out.lt);have eF:=qqh (bL.out.trans (cN.mono bL.out.size));have e0:w9.cell? ⟨w.heap.size,0,none⟩=some (.int .i64 0):=oE.out.cell 0;have e1:w9.cell? ⟨w.heap.size,1,none⟩=some (.int .i64 0):=oE.out.cell 1;have ef0:=oE.out.frozen 0;have ef1:=oE.out.frozen 1;clear cN;by_cases hz:kT r=0
  ·have xM:=qqh (eU.out.trans (if_neg (by rw [hz];decide)));rw [hz];clear hz;go_wp2_with fail;exact⟨⟨k+1,by omega,by go_num,xM.out,oE.out,eF.out⟩,by simp [intOf];omega⟩
  have xM:=qqh (eU.out.trans (if_pos hz));go_wp2_with fail;rw [HP.out,xM.out];exact bodyPost_ret (v:=.agg #[.int .i64 (kT r),.int .i64 k]) (by simp [results,Tryz.results68,go_sem,e0,e1]) rfl ⟨rfl,(eF.out.setCell (by simp) _).setCell (by simp) _⟩
 obtain rfl:k=n:=(by omega);rw [List.drop_of_length_le (by rw [aW.out];omega)]at aZ;have HG:=qqh (aZ.trans (show jX k [] =(0,0) from rfl));have e0:wr.cell? ⟨w.heap.size,0,none⟩=some (.int .i64 0):=Pj.cell 0;have e1:wr.cell? ⟨w.heap.size,1,none⟩=some (.int .i64 0):=Pj.cell 1;have ef0:=Pj.frozen 0;have ef1:=Pj.frozen 1;clear aZ;go_wp2_with fail;rw [HP.out,HG.out];exact bodyPost_ret (v:=.agg #[.int .i64 0,.int .i64 0]) (by simp [results,Tryz.results68,go_sem,e0,e1]) rfl ⟨rfl,(hb.setCell (by simp) _).setCell (by simp) _⟩
end Go.Proofs.YtblinekbpcdbfaaGreatDoor
