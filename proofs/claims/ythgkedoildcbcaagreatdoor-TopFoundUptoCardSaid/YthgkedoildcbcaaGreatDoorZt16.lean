/- RulesBoth -/
import Derived.Test.YthgkedoildcbcaaGreatDoorZt10
import Derived.Test.YthgkedoildcbcaaGreatDoorZt6
import Derived.Deep.DeepCutAuto
import Derived.Deep.CutBlock
import Derived.Test.YthgkedoildcbcaaGreatDoorZt8
set_option maxHeartbeats 3200000
set_option maxRecDepth 100000
namespace Go.Proofs.YthgkedoildcbcaaGreatDoor
open Go.RowKit
def cL:List Int→Int
  | []=>0
  | x::r=>if x≠0 then x else cL r
def jY (l:List ag):Int:=if 20<l.length then 5 else cL (l.map bS)
def ee (r:aj):List (List ag):=[r.before,r.source,r.after]
def cz (l:List Int):Bool:=l.any fun x=>!bg x
def oh (r:aj):Int :=
  if r.source.length=0 then 6 else if 20<r.target.length then 5 else if cz r.target=true then 3 else if r.aa<0∨(r.target.length:Int)<r.aa then 3 else 0
def jR (r:aj):Int:=if cL ((ee r).map jY)≠0 then cL ((ee r).map jY)else oh r
theorem kK {x:Int} (r:List Int) (h:x≠0):cL (x::r)=x:=by simp [cL,h]
theorem mJ {x:Int} (r:List Int) (h:x=0):cL (x::r)=cL r:=by simp [cL,h]
theorem EH (x:Int) (w:World):Calls Tryz.prog 72 #[.int .i32 x] w fun e w'=>e=.returned (.bool (!bg x))∧w'=w:=by
 go_enter Tryz.func72,Tryz.ntmps72;go_wp2_with fail;refine(gY _ _).mono ?_;rintro e w1 ⟨rfl,rfl⟩;go_wp2_with fail;go_ret;exact⟨rfl,rfl⟩
def Qv (w:World) (l:List Int) (n:Nat) (i:Value) (wr:World):Prop :=
  ∃ j:Nat,j≤n∧i=.int .i64 j∧cz l=cz (l.drop j)∧Below w.heap.size w wr
theorem LA (A:Option Addr) (n c:Nat) (l:List Int) (w:World) (hn:n≤9223372036854775807) (hl:mc w w.heap.size A n l) :
    Calls Tryz.prog 73 #[.slice A n c,.func (.func 72) #[] #[]] w fun e w'=>(∃ k:Int,e=.returned (.int .i64 k)∧decide (0≤k)=cz l)∧Below w.heap.size w w':=by
 have aV:=qqh hl.len;have HL:=qqh hl;clear hl;go_enter Tryz.func73,Tryz.ntmps73;go_wp2_with fail;go_loopw [8] (Qv w l n) (fun i _=>n - (intOf i).toNat);(case atStart=>exact⟨0,Nat.zero_le _,rfl,rfl,Below.refl _ _⟩);obtain⟨j,hj,rfl,aX,hb⟩:=hrel;by_cases hlt:j<n
 ·obtain⟨x,hx⟩:∃ z,l[j]? = some z:=⟨_,List.getElem?_eq_getElem (by rw [aV.out];exact hlt)⟩;obtain⟨b,off,rfl,dL,c0⟩:=HL.out.at hlt;rw [show l.getD j 0=x by simp [List.getD,hx]]at c0;have d0:=(hb.cell (p:=⟨b,off+j,none⟩) dL).trans c0;rw [cB hx,show cz (x::l.drop (j+1))=(!bg x || cz (l.drop (j+1))) from rfl]at aX;have HG:=qqh aX;have HX:=qqh hx;clear aX hx c0;go_wp2_with fail;refine(EH _ _).mono ?_;rintro e w1 ⟨rfl,rfl⟩;cases hr:bg x
  ·have HR:=qqh hr;clear hr;go_wp2_with fail;go_ret;refine⟨⟨_,rfl,?_⟩,hb⟩;rw [HG.out,HR.out];simp
  have HR:=qqh hr;clear hr;go_wp2_with fail;exact⟨⟨j+1,by omega,by go_num,by rw [HG.out,HR.out];rfl,hb⟩,by simp [intOf];omega⟩
 obtain rfl:j=n:=(by omega);rw [List.drop_of_length_le (by rw [aV.out];omega)]at aX;have HG:=qqh (aX.trans (show cz [] = false from rfl));clear aX;go_wp2_with fail;go_ret;exact⟨⟨_,rfl,by rw [HG.out];rfl⟩,hb⟩
theorem CF (A:Option Addr) (n c:Nat) (l:List Int) (w:World) (hn:n≤9223372036854775807) (hl:mc w w.heap.size A n l) :
    Calls Tryz.prog 41 #[.slice A n c,.func (.func 72) #[] #[]] w fun e w'=>e=.returned (.bool (cz l))∧Below w.heap.size w w':=by
 have H:=qqh (LA A n c l w hn hl);clear hl;go_enter Tryz.func41,Tryz.ntmps41;go_wp2_with fail;refine H.out.mono ?_;rintro e w1 ⟨⟨k,rfl,hk⟩,hb⟩;have HK:=qqh hk;clear hk;go_wp2_with fail;go_ret;refine⟨?_,hb⟩;rw [← HK.out];rfl
def XG (w1:World) (l:List ag) (n:Nat) (i:Value) (wr:World):Prop :=
  ∃ j:Nat,j≤n∧i=.int .i64 j∧cL (l.map bS)=cL ((l.drop j).map bS)∧Below w1.heap.size w1 wr
def Vu (w1:World) (r:aj) (i:Value) (wr:World):Prop :=
  ∃ k:Nat,k≤3∧i=.int .i64 k∧cL ((ee r).map jY)=cL (((ee r).drop k).map jY)∧Below w1.heap.size w1 wr
theorem CB (r:aj) (X:Nat→Prop) (u1 u2 u3:Value) (A:Option Addr) (n c:Nat) (w:World) (h1:fq w X r.before u1) (h2:fq w X r.source u2) (h3:fq w X r.after u3) (h4:bW w X 1 A n (runeCells r.target)) (hn:n≤maxLen) :
    Calls Tryz.prog 40 #[.agg #[.bool r.start,.bool r.fin,u1,u2,u3,.slice A n c,.int .i64 r.aa]] w fun e w'=>e=.returned (.int .i64 (jR r))∧Below w.heap.size w w':=by
 obtain⟨A1,n1,c1,rfl,p1,q1⟩:=h1;obtain⟨A2,n2,c2,rfl,p2,q2⟩:=h2;obtain⟨A3,n3,c3,rfl,p3,q3⟩:=h3;have hsz:r.target.length=n:=(by have:=h4.1;rw [runeCells_length]at this;omega);have hb0:=((Below.refl w.heap.size w).alloc (Nat.le_refl _) (.cells #[.bool r.start,.bool r.fin,.slice A1 n1 c1,.slice A2 n2 c2,.slice A3 n3 c3,.slice A n c,.int .i64 r.aa] 68)).alloc (by simp) (.cells #[.slice A1 n1 c1,.slice A2 n2 c2,.slice A3 n3 c3] 66);have QK:∀ k,k<3→∃ (s:List ag) (A':Option Addr) (n' c':Nat),(ee r)[k]? = some s∧(#[Value.slice A1 n1 c1,.slice A2 n2 c2,.slice A3 n3 c3])[k]? = some (.slice A' n' c')∧aZ (mF w X) w X 1 A' n' s∧n'≤maxLen:=by
  intro k hk;match k,hk with
  | 0,_=>exact⟨_,_,_,_,rfl,rfl,p1,q1⟩
  | 1,_=>exact⟨_,_,_,_,rfl,rfl,p2,q2⟩
  | 2,_=>exact⟨_,_,_,_,rfl,rfl,p3,q3⟩
 have KU:=qqh (show r.source.length=n2 from p2.len);have TC:=qqh hsz;have HT:=qqh h4;have HS:=qqh QK;have dO:=qqh hb0;have hG:=ai.alloc (ai.new w 68 #[.bool r.start,.bool r.fin,.slice A1 n1 c1,.slice A2 n2 c2,.slice A3 n3 c3,.slice A n c,.int .i64 r.aa]) (.cells #[.slice A1 n1 c1,.slice A2 n2 c2,.slice A3 n3 c3] 66);have hL:=ai.new (w.alloc (.cells #[.bool r.start,.bool r.fin,.slice A1 n1 c1,.slice A2 n2 c2,.slice A3 n3 c3,.slice A n c,.int .i64 r.aa] 68)) 66 #[.slice A1 n1 c1,.slice A2 n2 c2,.slice A3 n3 c3];rw [show(w.alloc (.cells #[.bool r.start,.bool r.fin,.slice A1 n1 c1,.slice A2 n2 c2,.slice A3 n3 c3,.slice A n c,.int .i64 r.aa] 68)).heap.size=w.heap.size+1 by simp]at hL;have HG:=qqh hG;have HL:=qqh hL;clear h4 p1 p2 p3 QK hb0 hG hL hsz;simp only [maxLen]at hn q1 q2 q3;go_enter Tryz.func40,Tryz.ntmps40;go_wp2_with fail;go_loopw [16] (Vu ((w.alloc (.cells #[.bool r.start,.bool r.fin,.slice A1 n1 c1,.slice A2 n2 c2,.slice A3 n3 c3,.slice A n c,.int .i64 r.aa] 68)).alloc (.cells #[.slice A1 n1 c1,.slice A2 n2 c2,.slice A3 n3 c3] 66)) r) (fun i _=>3 - (intOf i).toNat);(case atStart=>exact⟨0,Nat.zero_le _,rfl,rfl,Below.refl _ _⟩);obtain⟨k,hk,rfl,aX,hb⟩:=hrel;have kY:=dO.out.trans (hb.mono dO.out.size);by_cases hlt:k<3
 ·have Qr:decide ((k:Int)<3)=true:=decide_eq_true (by omega);obtain⟨s,A',n',c',hs,hu,hls,hn'⟩:=HS.out k hlt;have hcell:wr.cell? ⟨w.heap.size+1,k,none⟩=some (.slice A' n' c'):=((ai.below HL.out hb HL.out.lt).cell k).trans hu;have yZ:=qqh (show s.length=n' from hls.len);have aX:cL ((ee r).map jY)=cL (jY s::((ee r).drop (k+1)).map jY):=(by rw [aX,cB hs,List.map_cons]);simp only [maxLen]at hn';have ZZ:=qqh hls;have kC:=qqh kY;have HB:=qqh hb;clear hs hu hls kY hb;by_cases h20:20<n'
  ·rw [show jY s=5 by unfold jY;rw [if_pos (by rw [yZ.out];exact h20)],kK _ (by decide)]at aX;have dY:=qqh aX;clear aX;go_wp2_with fail;go_ret;refine⟨?_,kC.out⟩;rw [jR,if_pos (by rw [dY.out];decide),dY.out];rfl
  have dY:=qqh aX;have Vh:=qqh (show jY s=cL (s.map bS) by unfold jY;rw [if_neg (by rw [yZ.out];exact h20)]);clear aX;have agP:decide ((20:Int)<(n':Int))=false:=decide_eq_false (by omega);go_wp2_with fail;go_loopw [25] (XG wr s n') (fun i _=>n' - (intOf i).toNat);(case atStart=>exact⟨0,Nat.zero_le _,rfl,rfl,Below.refl _ _⟩);obtain⟨j,hj,rfl,hg2,bu⟩:=hrel;have bG:=qqh (HB.out.trans (bu.mono HB.out.size));have OH:=qqh (kC.out.trans (bu.mono kC.out.size));by_cases hlt2:j<n'
  ·obtain⟨x,hx⟩:∃ z,s[j]? = some z:=⟨_,List.getElem?_eq_getElem (by rw [yZ.out];exact hlt2)⟩;obtain⟨b,off,A'',n'',c'',rfl,_,dL,rX,hrd,_,hnn⟩:=vY (ZZ.out.keep (af.any OH.out) (fun _ _=>mF.keep (af.any OH.out))) hx;simp only [maxLen]at hnn;have hg2:cL (s.map bS)=cL (bS x::(s.drop (j+1)).map bS):=(by rw [hg2,cB hx,List.map_cons]);have mZ:=qqh hg2;have HX:=qqh hx;have bL:=qqh bu;clear hg2 hx bu;go_wp2_with fail;refine(jA A'' n'' c'' x _ (by omega) hrd).mono ?_;rintro e w9 ⟨rfl,bR⟩;have eK:=qqh bR;clear bR hrd;by_cases hz:bS x=0
   ·have HZ:=qqh hz;have HR:=qqh (mZ.out.trans (mJ _ hz));rw [hz];clear hz;go_wp2_with fail;exact⟨⟨j+1,by omega,by go_num,HR.out,bL.out.trans (eK.out.mono bL.out.size)⟩,by simp [intOf];omega⟩
   have HR:=qqh (mZ.out.trans (kK _ hz));go_wp2_with fail;go_ret;refine⟨?_,OH.out.trans (eK.out.mono OH.out.size)⟩;rw [jR,dY.out,Vh.out,HR.out,kK _ hz,if_pos hz];rfl
  obtain rfl:j=n':=(by omega);rw [List.drop_of_length_le (by rw [yZ.out];omega)]at hg2;have mZ:=qqh (Vh.out.trans hg2);have bL:=qqh bu;clear hg2 bu;go_wp2_with fail;exact⟨⟨k+1,by omega,by go_num,dY.out.trans (mJ _ mZ.out),bG.out⟩,by simp [intOf];omega⟩
 have Qr:k=3:=(by omega);have HR:=qqh (show jR r=oh r by rw [jR,if_neg (by rw [aX,Qr,show(ee r).drop 3 = [] from rfl];decide)]);clear Qr;have hG:=ai.below HG.out hb HG.out.lt;have d3:wr.cell? ⟨w.heap.size,3,none⟩=some (.slice A2 n2 c2):=hG.cell 3;have d5:wr.cell? ⟨w.heap.size,5,none⟩=some (.slice A n c):=hG.cell 5;have kC:=qqh kY;have QL:=qqh hG;clear aX hG hb kY;by_cases hs0:n2=0
 ·subst hs0;have HP:=qqh (show oh r=6 by rw [oh,if_pos KU.out]);go_wp2_with fail;go_ret;rw [HR.out,HP.out];exact⟨rfl,kC.out⟩
 by_cases ht:20<n
 ·have HP:=qqh (show oh r=5 by rw [oh,if_neg (by rw [KU.out];exact hs0),if_pos (by rw [TC.out];exact ht)]);have hs1:decide ((n2:Int)=0)=false:=(by simpa using hs0);go_wp2_with fail;go_ret;rw [HR.out,HP.out];exact⟨rfl,kC.out⟩
 have HP:=qqh (show oh r=_ by rw [oh,if_neg (by rw [KU.out];exact hs0),if_neg (by rw [TC.out];exact ht)]);have hs1:decide ((n2:Int)=0)=false:=(by simpa using hs0);go_wp2_with fail;refine(CF A n c r.target _ (by omega) (HT.out.keep (af.any kC.out)).of).mono ?_;rintro e w9 ⟨rfl,bR⟩;have d6:w9.cell? ⟨w.heap.size,6,none⟩=some (.int .i64 r.aa):=(ai.below QL.out bR QL.out.lt).cell 6;have d5:w9.cell? ⟨w.heap.size,5,none⟩=some (.slice A n c):=(ai.below QL.out bR QL.out.lt).cell 5;have eK:=qqh (kC.out.trans (bR.mono kC.out.size));clear bR;cases hbd:cz r.target
 ·rw [hbd]at HP;have HP:=qqh (HP.out.trans (if_neg (by decide)));clear hbd;by_cases hc0:r.aa<0
  ·have HP:=qqh (HP.out.trans (if_pos (Or.inl hc0)));go_wp2_with fail;go_ret;rw [HR.out,HP.out];exact⟨rfl,eK.out⟩
  by_cases hc1:(n:Int)<r.aa
  ·have HP:=qqh (HP.out.trans (if_pos (Or.inr (by rw [TC.out];exact hc1))));go_wp2_with fail;go_ret;rw [HR.out,HP.out];exact⟨rfl,eK.out⟩
  have HP:=qqh (HP.out.trans (if_neg (by rw [TC.out];omega)));go_wp2_with fail;go_ret;rw [HR.out,HP.out];exact⟨rfl,eK.out⟩
 rw [hbd]at HP;have HP:=qqh (HP.out.trans (if_pos rfl));clear hbd;go_wp2_with fail;go_ret;rw [HR.out,HP.out];exact⟨rfl,eK.out⟩
def i7:Nat→List aj→Int × Int
  | _,[]=>(0,0)
  | i,r::l=>if jR r≠0 then (jR r,(i:Int))else i7 (i+1) l
def cT (l:List aj):Int × Int:=if 200<l.length then (5,0)else i7 0 l
theorem mu {w:World} {X:Nat→Prop} {A:Option Addr} {n:Nat} {l:List aj} (h:aZ (aO w X) w X 7 A n l) {k:Nat} {r:aj} (hk:l[k]? = some r) :
    ∃ (b off:Nat) (A1 A2 A3 A4:Option Addr) (n1 c1 n2 c2 n3 c3 n4 c4:Nat),A=some ⟨b,off,none⟩∧X b∧b<w.heap.size ∧
      (w.cell? ⟨b,off+k*7,none⟩=some (.bool r.start)∧w.cell? ⟨b,off+k*7+1,none⟩=some (.bool r.fin)∧w.cell? ⟨b,off+k*7+2,none⟩=some (.slice A1 n1 c1)∧w.cell? ⟨b,off+k*7+3,none⟩=some (.slice A2 n2 c2)∧w.cell? ⟨b,off+k*7+4,none⟩=some (.slice A3 n3 c3)∧w.cell? ⟨b,off+k*7+5,none⟩=some (.slice A4 n4 c4)∧w.cell? ⟨b,off+k*7+6,none⟩=some (.int .i64 r.aa)) ∧
      fq w X r.before (.slice A1 n1 c1)∧fq w X r.source (.slice A2 n2 c2)∧fq w X r.after (.slice A3 n3 c3)∧bW w X 1 A4 n4 (runeCells r.target)∧n4≤maxLen:=by
 obtain⟨b,off,cs,e,hx,hb,⟨u1,u2,u3,A4,n4,c4,rfl,h1,h2,h3,h4,h5⟩,_,hc⟩:=h.at hk;obtain⟨A1,n1,c1,rfl,h1⟩:=h1;obtain⟨A2,n2,c2,rfl,h2⟩:=h2;obtain⟨A3,n3,c3,rfl,h3⟩:=h3;exact⟨b,off,A1,A2,A3,A4,n1,c1,n2,c2,n3,c3,n4,c4,e,hx,hb,⟨hc 0 _ rfl,hc 1 _ rfl,hc 2 _ rfl,hc 3 _ rfl,hc 4 _ rfl,hc 5 _ rfl,hc 6 _ rfl⟩,⟨_,_,_,rfl,h1⟩,⟨_,_,_,rfl,h2⟩,⟨_,_,_,rfl,h3⟩,h4,h5⟩
def UM (w:World) (l:List aj) (n:Nat) (i:Value) (wr:World):Prop :=
  ∃ k:Nat,k≤n∧i=.int .i64 k∧i7 0 l=i7 k (l.drop k)∧ai wr w.heap.size 32 #[.int .i64 0,.int .i64 0]∧Below w.heap.size w wr
theorem kV (X:Nat→Prop) (l:List aj) (A:Option Addr) (n c:Nat) (w:World) (hn:n≤maxLen) (hl:aZ (aO w X) w X 7 A n l) :
    Calls Tryz.prog 17 #[.slice A n c] w fun e w'=>e=.returned (.agg #[.int .i64 (cT l).1,.int .i64 (cT l).2])∧Below w.heap.size w w':=by
 have aV:=qqh (show l.length=n from hl.len);have HL:=qqh hl;have sY:=qqh (ai.new w 32 #[.int .i64 0,.int .i64 0]);clear hl;simp only [maxLen]at hn;by_cases h2:200<n
 ·have HP:=qqh (show cT l=(5,0) by unfold cT;rw [if_pos (by rw [aV.out];exact h2)]);go_enter Tryz.func17,Tryz.ntmps17;go_wp2_with fail;rw [HP.out];exact bodyPost_ret (v:=.agg #[.int .i64 5,.int .i64 0]) (by simp [results,Tryz.results17,go_sem]) rfl ⟨rfl,(Below.refl _ _).alloc (Nat.le_refl _) _⟩
 have HP:=qqh (show cT l=i7 0 l by unfold cT;rw [if_neg (by rw [aV.out];exact h2)]);go_enter Tryz.func17,Tryz.ntmps17;go_wp2_with fail;go_loopw [12] (UM w l n) (fun i _=>n - (intOf i).toNat);(case atStart=>exact⟨0,Nat.zero_le _,rfl,rfl,sY.out,(Below.refl _ _).alloc (Nat.le_refl _) _⟩);obtain⟨k,hk,rfl,aX,TW,hb⟩:=hrel;have hz:=hb.size;by_cases hlt:k<n
 ·obtain⟨r,hr⟩:∃ z,l[k]? = some z:=⟨_,List.getElem?_eq_getElem (by rw [aV.out];exact hlt)⟩;obtain⟨b,off,A1,A2,A3,A4,n1,c1,n2,c2,n3,c3,n4,c4,rfl,_,dL,⟨d0,d1,d2,d3,d4,d5,d6⟩,s1,s2,s3,s4,uH⟩:=mu (HL.out.keep (af.any hb) (fun _ _=>aO.keep (af.any hb))) hr;rw [cB hr,i7]at aX;have dY:=qqh aX;have HR:=qqh hr;have fm:=qqh (TW.alloc (.cells #[.bool r.start,.bool r.fin,.slice A1 n1 c1,.slice A2 n2 c2,.slice A3 n3 c3,.slice A4 n4 c4,.int .i64 r.aa] 68));have bG:=qqh (hb.alloc hb.size (.cells #[.bool r.start,.bool r.fin,.slice A1 n1 c1,.slice A2 n2 c2,.slice A3 n3 c3,.slice A4 n4 c4,.int .i64 r.aa] 68));have HK:=qqh (af.any (X:=X) ((Below.refl wr.heap.size wr).alloc (Nat.le_refl _) (.cells #[.bool r.start,.bool r.fin,.slice A1 n1 c1,.slice A2 n2 c2,.slice A3 n3 c3,.slice A4 n4 c4,.int .i64 r.aa] 68)));have O2:=qqh (CB r X (.slice A1 n1 c1) (.slice A2 n2 c2) (.slice A3 n3 c3) A4 n4 c4 (wr.alloc (.cells #[.bool r.start,.bool r.fin,.slice A1 n1 c1,.slice A2 n2 c2,.slice A3 n3 c3,.slice A4 n4 c4,.int .i64 r.aa] 68)) (s1.keep HK.out) (s2.keep HK.out) (s3.keep HK.out) (s4.keep HK.out) uH);clear aX hr TW hb s1 s2 s3 s4 uH;go_wp2_with fail;refine O2.out.mono ?_;rintro e w9 ⟨rfl,bR⟩;have og:=qqh (ai.below fm.out bR fm.out.lt);have eK:=qqh (bG.out.trans (bR.mono bG.out.size));have e0:w9.cell? ⟨w.heap.size,0,none⟩=some (.int .i64 0):=og.out.cell 0;have e1:w9.cell? ⟨w.heap.size,1,none⟩=some (.int .i64 0):=og.out.cell 1;have ef0:=og.out.frozen 0;have ef1:=og.out.frozen 1;clear bR;by_cases hz:jR r=0
  ·have kQ:=qqh (dY.out.trans (if_neg (by rw [hz];decide)));rw [hz];clear hz;go_wp2_with fail;exact⟨⟨k+1,by omega,by go_num,kQ.out,og.out,eK.out⟩,by simp [intOf];omega⟩
  have kQ:=qqh (dY.out.trans (if_pos hz));go_wp2_with fail;rw [HP.out,kQ.out];exact bodyPost_ret (v:=.agg #[.int .i64 (jR r),.int .i64 k]) (by simp [results,Tryz.results17,go_sem,e0,e1]) rfl ⟨rfl,(eK.out.setCell (by simp) _).setCell (by simp) _⟩
 obtain rfl:k=n:=(by omega);rw [List.drop_of_length_le (by rw [aV.out];omega)]at aX;have HG:=qqh (aX.trans (show i7 k [] =(0,0) from rfl));have e0:wr.cell? ⟨w.heap.size,0,none⟩=some (.int .i64 0):=TW.cell 0;have e1:wr.cell? ⟨w.heap.size,1,none⟩=some (.int .i64 0):=TW.cell 1;have ef0:=TW.frozen 0;have ef1:=TW.frozen 1;clear aX;go_wp2_with fail;rw [HP.out,HG.out];exact bodyPost_ret (v:=.agg #[.int .i64 0,.int .i64 0]) (by simp [results,Tryz.results17,go_sem,e0,e1]) rfl ⟨rfl,(hb.setCell (by simp) _).setCell (by simp) _⟩
end Go.Proofs.YthgkedoildcbcaaGreatDoor
