/- RulesBoth -/
import Derived.Test.YtapechjebkjidaaGreatDoorZs10
import Derived.Test.YtapechjebkjidaaGreatDoorZs5
import Derived.Deep.DeepCutAuto
import Derived.Deep.CutBlock
import Derived.Test.YtapechjebkjidaaGreatDoorZs8
set_option maxHeartbeats 3200000
set_option maxRecDepth 100000
namespace Go.Proofs.YtapechjebkjidaaGreatDoor
open Go.RowKit
def cF:List Int→Int
  | []=>0
  | x::r=>if x≠0 then x else cF r
def jC (l:List af):Int:=if 20<l.length then 5 else cF (l.map bV)
def eI (r:au):List (List af):=[r.before,r.source,r.after]
def dh (l:List Int):Bool:=l.any fun x=>!aK x
def qf (r:au):Int :=
  if r.source.length=0 then 6 else if 20<r.target.length then 5 else if dh r.target=true then 3 else if r.aa<0∨(r.target.length:Int)<r.aa then 3 else 0
def kZ (r:au):Int:=if cF ((eI r).map jC)≠0 then cF ((eI r).map jC)else qf r
theorem kA {x:Int} (r:List Int) (h:x≠0):cF (x::r)=x:=by simp [cF,h]
theorem mj {x:Int} (r:List Int) (h:x=0):cF (x::r)=cF r:=by simp [cF,h]
theorem CT (x:Int) (w:World):Calls Tryz.prog 115 #[.int .i32 x] w fun e w'=>e=.returned (.bool (!aK x))∧w'=w:=by
 go_enter Tryz.func115,Tryz.ntmps115;go_wp2_with fail;refine(eJ _ _).mono ?_;rintro e w1 ⟨rfl,rfl⟩;go_wp2_with fail;go_ret;exact⟨rfl,rfl⟩
def Rk (w:World) (l:List Int) (n:Nat) (i:Value) (wr:World):Prop :=
  ∃ j:Nat,j≤n∧i=.int .i64 j∧dh l=dh (l.drop j)∧Below w.heap.size w wr
theorem L9 (A:Option Addr) (n c:Nat) (l:List Int) (w:World) (hn:n≤9223372036854775807) (hl:uD w w.heap.size A n l) :
    Calls Tryz.prog 94 #[.slice A n c,.func (.func 115) #[] #[]] w fun e w'=>(∃ k:Int,e=.returned (.int .i64 k)∧decide (0≤k)=dh l)∧Below w.heap.size w w':=by
 have aY:=Lib.hid hl.len;have HL:=Lib.hid hl;clear hl;go_enter Tryz.func94,Tryz.ntmps94;go_wp2_with fail;go_loopw [8] (Rk w l n) (fun i _=>n - (intOf i).toNat);(case atStart=>exact⟨0,Nat.zero_le _,rfl,rfl,Below.refl _ _⟩);obtain⟨j,hj,rfl,bf,hb⟩:=hrel;by_cases hlt:j<n
 ·obtain⟨x,hx⟩:∃ z,l[j]? = some z:=⟨_,List.getElem?_eq_getElem (by rw [aY.out];exact hlt)⟩;obtain⟨b,off,rfl,dL,c0⟩:=HL.out.at hlt;rw [show l.getD j 0=x by simp [List.getD,hx]]at c0;have d0:=(hb.cell (p:=⟨b,off+j,none⟩) dL).trans c0;rw [dN hx,show dh (x::l.drop (j+1))=(!aK x || dh (l.drop (j+1))) from rfl]at bf;have HG:=Lib.hid bf;have HX:=Lib.hid hx;clear bf hx c0;go_wp2_with fail;refine(CT _ _).mono ?_;rintro e w1 ⟨rfl,rfl⟩;cases hr:aK x
  ·have HR:=Lib.hid hr;clear hr;go_wp2_with fail;go_ret;refine⟨⟨_,rfl,?_⟩,hb⟩;rw [HG.out,HR.out];simp
  have HR:=Lib.hid hr;clear hr;go_wp2_with fail;exact⟨⟨j+1,by omega,by go_num,by rw [HG.out,HR.out];rfl,hb⟩,by simp [intOf];omega⟩
 obtain rfl:j=n:=(by omega);rw [List.drop_of_length_le (by rw [aY.out];omega)]at bf;have HG:=Lib.hid (bf.trans (show dh [] = false from rfl));clear bf;go_wp2_with fail;go_ret;exact⟨⟨_,rfl,by rw [HG.out];rfl⟩,hb⟩
theorem Ea (A:Option Addr) (n c:Nat) (l:List Int) (w:World) (hn:n≤9223372036854775807) (hl:uD w w.heap.size A n l) :
    Calls Tryz.prog 66 #[.slice A n c,.func (.func 115) #[] #[]] w fun e w'=>e=.returned (.bool (dh l))∧Below w.heap.size w w':=by
 have H:=Lib.hid (L9 A n c l w hn hl);clear hl;go_enter Tryz.func66,Tryz.ntmps66;go_wp2_with fail;refine H.out.mono ?_;rintro e w1 ⟨⟨k,rfl,hk⟩,hb⟩;have HK:=Lib.hid hk;clear hk;go_wp2_with fail;go_ret;refine⟨?_,hb⟩;rw [← HK.out];rfl
def Vh (w1:World) (l:List af) (n:Nat) (i:Value) (wr:World):Prop :=
  ∃ j:Nat,j≤n∧i=.int .i64 j∧cF (l.map bV)=cF ((l.drop j).map bV)∧Below w1.heap.size w1 wr
def We (w1:World) (r:au) (i:Value) (wr:World):Prop :=
  ∃ k:Nat,k≤3∧i=.int .i64 k∧cF ((eI r).map jC)=cF (((eI r).drop k).map jC)∧Below w1.heap.size w1 wr
theorem Dm (r:au) (X:Nat→Prop) (u1 u2 u3:Value) (A:Option Addr) (n c:Nat) (w:World) (h1:gj w X r.before u1) (h2:gj w X r.source u2) (h3:gj w X r.after u3) (h4:di w X 1 A n (runeCells r.target)) (hn:n≤maxLen) :
    Calls Tryz.prog 92 #[.agg #[.bool r.start,.bool r.fin,u1,u2,u3,.slice A n c,.int .i64 r.aa]] w fun e w'=>e=.returned (.int .i64 (kZ r))∧Below w.heap.size w w':=by
 obtain⟨A1,n1,c1,rfl,p1,q1⟩:=h1;obtain⟨A2,n2,c2,rfl,p2,q2⟩:=h2;obtain⟨A3,n3,c3,rfl,p3,q3⟩:=h3;have hsz:r.target.length=n:=(by have:=h4.1;rw [runeCells_length]at this;omega);have hb0:=((Below.refl w.heap.size w).alloc (Nat.le_refl _) (.cells #[.bool r.start,.bool r.fin,.slice A1 n1 c1,.slice A2 n2 c2,.slice A3 n3 c3,.slice A n c,.int .i64 r.aa] 136)).alloc (by simp) (.cells #[.slice A1 n1 c1,.slice A2 n2 c2,.slice A3 n3 c3] 134);have Rz:∀ k,k<3→∃ (s:List af) (A':Option Addr) (n' c':Nat),(eI r)[k]? = some s∧(#[Value.slice A1 n1 c1,.slice A2 n2 c2,.slice A3 n3 c3])[k]? = some (.slice A' n' c')∧cm (mV w X) w X 1 A' n' s∧n'≤maxLen:=by
  intro k hk;match k,hk with
  | 0,_=>exact⟨_,_,_,_,rfl,rfl,p1,q1⟩
  | 1,_=>exact⟨_,_,_,_,rfl,rfl,p2,q2⟩
  | 2,_=>exact⟨_,_,_,_,rfl,rfl,p3,q3⟩
 have PR:=Lib.hid (show r.source.length=n2 from p2.len);have Ul:=Lib.hid hsz;have HT:=Lib.hid h4;have HS:=Lib.hid Rz;have ek:=Lib.hid hb0;have hG:=ak.alloc (ak.new w 136 #[.bool r.start,.bool r.fin,.slice A1 n1 c1,.slice A2 n2 c2,.slice A3 n3 c3,.slice A n c,.int .i64 r.aa]) (.cells #[.slice A1 n1 c1,.slice A2 n2 c2,.slice A3 n3 c3] 134);have hL:=ak.new (w.alloc (.cells #[.bool r.start,.bool r.fin,.slice A1 n1 c1,.slice A2 n2 c2,.slice A3 n3 c3,.slice A n c,.int .i64 r.aa] 136)) 134 #[.slice A1 n1 c1,.slice A2 n2 c2,.slice A3 n3 c3];rw [show(w.alloc (.cells #[.bool r.start,.bool r.fin,.slice A1 n1 c1,.slice A2 n2 c2,.slice A3 n3 c3,.slice A n c,.int .i64 r.aa] 136)).heap.size=w.heap.size+1 by simp]at hL;have HG:=Lib.hid hG;have HL:=Lib.hid hL;clear h4 p1 p2 p3 Rz hb0 hG hL hsz;simp only [maxLen]at hn q1 q2 q3;go_enter Tryz.func92,Tryz.ntmps92;go_wp2_with fail;go_loopw [16] (We ((w.alloc (.cells #[.bool r.start,.bool r.fin,.slice A1 n1 c1,.slice A2 n2 c2,.slice A3 n3 c3,.slice A n c,.int .i64 r.aa] 136)).alloc (.cells #[.slice A1 n1 c1,.slice A2 n2 c2,.slice A3 n3 c3] 134)) r) (fun i _=>3 - (intOf i).toNat);(case atStart=>exact⟨0,Nat.zero_le _,rfl,rfl,Below.refl _ _⟩);obtain⟨k,hk,rfl,bf,hb⟩:=hrel;have kC:=ek.out.trans (hb.mono ek.out.size);by_cases hlt:k<3
 ·have Q3:decide ((k:Int)<3)=true:=decide_eq_true (by omega);obtain⟨s,A',n',c',hs,hu,hls,hn'⟩:=HS.out k hlt;have hcell:wr.cell? ⟨w.heap.size+1,k,none⟩=some (.slice A' n' c'):=((ak.below HL.out hb HL.out.lt).cell k).trans hu;have AT:=Lib.hid (show s.length=n' from hls.len);have bf:cF ((eI r).map jC)=cF (jC s::((eI r).drop (k+1)).map jC):=(by rw [bf,dN hs,List.map_cons]);simp only [maxLen]at hn';have HLS:=Lib.hid hls;have nX:=Lib.hid kC;have HB:=Lib.hid hb;clear hs hu hls kC hb;by_cases h20:20<n'
  ·rw [show jC s=5 by unfold jC;rw [if_pos (by rw [AT.out];exact h20)],kA _ (by decide)]at bf;have fh:=Lib.hid bf;clear bf;go_wp2_with fail;go_ret;refine⟨?_,nX.out⟩;rw [kZ,if_pos (by rw [fh.out];decide),fh.out];rfl
  have fh:=Lib.hid bf;have Wh:=Lib.hid (show jC s=cF (s.map bV) by unfold jC;rw [if_neg (by rw [AT.out];exact h20)]);clear bf;have agT:decide ((20:Int)<(n':Int))=false:=decide_eq_false (by omega);go_wp2_with fail;go_loopw [25] (Vh wr s n') (fun i _=>n' - (intOf i).toNat);(case atStart=>exact⟨0,Nat.zero_le _,rfl,rfl,Below.refl _ _⟩);obtain⟨j,hj,rfl,hg2,aL⟩:=hrel;have aW:=Lib.hid (HB.out.trans (aL.mono HB.out.size));have Pw:=Lib.hid (nX.out.trans (aL.mono nX.out.size));by_cases hlt2:j<n'
  ·obtain⟨x,hx⟩:∃ z,s[j]? = some z:=⟨_,List.getElem?_eq_getElem (by rw [AT.out];exact hlt2)⟩;obtain⟨b,off,A'',n'',c'',rfl,_,dL,rz,hrd,_,hnn⟩:=wu (HLS.out.keep (ag.any Pw.out) (fun _ _=>mV.keep (ag.any Pw.out))) hx;simp only [maxLen]at hnn;have hg2:cF (s.map bV)=cF (bV x::(s.drop (j+1)).map bV):=(by rw [hg2,dN hx,List.map_cons]);have nQ:=Lib.hid hg2;have HX:=Lib.hid hx;have bW:=Lib.hid aL;clear hg2 hx aL;go_wp2_with fail;refine(jk A'' n'' c'' x _ (by omega) hrd).mono ?_;rintro e w9 ⟨rfl,cV⟩;have fN:=Lib.hid cV;clear cV hrd;by_cases hz:bV x=0
   ·have HZ:=Lib.hid hz;have HR:=Lib.hid (nQ.out.trans (mj _ hz));rw [hz];clear hz;go_wp2_with fail;exact⟨⟨j+1,by omega,by go_num,HR.out,bW.out.trans (fN.out.mono bW.out.size)⟩,by simp [intOf];omega⟩
   have HR:=Lib.hid (nQ.out.trans (kA _ hz));go_wp2_with fail;go_ret;refine⟨?_,Pw.out.trans (fN.out.mono Pw.out.size)⟩;rw [kZ,fh.out,Wh.out,HR.out,kA _ hz,if_pos hz];rfl
  obtain rfl:j=n':=(by omega);rw [List.drop_of_length_le (by rw [AT.out];omega)]at hg2;have nQ:=Lib.hid (Wh.out.trans hg2);have bW:=Lib.hid aL;clear hg2 aL;go_wp2_with fail;exact⟨⟨k+1,by omega,by go_num,fh.out.trans (mj _ nQ.out),aW.out⟩,by simp [intOf];omega⟩
 have Q3:k=3:=(by omega);have HR:=Lib.hid (show kZ r=qf r by rw [kZ,if_neg (by rw [bf,Q3,show(eI r).drop 3 = [] from rfl];decide)]);clear Q3;have hG:=ak.below HG.out hb HG.out.lt;have d3:wr.cell? ⟨w.heap.size,3,none⟩=some (.slice A2 n2 c2):=hG.cell 3;have d5:wr.cell? ⟨w.heap.size,5,none⟩=some (.slice A n c):=hG.cell 5;have nX:=Lib.hid kC;have Rq:=Lib.hid hG;clear bf hG hb kC;by_cases hs0:n2=0
 ·subst hs0;have HP:=Lib.hid (show qf r=6 by rw [qf,if_pos PR.out]);go_wp2_with fail;go_ret;rw [HR.out,HP.out];exact⟨rfl,nX.out⟩
 by_cases ht:20<n
 ·have HP:=Lib.hid (show qf r=5 by rw [qf,if_neg (by rw [PR.out];exact hs0),if_pos (by rw [Ul.out];exact ht)]);have hs1:decide ((n2:Int)=0)=false:=(by simpa using hs0);go_wp2_with fail;go_ret;rw [HR.out,HP.out];exact⟨rfl,nX.out⟩
 have HP:=Lib.hid (show qf r=_ by rw [qf,if_neg (by rw [PR.out];exact hs0),if_neg (by rw [Ul.out];exact ht)]);have hs1:decide ((n2:Int)=0)=false:=(by simpa using hs0);go_wp2_with fail;refine(Ea A n c r.target _ (by omega) (HT.out.keep (ag.any nX.out)).of).mono ?_;rintro e w9 ⟨rfl,cV⟩;have d6:w9.cell? ⟨w.heap.size,6,none⟩=some (.int .i64 r.aa):=(ak.below Rq.out cV Rq.out.lt).cell 6;have d5:w9.cell? ⟨w.heap.size,5,none⟩=some (.slice A n c):=(ak.below Rq.out cV Rq.out.lt).cell 5;have fN:=Lib.hid (nX.out.trans (cV.mono nX.out.size));clear cV;cases hbd:dh r.target
 ·rw [hbd]at HP;have HP:=Lib.hid (HP.out.trans (if_neg (by decide)));clear hbd;by_cases hc0:r.aa<0
  ·have HP:=Lib.hid (HP.out.trans (if_pos (Or.inl hc0)));go_wp2_with fail;go_ret;rw [HR.out,HP.out];exact⟨rfl,fN.out⟩
  by_cases hc1:(n:Int)<r.aa
  ·have HP:=Lib.hid (HP.out.trans (if_pos (Or.inr (by rw [Ul.out];exact hc1))));go_wp2_with fail;go_ret;rw [HR.out,HP.out];exact⟨rfl,fN.out⟩
  have HP:=Lib.hid (HP.out.trans (if_neg (by rw [Ul.out];omega)));go_wp2_with fail;go_ret;rw [HR.out,HP.out];exact⟨rfl,fN.out⟩
 rw [hbd]at HP;have HP:=Lib.hid (HP.out.trans (if_pos rfl));clear hbd;go_wp2_with fail;go_ret;rw [HR.out,HP.out];exact⟨rfl,fN.out⟩
def j8:Nat→List au→Int × Int
  | _,[]=>(0,0)
  | i,r::l=>if kZ r≠0 then (kZ r,(i:Int))else j8 (i+1) l
def dY (l:List au):Int × Int:=if 200<l.length then (5,0)else j8 0 l
theorem vZ {w:World} {X:Nat→Prop} {A:Option Addr} {n:Nat} {l:List au} (h:cm (bE w X) w X 7 A n l) {k:Nat} {r:au} (hk:l[k]? = some r) :
    ∃ (b off:Nat) (A1 A2 A3 A4:Option Addr) (n1 c1 n2 c2 n3 c3 n4 c4:Nat),A=some ⟨b,off,none⟩∧X b∧b<w.heap.size ∧
      (w.cell? ⟨b,off+k*7,none⟩=some (.bool r.start)∧w.cell? ⟨b,off+k*7+1,none⟩=some (.bool r.fin)∧w.cell? ⟨b,off+k*7+2,none⟩=some (.slice A1 n1 c1)∧w.cell? ⟨b,off+k*7+3,none⟩=some (.slice A2 n2 c2)∧w.cell? ⟨b,off+k*7+4,none⟩=some (.slice A3 n3 c3)∧w.cell? ⟨b,off+k*7+5,none⟩=some (.slice A4 n4 c4)∧w.cell? ⟨b,off+k*7+6,none⟩=some (.int .i64 r.aa)) ∧
      gj w X r.before (.slice A1 n1 c1)∧gj w X r.source (.slice A2 n2 c2)∧gj w X r.after (.slice A3 n3 c3)∧di w X 1 A4 n4 (runeCells r.target)∧n4≤maxLen:=by
 obtain⟨b,off,cs,e,hx,hb,⟨u1,u2,u3,A4,n4,c4,rfl,h1,h2,h3,h4,h5⟩,_,hc⟩:=h.at hk;obtain⟨A1,n1,c1,rfl,h1⟩:=h1;obtain⟨A2,n2,c2,rfl,h2⟩:=h2;obtain⟨A3,n3,c3,rfl,h3⟩:=h3;exact⟨b,off,A1,A2,A3,A4,n1,c1,n2,c2,n3,c3,n4,c4,e,hx,hb,⟨hc 0 _ rfl,hc 1 _ rfl,hc 2 _ rfl,hc 3 _ rfl,hc 4 _ rfl,hc 5 _ rfl,hc 6 _ rfl⟩,⟨_,_,_,rfl,h1⟩,⟨_,_,_,rfl,h2⟩,⟨_,_,_,rfl,h3⟩,h4,h5⟩
def WU (w:World) (l:List au) (n:Nat) (i:Value) (wr:World):Prop :=
  ∃ k:Nat,k≤n∧i=.int .i64 k∧j8 0 l=j8 k (l.drop k)∧ak wr w.heap.size 51 #[.int .i64 0,.int .i64 0]∧Below w.heap.size w wr
theorem oW (X:Nat→Prop) (l:List au) (A:Option Addr) (n c:Nat) (w:World) (hn:n≤maxLen) (hl:cm (bE w X) w X 7 A n l) :
    Calls Tryz.prog 63 #[.slice A n c] w fun e w'=>e=.returned (.agg #[.int .i64 (dY l).1,.int .i64 (dY l).2])∧Below w.heap.size w w':=by
 have aY:=Lib.hid (show l.length=n from hl.len);have HL:=Lib.hid hl;have td:=Lib.hid (ak.new w 51 #[.int .i64 0,.int .i64 0]);clear hl;simp only [maxLen]at hn;by_cases h2:200<n
 ·have HP:=Lib.hid (show dY l=(5,0) by unfold dY;rw [if_pos (by rw [aY.out];exact h2)]);go_enter Tryz.func63,Tryz.ntmps63;go_wp2_with fail;rw [HP.out];exact bodyPost_ret (v:=.agg #[.int .i64 5,.int .i64 0]) (by simp [results,Tryz.results63,go_sem]) rfl ⟨rfl,(Below.refl _ _).alloc (Nat.le_refl _) _⟩
 have HP:=Lib.hid (show dY l=j8 0 l by unfold dY;rw [if_neg (by rw [aY.out];exact h2)]);go_enter Tryz.func63,Tryz.ntmps63;go_wp2_with fail;go_loopw [12] (WU w l n) (fun i _=>n - (intOf i).toNat);(case atStart=>exact⟨0,Nat.zero_le _,rfl,rfl,td.out,(Below.refl _ _).alloc (Nat.le_refl _) _⟩);obtain⟨k,hk,rfl,bf,OJ,hb⟩:=hrel;have hz:=hb.size;by_cases hlt:k<n
 ·obtain⟨r,hr⟩:∃ z,l[k]? = some z:=⟨_,List.getElem?_eq_getElem (by rw [aY.out];exact hlt)⟩;obtain⟨b,off,A1,A2,A3,A4,n1,c1,n2,c2,n3,c3,n4,c4,rfl,_,dL,⟨d0,d1,d2,d3,d4,d5,d6⟩,s1,s2,s3,s4,IZ⟩:=vZ (HL.out.keep (ag.any hb) (fun _ _=>bE.keep (ag.any hb))) hr;rw [dN hr,j8]at bf;have fh:=Lib.hid bf;have HR:=Lib.hid hr;have gz:=Lib.hid (OJ.alloc (.cells #[.bool r.start,.bool r.fin,.slice A1 n1 c1,.slice A2 n2 c2,.slice A3 n3 c3,.slice A4 n4 c4,.int .i64 r.aa] 136));have aW:=Lib.hid (hb.alloc hb.size (.cells #[.bool r.start,.bool r.fin,.slice A1 n1 c1,.slice A2 n2 c2,.slice A3 n3 c3,.slice A4 n4 c4,.int .i64 r.aa] 136));have HK:=Lib.hid (ag.any (X:=X) ((Below.refl wr.heap.size wr).alloc (Nat.le_refl _) (.cells #[.bool r.start,.bool r.fin,.slice A1 n1 c1,.slice A2 n2 c2,.slice A3 n3 c3,.slice A4 n4 c4,.int .i64 r.aa] 136)));have QZ:=Lib.hid (Dm r X (.slice A1 n1 c1) (.slice A2 n2 c2) (.slice A3 n3 c3) A4 n4 c4 (wr.alloc (.cells #[.bool r.start,.bool r.fin,.slice A1 n1 c1,.slice A2 n2 c2,.slice A3 n3 c3,.slice A4 n4 c4,.int .i64 r.aa] 136)) (s1.keep HK.out) (s2.keep HK.out) (s3.keep HK.out) (s4.keep HK.out) IZ);clear bf hr OJ hb s1 s2 s3 s4 IZ;go_wp2_with fail;refine QZ.out.mono ?_;rintro e w9 ⟨rfl,cV⟩;have pI:=Lib.hid (ak.below gz.out cV gz.out.lt);have fN:=Lib.hid (aW.out.trans (cV.mono aW.out.size));have e0:w9.cell? ⟨w.heap.size,0,none⟩=some (.int .i64 0):=pI.out.cell 0;have e1:w9.cell? ⟨w.heap.size,1,none⟩=some (.int .i64 0):=pI.out.cell 1;have ef0:=pI.out.frozen 0;have ef1:=pI.out.frozen 1;clear cV;by_cases hz:kZ r=0
  ·have xg:=Lib.hid (fh.out.trans (if_neg (by rw [hz];decide)));rw [hz];clear hz;go_wp2_with fail;exact⟨⟨k+1,by omega,by go_num,xg.out,pI.out,fN.out⟩,by simp [intOf];omega⟩
  have xg:=Lib.hid (fh.out.trans (if_pos hz));go_wp2_with fail;rw [HP.out,xg.out];exact bodyPost_ret (v:=.agg #[.int .i64 (kZ r),.int .i64 k]) (by simp [results,Tryz.results63,go_sem,e0,e1]) rfl ⟨rfl,(fN.out.setCell (by simp) _).setCell (by simp) _⟩
 obtain rfl:k=n:=(by omega);rw [List.drop_of_length_le (by rw [aY.out];omega)]at bf;have HG:=Lib.hid (bf.trans (show j8 k [] =(0,0) from rfl));have e0:wr.cell? ⟨w.heap.size,0,none⟩=some (.int .i64 0):=OJ.cell 0;have e1:wr.cell? ⟨w.heap.size,1,none⟩=some (.int .i64 0):=OJ.cell 1;have ef0:=OJ.frozen 0;have ef1:=OJ.frozen 1;clear bf;go_wp2_with fail;rw [HP.out,HG.out];exact bodyPost_ret (v:=.agg #[.int .i64 0,.int .i64 0]) (by simp [results,Tryz.results63,go_sem,e0,e1]) rfl ⟨rfl,(hb.setCell (by simp) _).setCell (by simp) _⟩
end Go.Proofs.YtapechjebkjidaaGreatDoor
