/- StStep + StMore + StTake -/
import Derived.Test.YtkggjgeihhialaaGreatDoorZs35
import Derived.Test.YtkggjgeihhialaaGreatDoorZs22
set_option maxHeartbeats 12800000
set_option maxRecDepth 100000
namespace Go.Proofs.YtkggjgeihhialaaGreatDoor
open Go.RowKit
structure iU (w:World) (M lo:Nat) (Ar:Option Addr) (nr cr:Nat) (T:List Int) (A:Option Addr) (N c at_ told ck s ahead:Nat):Prop where
  blk:aj w M 116 #[.slice Ar nr cr,.slice A N c,.int .i64 (at_:Int),.int .i64 (told:Int),.int .i64 (ck:Int),.int .i64 (s:Int),.int .i64 (ahead:Int)]
  C9:cy w (fun b=>lo≤b) 1 A N (runeCells T)
  cap:N≤c
  hlo:M<lo
theorem eI {w w':World} {M lo:Nat} (hlo:M<lo) (h:aZ w M w'):aa w (fun b=>lo≤b) w' (fun b=>lo≤b):=h.keeps (fun b (h:lo≤b)=>by omega) (fun b h _=>h)
theorem iU.below {w w':World} {M lo:Nat} {Ar:Option Addr} {nr cr:Nat} {T:List Int} {A:Option Addr} {N c at_ told ck s ahead:Nat} (h:iU w M lo Ar nr cr T A N c at_ told ck s ahead) (hb:Below w.heap.size w w'):iU w' M lo Ar nr cr T A N c at_ told ck s ahead :=
  ⟨h.blk.below hb h.blk.lt,h.C9.keep (eI h.hlo (aZ.below M hb)),h.cap,h.hlo⟩
theorem iU.len {w:World} {M lo:Nat} {Ar:Option Addr} {nr cr:Nat} {T:List Int} {A:Option Addr} {N c at_ told ck s ahead:Nat} (h:iU w M lo Ar nr cr T A N c at_ told ck s ahead):T.length=N:=by
 have:=h.C9.1;rw [runeCells_length]at this;omega
theorem rq {w w':World} {M:Nat} {X:Nat→Prop} {A:Option Addr} {n:Nat} {l:List ax} (hX:∀ b,X b→b<M) (h:aZ w M w') (hl:bh (aO w X) w X 7 A n l):bh (aO w' X) w' X 7 A n l :=
  have hk:aa w X w' X:=h.keeps (fun b hb=>by have:=hX b hb;omega) (fun _ h _=>h)
  hl.keep hk (fun _ _=>aO.keep hk)
def jJ (l:List ax) (O:List Int) (bI M lo:Nat) (Ar:Option Addr) (nr cr:Nat) (done rem:List Int) (told ck s ahead:Nat) (w w':World):Prop :=
  ∃ (d Z:List Int) (A:Option Addr) (N c:Nat),ju l O bI (done++d) (Z++rem) s∧iU w' M lo Ar nr cr (done++d++Z) A N c (done++d).length told ck s ahead∧aZ w M w'
theorem Fx (X:Nat→Prop) (l:List ax) (Ar:Option Addr) (nr cr M lo:Nat) (done Z rem:List Int) (z:Int) (bI s told ck ahead N c:Nat) (A:Option Addr) (O:List Int) (w:World) (xq:nr≤maxLen) (hX:∀ b,X b→b<M) (aeT:lo≤w.heap.size) (hR:∀ r∈l,cX r)
    (hl:bh (aO w X) w X 7 Ar nr l) (hs:s≤40000) (hF:ju l O bI done (z::Z++rem) s) (hw:cH l (done++(z::Z++rem)) done.length=cH l (done++z::Z) done.length) (hp:iU w M lo Ar nr cr (done++z::Z) A N c done.length told ck s ahead) :
    Calls Tryz.prog 53 #[.pointer (some ⟨M,0,none⟩)] w fun e w'=>e=.returned (.int .i64 0)∧jJ l O bI M lo Ar nr cr done rem told ck (s+1) ahead w w':=by
 have hN:=hp.len;have hsz:=hF.2.1;obtain⟨nd,hnd⟩:∃ nd,done.length=nd:=⟨_,rfl⟩;have FO:=qqh hnd;have WY:=qqh (show Z.length+1=N - nd by rw [List.length_append,List.length_cons]at hN;omega);have Sd:nd<N:=(by rw [List.length_append,List.length_cons]at hN;omega);have hN4:N≤4000:=by
  rw [List.length_append,List.length_cons]at hN;rw [List.length_append,List.length_cons]at hsz;omega
 have hNc:=hp.cap;obtain⟨b,o,rfl,Wv,eD,_⟩:=hp.C9.2 (by omega);have hs1:((s+1:Nat):Int)=(s:Int)+1:=(by omega);have hlN:l.length=nr:=hl.len;have HW:=qqh hw;have Bu:=qqh hF;have jz:=qqh hR;have bR:=qqh (aZ.set w M 5 (.int .i64 ((s:Int)+1)));have C0:=qqh (rq hX bR.out hl);have mC:=qqh (show iU (w.setCell ⟨M,5,none⟩ (.int .i64 ((s:Int)+1))) M lo Ar nr cr (done++z::Z) (some ⟨b,o,none⟩) N c nd told ck (s+1) ahead from⟨by rw [hs1,← hnd];exact hp.blk.put 5 _,hp.C9.keep (eI hp.hlo bR.out),hp.cap,hp.hlo⟩);have m5:=hp.blk.cell 5;have f5:=hp.blk.frozen 5;have HX:=qqh hX;clear hl hR hF hw hp hsz hN hnd hs1 hX;go_enter Tryz.func53,Tryz.ntmps53;go_upto_region 2 with fail;generalize w.setCell ⟨M,5,none⟩ (.int .i64 ((s:Int)+1))=W1 at *;clear m5 f5;have nu:Below W1.heap.size W1 W1.drew:=az (Below.refl _ _);have HF:=qqh (G8 X l Ar (some ⟨b,o,none⟩) nr cr N c nd (done++z::Z) W1.drew xq jz.out (C0.out.keep (aa.any nu) (fun _ _=>aO.keep (aa.any nu))) (by omega) (by omega) (mC.out.below nu).C9.of);have OW:=qqh nu;clear nu;have m0:=mC.out.blk.cell 0;have m1:=mC.out.blk.cell 1;have m2:=mC.out.blk.cell 2;refine av (S:=(fun w'=>w'.cell? ⟨M,0,none⟩=some (.slice Ar nr cr)∧w'.cell? ⟨M,1,none⟩=some (.slice (some ⟨b,o,none⟩) N c)∧w'.cell? ⟨M,2,none⟩=some (.int .i64 (nd:Int)))) [3,7,12] (by kernel_rfl) ⟨m0,m1,m2⟩ (fun aX=>?_);apply tp 0 12 rfl (by kernel_rfl) (fun _ _ _ h=>h) (by rfl)
 ·intro wq _;go_simp;(try with_reducible rfl)
 (try simp only [zp,za,z0,zs]);apply tp 1 13 rfl (by kernel_rfl) (fun _ _ _ h=>h) (by rfl)
 ·intro wq _;go_simp;(try with_reducible rfl)
 (try simp only [zp,za,z0,zs]);apply tp 2 14 rfl (by kernel_rfl) (fun _ _ _ h=>h) (by rfl)
 ·intro wq _;go_simp;(try with_reducible rfl)
 (try simp only [zp,za,z0,zs]);apply tt 3 15 rfl (by kernel_rfl) (fun _ _ _ h=>h) (by rfl) (by assumption)
 ·intro wq fl;(try dsimp only at fl);go_simp;(try with_reducible rfl)
 (try simp only [zp,za,z0,zs]);apply tp 4 16 rfl (by kernel_rfl) (fun _ _ _ h=>h) (by rfl)
 ·intro wq _;go_simp;(try with_reducible rfl)
 (try simp only [zp,za,z0,zs]);apply tp 5 17 rfl (by kernel_rfl) (fun _ _ _ h=>h) (by rfl)
 ·intro wq _;go_simp;(try with_reducible rfl)
 (try simp only [zp,za,z0,zs]);apply tp 6 18 rfl (by kernel_rfl) (fun _ _ _ h=>h) (by rfl)
 ·intro wq _;go_simp;(try with_reducible rfl)
 (try simp only [zp,za,z0,zs]);apply tt 7 19 rfl (by kernel_rfl) (fun _ _ _ h=>h) (by rfl) (by assumption)
 ·intro wq fl;(try dsimp only at fl);go_simp;(try with_reducible rfl)
 (try simp only [zp,za,z0,zs]);apply tp 8 20 rfl (by kernel_rfl) (fun _ _ _ h=>h) (by rfl)
 ·intro wq _;go_simp;(try with_reducible rfl)
 (try simp only [zp,za,z0,zs]);apply tp 9 21 rfl (by kernel_rfl) (fun _ _ _ h=>h) (by rfl)
 ·intro wq _;go_simp;(try with_reducible rfl)
 (try simp only [zp,za,z0,zs]);apply tp 10 22 rfl (by kernel_rfl) (fun _ _ _ h=>h) (by rfl)
 ·intro wq _;go_simp;(try with_reducible rfl)
 (try simp only [zp,za,z0,zs]);apply tp 11 23 rfl (by kernel_rfl) (fun _ _ _ h=>h) (by rfl)
 ·intro wq _;go_simp;(try with_reducible rfl)
 (try simp only [zp,za,z0,zs]);apply tt 12 24 rfl (by kernel_rfl) (fun _ _ _ h=>h) (by rfl) (by assumption)
 ·intro wq fl;(try dsimp only at fl);go_simp;(try with_reducible rfl)
 (try simp only [zp,za,z0,zs]);refine aA (i:=13) (o:=⟨some 25,_,_,_,_,_⟩) (by kernel_rfl) rfl (by kernel_rfl) (fun K hK=>?_);go_simp;go_at_call 36;refine HF.out.mono ?_;rintro e w5 ⟨rfl,cY⟩;have zW:=OW.out.trans (cY.mono OW.out.size);have pR:=qqh (mC.out.below zW);have cZ:=qqh (bR.out.trans (aZ.below M zW));have RQ:=qqh (C0.out.keep (aa.any zW) (fun _ _=>aO.keep (aa.any zW)));clear zW cY;(try dsimp only);refine hK.out _ _ ?_;clear hK K;(try simp only [zp,za,z0,zs]);apply tp 14 3 rfl (by kernel_rfl) (fun _ _ _ h=>h) (by rfl)
 ·intro wq _;go_simp;(try with_reducible rfl)
 (try simp only [zp,za,z0,zs]);refine aI (by kernel_rfl) ?_ _;go_simp;clear m0 m1 m2 HF C0 mC bR OW;generalize hk0:cH l (done++z::Z) nd=kk at *;have P0:=qqh (show cH l (done++(z::Z++rem)) done.length=kk by rw [HW.out,FO.out,hk0]);have hrg:=qE l (done++z::Z) done.length;rw [show cH l (done++z::Z) done.length=kk by rw [FO.out,hk0]]at hrg;clear hk0 HW;rcases hrg with rfl | ⟨k,r,rfl,hk,xQ⟩
 ·have eT:=qqh (ju.none Bu.out P0.out);have m2:=pR.out.blk.cell 2;have f2:=pR.out.blk.frozen 2;have Lt:((nd+1:Nat):Int)=(nd:Int)+1:=(by omega);have gG:=qqh (cZ.out.trans (aZ.set w5 M 2 (.int .i64 ((nd:Int)+1))));have Ss:=qqh (show iU (w5.setCell ⟨M,2,none⟩ (.int .i64 ((nd:Int)+1))) M lo Ar nr cr (done++[z]++Z) (some ⟨b,o,none⟩) N c (done++[z]).length told ck (s+1) ahead from⟨by rw [show(done++[z]).length=nd+1 by rw [List.length_append,FO.out];rfl,Lt];exact pR.out.blk.put 2 _,by rw [List.append_assoc];exact pR.out.C9.keep (eI pR.out.hlo (aZ.set w5 M 2 _)),pR.out.cap,pR.out.hlo⟩);clear Lt Bu P0;go_wp2_with fail;go_ret;exact⟨rfl,[z],Z,_,_,_,eT.out,Ss.out,gG.out⟩
 have hfit:r.source.length≤(z::Z).length:=xU xQ;obtain⟨MJ,hst⟩:=ju.rule Bu.out P0.out hk;have tQ:=jz.out r (List.mem_of_getElem? hk);have Lj:=(List.getElem?_eq_some_iff.1 hk).1;obtain⟨rb,ro,A1,A2,A3,A4,n1,c1,n2,c2,n3,c3,n4,c4,rfl,hXb,dL,⟨d0,d1,d2,d3,d4,d5,d6⟩,_,s2',_,Zs,_⟩:=lV RQ.out hk;have hn2:r.source.length=n2:=s2'.list.len;have AI:r.target.length=n4:=(by have:=Zs.1;rw [runeCells_length]at this;omega);have jd:n2≤20:=(by rw [← hn2];exact(tQ.sets r.source (by simp [dA])).1);have UD:n4≤20:=(by rw [← AI];exact tQ.tgt.1);obtain⟨cu,Oi⟩:∃ cu:Nat,r.af=(cu:Int):=⟨r.af.toNat,by have:=tQ.cur;omega⟩;have afs:cu≤n4:=(by have:=tQ.cur;omega);obtain⟨Y,hY⟩:∃ Y,r.target++(z::Z).drop n2=Y:=⟨_,rfl⟩;have YS:Y.length=N - nd - n2+n4:=(by rw [← hY,List.length_append,List.length_drop,List.length_cons,WY.out,AI];omega);have Yq:nd+n2≤N:=(by rw [List.length_cons,WY.out]at hfit;omega);have hsp:r.target++(z::(Z++rem)).drop n2=Y++rem:=by
  rw [show z::(Z++rem)=(z::Z)++rem from rfl,List.drop_append_of_le_length (by rw [List.length_cons,WY.out];omega),← List.append_assoc,hY]
 have EG:ju l O bI (done++(r.target++(z::(Z++rem)).drop r.source.length).take r.af.toNat) ((r.target++(z::(Z++rem)).drop r.source.length).drop r.af.toNat) (s+1):=hst;have US:done.length+(r.target++(z::(Z++rem)).drop r.source.length).length≤4000:=MJ;rw [Oi,Int.toNat_natCast,hn2,hsp,List.take_append_of_le_length (by omega),List.drop_append_of_le_length (by omega)]at EG;have aef:N - n2+n4≤4000:=by
  rw [hn2,hsp,List.length_append,YS,FO.out]at US;omega
 have eT:=qqh EG;have Wn:=qqh hY;have Md:=qqh YS;have H4:=qqh Zs;have TP:=qqh AI;have OL:=qqh (HX.out rb hXb);rw [Oi]at d6;have hk0:(0:Int)≤(k:Int):=(by omega);have hk1:(k:Int)<(nr:Int):=(by omega);have hkn:decide ((k:Int)<0)=false:=decide_eq_false (by omega);clear xQ hk MJ hst EG US hsp tQ hfit Oi hn2 AI s2' Zs hY YS Bu P0 RQ jz HX;have m0:=pR.out.blk.cell 0;have m1:=pR.out.blk.cell 1;go_upto_region 7 with fail;clear m0;have v1:IntKind.i64.wrap ((N:Int) - (n2:Int))=(N:Int) - (n2:Int):=IntWalk.i64_in _ (by omega);have v2:IntKind.i64.wrap ((N:Int) - (n2:Int)+(n4:Int))=(N:Int) - (n2:Int)+(n4:Int):=IntWalk.i64_in _ (by omega);have hgt:decide (4000<(N:Int) - (n2:Int)+(n4:Int))=false:=decide_eq_false (by omega);go_quiet (fail);have Cj:=below_drewN (Below.refl w5.heap.size w5) nq;have AH:=qqh (pR.out.below Cj);have jq:=qqh (cZ.out.trans (aZ.below M Cj));have WL:=qqh (H4.out.keep (aa.any Cj));have e3:=(Cj.cell (p:=⟨rb,ro+k*7+3,none⟩) dL).trans d3;have e5:=(Cj.cell (p:=⟨rb,ro+k*7+5,none⟩) dL).trans d5;have e6:=(Cj.cell (p:=⟨rb,ro+k*7+6,none⟩) dL).trans d6;have gH:=Nat.lt_of_lt_of_le dL Cj.size;clear d0 d1 d2 d3 d4 d5 d6 v1 v2 m1 pR cZ H4 Cj dL;generalize w5.drewN nq=W7 at *;go_upto_region 9 with fail;clear hgt;have m1:=AH.out.blk.cell 1;have m2:=AH.out.blk.cell 2;have v1:IntKind.i64.wrap ((nd:Int)+(n2:Int))=(nd:Int)+(n2:Int):=IntWalk.i64_in _ (by omega);have hb0:(0:Int)≤(nd:Int)+(n2:Int):=(by omega);have aT:(nd:Int)≤(nd:Int)+(n2:Int):=(by omega);have aQ:(nd:Int)+(n2:Int)≤(N:Int):=(by omega);have bJ:((nd:Int)+(n2:Int)).toNat=nd+n2:=(by omega);have hb4:(nd:Int)≤(c:Int):=(by omega);have cY:(0:Int)≤(nd:Int):=(by omega)
 by_cases hck:c=nd+n2
 ·subst hck;have zD:Below W7.heap.size W7 ((W7.alloc (.cells #[.slice (some ⟨b,o,none⟩) nd (nd+n2),.slice A4 n4 c4,.slice (some ⟨b,o,none⟩) 0 0] 33)).drew):=az ((Below.refl W7.heap.size W7).alloc (Nat.le_refl _) _);have RZ:=AH.out.C9.keep (aa.any zD);have mC:=qqh (show Rd ((W7.alloc (.cells #[.slice (some ⟨b,o,none⟩) nd (nd+n2),.slice A4 n4 c4,.slice (some ⟨b,o,none⟩) 0 0] 33)).drew) ((W7.alloc (.cells #[.slice (some ⟨b,o,none⟩) nd (nd+n2),.slice A4 n4 c4,.slice (some ⟨b,o,none⟩) 0 0] 33)).drew).heap.size 1 (some ⟨b,o,none⟩) nd (runeCells done) by
   have h:=(qG (k:=nd) RZ (Nat.le_of_lt Sd)).of;rwa [gh,← FO.out,List.take_left,FO.out]at h)
  have iH:=qqh (show Rd ((W7.alloc (.cells #[.slice (some ⟨b,o,none⟩) nd (nd+n2),.slice A4 n4 c4,.slice (some ⟨b,o,none⟩) 0 0] 33)).drew) ((W7.alloc (.cells #[.slice (some ⟨b,o,none⟩) nd (nd+n2),.slice A4 n4 c4,.slice (some ⟨b,o,none⟩) 0 0] 33)).drew).heap.size 1 A4 n4 (runeCells r.target) from(WL.out.keep (aa.any zD)).of);have ic:=qqh (show Rd ((W7.alloc (.cells #[.slice (some ⟨b,o,none⟩) nd (nd+n2),.slice A4 n4 c4,.slice (some ⟨b,o,none⟩) 0 0] 33)).drew) ((W7.alloc (.cells #[.slice (some ⟨b,o,none⟩) nd (nd+n2),.slice A4 n4 c4,.slice (some ⟨b,o,none⟩) 0 0] 33)).drew).heap.size 1 (some ⟨b,o,none⟩) 0 (runeCells ((z::Z).drop n2)) by
   have h0:(z::Z).drop n2 = []:=List.eq_nil_of_length_eq_zero (by rw [List.length_drop,List.length_cons,WY.out];omega);rw [h0];exact⟨rfl,fun h=>absurd h (Nat.lt_irrefl 0)⟩)
  have RK:=qqh (show Calls Tryz.prog 32 #[.slice (some ⟨W7.heap.size,0,none⟩) 3 3] ((W7.alloc (.cells #[.slice (some ⟨b,o,none⟩) nd (nd+n2),.slice A4 n4 c4,.slice (some ⟨b,o,none⟩) 0 0] 33)).drew) fun e w'=>(∃ v,e=.returned v∧w'.ownsRow ((W7.alloc (.cells #[.slice (some ⟨b,o,none⟩) nd (nd+n2),.slice A4 n4 c4,.slice (some ⟨b,o,none⟩) 0 0] 33)).drew).heap.size 21 1 v (N - n2+n4) (runeCells (done++Y)))∧Below ((W7.alloc (.cells #[.slice (some ⟨b,o,none⟩) nd (nd+n2),.slice A4 n4 c4,.slice (some ⟨b,o,none⟩) 0 0] 33)).drew).heap.size ((W7.alloc (.cells #[.slice (some ⟨b,o,none⟩) nd (nd+n2),.slice A4 n4 c4,.slice (some ⟨b,o,none⟩) 0 0] 33)).drew) w' by
   have Fl:(done++Y).length=N - n2+n4:=by
    rw [List.length_append,FO.out,Md.out];omega
   have h:=qA [done,r.target,(z::Z).drop n2] [.slice (some ⟨b,o,none⟩) nd (nd+n2),.slice A4 n4 c4,.slice (some ⟨b,o,none⟩) 0 0] (some ⟨W7.heap.size,0,none⟩) 3 3 ((W7.alloc (.cells #[.slice (some ⟨b,o,none⟩) nd (nd+n2),.slice A4 n4 c4,.slice (some ⟨b,o,none⟩) 0 0] 33)).drew) rfl (by have h0:=Rd.new W7 33 1 3 [.slice (some ⟨b,o,none⟩) nd (nd+n2),.slice A4 n4 c4,.slice (some ⟨b,o,none⟩) 0 0] rfl;exact h0.drew.more (by simp)) (UR mC.out iH.out ic.out) (by rw [flat3,Wn.out,Fl];omega) (by omega);rw [flat3,Wn.out,Fl]at h;exact h)
  have RF:=qqh zD;have TJ:((W7.alloc (.cells #[.slice (some ⟨b,o,none⟩) nd (nd+n2),.slice A4 n4 c4,.slice (some ⟨b,o,none⟩) 0 0] 33)).drew).heap.size=W7.heap.size+1:=(by simp);have KN:=qqh TJ;clear zD RZ mC iH ic TJ;refine av (S:=(fun w'=>w'.cell? ⟨M,1,none⟩=some (.slice (some ⟨b,o,none⟩) N (nd+n2))∧w'.cell? ⟨M,2,none⟩=some (.int .i64 (nd:Int))∧w'.cell? ⟨rb,ro+k*7+5,none⟩=some (.slice A4 n4 c4)∧w'.cell? ⟨rb,ro+k*7+3,none⟩=some (.slice A2 n2 c2))) [4,8,13,17,21,25] (by kernel_rfl) ⟨m1,m2,e5,e3⟩ (fun aX=>?_);apply tp 0 59 rfl (by kernel_rfl) (fun _ _ _ h=>h) (by rfl)
  ·intro wq _;go_simp;(try with_reducible rfl)
  (try simp only [zp,za,z0,zs]);apply tp 1 60 rfl (by kernel_rfl) (fun _ _ _ h=>h) (by rfl)
  ·intro wq _;go_simp;(try with_reducible rfl)
  (try simp only [zp,za,z0,zs]);apply tp 2 61 rfl (by kernel_rfl) (fun _ _ _ h=>h) (by rfl)
  ·intro wq _;go_simp;(try with_reducible rfl)
  (try simp only [zp,za,z0,zs]);apply tp 3 62 rfl (by kernel_rfl) (fun _ _ _ h=>h) (by rfl)
  ·intro wq _;go_simp;(try with_reducible rfl)
  (try simp only [zp,za,z0,zs]);apply tt 4 63 rfl (by kernel_rfl) (fun _ _ _ h=>h) (by rfl) (by assumption)
  ·intro wq fl;(try dsimp only at fl);go_simp;(try with_reducible rfl)
  (try simp only [zp,za,z0,zs]);apply tp 5 64 rfl (by kernel_rfl) (fun _ _ _ h=>h) (by rfl)
  ·intro wq _;go_simp;(try with_reducible rfl)
  (try simp only [zp,za,z0,zs]);apply tp 6 65 rfl (by kernel_rfl) (fun _ _ _ h=>h) (by rfl)
  ·intro wq _;go_simp;(try with_reducible rfl)
  (try simp only [zp,za,z0,zs]);apply tp 7 66 rfl (by kernel_rfl) (fun _ _ _ h=>h) (by rfl)
  ·intro wq _;go_simp;(try with_reducible rfl)
  (try simp only [zp,za,z0,zs]);apply tt 8 67 rfl (by kernel_rfl) (fun _ _ _ h=>h) (by rfl) (by assumption)
  ·intro wq fl;(try dsimp only at fl);go_simp;(try with_reducible rfl)
  (try simp only [zp,za,z0,zs]);apply tp 9 68 rfl (by kernel_rfl) (fun _ _ _ h=>h) (by rfl)
  ·intro wq _;go_simp;(try with_reducible rfl)
  (try simp only [zp,za,z0,zs]);apply tp 10 69 rfl (by kernel_rfl) (fun _ _ _ h=>h) (by rfl)
  ·intro wq _;go_simp;(try with_reducible rfl)
  (try simp only [zp,za,z0,zs]);apply tp 11 70 rfl (by kernel_rfl) (fun _ _ _ h=>h) (by rfl)
  ·intro wq _;go_simp;(try with_reducible rfl)
  (try simp only [zp,za,z0,zs]);apply tp 12 71 rfl (by kernel_rfl) (fun _ _ _ h=>h) (by rfl)
  ·intro wq _;go_simp;(try with_reducible rfl)
  (try simp only [zp,za,z0,zs]);apply tt 13 72 rfl (by kernel_rfl) (fun _ _ _ h=>h) (by rfl) (by assumption)
  ·intro wq fl;(try dsimp only at fl);go_simp;(try with_reducible rfl)
  (try simp only [zp,za,z0,zs]);apply tp 14 73 rfl (by kernel_rfl) (fun _ _ _ h=>h) (by rfl)
  ·intro wq _;go_simp;(try with_reducible rfl)
  (try simp only [zp,za,z0,zs]);apply tp 15 74 rfl (by kernel_rfl) (fun _ _ _ h=>h) (by rfl)
  ·intro wq _;go_simp;(try with_reducible rfl)
  (try simp only [zp,za,z0,zs]);apply tp 16 75 rfl (by kernel_rfl) (fun _ _ _ h=>h) (by rfl)
  ·intro wq _;go_simp;(try with_reducible rfl)
  (try simp only [zp,za,z0,zs]);apply tt 17 76 rfl (by kernel_rfl) (fun _ _ _ h=>h) (by rfl) (by assumption)
  ·intro wq fl;(try dsimp only at fl);go_simp;(try with_reducible rfl)
  (try simp only [zp,za,z0,zs]);apply tp 18 77 rfl (by kernel_rfl) (fun _ _ _ h=>h) (by rfl)
  ·intro wq _;go_simp;(try with_reducible rfl)
  (try simp only [zp,za,z0,zs]);apply tp 19 78 rfl (by kernel_rfl) (fun _ _ _ h=>h) (by rfl)
  ·intro wq _;go_simp;(try with_reducible rfl)
  (try simp only [zp,za,z0,zs]);apply tp 20 79 rfl (by kernel_rfl) (fun _ _ _ h=>h) (by rfl)
  ·intro wq _;go_simp;(try with_reducible rfl)
  (try simp only [zp,za,z0,zs]);apply tt 21 80 rfl (by kernel_rfl) (fun _ _ _ h=>h) (by rfl) (by assumption)
  ·intro wq fl;(try dsimp only at fl);go_simp;(try with_reducible rfl)
  (try simp only [zp,za,z0,zs]);apply tp 22 81 rfl (by kernel_rfl) (fun _ _ _ h=>h) (by rfl)
  ·intro wq _;go_simp;(try with_reducible rfl)
  (try simp only [zp,za,z0,zs]);apply tp 23 82 rfl (by kernel_rfl) (fun _ _ _ h=>h) (by rfl)
  ·intro wq _;go_simp;(try with_reducible rfl)
  (try simp only [zp,za,z0,zs]);apply tp 24 83 rfl (by kernel_rfl) (fun _ _ _ h=>h) (by rfl)
  ·intro wq _;go_simp;(try with_reducible rfl)
  (try simp only [zp,za,z0,zs]);apply tt 25 84 rfl (by kernel_rfl) (fun _ _ _ h=>h) (by rfl) (by assumption)
  ·intro wq fl;(try dsimp only at fl);go_simp;(try with_reducible rfl)
  (try simp only [zp,za,z0,zs]);apply tp 26 85 rfl (by kernel_rfl) (fun _ _ _ h=>h) (by rfl)
  ·intro wq _;go_simp;(try with_reducible rfl)
  (try simp only [zp,za,z0,zs]);apply tp 27 86 rfl (by kernel_rfl) (fun _ _ _ h=>h) (by rfl)
  ·intro wq _;go_simp;(try with_reducible rfl)
  (try simp only [zp,za,z0,zs]);apply tp 28 87 rfl (by kernel_rfl) (fun _ _ _ h=>h) (by rfl)
  ·intro wq _;go_simp;(try with_reducible rfl)
  (try simp only [zp,za,z0,zs]);refine aA (i:=29) (o:=⟨some 88,_,_,_,_,_⟩) (by kernel_rfl) rfl (by kernel_rfl) (fun K hK=>?_);go_simp;(try dsimp only);refine hK.out _ _ ?_;clear hK K;(try simp only [zp,za,z0,zs]);refine aA (i:=30) (o:=⟨some 89,_,_,_,_,_⟩) (by kernel_rfl) rfl (by kernel_rfl) (fun K hK=>?_);go_simp;go_at_call 32;refine RK.out.mono ?_;rintro e w9 ⟨⟨v9,rfl,jl⟩,cF⟩;obtain⟨A9,c9,rfl,BI⟩:=aJ jl;have yT:=RF.out.trans (cF.mono (by have:=KN.out;omega));have CS:=qqh (AH.out.below yT);have eE:=qqh (jq.out.trans (aZ.below M yT));have U0:=(yT.cell (p:=⟨rb,ro+k*7+6,none⟩) gH).trans e6;have gV:=qqh jl;have f19:=CS.out.blk.frozen 1;have m19:=CS.out.blk.cell 1;have hM7:=AH.out.blk.lt;clear jl cF yT RK;(try dsimp only);refine hK.out _ _ ?_;clear hK K;(try simp only [zp,za,z0,zs]);apply tp 31 90 rfl (by kernel_rfl) (fun _ _ _ h=>h) (by rfl)
  ·intro wq _;go_simp;(try with_reducible rfl)
  (try simp only [zp,za,z0,zs]);apply tp 32 91 rfl (by kernel_rfl) (fun _ _ _ h=>h) (by rfl)
  ·intro wq _;go_simp;(try with_reducible rfl)
  (try simp only [zp,za,z0,zs]);refine aA (i:=33) (o:=⟨none,_,_,_,_,_⟩) (by kernel_rfl) rfl (by kernel_rfl) (fun K hK=>?_);go_simp;(try dsimp only);refine hK.out _ _ ?_;clear hK K;(try simp only [Act.put,List.setIfInBounds_toArray,List.set_cons_zero,List.set_cons_succ]);refine aI (by kernel_rfl) ?_ _;go_simp;have TW:=qqh (eE.out.trans (aZ.set w9 M 1 (.slice A9 (N - n2+n4) c9)));have hbz:=CS.out.blk.put 1 (.slice A9 (N - n2+n4) c9);have TY:cy (w9.setCell ⟨M,1,none⟩ (.slice A9 (N - n2+n4) c9)) (fun b=>lo≤b) 1 A9 (N - n2+n4) (runeCells (done++Y)):=(cy.cj (X:=fun q=>lo≤q) gV.out (fun q hq=>by have h1:=(aU gV.out hq).1;have h2:=KN.out;have h3:=jq.out.1;show lo≤q;omega)).keep (eI CS.out.hlo (aZ.set w9 M 1 _));have IP:=qqh (show iU (w9.setCell ⟨M,1,none⟩ (.slice A9 (N - n2+n4) c9)) M lo (some ⟨rb,ro,none⟩) nr cr (done++Y) A9 (N - n2+n4) c9 nd told ck (s+1) ahead from⟨hbz,TY,BI,CS.out.hlo⟩);have Yt:(w9.setCell ⟨M,1,none⟩ (.slice A9 (N - n2+n4) c9)).cell? ⟨rb,ro+k*7+6,none⟩=some (.int .i64 (cu:Int)):=(((aZ.set w9 M 1 (.slice A9 (N - n2+n4) c9)).to (Nat.le_of_lt CS.out.blk.lt) (Nat.le_refl M)).cell (p:=⟨rb,ro+k*7+6,none⟩) OL.out).trans U0;clear f19 m19 m1 m2 e3 e5 e6 U0 hbz TY CS eE gV AH jq WL hb0 aT aQ bJ hb4 cY v1 hM7;generalize (w9.setCell ⟨M,1,none⟩ (.slice A9 (N - n2+n4) c9))=WZ at *;have m2:=IP.out.blk.cell 2;have f2:=IP.out.blk.frozen 2;have v1:IntKind.i64.wrap ((nd:Int)+(cu:Int))=(nd:Int)+(cu:Int):=IntWalk.i64_in _ (by omega);go_upto_region 10 with fail;refine av (S:=(fun w'=>w'.cell? ⟨M,2,none⟩=some (.int .i64 (nd:Int))∧w'.cell? ⟨rb,ro+k*7+6,none⟩=some (.int .i64 (cu:Int)))) [3,7] (by kernel_rfl) ⟨m2,Yt⟩ (fun aX=>?_);apply tp 0 92 rfl (by kernel_rfl) (fun _ _ _ h=>h) (by rfl)
  ·intro wq _;go_simp;(try with_reducible rfl)
  (try simp only [zp,za,z0,zs]);apply tp 1 93 rfl (by kernel_rfl) (fun _ _ _ h=>h) (by rfl)
  ·intro wq _;go_simp;(try with_reducible rfl)
  (try simp only [zp,za,z0,zs]);apply tp 2 94 rfl (by kernel_rfl) (fun _ _ _ h=>h) (by rfl)
  ·intro wq _;go_simp;(try with_reducible rfl)
  (try simp only [zp,za,z0,zs]);apply tt 3 95 rfl (by kernel_rfl) (fun _ _ _ h=>h) (by rfl) (by assumption)
  ·intro wq fl;(try dsimp only at fl);go_simp;(try with_reducible rfl)
  (try simp only [zp,za,z0,zs]);apply tp 4 96 rfl (by kernel_rfl) (fun _ _ _ h=>h) (by rfl)
  ·intro wq _;go_simp;(try with_reducible rfl)
  (try simp only [zp,za,z0,zs]);apply tp 5 97 rfl (by kernel_rfl) (fun _ _ _ h=>h) (by rfl)
  ·intro wq _;go_simp;(try with_reducible rfl)
  (try simp only [zp,za,z0,zs]);apply tp 6 98 rfl (by kernel_rfl) (fun _ _ _ h=>h) (by rfl)
  ·intro wq _;go_simp;(try with_reducible rfl)
  (try simp only [zp,za,z0,zs]);apply tt 7 99 rfl (by kernel_rfl) (fun _ _ _ h=>h) (by rfl) (by assumption)
  ·intro wq fl;(try dsimp only at fl);go_simp;(try with_reducible rfl)
  (try simp only [zp,za,z0,zs]);apply tp 8 100 rfl (by kernel_rfl) (fun _ _ _ h=>h) (by rfl)
  ·intro wq _;go_simp;(try with_reducible rfl)
  (try simp only [zp,za,z0,zs]);apply tp 9 101 rfl (by kernel_rfl) (fun _ _ _ h=>h) (by rfl)
  ·intro wq _;go_simp;(try with_reducible rfl)
  (try simp only [zp,za,z0,zs]);apply tp 10 102 rfl (by kernel_rfl) (fun _ _ _ h=>h) (by rfl)
  ·intro wq _;go_simp;(try with_reducible rfl)
  (try simp only [zp,za,z0,zs]);refine aA (i:=11) (o:=⟨none,_,_,_,_,_⟩) (by kernel_rfl) rfl (by kernel_rfl) (fun K hK=>?_);go_simp;(try dsimp only);refine hK.out _ _ ?_;clear hK K;(try simp only [Act.put,List.setIfInBounds_toArray,List.set_cons_zero,List.set_cons_succ]);refine aI (by kernel_rfl) ?_ _;go_simp;have Qa:(done++Y.take cu).length=nd+cu:=(by rw [List.length_append,List.length_take,FO.out,Md.out];omega);have hB:=TW.out.trans ((aZ.below M (az (Below.refl WZ.heap.size WZ))).trans (aZ.set WZ.drew M 2 (.int .i64 ((nd:Int)+(cu:Int)))));have PB:=az (Below.refl WZ.heap.size WZ)
  have hP:iU (WZ.drew.setCell ⟨M,2,none⟩ (.int .i64 ((nd:Int)+(cu:Int)))) M lo (some ⟨rb,ro,none⟩) nr cr (done++Y.take cu++Y.drop cu) A9 (N - n2+n4) c9 (done++Y.take cu).length told ck (s+1) ahead :=
    ⟨by rw [Qa,Int.natCast_add];exact(IP.out.below PB).blk.put 2 _,by rw [List.append_assoc,List.take_append_drop];exact(IP.out.below PB).C9.keep (eI IP.out.hlo (aZ.set WZ.drew M 2 _)),BI,IP.out.hlo⟩
  have HQ:=qqh hP;have Nu:=qqh hB;clear hB hP PB Qa;go_wp2_with fail;go_ret;exact⟨rfl,_,_,_,_,_,eT.out,HQ.out,Nu.out⟩
 have YG:c≠nd+n2:=hck;have zD:Below W7.heap.size W7 ((W7.alloc (.cells #[.slice (some ⟨b,o,none⟩) nd c,.slice A4 n4 c4,.slice (some ⟨b,o+(nd+n2),none⟩) (N - (nd+n2)) (c - (nd+n2))] 33)).drew):=az ((Below.refl W7.heap.size W7).alloc (Nat.le_refl _) _);have RZ:=AH.out.C9.keep (aa.any zD);have mC:=qqh (show Rd ((W7.alloc (.cells #[.slice (some ⟨b,o,none⟩) nd c,.slice A4 n4 c4,.slice (some ⟨b,o+(nd+n2),none⟩) (N - (nd+n2)) (c - (nd+n2))] 33)).drew) ((W7.alloc (.cells #[.slice (some ⟨b,o,none⟩) nd c,.slice A4 n4 c4,.slice (some ⟨b,o+(nd+n2),none⟩) (N - (nd+n2)) (c - (nd+n2))] 33)).drew).heap.size 1 (some ⟨b,o,none⟩) nd (runeCells done) by
  have h:=(qG (k:=nd) RZ (Nat.le_of_lt Sd)).of;rwa [gh,← FO.out,List.take_left,FO.out]at h)
 have iH:=qqh (show Rd ((W7.alloc (.cells #[.slice (some ⟨b,o,none⟩) nd c,.slice A4 n4 c4,.slice (some ⟨b,o+(nd+n2),none⟩) (N - (nd+n2)) (c - (nd+n2))] 33)).drew) ((W7.alloc (.cells #[.slice (some ⟨b,o,none⟩) nd c,.slice A4 n4 c4,.slice (some ⟨b,o+(nd+n2),none⟩) (N - (nd+n2)) (c - (nd+n2))] 33)).drew).heap.size 1 A4 n4 (runeCells r.target) from(WL.out.keep (aa.any zD)).of);have ic:=qqh (show Rd ((W7.alloc (.cells #[.slice (some ⟨b,o,none⟩) nd c,.slice A4 n4 c4,.slice (some ⟨b,o+(nd+n2),none⟩) (N - (nd+n2)) (c - (nd+n2))] 33)).drew) ((W7.alloc (.cells #[.slice (some ⟨b,o,none⟩) nd c,.slice A4 n4 c4,.slice (some ⟨b,o+(nd+n2),none⟩) (N - (nd+n2)) (c - (nd+n2))] 33)).drew).heap.size 1 (some ⟨b,o+(nd+n2),none⟩) (N - (nd+n2)) (runeCells ((z::Z).drop n2)) by
  have h:=(GI (c:=c) (k:=nd+n2) RZ Yq hNc).of;rwa [if_neg YG,iE,← FO.out,ya,FO.out]at h)
 have RK:=qqh (show Calls Tryz.prog 32 #[.slice (some ⟨W7.heap.size,0,none⟩) 3 3] ((W7.alloc (.cells #[.slice (some ⟨b,o,none⟩) nd c,.slice A4 n4 c4,.slice (some ⟨b,o+(nd+n2),none⟩) (N - (nd+n2)) (c - (nd+n2))] 33)).drew) fun e w'=>(∃ v,e=.returned v∧w'.ownsRow ((W7.alloc (.cells #[.slice (some ⟨b,o,none⟩) nd c,.slice A4 n4 c4,.slice (some ⟨b,o+(nd+n2),none⟩) (N - (nd+n2)) (c - (nd+n2))] 33)).drew).heap.size 21 1 v (N - n2+n4) (runeCells (done++Y)))∧Below ((W7.alloc (.cells #[.slice (some ⟨b,o,none⟩) nd c,.slice A4 n4 c4,.slice (some ⟨b,o+(nd+n2),none⟩) (N - (nd+n2)) (c - (nd+n2))] 33)).drew).heap.size ((W7.alloc (.cells #[.slice (some ⟨b,o,none⟩) nd c,.slice A4 n4 c4,.slice (some ⟨b,o+(nd+n2),none⟩) (N - (nd+n2)) (c - (nd+n2))] 33)).drew) w' by
  have Fl:(done++Y).length=N - n2+n4:=by
   rw [List.length_append,FO.out,Md.out];omega
  have h:=qA [done,r.target,(z::Z).drop n2] [.slice (some ⟨b,o,none⟩) nd c,.slice A4 n4 c4,.slice (some ⟨b,o+(nd+n2),none⟩) (N - (nd+n2)) (c - (nd+n2))] (some ⟨W7.heap.size,0,none⟩) 3 3 ((W7.alloc (.cells #[.slice (some ⟨b,o,none⟩) nd c,.slice A4 n4 c4,.slice (some ⟨b,o+(nd+n2),none⟩) (N - (nd+n2)) (c - (nd+n2))] 33)).drew) rfl (by have h0:=Rd.new W7 33 1 3 [.slice (some ⟨b,o,none⟩) nd c,.slice A4 n4 c4,.slice (some ⟨b,o+(nd+n2),none⟩) (N - (nd+n2)) (c - (nd+n2))] rfl;exact h0.drew.more (by simp)) (UR mC.out iH.out ic.out) (by rw [flat3,Wn.out,Fl];omega) (by omega);rw [flat3,Wn.out,Fl]at h;exact h)
 have RF:=qqh zD;have TJ:((W7.alloc (.cells #[.slice (some ⟨b,o,none⟩) nd c,.slice A4 n4 c4,.slice (some ⟨b,o+(nd+n2),none⟩) (N - (nd+n2)) (c - (nd+n2))] 33)).drew).heap.size=W7.heap.size+1:=(by simp);have KN:=qqh TJ;clear zD RZ mC iH ic TJ;refine av (S:=(fun w'=>w'.cell? ⟨M,1,none⟩=some (.slice (some ⟨b,o,none⟩) N c)∧w'.cell? ⟨M,2,none⟩=some (.int .i64 (nd:Int))∧w'.cell? ⟨rb,ro+k*7+5,none⟩=some (.slice A4 n4 c4)∧w'.cell? ⟨rb,ro+k*7+3,none⟩=some (.slice A2 n2 c2))) [4,8,13,17,21,25] (by kernel_rfl) ⟨m1,m2,e5,e3⟩ (fun aX=>?_);apply tp 0 59 rfl (by kernel_rfl) (fun _ _ _ h=>h) (by rfl)
 ·intro wq _;go_simp;(try with_reducible rfl)
 (try simp only [zp,za,z0,zs]);apply tp 1 60 rfl (by kernel_rfl) (fun _ _ _ h=>h) (by rfl)
 ·intro wq _;go_simp;(try with_reducible rfl)
 (try simp only [zp,za,z0,zs]);apply tp 2 61 rfl (by kernel_rfl) (fun _ _ _ h=>h) (by rfl)
 ·intro wq _;go_simp;(try with_reducible rfl)
 (try simp only [zp,za,z0,zs]);apply tp 3 62 rfl (by kernel_rfl) (fun _ _ _ h=>h) (by rfl)
 ·intro wq _;go_simp;(try with_reducible rfl)
 (try simp only [zp,za,z0,zs]);apply tt 4 63 rfl (by kernel_rfl) (fun _ _ _ h=>h) (by rfl) (by assumption)
 ·intro wq fl;(try dsimp only at fl);go_simp;(try with_reducible rfl)
 (try simp only [zp,za,z0,zs]);apply tp 5 64 rfl (by kernel_rfl) (fun _ _ _ h=>h) (by rfl)
 ·intro wq _;go_simp;(try with_reducible rfl)
 (try simp only [zp,za,z0,zs]);apply tp 6 65 rfl (by kernel_rfl) (fun _ _ _ h=>h) (by rfl)
 ·intro wq _;go_simp;(try with_reducible rfl)
 (try simp only [zp,za,z0,zs]);apply tp 7 66 rfl (by kernel_rfl) (fun _ _ _ h=>h) (by rfl)
 ·intro wq _;go_simp;(try with_reducible rfl)
 (try simp only [zp,za,z0,zs]);apply tt 8 67 rfl (by kernel_rfl) (fun _ _ _ h=>h) (by rfl) (by assumption)
 ·intro wq fl;(try dsimp only at fl);go_simp;(try with_reducible rfl)
 (try simp only [zp,za,z0,zs]);apply tp 9 68 rfl (by kernel_rfl) (fun _ _ _ h=>h) (by rfl)
 ·intro wq _;go_simp;(try with_reducible rfl)
 (try simp only [zp,za,z0,zs]);apply tp 10 69 rfl (by kernel_rfl) (fun _ _ _ h=>h) (by rfl)
 ·intro wq _;go_simp;(try with_reducible rfl)
 (try simp only [zp,za,z0,zs]);apply tp 11 70 rfl (by kernel_rfl) (fun _ _ _ h=>h) (by rfl)
 ·intro wq _;go_simp;(try with_reducible rfl)
 (try simp only [zp,za,z0,zs]);apply tp 12 71 rfl (by kernel_rfl) (fun _ _ _ h=>h) (by rfl)
 ·intro wq _;go_simp;(try with_reducible rfl)
 (try simp only [zp,za,z0,zs]);apply tt 13 72 rfl (by kernel_rfl) (fun _ _ _ h=>h) (by rfl) (by assumption)
 ·intro wq fl;(try dsimp only at fl);go_simp;(try with_reducible rfl)
 (try simp only [zp,za,z0,zs]);apply tp 14 73 rfl (by kernel_rfl) (fun _ _ _ h=>h) (by rfl)
 ·intro wq _;go_simp;(try with_reducible rfl)
 (try simp only [zp,za,z0,zs]);apply tp 15 74 rfl (by kernel_rfl) (fun _ _ _ h=>h) (by rfl)
 ·intro wq _;go_simp;(try with_reducible rfl)
 (try simp only [zp,za,z0,zs]);apply tp 16 75 rfl (by kernel_rfl) (fun _ _ _ h=>h) (by rfl)
 ·intro wq _;go_simp;(try with_reducible rfl)
 (try simp only [zp,za,z0,zs]);apply tt 17 76 rfl (by kernel_rfl) (fun _ _ _ h=>h) (by rfl) (by assumption)
 ·intro wq fl;(try dsimp only at fl);go_simp;(try with_reducible rfl)
 (try simp only [zp,za,z0,zs]);apply tp 18 77 rfl (by kernel_rfl) (fun _ _ _ h=>h) (by rfl)
 ·intro wq _;go_simp;(try with_reducible rfl)
 (try simp only [zp,za,z0,zs]);apply tp 19 78 rfl (by kernel_rfl) (fun _ _ _ h=>h) (by rfl)
 ·intro wq _;go_simp;(try with_reducible rfl)
 (try simp only [zp,za,z0,zs]);apply tp 20 79 rfl (by kernel_rfl) (fun _ _ _ h=>h) (by rfl)
 ·intro wq _;go_simp;(try with_reducible rfl)
 (try simp only [zp,za,z0,zs]);apply tt 21 80 rfl (by kernel_rfl) (fun _ _ _ h=>h) (by rfl) (by assumption)
 ·intro wq fl;(try dsimp only at fl);go_simp;(try with_reducible rfl)
 (try simp only [zp,za,z0,zs]);apply tp 22 81 rfl (by kernel_rfl) (fun _ _ _ h=>h) (by rfl)
 ·intro wq _;go_simp;(try with_reducible rfl)
 (try simp only [zp,za,z0,zs]);apply tp 23 82 rfl (by kernel_rfl) (fun _ _ _ h=>h) (by rfl)
 ·intro wq _;go_simp;(try with_reducible rfl)
 (try simp only [zp,za,z0,zs]);apply tp 24 83 rfl (by kernel_rfl) (fun _ _ _ h=>h) (by rfl)
 ·intro wq _;go_simp;(try with_reducible rfl)
 (try simp only [zp,za,z0,zs]);apply tt 25 84 rfl (by kernel_rfl) (fun _ _ _ h=>h) (by rfl) (by assumption)
 ·intro wq fl;(try dsimp only at fl);go_simp;(try with_reducible rfl)
 (try simp only [zp,za,z0,zs]);apply tp 26 85 rfl (by kernel_rfl) (fun _ _ _ h=>h) (by rfl)
 ·intro wq _;go_simp;(try with_reducible rfl)
 (try simp only [zp,za,z0,zs]);apply tp 27 86 rfl (by kernel_rfl) (fun _ _ _ h=>h) (by rfl)
 ·intro wq _;go_simp;(try with_reducible rfl)
 (try simp only [zp,za,z0,zs]);apply tp 28 87 rfl (by kernel_rfl) (fun _ _ _ h=>h) (by rfl)
 ·intro wq _;go_simp;(try with_reducible rfl)
 (try simp only [zp,za,z0,zs]);refine aA (i:=29) (o:=⟨some 88,_,_,_,_,_⟩) (by kernel_rfl) rfl (by kernel_rfl) (fun K hK=>?_);go_simp;(try dsimp only);refine hK.out _ _ ?_;clear hK K;(try simp only [zp,za,z0,zs]);refine aA (i:=30) (o:=⟨some 89,_,_,_,_,_⟩) (by kernel_rfl) rfl (by kernel_rfl) (fun K hK=>?_);go_simp;go_at_call 32;refine RK.out.mono ?_;rintro e w9 ⟨⟨v9,rfl,jl⟩,cF⟩;obtain⟨A9,c9,rfl,BI⟩:=aJ jl;have yT:=RF.out.trans (cF.mono (by have:=KN.out;omega));have CS:=qqh (AH.out.below yT);have eE:=qqh (jq.out.trans (aZ.below M yT));have U0:=(yT.cell (p:=⟨rb,ro+k*7+6,none⟩) gH).trans e6;have gV:=qqh jl;have f19:=CS.out.blk.frozen 1;have m19:=CS.out.blk.cell 1;have hM7:=AH.out.blk.lt;clear jl cF yT RK;(try dsimp only);refine hK.out _ _ ?_;clear hK K;(try simp only [zp,za,z0,zs]);apply tp 31 90 rfl (by kernel_rfl) (fun _ _ _ h=>h) (by rfl)
 ·intro wq _;go_simp;(try with_reducible rfl)
 (try simp only [zp,za,z0,zs]);apply tp 32 91 rfl (by kernel_rfl) (fun _ _ _ h=>h) (by rfl)
 ·intro wq _;go_simp;(try with_reducible rfl)
 (try simp only [zp,za,z0,zs]);refine aA (i:=33) (o:=⟨none,_,_,_,_,_⟩) (by kernel_rfl) rfl (by kernel_rfl) (fun K hK=>?_);go_simp;(try dsimp only);refine hK.out _ _ ?_;clear hK K;(try simp only [Act.put,List.setIfInBounds_toArray,List.set_cons_zero,List.set_cons_succ]);refine aI (by kernel_rfl) ?_ _;go_simp;have TW:=qqh (eE.out.trans (aZ.set w9 M 1 (.slice A9 (N - n2+n4) c9)));have hbz:=CS.out.blk.put 1 (.slice A9 (N - n2+n4) c9);have TY:cy (w9.setCell ⟨M,1,none⟩ (.slice A9 (N - n2+n4) c9)) (fun b=>lo≤b) 1 A9 (N - n2+n4) (runeCells (done++Y)):=(cy.cj (X:=fun q=>lo≤q) gV.out (fun q hq=>by have h1:=(aU gV.out hq).1;have h2:=KN.out;have h3:=jq.out.1;show lo≤q;omega)).keep (eI CS.out.hlo (aZ.set w9 M 1 _));have IP:=qqh (show iU (w9.setCell ⟨M,1,none⟩ (.slice A9 (N - n2+n4) c9)) M lo (some ⟨rb,ro,none⟩) nr cr (done++Y) A9 (N - n2+n4) c9 nd told ck (s+1) ahead from⟨hbz,TY,BI,CS.out.hlo⟩);have Yt:(w9.setCell ⟨M,1,none⟩ (.slice A9 (N - n2+n4) c9)).cell? ⟨rb,ro+k*7+6,none⟩=some (.int .i64 (cu:Int)):=(((aZ.set w9 M 1 (.slice A9 (N - n2+n4) c9)).to (Nat.le_of_lt CS.out.blk.lt) (Nat.le_refl M)).cell (p:=⟨rb,ro+k*7+6,none⟩) OL.out).trans U0;clear f19 m19 m1 m2 e3 e5 e6 U0 hbz TY CS eE gV AH jq WL hb0 aT aQ bJ hb4 cY v1 hM7;generalize (w9.setCell ⟨M,1,none⟩ (.slice A9 (N - n2+n4) c9))=WZ at *;have m2:=IP.out.blk.cell 2;have f2:=IP.out.blk.frozen 2;have v1:IntKind.i64.wrap ((nd:Int)+(cu:Int))=(nd:Int)+(cu:Int):=IntWalk.i64_in _ (by omega);go_upto_region 10 with fail;refine av (S:=(fun w'=>w'.cell? ⟨M,2,none⟩=some (.int .i64 (nd:Int))∧w'.cell? ⟨rb,ro+k*7+6,none⟩=some (.int .i64 (cu:Int)))) [3,7] (by kernel_rfl) ⟨m2,Yt⟩ (fun aX=>?_);apply tp 0 92 rfl (by kernel_rfl) (fun _ _ _ h=>h) (by rfl)
 ·intro wq _;go_simp;(try with_reducible rfl)
 (try simp only [zp,za,z0,zs]);apply tp 1 93 rfl (by kernel_rfl) (fun _ _ _ h=>h) (by rfl)
 ·intro wq _;go_simp;(try with_reducible rfl)
 (try simp only [zp,za,z0,zs]);apply tp 2 94 rfl (by kernel_rfl) (fun _ _ _ h=>h) (by rfl)
 ·intro wq _;go_simp;(try with_reducible rfl)
 (try simp only [zp,za,z0,zs]);apply tt 3 95 rfl (by kernel_rfl) (fun _ _ _ h=>h) (by rfl) (by assumption)
 ·intro wq fl;(try dsimp only at fl);go_simp;(try with_reducible rfl)
 (try simp only [zp,za,z0,zs]);apply tp 4 96 rfl (by kernel_rfl) (fun _ _ _ h=>h) (by rfl)
 ·intro wq _;go_simp;(try with_reducible rfl)
 (try simp only [zp,za,z0,zs]);apply tp 5 97 rfl (by kernel_rfl) (fun _ _ _ h=>h) (by rfl)
 ·intro wq _;go_simp;(try with_reducible rfl)
 (try simp only [zp,za,z0,zs]);apply tp 6 98 rfl (by kernel_rfl) (fun _ _ _ h=>h) (by rfl)
 ·intro wq _;go_simp;(try with_reducible rfl)
 (try simp only [zp,za,z0,zs]);apply tt 7 99 rfl (by kernel_rfl) (fun _ _ _ h=>h) (by rfl) (by assumption)
 ·intro wq fl;(try dsimp only at fl);go_simp;(try with_reducible rfl)
 (try simp only [zp,za,z0,zs]);apply tp 8 100 rfl (by kernel_rfl) (fun _ _ _ h=>h) (by rfl)
 ·intro wq _;go_simp;(try with_reducible rfl)
 (try simp only [zp,za,z0,zs]);apply tp 9 101 rfl (by kernel_rfl) (fun _ _ _ h=>h) (by rfl)
 ·intro wq _;go_simp;(try with_reducible rfl)
 (try simp only [zp,za,z0,zs]);apply tp 10 102 rfl (by kernel_rfl) (fun _ _ _ h=>h) (by rfl)
 ·intro wq _;go_simp;(try with_reducible rfl)
 (try simp only [zp,za,z0,zs]);refine aA (i:=11) (o:=⟨none,_,_,_,_,_⟩) (by kernel_rfl) rfl (by kernel_rfl) (fun K hK=>?_);go_simp;(try dsimp only);refine hK.out _ _ ?_;clear hK K;(try simp only [Act.put,List.setIfInBounds_toArray,List.set_cons_zero,List.set_cons_succ]);refine aI (by kernel_rfl) ?_ _;go_simp;have Qa:(done++Y.take cu).length=nd+cu:=(by rw [List.length_append,List.length_take,FO.out,Md.out];omega);have hB:=TW.out.trans ((aZ.below M (az (Below.refl WZ.heap.size WZ))).trans (aZ.set WZ.drew M 2 (.int .i64 ((nd:Int)+(cu:Int)))));have PB:=az (Below.refl WZ.heap.size WZ)
 have hP:iU (WZ.drew.setCell ⟨M,2,none⟩ (.int .i64 ((nd:Int)+(cu:Int)))) M lo (some ⟨rb,ro,none⟩) nr cr (done++Y.take cu++Y.drop cu) A9 (N - n2+n4) c9 (done++Y.take cu).length told ck (s+1) ahead :=
   ⟨by rw [Qa,Int.natCast_add];exact(IP.out.below PB).blk.put 2 _,by rw [List.append_assoc,List.take_append_drop];exact(IP.out.below PB).C9.keep (eI IP.out.hlo (aZ.set WZ.drew M 2 _)),BI,IP.out.hlo⟩
 have HQ:=qqh hP;have Nu:=qqh hB;clear hB hP PB Qa;go_wp2_with fail;go_ret;exact⟨rfl,_,_,_,_,_,eT.out,HQ.out,Nu.out⟩
theorem MX {w:World} {X:Nat→Prop} {A:Option Addr} {N c told a:Nat} {xs:List Value} (h:cy w X 1 A N xs) (h1:told≤a) (h2:a≤N) (hc:N≤c):cy w X 1 (if c=told then A else A.map (·.add told)) (a - told) ((xs.drop told).take (a - told)):=by
 have hl:=h.1;refine⟨by rw [List.length_take,List.length_drop];omega,fun hp=>?_⟩;obtain⟨b,off,rfl,hx,hb,C6⟩:=h.2 (by omega);rw [if_neg (by omega)];refine⟨b,off+told,by rw [Option.map_some,gX],hx,hb,fun j u hu=>?_⟩;have hj:j<a - told:=by
  have:=(List.getElem?_eq_some_iff.1 hu).1;rw [List.length_take]at this;omega
 rw [List.getElem?_take_of_lt hj,List.getElem?_drop]at hu;have:=C6 _ _ hu;rwa [← Nat.add_assoc]at this
theorem NL (w:World) (M lo:Nat) (Ar:Option Addr) (nr cr:Nat) (T:List Int) (A:Option Addr) (N c at_ told ck s ahead:Nat) (hp:iU w M lo Ar nr cr T A N c at_ told ck s ahead) (h1:at_≤4000) (h2:ahead≤40) (h3:ck≤4000) :
    Calls Tryz.prog 52 #[.pointer (some ⟨M,0,none⟩)] w fun e w'=>e=.returned (.bool (decide (at_+ahead<N) && decide (s<8*ck+40)))∧∃ k,w'=w.drewN k:=by
 have MD:=qqh (fun W=>qW ck h3 W);have m1:=hp.blk.cell 1;have m2:=hp.blk.cell 2;have m4:=hp.blk.cell 4;have m5:=hp.blk.cell 5;have m6:=hp.blk.cell 6;have v1:IntKind.i64.wrap ((at_:Int)+(ahead:Int))=(at_:Int)+(ahead:Int):=IntWalk.i64_in _ (by omega);have e1:decide ((at_:Int)+(ahead:Int)<(N:Int))=decide (at_+ahead<N):=decide_eq_decide.2 (by omega);have e2:decide ((s:Int)<((8*ck+40:Nat):Int))=decide (s<8*ck+40):=decide_eq_decide.2 (by omega);obtain⟨x,hx⟩:∃ x,decide (at_+ahead<N)=x:=⟨_,rfl⟩;obtain⟨y,hy⟩:∃ y,decide (s<8*ck+40)=y:=⟨_,rfl⟩;rw [hx]at e1 ⊢;rw [hy]at e2 ⊢;obtain⟨bI,kA⟩:∃ bI:Int,((8*ck+40:Nat):Int)=bI:=⟨_,rfl⟩;rw [kA]at e2 MD;clear hx hy hp kA;cases x
 ·go_enter Tryz.func52,Tryz.ntmps52;go_wp2_with fail;go_quiet (first | (go_at_call 35;refine Calls.quiet_of_same (MD.out _)));go_wp2_with fail;go_ret;exact⟨rfl,_,rfl⟩
 cases y <;>
 ·go_enter Tryz.func52,Tryz.ntmps52;go_wp2_with fail;go_quiet (first | (go_at_call 35;refine Calls.quiet_of_same (MD.out _)));go_wp2_with fail;go_ret;exact⟨rfl,_,rfl⟩
def PT (lo n:Nat) (L:List Int) (e:Ending) (w':World):Prop:=∃ (A:Option Addr) (c:Nat),e=.returned (.slice A n c)∧cy w' (fun b=>lo≤b) 1 A n (runeCells L)
theorem Fa (w:World) (M lo:Nat) (Ar:Option Addr) (nr cr:Nat) (T:List Int) (A:Option Addr) (N c at_ told ck s ahead:Nat) (hp:iU w M lo Ar nr cr T A N c at_ told ck s ahead) (h1:told≤at_) (h2:at_≤N) (hN:N≤4000) :
    Calls Tryz.prog 23 #[.pointer (some ⟨M,0,none⟩)] w fun e w'=>PT w.heap.size (at_ - told) ((T.drop told).take (at_ - told)) e w'∧iU w' M lo Ar nr cr T A N c at_ at_ ck s ahead∧aZ w M w':=by
 have HP:=qqh hp;have nu:Below w.heap.size w w.drew:=az (Below.refl _ _);have aaB:=qqh (MX (told:=told) (hp.below nu).C9 h1 h2 hp.cap).of;have OW:=qqh nu;have hNc:=hp.cap;have q1:=hp.blk.cell 1;have q2:=hp.blk.cell 2;have q3:=hp.blk.cell 3;have hb0:(0:Int)≤(told:Int):=(by omega);have aT:(told:Int)≤(at_:Int):=(by omega);have aQ:(at_:Int)≤(c:Int):=(by omega);clear nu hp;go_enter Tryz.func23,Tryz.ntmps23;go_wp2_with fail;refine av (S:=(fun w'=>w'.cell? ⟨M,1,none⟩=some (.slice A N c)∧w'.cell? ⟨M,3,none⟩=some (.int .i64 (told:Int))∧w'.cell? ⟨M,2,none⟩=some (.int .i64 (at_:Int)))) [3,7,11] (by kernel_rfl) ⟨q1,q3,q2⟩ (fun aX=>?_);apply tp 0 4 rfl (by kernel_rfl) (fun _ _ _ h=>h) (by rfl)
 ·intro wq _;go_simp;(try with_reducible rfl)
 (try simp only [zp,za,z0,zs]);apply tp 1 5 rfl (by kernel_rfl) (fun _ _ _ h=>h) (by rfl)
 ·intro wq _;go_simp;(try with_reducible rfl)
 (try simp only [zp,za,z0,zs]);apply tp 2 6 rfl (by kernel_rfl) (fun _ _ _ h=>h) (by rfl)
 ·intro wq _;go_simp;(try with_reducible rfl)
 (try simp only [zp,za,z0,zs]);apply tt 3 7 rfl (by kernel_rfl) (fun _ _ _ h=>h) (by rfl) (by assumption)
 ·intro wq fl;(try dsimp only at fl);go_simp;(try with_reducible rfl)
 (try simp only [zp,za,z0,zs]);apply tp 4 8 rfl (by kernel_rfl) (fun _ _ _ h=>h) (by rfl)
 ·intro wq _;go_simp;(try with_reducible rfl)
 (try simp only [zp,za,z0,zs]);apply tp 5 9 rfl (by kernel_rfl) (fun _ _ _ h=>h) (by rfl)
 ·intro wq _;go_simp;(try with_reducible rfl)
 (try simp only [zp,za,z0,zs]);apply tp 6 10 rfl (by kernel_rfl) (fun _ _ _ h=>h) (by rfl)
 ·intro wq _;go_simp;(try with_reducible rfl)
 (try simp only [zp,za,z0,zs]);apply tt 7 11 rfl (by kernel_rfl) (fun _ _ _ h=>h) (by rfl) (by assumption)
 ·intro wq fl;(try dsimp only at fl);go_simp;(try with_reducible rfl)
 (try simp only [zp,za,z0,zs]);apply tp 8 12 rfl (by kernel_rfl) (fun _ _ _ h=>h) (by rfl)
 ·intro wq _;go_simp;(try with_reducible rfl)
 (try simp only [zp,za,z0,zs]);apply tp 9 13 rfl (by kernel_rfl) (fun _ _ _ h=>h) (by rfl)
 ·intro wq _;go_simp;(try with_reducible rfl)
 (try simp only [zp,za,z0,zs]);apply tp 10 14 rfl (by kernel_rfl) (fun _ _ _ h=>h) (by rfl)
 ·intro wq _;go_simp;(try with_reducible rfl)
 (try simp only [zp,za,z0,zs]);apply tt 11 15 rfl (by kernel_rfl) (fun _ _ _ h=>h) (by rfl) (by assumption)
 ·intro wq fl;(try dsimp only at fl);go_simp;(try with_reducible rfl)
 (try simp only [zp,za,z0,zs]);apply tp 12 16 rfl (by kernel_rfl) (fun _ _ _ h=>h) (by rfl)
 ·intro wq _;go_simp;(try with_reducible rfl)
 (try simp only [zp,za,z0,zs]);refine aA (i:=13) (o:=⟨some 17,_,_,_,_,_⟩) (by kernel_rfl) rfl (by kernel_rfl) (fun K hK=>?_);go_simp;go_at_call 20;refine(qo _ (at_ - told) _ ((T.drop told).take (at_ - told)) w.drew (by omega) ?s1).mono ?_;case s1=>
  have h:=aaB.out;rw [iE,gh]at h;exact h
 rintro e w5 ⟨⟨v,rfl,ho⟩,cY⟩;obtain⟨A5,c5,rfl,_⟩:=aJ ho;have zW:=OW.out.trans (cY.mono OW.out.size);have pR:=qqh (HP.out.below zW);have cZ:=qqh (aZ.below M zW);have tM:=qqh (cy.cj (X:=fun b=>w.heap.size≤b) ho (fun b hb=>(aU ho hb).1));have m2:=pR.out.blk.cell 2;have m3:=pR.out.blk.cell 3;have f3:=pR.out.blk.frozen 3;clear ho cY zW;(try dsimp only);refine hK.out _ _ ?_;clear hK K;(try simp only [zp,za,z0,zs]);apply tp 14 3 rfl (by kernel_rfl) (fun _ _ _ h=>h) (by rfl)
 ·intro wq _;go_simp;(try with_reducible rfl)
 (try simp only [zp,za,z0,zs]);refine aI (by kernel_rfl) ?_ _;go_simp;clear q1 q2 q3;have gG:=qqh (cZ.out.trans (aZ.set w5 M 3 (.int .i64 (at_:Int))));have Ss:=qqh (show iU (w5.setCell ⟨M,3,none⟩ (.int .i64 (at_:Int))) M lo Ar nr cr T A N c at_ at_ ck s ahead from⟨pR.out.blk.put 3 _,pR.out.C9.keep (eI pR.out.hlo (aZ.set w5 M 3 _)),pR.out.cap,pR.out.hlo⟩);have xy:=qqh (tM.out.keep ((aZ.set w5 M 3 (.int .i64 (at_:Int))).keeps (X':=fun b=>w.heap.size≤b) (fun b h=>by have h:w.heap.size≤b:=h;have:=HP.out.blk.lt;omega) (fun b h _=>h)));go_wp2_with fail
 all_goals
   try subst c
   go_ret
   exact⟨⟨_,_,rfl,xy.out⟩,Ss.out,gG.out⟩
def tH (M:Nat) (w:World):Nat:=match w.cell? ⟨M,5,none⟩with | some (.int _ x)=>x.toNat | _=>0
theorem iU.steps {w:World} {M lo:Nat} {Ar:Option Addr} {nr cr:Nat} {T:List Int} {A:Option Addr} {N c at_ told ck s ahead:Nat} (h:iU w M lo Ar nr cr T A N c at_ told ck s ahead):tH M w=s:=by
 unfold tH;rw [h.blk.cell];simp
theorem jJ.more {l:List ax} {O:List Int} {bI M lo:Nat} {Ar:Option Addr} {nr cr:Nat} {done d rem:List Int} {told ck s ahead:Nat} {w w1 w2:World} (hb:aZ w M w1) (h:jJ l O bI M lo Ar nr cr (done++d) rem told ck s ahead w1 w2):jJ l O bI M lo Ar nr cr done rem told ck s ahead w w2:=by
 obtain⟨d2,Z,A,N,c,h1,h2,h3⟩:=h;exact⟨d++d2,Z,A,N,c,by rw [← List.append_assoc];exact h1,by rw [← List.append_assoc];exact h2,hb.trans h3⟩
def OT (l:List ax) (O:List Int) (bI M lo:Nat) (Ar:Option Addr) (nr cr:Nat) (done:List Int) (told ck ahead:Nat) (w:World) (wr:World):Prop:=∃ s,jJ l O bI M lo Ar nr cr done [] told ck s ahead w wr
theorem Rx (X:Nat→Prop) (l:List ax) (Ar:Option Addr) (nr cr M lo:Nat) (done Z:List Int) (bI s told ck ahead N c:Nat) (A:Option Addr) (O:List Int) (w:World) (xq:nr≤maxLen) (hX:∀ b,X b→b<M) (hlw:lo≤w.heap.size) (hR:∀ r∈l,cX r)
    (hl:bh (aO w X) w X 7 Ar nr l) (kA:bI=8*ck+40) (KZ:ck≤4000) (hF:ju l O bI done Z s) (hp:iU w M lo Ar nr cr (done++Z) A N c done.length told ck s ahead) :
    Calls Tryz.prog 24 #[.pointer (some ⟨M,0,none⟩)] w fun e w'=>e=.returned (.int .i64 0)∧∃ s',jJ l O bI M lo Ar nr cr done [] told ck s' ahead w w'∧∃ d A N c,done++d=O∧N≤4000∧iU w' M lo Ar nr cr O A N c O.length told ck s' ahead∧aZ w M w':=by
 have HL:=qqh hl;have HR:=qqh hR;have HX:=qqh hX;have MD:=qqh (fun W=>qW ck KZ W);rw [← kA]at MD;have H0:=qqh (show OT l O bI M lo Ar nr cr done told ck ahead w w from⟨s,[],Z,A,N,c,by rw [List.append_nil,List.append_nil];exact hF,by rw [List.append_nil];exact hp,aZ.refl _ _⟩);have VK:bI≤32040:=(by omega);clear hl hR hX hF hp kA;go_enter Tryz.func24,Tryz.ntmps24;go_wp2_with fail;go_loopw [3] (fun _ wr=>OT l O bI M lo Ar nr cr done told ck ahead w wr) (fun _ wr=>bI - tH M wr);(case atStart=>exact H0.out);obtain⟨s,d,Z,A,N,c,hF,hp,hb⟩:=hrel;have HF:=qqh hF;have HP:=qqh hp;have HB:=qqh hb;have hN:=hp.len;have hs:=hF.1;have hsz:=hF.2.1;rw [List.append_nil]at hsz;have U4:=qqh (rq HX.out hb HL.out);have m1:=hp.blk.cell 1;have m2:=hp.blk.cell 2;have m4:=hp.blk.cell 4;have m5:=hp.blk.cell 5;have hN4:N≤4000:=(by rw [List.length_append]at hN;omega);cases Z with
 | nil=>
  have Sd:(done++d).length=N:=(by rw [← hN,List.append_nil]);have WM:decide (((done++d).length:Int)<(N:Int))=false:=decide_eq_false (by omega);have hO:=ju.done hF;have HO:=qqh hO;clear hF hp hb hO;go_wp2_with fail;go_quiet (fail);go_wp2_with fail;go_ret;have aQ:=below_drewN (Below.refl wr.heap.size wr) nq;have WI:=HP.out.below aQ;have Sp:=HB.out.trans (aZ.below M aQ);refine⟨rfl,s,⟨d,[],A,N,c,HF.out,WI,Sp⟩,d,A,N,c,HO.out,hN4,?_,Sp⟩;rw [List.append_nil,HO.out]at WI;exact WI
 | cons z Z=>
  have Sd:(done++d).length<N:=(by rw [List.length_append,List.length_cons]at hN;omega);have WM:decide (((done++d).length:Int)<(N:Int))=true:=decide_eq_true (by omega);have agu:done.length+d.length<N:=(by rw [List.length_append]at Sd;exact Sd);have hle:s<bI:=ju.left (Z:=Z) (by simpa using hF);have hne:((s:Int) ==(bI:Int))=false:=(by rw [beq_eq_false_iff_ne];omega);clear hF hp hb;go_wp2_with fail;go_quiet (fail);have aQ:=below_drewN (Below.refl wr.heap.size wr) nq;have iH:=qqh (HP.out.below aQ);have bt:=qqh (HB.out.trans (aZ.below M aQ));have IQ:=qqh (U4.out.keep (aa.any aQ) (fun _ _=>aO.keep (aa.any aQ)));have HS:=qqh HP.out.steps;clear aQ m1 m2 m4 m5 HP HB U4 WM;generalize wr.drewN nq=W2 at *;have m4:=iH.out.blk.cell 4;have m5:=iH.out.blk.cell 5;go_wp2_with fail;go_quiet (first | (go_at_call 35;refine Calls.quiet_of_same (MD.out _)));have bJ:=below_drewN (Below.refl W2.heap.size W2) nq;have ic:=qqh (iH.out.below bJ);have bN:=qqh (bt.out.trans (aZ.below M bJ));have Pb:=qqh (IQ.out.keep (aa.any bJ) (fun _ _=>aO.keep (aa.any bJ)));clear bJ m4 m5 iH bt IQ hne;generalize W2.drewN nq=W3 at *;have LV:=qqh (Fx X l Ar nr cr M lo (done++d) Z [] z bI s told ck ahead N c A O W3 xq HX.out (Nat.le_trans hlw bN.out.1) HR.out Pb.out (by omega) HF.out (by rw [List.append_nil]) ic.out);go_wp2_with fail;refine LV.out.mono ?_;rintro e w4 ⟨rfl,hst⟩;have fk:=qqh (jJ.more bN.out hst);clear hst LV;go_wp2_with fail;refine⟨⟨s+1,fk.out⟩,?_⟩;obtain⟨d2,Z2,A2,N2,c2,_,h2,_⟩:=fk.out;rw [h2.steps,HS.out];omega
def LC (l:List ax) (O:List Int) (bI M lo:Nat) (Ar:Option Addr) (nr cr:Nat) (done rem:List Int) (told ck ahead:Nat) (w:World) (wr:World):Prop:=∃ s,jJ l O bI M lo Ar nr cr done rem told ck s ahead w wr
theorem NR (X:Nat→Prop) (l:List ax) (Ar:Option Addr) (nr cr M lo:Nat) (done Z chunk rem:List Int) (bI s told ck ahead N c nc cc:Nat) (A Ac:Option Addr) (O:List Int) (w:World) (xq:nr≤maxLen) (hX:∀ b,X b→b<M) (hR:∀ r∈l,cX r)
    (hl:bh (aO w X) w X 7 Ar nr l) (kA:bI≤32040) (KZ:ck+nc≤4000) (Wl:ahead≤40) (Ub:∀ r∈l,r.source.length+r.after.length≤ahead) (NK:dS chunk=0) (hc:cy w (fun b=>b<M) 1 Ac nc (runeCells chunk))
    (hF:ju l O bI done (Z++(chunk++rem)) s) (hp:iU w M lo Ar nr cr (done++Z) A N c done.length told ck s ahead) :
    Calls Tryz.prog 22 #[.pointer (some ⟨M,0,none⟩),.slice Ac nc cc] w fun e w'=>e=.returned (.int .i64 0)∧LC l O bI M w.heap.size Ar nr cr done rem told (ck+nc) ahead w w':=by
 obtain⟨i0,hi,z0,z1,z2⟩:=info_parts Tryz.info21;have xE:chunk.length=nc:=(by have:=hc.1;rw [runeCells_length]at this;omega);have hN:=hp.len;have hsz:=hF.2.1;have hNn:N+nc≤4000:=by
  rw [List.length_append]at hN;rw [List.length_append,List.length_append]at hsz;omega
 have HL:=qqh hl;have HR:=qqh hR;have HX:=qqh hX;have HAH:=qqh Ub;have HF:=qqh hF;have HP:=qqh hp;have HC:=qqh hc;have HN:=qqh hN;have tU:=qqh xE;have No:=qqh (oI Ac nc cc chunk w (by simp only [maxLen];omega) hc.of);rw [NK]at No;have I3:=qqh hp.blk.lt;have m1:=hp.blk.cell 1;have m4:=hp.blk.cell 4;have v1:IntKind.i64.wrap ((ck:Int)+(nc:Int))=(ck:Int)+(nc:Int):=IntWalk.i64_in _ (by omega);have v2:IntKind.i64.wrap ((N:Int)+(nc:Int))=(N:Int)+(nc:Int):=IntWalk.i64_in _ (by omega);have g1:decide (4000<(ck:Int)+(nc:Int))=false:=decide_eq_false (by omega);have g2:decide (4000<(N:Int)+(nc:Int))=false:=decide_eq_false (by omega);clear hl hR hX Ub hF hp hc hN hsz NK xE;go_enter Tryz.func22,Tryz.ntmps22;go_upto_region 3 with fail;clear m1 m4 g1 g2 v2;go_wp2_with fail;refine No.out.mono ?_;rintro e w1 ⟨rfl,aT⟩;have mC:=qqh (HP.out.below aT);have bR:=qqh (aZ.below M aT);have iJ:=qqh (HC.out.keep (aa.any aT));have m4:=mC.out.blk.cell 4;have f4:=mC.out.blk.frozen 4;clear aT No HP HC;go_upto_region 7 with fail;clear m4 f4;have bt:=qqh (bR.out.trans (aZ.set w1 M 4 (.int .i64 ((ck:Int)+(nc:Int)))));have iH:=qqh (show iU (w1.setCell ⟨M,4,none⟩ (.int .i64 ((ck:Int)+(nc:Int)))) M lo Ar nr cr (done++Z) A N c done.length told (ck+nc) s ahead from⟨by rw [Int.natCast_add];exact mC.out.blk.put 4 _,mC.out.C9.keep (eI mC.out.hlo (aZ.set w1 M 4 _)),mC.out.cap,mC.out.hlo⟩);have lT:=qqh (iJ.out.keep ((aZ.set w1 M 4 (.int .i64 ((ck:Int)+(nc:Int)))).keeps (X':=fun b=>b<M) (fun b h=>by have h:b<M:=h;omega) (fun b h _=>h)));clear mC bR iJ v1;generalize w1.setCell ⟨M,4,none⟩ (.int .i64 ((ck:Int)+(nc:Int)))=W2 at *
 have m1:=iH.out.blk.cell 1;have I8:=qqh (qo A N c (done++Z) W2 (by omega) iH.out.C9.of);have hM2:=iH.out.blk.lt;go_wp2_with fail;refine I8.out.mono ?_;rintro e w3 ⟨⟨v3,rfl,OX⟩,bJ⟩;obtain⟨A3,c3,rfl,_⟩:=aJ OX;have nX:=qqh OX;have bN:=qqh bJ;have nZ:=qqh (lT.out.keep (aa.any bJ)).of;clear OX m1 I8;go_wp2_with (at_builtin;refine ai _ rfl (.tmp 45) (.tmp 46) 33 rfl W2.heap.size 21 i0 _ 1 4 Tryz.underlying33 hi z0 z1 z2 rfl (by decide) _ N _ rfl nX.out _ Ac nc cc (runeCells chunk) rfl nZ.out (aP _) (by simp only [maxLen];omega) (by omega) bN.out.size ?_);intro v4 w4 an;have pJ:w4.ownsRow W2.heap.size 21 1 v4 (N+nc) (runeCells (done++(Z++chunk))):=by
  have:=an.own;rw [← List.append_assoc,de];exact this
 have hb4:=bN.out.trans (an.below bN.out.size nX.out);obtain⟨A4,c4,rfl,kM⟩:=aJ pJ;have od:=qqh pJ;have Fh:=qqh (iH.out.below hb4);have ej:=qqh (bt.out.trans (aZ.below M hb4));have m1:=Fh.out.blk.cell 1;have f1:=Fh.out.blk.frozen 1;clear an pJ hb4 nX bN nZ lT;go_wp2_with fail;clear m1 f1;have cZ:=qqh (ej.out.trans (aZ.set w4 M 1 (.slice A4 (N+nc) c4)));have pR:=qqh (show iU (w4.setCell ⟨M,1,none⟩ (.slice A4 (N+nc) c4)) M w.heap.size Ar nr cr (done++(Z++chunk)) A4 (N+nc) c4 done.length told (ck+nc) s ahead from⟨Fh.out.blk.put 1 _,(cy.cj (X:=fun q=>w.heap.size≤q) od.out (fun q hq=>by have:=(aU od.out hq).1;have:=bt.out.1;show w.heap.size≤q;omega)).keep (eI I3.out (aZ.set w4 M 1 _)),kM,I3.out⟩);have H0:=qqh (show LC l O bI M w.heap.size Ar nr cr done rem told (ck+nc) ahead w (w4.setCell ⟨M,1,none⟩ (.slice A4 (N+nc) c4)) from⟨s,[],Z++chunk,A4,N+nc,c4,by rw [List.append_nil,List.append_assoc];exact HF.out,by rw [List.append_nil];exact pR.out,cZ.out⟩);clear cZ pR ej Fh od iH bt HF HN tU;go_loopw [6] (fun _ wr=>LC l O bI M w.heap.size Ar nr cr done rem told (ck+nc) ahead w wr) (fun _ wr=>bI - tH M wr);(case atStart=>exact H0.out);obtain⟨s,d,Z,A,N,c,hF,hp,hb⟩:=hrel;have HF:=qqh hF;have HP:=qqh hp;have HB:=qqh hb;have hN:=hp.len;have hs:=hF.1;have hsz:=hF.2.1;have hd4:(done++d).length≤4000:=(by omega);have U4:=qqh (rq HX.out hb HL.out);have OP:=qqh (NL wr M w.heap.size Ar nr cr (done++d++Z) A N c (done++d).length told (ck+nc) s ahead hp hd4 Wl KZ);have HS:=qqh hp.steps;have HN:=qqh hN;clear hF hp hb hsz hN;obtain⟨x,hx⟩:∃ x,(decide ((done++d).length+ahead<N) && decide (s<8*(ck+nc)+40))=x:=⟨_,rfl⟩;rw [hx]at OP;have OD:=qqh hx;clear hx;cases x
 ·go_wp2_with fail;refine OP.out.mono ?_;rintro e w5 ⟨rfl,q,rfl⟩;have aQ:=below_drewN (Below.refl wr.heap.size wr) q;have iH:=qqh (HP.out.below aQ);have bt:=qqh (HB.out.trans (aZ.below M aQ));clear aQ;go_wp2_with fail;go_ret;exact⟨rfl,s,d,Z,A,N,c,HF.out,iH.out,bt.out⟩
 have Wh:=OD.out;rw [Bool.and_eq_true,decide_eq_true_iff,decide_eq_true_iff]at Wh;obtain⟨hx1,_⟩:=Wh;cases Z with
 | nil=>
  have:=HN.out;rw [List.append_nil]at this;omega
 | cons z Z=>
  have HWE:=qqh (show cH l (done++d++(z::Z++rem)) (done++d).length=cH l (done++d++z::Z) (done++d).length from B5 (fun r hr=>by
   have h1:=HAH.out r hr;have h2:=HN.out;rw [List.length_append]at h2;omega))
  have hle:s<bI:=ju.left (Z:=Z++rem) (by exact HF.out);clear hx1;go_wp2_with fail;refine OP.out.mono ?_;rintro e w5 ⟨rfl,q,rfl⟩;have aQ:=below_drewN (Below.refl wr.heap.size wr) q;have iH:=qqh (HP.out.below aQ);have bt:=qqh (HB.out.trans (aZ.below M aQ));have IQ:=qqh (U4.out.keep (aa.any aQ) (fun _ _=>aO.keep (aa.any aQ)));clear aQ HP HB U4 OP;generalize wr.drewN q=W5 at *;have LV:=qqh (Fx X l Ar nr cr M w.heap.size (done++d) Z rem z bI s told (ck+nc) ahead N c A O W5 xq HX.out bt.out.1 HR.out IQ.out (by omega) HF.out HWE.out iH.out);go_wp2_with fail;refine LV.out.mono ?_;rintro e w6 ⟨rfl,hst⟩;have fk:=qqh (jJ.more bt.out hst);clear hst LV;go_wp2_with fail;refine⟨⟨s+1,fk.out⟩,?_⟩;obtain⟨d2,Z2,A2,N2,c2,_,h2,_⟩:=fk.out;rw [h2.steps,HS.out];omega
end Go.Proofs.YtkggjgeihhialaaGreatDoor
