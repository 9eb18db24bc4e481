/- Here -/
import Derived.Test.YtkggjgeihhialaaGreatDoorZs18
import Derived.Test.YtkggjgeihhialaaGreatDoorZs1
set_option maxHeartbeats 3200000
set_option maxRecDepth 100000
namespace Go.Proofs.YtkggjgeihhialaaGreatDoor
open Go.RowKit
structure cX (r:ax):Prop where
  src:r.source ≠ []
  sets:∀ l∈dA r,l.length≤20∧∀ s∈l,aG s
  tgt:r.target.length≤20∧cC r.target=false
  cur:0≤r.af∧r.af≤r.target.length
theorem DF {r:ax} (h:jX r=0):cX r:=by
 unfold jX at h;by_cases h0:cB ((dA r).map jh)=0
 ·rw [if_neg (by rw [h0];decide)]at h;unfold oq at h;by_cases h1:r.source.length=0
  ·rw [if_pos h1]at h;cases h
  rw [if_neg h1]at h;by_cases h2:20<r.target.length
  ·rw [if_pos h2]at h;cases h
  rw [if_neg h2]at h;by_cases h3:cC r.target=true
  ·rw [if_pos h3]at h;cases h
  rw [if_neg h3]at h;by_cases h4:r.af<0∨(r.target.length:Int)<r.af
  ·rw [if_pos h4]at h;cases h
  refine⟨fun e=>h1 (by rw [e];rfl),fun l hl=>?_,⟨by omega,by simpa using h3⟩,by omega⟩;have hs:=jL h0 (jh l) (List.mem_map.2 ⟨l,hl,rfl⟩);unfold jh at hs;by_cases h20:20<l.length
  ·rw [if_pos h20]at hs;cases hs
  rw [if_neg h20]at hs;exact⟨by omega,fun s wA=>nR (jL hs _ (List.mem_map.2 ⟨s,wA,rfl⟩))⟩
 rw [if_pos h0]at h;exact absurd h h0
def eu (r:ax) (t:List Int) (q:Nat):Bool :=
  kj t q r.source && kj t ((q:Int) - r.before.length) r.before && kj t ((q:Int)+r.source.length) r.after && !(r.start && decide (q≠r.before.length)) && !(r.fin && decide (q+r.source.length+r.after.length≠t.length))
structure rz (w:World) (X:Nat→Prop) (r:ax) (b o:Nat) (A1 A2 A3 A4:Option Addr) (n1 c1 n2 c2 n3 c3 n4 c4:Nat):Prop where
  lt:b<w.heap.size
  d0:w.cell? ⟨b,o,none⟩=some (.bool r.start)
  d1:w.cell? ⟨b,o+1,none⟩=some (.bool r.fin)
  d2:w.cell? ⟨b,o+2,none⟩=some (.slice A1 n1 c1)
  d3:w.cell? ⟨b,o+3,none⟩=some (.slice A2 n2 c2)
  d4:w.cell? ⟨b,o+4,none⟩=some (.slice A3 n3 c3)
  d5:w.cell? ⟨b,o+5,none⟩=some (.slice A4 n4 c4)
  d6:w.cell? ⟨b,o+6,none⟩=some (.int .i64 r.af)
  s1:eU w X r.before (.slice A1 n1 c1)
  s2:eU w X r.source (.slice A2 n2 c2)
  s3:eU w X r.after (.slice A3 n3 c3)
  s4:cy w X 1 A4 n4 (runeCells r.target)
theorem FI {w:World} {X:Nat→Prop} {A:Option Addr} {n:Nat} {l:List ax} (h:bh (aO w X) w X 7 A n l) {k:Nat} {r:ax} (hk:l[k]? = some r) :
    ∃ (b off:Nat) (A1 A2 A3 A4:Option Addr) (n1 c1 n2 c2 n3 c3 n4 c4:Nat),A=some ⟨b,off,none⟩∧X b∧rz w X r b (off+k*7) A1 A2 A3 A4 n1 c1 n2 c2 n3 c3 n4 c4:=by
 obtain⟨b,off,A1,A2,A3,A4,n1,c1,n2,c2,n3,c3,n4,c4,e,hX,hb,⟨d0,d1,d2,d3,d4,d5,d6⟩,s1,s2,s3,s4,_⟩:=lV h hk;exact⟨b,off,A1,A2,A3,A4,n1,c1,n2,c2,n3,c3,n4,c4,e,hX,⟨hb,d0,d1,d2,d3,d4,d5,d6,s1,s2,s3,s4⟩⟩
theorem rz.below {w w':World} {X:Nat→Prop} {r:ax} {b o:Nat} {A1 A2 A3 A4:Option Addr} {n1 c1 n2 c2 n3 c3 n4 c4:Nat} (h:rz w X r b o A1 A2 A3 A4 n1 c1 n2 c2 n3 c3 n4 c4) (hb:Below w.heap.size w w'):rz w' X r b o A1 A2 A3 A4 n1 c1 n2 c2 n3 c3 n4 c4 :=
  have hk:aa w X w' X:=aa.any hb
  have hc:∀ i,w'.cell? ⟨b,i,none⟩=w.cell? ⟨b,i,none⟩:=fun i=>hb.cell (p:=⟨b,i,none⟩) h.lt
  ⟨Nat.lt_of_lt_of_le h.lt hb.size,(hc _).trans h.d0,(hc _).trans h.d1,(hc _).trans h.d2,(hc _).trans h.d3,(hc _).trans h.d4,(hc _).trans h.d5,(hc _).trans h.d6,h.s1.keep hk,h.s2.keep hk,h.s3.keep hk,h.s4.keep hk⟩
theorem eU.list {w:World} {X:Nat→Prop} {l:List ag} {A:Option Addr} {n c:Nat} (h:eU w X l (.slice A n c)):bh (mc w X) w X 1 A n l:=by
 obtain⟨A',n',c',e,h1,_⟩:=h;cases e;exact wg h1
theorem vn {tI:TypeId} {xI recv:Value} {fL fR:FuncId} {T:List Int} {R:World→Prop} (I:FQ tI xI recv fL fR T R) (X:Nat→Prop) (r:ax) (b o:Nat) (A1 A2 A3 A4:Option Addr) (n1 c1 n2 c2 n3 c3 n4 c4:Nat) (q:Nat) (w:World)
    (hT:T.length≤100000) (hq:q≤T.length) (hr:cX r) (ha:rz w X r b o A1 A2 A3 A4 n1 c1 n2 c2 n3 c3 n4 c4) (hR:R w) :
    Calls Tryz.prog 65 #[.pointer (some ⟨b,o,none⟩),.iface tI xI,.int .i64 q] w fun e w'=>e=.returned (.bool (eu r T q))∧Below w.heap.size w w':=by
 have kB:=ha.s1.list.len;have jd:=ha.s2.list.len;have Fl:=ha.s3.list.len;have hs1:=hr.sets r.before (by simp [dA]);have wA:=hr.sets r.source (by simp [dA]);have Pc:=hr.sets r.after (by simp [dA]);have Lt:n1≤20:=(by omega);have hn2:n2≤20:=(by omega);have Sv:n3≤20:=(by omega);have HP:=qqh (show eu r T q=(kj T q r.source && kj T ((q:Int) - n1) r.before && kj T ((q:Int)+n2) r.after && !(r.start && decide (q≠n1)) && !(r.fin && decide (q+n2+n3≠T.length))) by unfold eu;rw [kB,jd,Fl]);have IA:=qqh (fun(W:World) (hb:Below w.heap.size w W)=>qX I q X r.source A2 n2 c2 W (by omega) (by omega) hn2 wA.2 (ha.below hb).s2.list (I.keep _ _ hR hb));have Mm:=qqh (fun(W:World) (hb:Below w.heap.size w W)=>qX I ((q:Int) - n1) X r.before A1 n1 c1 W (by omega) (by omega) Lt hs1.2 (ha.below hb).s1.list (I.keep _ _ hR hb));have Xr:=qqh (fun(W:World) (hb:Below w.heap.size w W)=>qX I ((q:Int)+n2) X r.after A3 n3 c3 W (by omega) (by omega) Sv Pc.2 (ha.below hb).s3.list (I.keep _ _ hR hb));have hwr:IntKind.i64.wrap ((q:Int) - (n1:Int))=(q:Int) - (n1:Int):=(by rw [IntKind.wrap_i64];omega);have HA:=qqh ha;have HI:=qqh I;have HR:=qqh hR;have eL:=I.enterL;have e3:=ha.d3;clear ha hr I hR hs1 wA Pc kB jd Fl;go_enter Tryz.func65,Tryz.ntmps65;go_wp2_with fail;refine(IA.out _ (Below.refl _ _)).mono ?_;rintro e w1 ⟨rfl,aT⟩;have bR:=qqh aT;have e2:=(HA.out.below aT).d2;clear aT e3;cases h1:kj T q r.source
 ·have HF:=qqh (show eu r T q=false by rw [HP.out,h1];simp);clear h1;go_wp2_with fail;go_ret;exact⟨bD HF.out.symm,bR.out⟩
 have wJ:=qqh h1;clear h1;go_upto_region 3 with fail;have OL:=qqh (Mm.out _ (az bR.out));refine av (S:=fun w'=>w'.cell? ⟨b,o+2,none⟩=some (.slice A1 n1 c1)) [5,11] (by kernel_rfl) e2 (fun aX=>?_);refine tq 0 24 ?_;(try simp only [zp,za,z0,zs]);refine tq 1 25 ?_;(try simp only [zp,za,z0,zs]);refine tq 2 26 ?_;(try simp only [zp,za,z0,zs]);refine tq 3 27 ?_;(try simp only [zp,za,z0,zs]);refine tq 4 28 ?_;(try simp only [zp,za,z0,zs]);refine tu 5 29 ?_;(try simp only [zp,za,z0,zs]);refine tq 6 30 ?_;(try simp only [zp,za,z0,zs]);refine tq 7 31 ?_;(try simp only [zp,za,z0,zs]);refine tq 8 32 ?_;(try simp only [zp,za,z0,zs]);refine tq 9 33 ?_;(try simp only [zp,za,z0,zs]);refine tq 10 34 ?_;(try simp only [zp,za,z0,zs]);refine tu 11 35 ?_;(try simp only [zp,za,z0,zs]);refine aA (i:=12) (o:=⟨some 36,_,_,_,_,_⟩) (by kernel_rfl) rfl (by kernel_rfl) (fun K hK=>?_);go_simp;go_at_call 92;refine OL.out.mono ?_;rintro e w2 ⟨rfl,aQ⟩;(try dsimp only);refine hK.out _ _ ?_;clear hK K;(try simp only [zp,za,z0,zs]);refine tq 13 37 ?_;(try simp only [zp,za,z0,zs]);refine tq 14 15 ?_;(try simp only [zp,za,z0,zs]);refine aI (by kernel_rfl) ?_ _;go_simp;have bt:=qqh ((az bR.out).trans (aQ.mono (az bR.out).size));have e4:=(HA.out.below bt.out).d4;clear aQ OL e2;cases h2:kj T ((q:Int) - n1) r.before
 ·have HF:=qqh (show eu r T q=false by rw [HP.out,h2];simp);clear h2;go_wp2_with fail;go_ret;exact⟨bD HF.out.symm,bt.out⟩
 have uz:=qqh h2;clear h2;go_wp2_with fail;refine(Xr.out _ bt.out).mono ?_;rintro e w3 ⟨rfl,bJ⟩;have bN:=qqh (bt.out.trans (bJ.mono bt.out.size));have k0:=(HA.out.below bN.out).d0;have k1:=(HA.out.below bN.out).d1;have k2:=(HA.out.below bN.out).d2;have k4:=(HA.out.below bN.out).d4;clear bJ e4;cases h3:kj T ((q:Int)+n2) r.after
 ·have HF:=qqh (show eu r T q=false by rw [HP.out,h3];simp);clear h3;go_wp2_with fail;go_ret;exact⟨bD HF.out.symm,bN.out⟩
 have iH:=qqh (show eu r T q=(!(r.start && decide (q≠n1)) && !(r.fin && decide (q+n2+n3≠T.length))) by rw [HP.out,wJ.out,uz.out,h3];simp);have wC:=qqh (HI.out.keep _ _ HR.out bN.out);clear h3 Mm IA Xr HP wJ uz;have hst:(r.start=true∧q≠n1)∨(!(r.start && decide (q≠n1)))=true:=by
  cases r.start;exact .inr (by simp);by_cases h:q=n1;exact .inr (by simp [h]);exact .inl ⟨rfl,h⟩
 rcases hst with ⟨hs0,hs1⟩ | hs0
 ·have HF:=qqh (show eu r T q=false by rw [iH.out,hs0];simp [hs1]);have FZ:((q:Int) !=(n1:Int))=true:=(by rw [bne_iff_ne];omega);rw [hs0]at k0;clear hs0;go_wp2_with fail;go_ret;exact⟨bD HF.out.symm,bN.out⟩
 have ic:=qqh (show eu r T q = !(r.fin && decide (q+n2+n3≠T.length)) by rw [iH.out,hs0,Bool.true_and]);have hcs:r.start=false∨(r.start=true∧((q:Int) !=(n1:Int))=false):=by
  cases h:r.start;exact .inl rfl;right;rw [h]at hs0;refine⟨rfl,?_⟩;have h2:q=n1:=(by simpa using hs0);rw [h2];simp
 clear hs0;rcases hcs with hs0 | ⟨hs0,FZ⟩
 ·rw [hs0]at k0;clear hs0;cases hf:r.fin
  ·have HF:=qqh (show eu r T q=true by rw [ic.out,hf];rfl);rw [hf]at k1;clear hf;go_wp2_with fail;go_quiet (fail);go_wp2_with fail;go_ret;exact⟨bD HF.out.symm,below_drewN bN.out nq⟩
  rw [hf]at k1;have TB:=qqh (fun(m:Nat)=>HI.out.len (w3.drewN m) (HI.out.keep _ _ wC.out (below_drewN (Below.refl _ _) m)));have mL:=fun(m:Nat)=>HI.out.ml (w3.drewN m) (HI.out.keep _ _ wC.out (below_drewN (Below.refl _ _) m));have pE:((((q:Int)+(n2:Int))+(n3:Int)) !=(T.length:Int))=decide (q+n2+n3≠T.length):=by
   by_cases h:q+n2+n3=T.length
   ·have h2:(((q:Int)+(n2:Int))+(n3:Int))=(T.length:Int):=(by omega);rw [h2];simp [h]
   have h2:¬(((q:Int)+(n2:Int))+(n3:Int))=(T.length:Int):=(by omega);simp [h,h2]
  cases Dv:decide (q+n2+n3≠T.length)
  ·have HF:=qqh (show eu r T q=true by rw [ic.out,hf,Dv];rfl);rw [Dv]at pE;clear hf Dv;go_wp2_with fail;go_quiet (first | exact Calls.quiet_of (TB.out _));go_wp2_with fail;go_ret;exact⟨bD HF.out.symm,below_drewN bN.out nq⟩
  have HF:=qqh (show eu r T q=false by rw [ic.out,hf,Dv];rfl);rw [Dv]at pE;clear hf Dv;go_wp2_with fail;go_quiet (first | exact Calls.quiet_of (TB.out _));go_wp2_with fail;go_ret;exact⟨bD HF.out.symm,below_drewN bN.out nq⟩
 rw [hs0]at k0;clear hs0;cases hf:r.fin
 ·have HF:=qqh (show eu r T q=true by rw [ic.out,hf];rfl);rw [hf]at k1;clear hf;go_wp2_with fail;go_quiet (fail);go_wp2_with fail;go_ret;exact⟨bD HF.out.symm,below_drewN bN.out nq⟩
 rw [hf]at k1;have TB:=qqh (fun(m:Nat)=>HI.out.len (w3.drewN m) (HI.out.keep _ _ wC.out (below_drewN (Below.refl _ _) m)));have mL:=fun(m:Nat)=>HI.out.ml (w3.drewN m) (HI.out.keep _ _ wC.out (below_drewN (Below.refl _ _) m));have pE:((((q:Int)+(n2:Int))+(n3:Int)) !=(T.length:Int))=decide (q+n2+n3≠T.length):=by
  by_cases h:q+n2+n3=T.length
  ·have h2:(((q:Int)+(n2:Int))+(n3:Int))=(T.length:Int):=(by omega);rw [h2];simp [h]
  have h2:¬(((q:Int)+(n2:Int))+(n3:Int))=(T.length:Int):=(by omega);simp [h,h2]
 cases Dv:decide (q+n2+n3≠T.length)
 ·have HF:=qqh (show eu r T q=true by rw [ic.out,hf,Dv];rfl);rw [Dv]at pE;clear hf Dv;go_wp2_with fail;go_quiet (first | exact Calls.quiet_of (TB.out _));go_wp2_with fail;go_ret;exact⟨bD HF.out.symm,below_drewN bN.out nq⟩
 have HF:=qqh (show eu r T q=false by rw [ic.out,hf,Dv];rfl);rw [Dv]at pE;clear hf Dv;go_wp2_with fail;go_quiet (first | exact Calls.quiet_of (TB.out _));go_wp2_with fail;go_ret;exact⟨bD HF.out.symm,below_drewN bN.out nq⟩
end Go.Proofs.YtkggjgeihhialaaGreatDoor
