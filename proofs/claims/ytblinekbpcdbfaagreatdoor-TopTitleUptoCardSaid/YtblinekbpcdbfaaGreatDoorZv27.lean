/- Here -/
import Derived.Test.YtblinekbpcdbfaaGreatDoorZv17
import Derived.Test.YtblinekbpcdbfaaGreatDoorZv2
set_option maxHeartbeats 3200000
set_option maxRecDepth 100000
namespace Go.Proofs.YtblinekbpcdbfaaGreatDoor
open Go.RowKit
structure gH (r:aB):Prop where
  src:r.source ≠ []
  sets:∀ l∈eE r,l.length≤20∧∀ s∈l,aH s
  tgt:r.target.length≤20∧cI r.target=false
  cur:0≤r.af∧r.af≤r.target.length
theorem Fj {r:aB} (h:kT r=0):gH r:=by
 unfold kT at h;by_cases h0:cz ((eE r).map jw)=0
 ·rw [if_neg (by rw [h0];decide)]at h;unfold pL at h;by_cases h1:r.source.length=0
  ·rw [if_pos h1]at h;cases h
  rw [if_neg h1]at h;by_cases h2:20<r.target.length
  ·rw [if_pos h2]at h;cases h
  rw [if_neg h2]at h;by_cases h3:cI r.target=true
  ·rw [if_pos h3]at h;cases h
  rw [if_neg h3]at h;by_cases h4:r.af<0∨(r.target.length:Int)<r.af
  ·rw [if_pos h4]at h;cases h
  refine⟨fun e=>h1 (by rw [e];rfl),fun l hl=>?_,⟨by omega,by simpa using h3⟩,by omega⟩;have hs:=j4 h0 (jw l) (List.mem_map.2 ⟨l,hl,rfl⟩);unfold jw at hs;by_cases h20:20<l.length
  ·rw [if_pos h20]at hs;cases hs
  rw [if_neg h20]at hs;exact⟨by omega,fun s uL=>mB (j4 hs _ (List.mem_map.2 ⟨s,uL,rfl⟩))⟩
 rw [if_pos h0]at h;exact absurd h h0
def fW (r:aB) (t:List Int) (q:Nat):Bool :=
  mD t q r.source && mD t ((q:Int) - r.before.length) r.before && mD t ((q:Int)+r.source.length) r.after && !(r.start && decide (q≠r.before.length)) && !(r.fin && decide (q+r.source.length+r.after.length≠t.length))
structure wH (w:World) (X:Nat→Prop) (r:aB) (b o:Nat) (A1 A2 A3 A4:Option Addr) (n1 c1 n2 c2 n3 c3 n4 c4:Nat):Prop where
  lt:b<w.heap.size
  d0:w.cell? ⟨b,o,none⟩=some (.bool r.start)
  d1:w.cell? ⟨b,o+1,none⟩=some (.bool r.fin)
  d2:w.cell? ⟨b,o+2,none⟩=some (.slice A1 n1 c1)
  d3:w.cell? ⟨b,o+3,none⟩=some (.slice A2 n2 c2)
  d4:w.cell? ⟨b,o+4,none⟩=some (.slice A3 n3 c3)
  d5:w.cell? ⟨b,o+5,none⟩=some (.slice A4 n4 c4)
  d6:w.cell? ⟨b,o+6,none⟩=some (.int .i64 r.af)
  s1:gO w X r.before (.slice A1 n1 c1)
  s2:gO w X r.source (.slice A2 n2 c2)
  s3:gO w X r.after (.slice A3 n3 c3)
  s4:cV w X 1 A4 n4 (runeCells r.target)
theorem GL {w:World} {X:Nat→Prop} {A:Option Addr} {n:Nat} {l:List aB} (h:ck (bC w X) w X 7 A n l) {k:Nat} {r:aB} (hk:l[k]? = some r) :
    ∃ (b off:Nat) (A1 A2 A3 A4:Option Addr) (n1 c1 n2 c2 n3 c3 n4 c4:Nat),A=some ⟨b,off,none⟩∧X b∧wH w X r b (off+k*7) A1 A2 A3 A4 n1 c1 n2 c2 n3 c3 n4 c4:=by
 obtain⟨b,off,A1,A2,A3,A4,n1,c1,n2,c2,n3,c3,n4,c4,e,hX,hb,⟨d0,d1,d2,d3,d4,d5,d6⟩,s1,s2,s3,s4,_⟩:=uS h hk;exact⟨b,off,A1,A2,A3,A4,n1,c1,n2,c2,n3,c3,n4,c4,e,hX,⟨hb,d0,d1,d2,d3,d4,d5,d6,s1,s2,s3,s4⟩⟩
theorem wH.below {w w':World} {X:Nat→Prop} {r:aB} {b o:Nat} {A1 A2 A3 A4:Option Addr} {n1 c1 n2 c2 n3 c3 n4 c4:Nat} (h:wH w X r b o A1 A2 A3 A4 n1 c1 n2 c2 n3 c3 n4 c4) (hb:Below w.heap.size w w'):wH w' X r b o A1 A2 A3 A4 n1 c1 n2 c2 n3 c3 n4 c4 :=
  have hk:ag w X w' X:=ag.any hb
  have hc:∀ i,w'.cell? ⟨b,i,none⟩=w.cell? ⟨b,i,none⟩:=fun i=>hb.cell (p:=⟨b,i,none⟩) h.lt
  ⟨Nat.lt_of_lt_of_le h.lt hb.size,(hc _).trans h.d0,(hc _).trans h.d1,(hc _).trans h.d2,(hc _).trans h.d3,(hc _).trans h.d4,(hc _).trans h.d5,(hc _).trans h.d6,h.s1.keep hk,h.s2.keep hk,h.s3.keep hk,h.s4.keep hk⟩
theorem gO.list {w:World} {X:Nat→Prop} {l:List aa} {A:Option Addr} {n c:Nat} (h:gO w X l (.slice A n c)):ck (nS w X) w X 1 A n l:=by
 obtain⟨A',n',c',e,h1,_⟩:=h;cases e;exact h1
theorem Ey {tI:TypeId} {xI recv:Value} {fL fR:FuncId} {T:List Int} {R:World→Prop} (I:Mz tI xI recv fL fR T R) (X:Nat→Prop) (r:aB) (b o:Nat) (A1 A2 A3 A4:Option Addr) (n1 c1 n2 c2 n3 c3 n4 c4:Nat) (q:Nat) (w:World)
    (hT:T.length≤100000) (hq:q≤T.length) (hr:gH r) (ha:wH w X r b o A1 A2 A3 A4 n1 c1 n2 c2 n3 c3 n4 c4) (hR:R w) :
    Calls Tryz.prog 166 #[.pointer (some ⟨b,o,none⟩),.iface tI xI,.int .i64 q] w fun e w'=>e=.returned (.bool (fW r T q))∧Below w.heap.size w w':=by
 have mJ:=ha.s1.list.len;have jc:=ha.s2.list.len;have Tt:=ha.s3.list.len;have hs1:=hr.sets r.before (by simp [eE]);have uL:=hr.sets r.source (by simp [eE]);have QF:=hr.sets r.after (by simp [eE]);have Sd:n1≤20:=(by omega);have hn2:n2≤20:=(by omega);have RM:n3≤20:=(by omega);have HP:=qqh (show fW r T q=(mD T q r.source && mD T ((q:Int) - n1) r.before && mD T ((q:Int)+n2) r.after && !(r.start && decide (q≠n1)) && !(r.fin && decide (q+n2+n3≠T.length))) by unfold fW;rw [mJ,jc,Tt]);have Ol:=qqh (fun(W:World) (hb:Below w.heap.size w W)=>sM I q X r.source A2 n2 c2 W (by omega) (by omega) hn2 uL.2 (ha.below hb).s2.list (I.keep _ _ hR hb));have E6:=qqh (fun(W:World) (hb:Below w.heap.size w W)=>sM I ((q:Int) - n1) X r.before A1 n1 c1 W (by omega) (by omega) Sd hs1.2 (ha.below hb).s1.list (I.keep _ _ hR hb));have Kb:=qqh (fun(W:World) (hb:Below w.heap.size w W)=>sM I ((q:Int)+n2) X r.after A3 n3 c3 W (by omega) (by omega) RM QF.2 (ha.below hb).s3.list (I.keep _ _ hR hb));have hwr:IntKind.i64.wrap ((q:Int) - (n1:Int))=(q:Int) - (n1:Int):=(by rw [IntKind.wrap_i64];omega);have HA:=qqh ha;have HI:=qqh I;have HR:=qqh hR;have eL:=I.enterL;have e3:=ha.d3;clear ha hr I hR hs1 uL QF mJ jc Tt;go_enter Tryz.func166,Tryz.ntmps166;go_wp2_with fail;refine(Ol.out _ qqb).mono ?_;rintro e w1 ⟨rfl,aT⟩;have bJ:=qqh aT;have e2:=(HA.out.below aT).d2;clear aT e3;cases h1:mD T q r.source
 ·have HF:=qqh (show fW r T q=false by rw [HP.out,h1];simp);clear h1;go_wp2_with fail;go_ret;exact⟨bH HF.out.symm,bJ.out⟩
 have xW:=qqh h1;clear h1;go_upto_region 3 with fail;have Tc:=qqh (E6.out _ (aE bJ.out));refine ay (S:=fun w'=>w'.cell? ⟨b,o+2,none⟩=some (.slice A1 n1 c1)) [5,11] (by kernel_rfl) e2 (fun aU=>?_);refine tq 0 24 ?_;(try simp only [zp,za,z0,zs]);refine tq 1 25 ?_;(try simp only [zp,za,z0,zs]);refine tq 2 26 ?_;(try simp only [zp,za,z0,zs]);refine tq 3 27 ?_;(try simp only [zp,za,z0,zs]);refine tq 4 28 ?_;(try simp only [zp,za,z0,zs]);refine tu 5 29 ?_;(try simp only [zp,za,z0,zs]);refine tq 6 30 ?_;(try simp only [zp,za,z0,zs]);refine tq 7 31 ?_;(try simp only [zp,za,z0,zs]);refine tq 8 32 ?_;(try simp only [zp,za,z0,zs]);refine tq 9 33 ?_;(try simp only [zp,za,z0,zs]);refine tq 10 34 ?_;(try simp only [zp,za,z0,zs]);refine tu 11 35 ?_;(try simp only [zp,za,z0,zs]);refine aC (i:=12) (o:=⟨some 36,_,_,_,_,_⟩) (by kernel_rfl) rfl (by kernel_rfl) (fun K hK=>?_);go_simp;go_at_call 188;refine Tc.out.mono ?_;rintro e w2 ⟨rfl,aX⟩;(try dsimp only);refine hK.out _ _ ?_;clear hK K;(try simp only [zp,za,z0,zs]);refine tq 13 37 ?_;(try simp only [zp,za,z0,zs]);refine tq 14 15 ?_;(try simp only [zp,za,z0,zs]);refine aK (by kernel_rfl) ?_ _;go_simp;have bL:=qqh ((aE bJ.out).trans (aX.mono (aE bJ.out).size));have e4:=(HA.out.below bL.out).d4;clear aX Tc e2;cases h2:mD T ((q:Int) - n1) r.before
 ·have HF:=qqh (show fW r T q=false by rw [HP.out,h2];simp);clear h2;go_wp2_with fail;go_ret;exact⟨bH HF.out.symm,bL.out⟩
 have wF:=qqh h2;clear h2;go_wp2_with fail;refine(Kb.out _ bL.out).mono ?_;rintro e w3 ⟨rfl,bP⟩;have bM:=qqh (bL.out.trans (bP.mono bL.out.size));have k0:=(HA.out.below bM.out).d0;have k1:=(HA.out.below bM.out).d1;have k2:=(HA.out.below bM.out).d2;have k4:=(HA.out.below bM.out).d4;clear bP e4;cases h3:mD T ((q:Int)+n2) r.after
 ·have HF:=qqh (show fW r T q=false by rw [HP.out,h3];simp);clear h3;go_wp2_with fail;go_ret;exact⟨bH HF.out.symm,bM.out⟩
 have oF:=qqh (show fW r T q=(!(r.start && decide (q≠n1)) && !(r.fin && decide (q+n2+n3≠T.length))) by rw [HP.out,xW.out,wF.out,h3];simp);have Br:=qqh (HI.out.keep _ _ HR.out bM.out);clear h3 E6 Ol Kb HP xW wF;have hst:(r.start=true∧q≠n1)∨(!(r.start && decide (q≠n1)))=true:=by
  cases r.start;exact .inr (by simp);by_cases h:q=n1;exact .inr (by simp [h]);exact .inl ⟨rfl,h⟩
 rcases hst with ⟨hs0,hs1⟩ | hs0
 ·have HF:=qqh (show fW r T q=false by rw [oF.out,hs0];simp [hs1]);have Ka:((q:Int) !=(n1:Int))=true:=(by rw [bne_iff_ne];omega);rw [hs0]at k0;clear hs0;go_wp2_with fail;go_ret;exact⟨bH HF.out.symm,bM.out⟩
 have iX:=qqh (show fW r T q = !(r.fin && decide (q+n2+n3≠T.length)) by rw [oF.out,hs0,Bool.true_and]);have hcs:r.start=false∨(r.start=true∧((q:Int) !=(n1:Int))=false):=by
  cases h:r.start;exact .inl rfl;right;rw [h]at hs0;refine⟨rfl,?_⟩;have h2:q=n1:=(by simpa using hs0);rw [h2];simp
 clear hs0;rcases hcs with hs0 | ⟨hs0,Ka⟩
 ·rw [hs0]at k0;clear hs0;cases hf:r.fin
  ·have HF:=qqh (show fW r T q=true by rw [iX.out,hf];rfl);rw [hf]at k1;clear hf;go_wp2_with fail;go_quiet (fail);go_wp2_with fail;go_ret;exact⟨bH HF.out.symm,below_drewN bM.out nq⟩
  rw [hf]at k1;have Vb:=qqh (fun(m:Nat)=>HI.out.len (w3.drewN m) (HI.out.keep _ _ Br.out (below_drewN qqb m)));have mL:=fun(m:Nat)=>HI.out.ml (w3.drewN m) (HI.out.keep _ _ Br.out (below_drewN qqb m));have uN:((((q:Int)+(n2:Int))+(n3:Int)) !=(T.length:Int))=decide (q+n2+n3≠T.length):=by
   by_cases h:q+n2+n3=T.length
   ·have h2:(((q:Int)+(n2:Int))+(n3:Int))=(T.length:Int):=(by omega);rw [h2];simp [h]
   have h2:¬(((q:Int)+(n2:Int))+(n3:Int))=(T.length:Int):=(by omega);simp [h,h2]
  cases Gp:decide (q+n2+n3≠T.length)
  ·have HF:=qqh (show fW r T q=true by rw [iX.out,hf,Gp];rfl);rw [Gp]at uN;clear hf Gp;go_wp2_with fail;go_quiet (first | exact Calls.quiet_of (Vb.out _));go_wp2_with fail;go_ret;exact⟨bH HF.out.symm,below_drewN bM.out nq⟩
  have HF:=qqh (show fW r T q=false by rw [iX.out,hf,Gp];rfl);rw [Gp]at uN;clear hf Gp;go_wp2_with fail;go_quiet (first | exact Calls.quiet_of (Vb.out _));go_wp2_with fail;go_ret;exact⟨bH HF.out.symm,below_drewN bM.out nq⟩
 rw [hs0]at k0;clear hs0;cases hf:r.fin
 ·have HF:=qqh (show fW r T q=true by rw [iX.out,hf];rfl);rw [hf]at k1;clear hf;go_wp2_with fail;go_quiet (fail);go_wp2_with fail;go_ret;exact⟨bH HF.out.symm,below_drewN bM.out nq⟩
 rw [hf]at k1;have Vb:=qqh (fun(m:Nat)=>HI.out.len (w3.drewN m) (HI.out.keep _ _ Br.out (below_drewN qqb m)));have mL:=fun(m:Nat)=>HI.out.ml (w3.drewN m) (HI.out.keep _ _ Br.out (below_drewN qqb m));have uN:((((q:Int)+(n2:Int))+(n3:Int)) !=(T.length:Int))=decide (q+n2+n3≠T.length):=by
  by_cases h:q+n2+n3=T.length
  ·have h2:(((q:Int)+(n2:Int))+(n3:Int))=(T.length:Int):=(by omega);rw [h2];simp [h]
  have h2:¬(((q:Int)+(n2:Int))+(n3:Int))=(T.length:Int):=(by omega);simp [h,h2]
 cases Gp:decide (q+n2+n3≠T.length)
 ·have HF:=qqh (show fW r T q=true by rw [iX.out,hf,Gp];rfl);rw [Gp]at uN;clear hf Gp;go_wp2_with fail;go_quiet (first | exact Calls.quiet_of (Vb.out _));go_wp2_with fail;go_ret;exact⟨bH HF.out.symm,below_drewN bM.out nq⟩
 have HF:=qqh (show fW r T q=false by rw [iX.out,hf,Gp];rfl);rw [Gp]at uN;clear hf Gp;go_wp2_with fail;go_quiet (first | exact Calls.quiet_of (Vb.out _));go_wp2_with fail;go_ret;exact⟨bH HF.out.symm,below_drewN bM.out nq⟩
end Go.Proofs.YtblinekbpcdbfaaGreatDoor
