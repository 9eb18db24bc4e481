/- Here -/
import Derived.Test.YtapechjebkjidaaGreatDoorZs18
import Derived.Test.YtapechjebkjidaaGreatDoorZs0
set_option maxHeartbeats 3200000
set_option maxRecDepth 100000
namespace Go.Proofs.YtapechjebkjidaaGreatDoor
open Go.RowKit
structure gS (r:au):Prop where
  src:r.source ≠ []
  sets:∀ l∈eI r,l.length≤20∧∀ s∈l,aJ s
  tgt:r.target.length≤20∧dh r.target=false
  cur:0≤r.aa∧r.aa≤r.target.length
theorem H8 {r:au} (h:kZ r=0):gS r:=by
 unfold kZ at h;by_cases h0:cF ((eI r).map jC)=0
 ·rw [if_neg (by rw [h0];decide)]at h;unfold qf at h;by_cases h1:r.source.length=0
  ·rw [if_pos h1]at h;cases h
  rw [if_neg h1]at h;by_cases h2:20<r.target.length
  ·rw [if_pos h2]at h;cases h
  rw [if_neg h2]at h;by_cases h3:dh r.target=true
  ·rw [if_pos h3]at h;cases h
  rw [if_neg h3]at h;by_cases h4:r.aa<0∨(r.target.length:Int)<r.aa
  ·rw [if_pos h4]at h;cases h
  refine⟨fun e=>h1 (by rw [e];rfl),fun l hl=>?_,⟨by omega,by simpa using h3⟩,by omega⟩;have hs:=ke h0 (jC l) (List.mem_map.2 ⟨l,hl,rfl⟩);unfold jC at hs;by_cases h20:20<l.length
  ·rw [if_pos h20]at hs;cases hs
  rw [if_neg h20]at hs;exact⟨by omega,fun s nN=>oZ (ke hs _ (List.mem_map.2 ⟨s,nN,rfl⟩))⟩
 rw [if_pos h0]at h;exact absurd h h0
def bU (r:au) (t:List Int) (q:Nat):Bool :=
  jl t q r.source && jl t ((q:Int) - r.before.length) r.before && jl t ((q:Int)+r.source.length) r.after && !(r.start && decide (q≠r.before.length)) && !(r.fin && decide (q+r.source.length+r.after.length≠t.length))
structure yf (w:World) (X:Nat→Prop) (r:au) (b o:Nat) (A1 A2 A3 A4:Option Addr) (n1 c1 n2 c2 n3 c3 n4 c4:Nat):Prop where
  lt:b<w.heap.size
  d0:w.cell? ⟨b,o,none⟩=some (.bool r.start)
  d1:w.cell? ⟨b,o+1,none⟩=some (.bool r.fin)
  d2:w.cell? ⟨b,o+2,none⟩=some (.slice A1 n1 c1)
  d3:w.cell? ⟨b,o+3,none⟩=some (.slice A2 n2 c2)
  d4:w.cell? ⟨b,o+4,none⟩=some (.slice A3 n3 c3)
  d5:w.cell? ⟨b,o+5,none⟩=some (.slice A4 n4 c4)
  d6:w.cell? ⟨b,o+6,none⟩=some (.int .i64 r.aa)
  s1:gj w X r.before (.slice A1 n1 c1)
  s2:gj w X r.source (.slice A2 n2 c2)
  s3:gj w X r.after (.slice A3 n3 c3)
  s4:di w X 1 A4 n4 (runeCells r.target)
theorem IW {w:World} {X:Nat→Prop} {A:Option Addr} {n:Nat} {l:List au} (h:cm (bE w X) w X 7 A n l) {k:Nat} {r:au} (hk:l[k]? = some r) :
    ∃ (b off:Nat) (A1 A2 A3 A4:Option Addr) (n1 c1 n2 c2 n3 c3 n4 c4:Nat),A=some ⟨b,off,none⟩∧X b∧yf w X r b (off+k*7) A1 A2 A3 A4 n1 c1 n2 c2 n3 c3 n4 c4:=by
 obtain⟨b,off,A1,A2,A3,A4,n1,c1,n2,c2,n3,c3,n4,c4,e,hX,hb,⟨d0,d1,d2,d3,d4,d5,d6⟩,s1,s2,s3,s4,_⟩:=vZ h hk;exact⟨b,off,A1,A2,A3,A4,n1,c1,n2,c2,n3,c3,n4,c4,e,hX,⟨hb,d0,d1,d2,d3,d4,d5,d6,s1,s2,s3,s4⟩⟩
theorem yf.below {w w':World} {X:Nat→Prop} {r:au} {b o:Nat} {A1 A2 A3 A4:Option Addr} {n1 c1 n2 c2 n3 c3 n4 c4:Nat} (h:yf w X r b o A1 A2 A3 A4 n1 c1 n2 c2 n3 c3 n4 c4) (hb:Below w.heap.size w w'):yf w' X r b o A1 A2 A3 A4 n1 c1 n2 c2 n3 c3 n4 c4 :=
  have hk:ag w X w' X:=ag.any hb
  have hc:∀ i,w'.cell? ⟨b,i,none⟩=w.cell? ⟨b,i,none⟩:=fun i=>hb.cell (p:=⟨b,i,none⟩) h.lt
  ⟨Nat.lt_of_lt_of_le h.lt hb.size,(hc _).trans h.d0,(hc _).trans h.d1,(hc _).trans h.d2,(hc _).trans h.d3,(hc _).trans h.d4,(hc _).trans h.d5,(hc _).trans h.d6,h.s1.keep hk,h.s2.keep hk,h.s3.keep hk,h.s4.keep hk⟩
theorem gj.list {w:World} {X:Nat→Prop} {l:List af} {A:Option Addr} {n c:Nat} (h:gj w X l (.slice A n c)):cm (mV w X) w X 1 A n l:=by
 obtain⟨A',n',c',e,h1,_⟩:=h;cases e;exact h1
theorem GY {tI:TypeId} {xI recv:Value} {fL fR:FuncId} {T:List Int} {R:World→Prop} (I:Mg tI xI recv fL fR T R) (X:Nat→Prop) (r:au) (b o:Nat) (A1 A2 A3 A4:Option Addr) (n1 c1 n2 c2 n3 c3 n4 c4:Nat) (q:Nat) (w:World)
    (hT:T.length≤100000) (hq:q≤T.length) (hr:gS r) (ha:yf w X r b o A1 A2 A3 A4 n1 c1 n2 c2 n3 c3 n4 c4) (hR:R w) :
    Calls Tryz.prog 164 #[.pointer (some ⟨b,o,none⟩),.iface tI xI,.int .i64 q] w fun e w'=>e=.returned (.bool (bU r T q))∧Below w.heap.size w w':=by
 have nV:=ha.s1.list.len;have jR:=ha.s2.list.len;have TD:=ha.s3.list.len;have hs1:=hr.sets r.before (by simp [eI]);have nN:=hr.sets r.source (by simp [eI]);have NT:=hr.sets r.after (by simp [eI]);have PE:n1≤20:=(by omega);have hn2:n2≤20:=(by omega);have UD:n3≤20:=(by omega);have HP:=Lib.hid (show bU r T q=(jl T q r.source && jl T ((q:Int) - n1) r.before && jl T ((q:Int)+n2) r.after && !(r.start && decide (q≠n1)) && !(r.fin && decide (q+n2+n3≠T.length))) by unfold bU;rw [nV,jR,TD]);have RE:=Lib.hid (fun(W:World) (hb:Below w.heap.size w W)=>tT I q X r.source A2 n2 c2 W (by omega) (by omega) hn2 nN.2 (ha.below hb).s2.list (I.keep _ _ hR hb));have IM:=Lib.hid (fun(W:World) (hb:Below w.heap.size w W)=>tT I ((q:Int) - n1) X r.before A1 n1 c1 W (by omega) (by omega) PE hs1.2 (ha.below hb).s1.list (I.keep _ _ hR hb));have RK:=Lib.hid (fun(W:World) (hb:Below w.heap.size w W)=>tT I ((q:Int)+n2) X r.after A3 n3 c3 W (by omega) (by omega) UD NT.2 (ha.below hb).s3.list (I.keep _ _ hR hb));have hwr:IntKind.i64.wrap ((q:Int) - (n1:Int))=(q:Int) - (n1:Int):=(by rw [IntKind.wrap_i64];omega);have HA:=Lib.hid ha;have HI:=Lib.hid I;have HR:=Lib.hid hR;have eL:=I.enterL;have e3:=ha.d3;clear ha hr I hR hs1 nN NT nV jR TD;go_enter Tryz.func164,Tryz.ntmps164;go_wp2_with fail;refine(RE.out _ (Below.refl _ _)).mono ?_;rintro e w1 ⟨rfl,aT⟩;have bT:=Lib.hid aT;have e2:=(HA.out.below aT).d2;clear aT e3;cases h1:jl T q r.source
 ·have HF:=Lib.hid (show bU r T q=false by rw [HP.out,h1];simp);clear h1;go_wp2_with fail;go_ret;exact⟨bI HF.out.symm,bT.out⟩
 have yM:=Lib.hid h1;clear h1;go_upto_region 3 with fail;have Ww:=Lib.hid (IM.out _ (aE bT.out));refine aB (S:=fun w'=>w'.cell? ⟨b,o+2,none⟩=some (.slice A1 n1 c1)) [5,11] (by kernel_rfl) e2 (fun bt=>?_);apply tp 0 24 rfl (by kernel_rfl) (fun _ _ _ h=>h) (by rfl)
 ·intro wq _;go_simp;(try with_reducible rfl)
 (try simp only [zp,za,z0,zs]);apply tp 1 25 rfl (by kernel_rfl) (fun _ _ _ h=>h) (by rfl)
 ·intro wq _;go_simp;(try with_reducible rfl)
 (try simp only [zp,za,z0,zs]);apply tp 2 26 rfl (by kernel_rfl) (fun _ _ _ h=>h) (by rfl)
 ·intro wq _;go_simp;(try with_reducible rfl)
 (try simp only [zp,za,z0,zs]);apply tp 3 27 rfl (by kernel_rfl) (fun _ _ _ h=>h) (by rfl)
 ·intro wq _;go_simp;(try with_reducible rfl)
 (try simp only [zp,za,z0,zs]);apply tp 4 28 rfl (by kernel_rfl) (fun _ _ _ h=>h) (by rfl)
 ·intro wq _;go_simp;(try with_reducible rfl)
 (try simp only [zp,za,z0,zs]);apply tt 5 29 rfl (by kernel_rfl) (fun _ _ _ h=>h) (by rfl) (by assumption)
 ·intro wq bR;(try dsimp only at bR);go_simp;(try with_reducible rfl)
 (try simp only [zp,za,z0,zs]);apply tp 6 30 rfl (by kernel_rfl) (fun _ _ _ h=>h) (by rfl)
 ·intro wq _;go_simp;(try with_reducible rfl)
 (try simp only [zp,za,z0,zs]);apply tp 7 31 rfl (by kernel_rfl) (fun _ _ _ h=>h) (by rfl)
 ·intro wq _;go_simp;(try with_reducible rfl)
 (try simp only [zp,za,z0,zs]);apply tp 8 32 rfl (by kernel_rfl) (fun _ _ _ h=>h) (by rfl)
 ·intro wq _;go_simp;(try with_reducible rfl)
 (try simp only [zp,za,z0,zs]);apply tp 9 33 rfl (by kernel_rfl) (fun _ _ _ h=>h) (by rfl)
 ·intro wq _;go_simp;(try with_reducible rfl)
 (try simp only [zp,za,z0,zs]);apply tp 10 34 rfl (by kernel_rfl) (fun _ _ _ h=>h) (by rfl)
 ·intro wq _;go_simp;(try with_reducible rfl)
 (try simp only [zp,za,z0,zs]);apply tt 11 35 rfl (by kernel_rfl) (fun _ _ _ h=>h) (by rfl) (by assumption)
 ·intro wq bR;(try dsimp only at bR);go_simp;(try with_reducible rfl)
 (try simp only [zp,za,z0,zs]);refine aD (i:=12) (o:=⟨some 36,_,_,_,_,_⟩) (by kernel_rfl) rfl (by kernel_rfl) (fun K hK=>?_);go_simp;go_at_call 190;refine Ww.out.mono ?_;rintro e w2 ⟨rfl,aL⟩;(try dsimp only);refine hK.out _ _ ?_;clear hK K;(try simp only [zp,za,z0,zs]);apply tp 13 37 rfl (by kernel_rfl) (fun _ _ _ h=>h) (by rfl)
 ·intro wq _;go_simp;(try with_reducible rfl)
 (try simp only [zp,za,z0,zs]);apply tp 14 15 rfl (by kernel_rfl) (fun _ _ _ h=>h) (by rfl)
 ·intro wq _;go_simp;(try with_reducible rfl)
 (try simp only [zp,za,z0,zs]);refine aN (by kernel_rfl) ?_ _;go_simp;have aW:=Lib.hid ((aE bT.out).trans (aL.mono (aE bT.out).size));have e4:=(HA.out.below aW.out).d4;clear aL Ww e2;cases h2:jl T ((q:Int) - n1) r.before
 ·have HF:=Lib.hid (show bU r T q=false by rw [HP.out,h2];simp);clear h2;go_wp2_with fail;go_ret;exact⟨bI HF.out.symm,aW.out⟩
 have ym:=Lib.hid h2;clear h2;go_wp2_with fail;refine(RK.out _ aW.out).mono ?_;rintro e w3 ⟨rfl,bQ⟩;have bW:=Lib.hid (aW.out.trans (bQ.mono aW.out.size));have k0:=(HA.out.below bW.out).d0;have k1:=(HA.out.below bW.out).d1;have k2:=(HA.out.below bW.out).d2;have k4:=(HA.out.below bW.out).d4;clear bQ e4;cases h3:jl T ((q:Int)+n2) r.after
 ·have HF:=Lib.hid (show bU r T q=false by rw [HP.out,h3];simp);clear h3;go_wp2_with fail;go_ret;exact⟨bI HF.out.symm,bW.out⟩
 have oS:=Lib.hid (show bU r T q=(!(r.start && decide (q≠n1)) && !(r.fin && decide (q+n2+n3≠T.length))) by rw [HP.out,yM.out,ym.out,h3];simp);have Be:=Lib.hid (HI.out.keep _ _ HR.out bW.out);clear h3 IM RE RK HP yM ym;have hst:(r.start=true∧q≠n1)∨(!(r.start && decide (q≠n1)))=true:=by
  cases r.start;exact .inr (by simp);by_cases h:q=n1;exact .inr (by simp [h]);exact .inl ⟨rfl,h⟩
 rcases hst with ⟨hs0,hs1⟩ | hs0
 ·have HF:=Lib.hid (show bU r T q=false by rw [oS.out,hs0];simp [hs1]);have Kn:((q:Int) !=(n1:Int))=true:=(by rw [bne_iff_ne];omega);rw [hs0]at k0;clear hs0;go_wp2_with fail;go_ret;exact⟨bI HF.out.symm,bW.out⟩
 have jP:=Lib.hid (show bU r T q = !(r.fin && decide (q+n2+n3≠T.length)) by rw [oS.out,hs0,Bool.true_and]);have hcs:r.start=false∨(r.start=true∧((q:Int) !=(n1:Int))=false):=by
  cases h:r.start;exact .inl rfl;right;rw [h]at hs0;refine⟨rfl,?_⟩;have h2:q=n1:=(by simpa using hs0);rw [h2];simp
 clear hs0;rcases hcs with hs0 | ⟨hs0,Kn⟩
 ·rw [hs0]at k0;clear hs0;cases hf:r.fin
  ·have HF:=Lib.hid (show bU r T q=true by rw [jP.out,hf];rfl);rw [hf]at k1;clear hf;go_wp2_with fail;go_quiet (fail);go_wp2_with fail;go_ret;exact⟨bI HF.out.symm,below_drewN bW.out nq⟩
  rw [hf]at k1;have Vq:=Lib.hid (fun(m:Nat)=>HI.out.len (w3.drewN m) (HI.out.keep _ _ Be.out (below_drewN (Below.refl _ _) m)));have mL:=fun(m:Nat)=>HI.out.ml (w3.drewN m) (HI.out.keep _ _ Be.out (below_drewN (Below.refl _ _) m));have wA:((((q:Int)+(n2:Int))+(n3:Int)) !=(T.length:Int))=decide (q+n2+n3≠T.length):=by
   by_cases h:q+n2+n3=T.length
   ·have h2:(((q:Int)+(n2:Int))+(n3:Int))=(T.length:Int):=(by omega);rw [h2];simp [h]
   have h2:¬(((q:Int)+(n2:Int))+(n3:Int))=(T.length:Int):=(by omega);simp [h,h2]
  cases Hv:decide (q+n2+n3≠T.length)
  ·have HF:=Lib.hid (show bU r T q=true by rw [jP.out,hf,Hv];rfl);rw [Hv]at wA;clear hf Hv;go_wp2_with fail;go_quiet (first | exact Calls.quiet_of (Vq.out _));go_wp2_with fail;go_ret;exact⟨bI HF.out.symm,below_drewN bW.out nq⟩
  have HF:=Lib.hid (show bU r T q=false by rw [jP.out,hf,Hv];rfl);rw [Hv]at wA;clear hf Hv;go_wp2_with fail;go_quiet (first | exact Calls.quiet_of (Vq.out _));go_wp2_with fail;go_ret;exact⟨bI HF.out.symm,below_drewN bW.out nq⟩
 rw [hs0]at k0;clear hs0;cases hf:r.fin
 ·have HF:=Lib.hid (show bU r T q=true by rw [jP.out,hf];rfl);rw [hf]at k1;clear hf;go_wp2_with fail;go_quiet (fail);go_wp2_with fail;go_ret;exact⟨bI HF.out.symm,below_drewN bW.out nq⟩
 rw [hf]at k1;have Vq:=Lib.hid (fun(m:Nat)=>HI.out.len (w3.drewN m) (HI.out.keep _ _ Be.out (below_drewN (Below.refl _ _) m)));have mL:=fun(m:Nat)=>HI.out.ml (w3.drewN m) (HI.out.keep _ _ Be.out (below_drewN (Below.refl _ _) m));have wA:((((q:Int)+(n2:Int))+(n3:Int)) !=(T.length:Int))=decide (q+n2+n3≠T.length):=by
  by_cases h:q+n2+n3=T.length
  ·have h2:(((q:Int)+(n2:Int))+(n3:Int))=(T.length:Int):=(by omega);rw [h2];simp [h]
  have h2:¬(((q:Int)+(n2:Int))+(n3:Int))=(T.length:Int):=(by omega);simp [h,h2]
 cases Hv:decide (q+n2+n3≠T.length)
 ·have HF:=Lib.hid (show bU r T q=true by rw [jP.out,hf,Hv];rfl);rw [Hv]at wA;clear hf Hv;go_wp2_with fail;go_quiet (first | exact Calls.quiet_of (Vq.out _));go_wp2_with fail;go_ret;exact⟨bI HF.out.symm,below_drewN bW.out nq⟩
 have HF:=Lib.hid (show bU r T q=false by rw [jP.out,hf,Hv];rfl);rw [Hv]at wA;clear hf Hv;go_wp2_with fail;go_quiet (first | exact Calls.quiet_of (Vq.out _));go_wp2_with fail;go_ret;exact⟨bI HF.out.symm,below_drewN bW.out nq⟩
end Go.Proofs.YtapechjebkjidaaGreatDoor
