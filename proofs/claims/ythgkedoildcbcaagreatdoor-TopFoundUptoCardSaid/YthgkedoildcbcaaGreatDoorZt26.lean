/- Here + RefCompile -/
import Derived.Test.YthgkedoildcbcaaGreatDoorZt17
import Derived.Test.YthgkedoildcbcaaGreatDoorZt1
import Derived.Test.YthgkedoildcbcaaGreatDoorZt21
set_option maxHeartbeats 3200000
set_option maxRecDepth 100000
namespace Go.Proofs.YthgkedoildcbcaaGreatDoor
open Go.RowKit
structure ef (r:aj):Prop where
  src:r.source ≠ []
  sets:∀ l∈ee r,l.length≤20∧∀ s∈l,aH s
  tgt:r.target.length≤20∧cz r.target=false
  cur:0≤r.aa∧r.aa≤r.target.length
theorem GS {r:aj} (h:jR r=0):ef r:=by
 unfold jR at h;by_cases h0:cL ((ee r).map jY)=0
 ·rw [if_neg (by rw [h0];decide)]at h;unfold oh at h;by_cases h1:r.source.length=0
  ·rw [if_pos h1]at h;cases h
  rw [if_neg h1]at h;by_cases h2:20<r.target.length
  ·rw [if_pos h2]at h;cases h
  rw [if_neg h2]at h;by_cases h3:cz r.target=true
  ·rw [if_pos h3]at h;cases h
  rw [if_neg h3]at h;by_cases h4:r.aa<0∨(r.target.length:Int)<r.aa
  ·rw [if_pos h4]at h;cases h
  refine⟨fun e=>h1 (by rw [e];rfl),fun l hl=>?_,⟨by omega,by simpa using h3⟩,by omega⟩;have hs:=kM h0 (jY l) (List.mem_map.2 ⟨l,hl,rfl⟩);unfold jY at hs;by_cases h20:20<l.length
  ·rw [if_pos h20]at hs;cases hs
  rw [if_neg h20]at hs;exact⟨by omega,fun s nj=>pY (kM hs _ (List.mem_map.2 ⟨s,nj,rfl⟩))⟩
 rw [if_pos h0]at h;exact absurd h h0
def dM (r:aj) (t:List Int) (q:Nat):Bool :=
  mD t q r.source && mD t ((q:Int) - r.before.length) r.before && mD t ((q:Int)+r.source.length) r.after && !(r.start && decide (q≠r.before.length)) && !(r.fin && decide (q+r.source.length+r.after.length≠t.length))
structure tM (w:World) (X:Nat→Prop) (r:aj) (b o:Nat) (A1 A2 A3 A4:Option Addr) (n1 c1 n2 c2 n3 c3 n4 c4:Nat):Prop where
  lt:b<w.heap.size
  d0:w.cell? ⟨b,o,none⟩=some (.bool r.start)
  d1:w.cell? ⟨b,o+1,none⟩=some (.bool r.fin)
  d2:w.cell? ⟨b,o+2,none⟩=some (.slice A1 n1 c1)
  d3:w.cell? ⟨b,o+3,none⟩=some (.slice A2 n2 c2)
  d4:w.cell? ⟨b,o+4,none⟩=some (.slice A3 n3 c3)
  d5:w.cell? ⟨b,o+5,none⟩=some (.slice A4 n4 c4)
  d6:w.cell? ⟨b,o+6,none⟩=some (.int .i64 r.aa)
  s1:fq w X r.before (.slice A1 n1 c1)
  s2:fq w X r.source (.slice A2 n2 c2)
  s3:fq w X r.after (.slice A3 n3 c3)
  s4:bW w X 1 A4 n4 (runeCells r.target)
theorem H7 {w:World} {X:Nat→Prop} {A:Option Addr} {n:Nat} {l:List aj} (h:aZ (aO w X) w X 7 A n l) {k:Nat} {r:aj} (hk:l[k]? = some r) :
    ∃ (b off:Nat) (A1 A2 A3 A4:Option Addr) (n1 c1 n2 c2 n3 c3 n4 c4:Nat),A=some ⟨b,off,none⟩∧X b∧tM w X r b (off+k*7) A1 A2 A3 A4 n1 c1 n2 c2 n3 c3 n4 c4:=by
 obtain⟨b,off,A1,A2,A3,A4,n1,c1,n2,c2,n3,c3,n4,c4,e,hX,hb,⟨d0,d1,d2,d3,d4,d5,d6⟩,s1,s2,s3,s4,_⟩:=mu h hk;exact⟨b,off,A1,A2,A3,A4,n1,c1,n2,c2,n3,c3,n4,c4,e,hX,⟨hb,d0,d1,d2,d3,d4,d5,d6,s1,s2,s3,s4⟩⟩
theorem tM.below {w w':World} {X:Nat→Prop} {r:aj} {b o:Nat} {A1 A2 A3 A4:Option Addr} {n1 c1 n2 c2 n3 c3 n4 c4:Nat} (h:tM w X r b o A1 A2 A3 A4 n1 c1 n2 c2 n3 c3 n4 c4) (hb:Below w.heap.size w w'):tM w' X r b o A1 A2 A3 A4 n1 c1 n2 c2 n3 c3 n4 c4 :=
  have hk:af w X w' X:=af.any hb
  have hc:∀ i,w'.cell? ⟨b,i,none⟩=w.cell? ⟨b,i,none⟩:=fun i=>hb.cell (p:=⟨b,i,none⟩) h.lt
  ⟨Nat.lt_of_lt_of_le h.lt hb.size,(hc _).trans h.d0,(hc _).trans h.d1,(hc _).trans h.d2,(hc _).trans h.d3,(hc _).trans h.d4,(hc _).trans h.d5,(hc _).trans h.d6,h.s1.keep hk,h.s2.keep hk,h.s3.keep hk,h.s4.keep hk⟩
theorem fq.list {w:World} {X:Nat→Prop} {l:List ag} {A:Option Addr} {n c:Nat} (h:fq w X l (.slice A n c)):aZ (mF w X) w X 1 A n l:=by
 obtain⟨A',n',c',e,h1,_⟩:=h;cases e;exact h1
theorem xJ {tI:TypeId} {xI recv:Value} {fL fR:FuncId} {T:List Int} {R:World→Prop} (I:Ie tI xI recv fL fR T R) (X:Nat→Prop) (r:aj) (b o:Nat) (A1 A2 A3 A4:Option Addr) (n1 c1 n2 c2 n3 c3 n4 c4:Nat) (q:Nat) (w:World)
    (hT:T.length≤100000) (hq:q≤T.length) (hr:ef r) (ha:tM w X r b o A1 A2 A3 A4 n1 c1 n2 c2 n3 c3 n4 c4) (hR:R w) :
    Calls Tryz.prog 45 #[.pointer (some ⟨b,o,none⟩),.iface tI xI,.int .i64 q] w fun e w'=>e=.returned (.bool (dM r T q))∧Below w.heap.size w w':=by
 have kU:=ha.s1.list.len;have jo:=ha.s2.list.len;have Ka:=ha.s3.list.len;have hs1:=hr.sets r.before (by simp [ee]);have nj:=hr.sets r.source (by simp [ee]);have Qy:=hr.sets r.after (by simp [ee]);have P8:n1≤20:=(by omega);have hn2:n2≤20:=(by omega);have RW:n3≤20:=(by omega);have HP:=qqh (show dM r T q=(mD T q r.source && mD T ((q:Int) - n1) r.before && mD T ((q:Int)+n2) r.after && !(r.start && decide (q≠n1)) && !(r.fin && decide (q+n2+n3≠T.length))) by unfold dM;rw [kU,jo,Ka]);have Y3:=qqh (fun(W:World) (hb:Below w.heap.size w W)=>th I q X r.source A2 n2 c2 W (by omega) (by omega) hn2 nj.2 (ha.below hb).s2.list (I.keep _ _ hR hb));have E8:=qqh (fun(W:World) (hb:Below w.heap.size w W)=>th I ((q:Int) - n1) X r.before A1 n1 c1 W (by omega) (by omega) P8 hs1.2 (ha.below hb).s1.list (I.keep _ _ hR hb));have Yx:=qqh (fun(W:World) (hb:Below w.heap.size w W)=>th I ((q:Int)+n2) X r.after A3 n3 c3 W (by omega) (by omega) RW Qy.2 (ha.below hb).s3.list (I.keep _ _ hR hb));have hwr:IntKind.i64.wrap ((q:Int) - (n1:Int))=(q:Int) - (n1:Int):=(by rw [IntKind.wrap_i64];omega);have HA:=qqh ha;have HI:=qqh I;have HR:=qqh hR;have eL:=I.enterL;have e3:=ha.d3;clear ha hr I hR hs1 nj Qy kU jo Ka;go_enter Tryz.func45,Tryz.ntmps45;go_wp2_with fail;refine(Y3.out _ (Below.refl _ _)).mono ?_;rintro e w1 ⟨rfl,aW⟩;have b7:=qqh aW;have e2:=(HA.out.below aW).d2;clear aW e3;cases h1:mD T q r.source
 ·have HF:=qqh (show dM r T q=false by rw [HP.out,h1];simp);clear h1;go_wp2_with fail;go_ret;exact⟨bB HF.out.symm,b7.out⟩
 have zc:=qqh h1;clear h1;go_upto_region 3 with fail;have Xi:=qqh (E8.out _ (aD b7.out));refine ay (S:=fun w'=>w'.cell? ⟨b,o+2,none⟩=some (.slice A1 n1 c1)) [5,11] (by kernel_rfl) e2 (fun bH=>?_);refine tq 0 24 ?_;(try simp only [zp,za,z0,zs]);refine tq 1 25 ?_;(try simp only [zp,za,z0,zs]);refine tq 2 26 ?_;(try simp only [zp,za,z0,zs]);refine tq 3 27 ?_;(try simp only [zp,za,z0,zs]);refine tq 4 28 ?_;(try simp only [zp,za,z0,zs]);refine tu 5 29 ?_;(try simp only [zp,za,z0,zs]);refine tq 6 30 ?_;(try simp only [zp,za,z0,zs]);refine tq 7 31 ?_;(try simp only [zp,za,z0,zs]);refine tq 8 32 ?_;(try simp only [zp,za,z0,zs]);refine tq 9 33 ?_;(try simp only [zp,za,z0,zs]);refine tq 10 34 ?_;(try simp only [zp,za,z0,zs]);refine tu 11 35 ?_;(try simp only [zp,za,z0,zs]);refine aA (i:=12) (o:=⟨some 36,_,_,_,_,_⟩) (by kernel_rfl) rfl (by kernel_rfl) (fun K hK=>?_);go_simp;go_at_call 74;refine Xi.out.mono ?_;rintro e w2 ⟨rfl,bu⟩;(try dsimp only);refine hK.out _ _ ?_;clear hK K;(try simp only [zp,za,z0,zs]);refine tq 13 37 ?_;(try simp only [zp,za,z0,zs]);refine tq 14 15 ?_;(try simp only [zp,za,z0,zs]);refine aJ (by kernel_rfl) ?_ _;go_simp;have bG:=qqh ((aD b7.out).trans (bu.mono (aD b7.out).size));have e4:=(HA.out.below bG.out).d4;clear bu Xi e2;cases h2:mD T ((q:Int) - n1) r.before
 ·have HF:=qqh (show dM r T q=false by rw [HP.out,h2];simp);clear h2;go_wp2_with fail;go_ret;exact⟨bB HF.out.symm,bG.out⟩
 have xU:=qqh h2;clear h2;go_wp2_with fail;refine(Yx.out _ bG.out).mono ?_;rintro e w3 ⟨rfl,bN⟩;have bL:=qqh (bG.out.trans (bN.mono bG.out.size));have k0:=(HA.out.below bL.out).d0;have k1:=(HA.out.below bL.out).d1;have k2:=(HA.out.below bL.out).d2;have k4:=(HA.out.below bL.out).d4;clear bN e4;cases h3:mD T ((q:Int)+n2) r.after
 ·have HF:=qqh (show dM r T q=false by rw [HP.out,h3];simp);clear h3;go_wp2_with fail;go_ret;exact⟨bB HF.out.symm,bL.out⟩
 have kO:=qqh (show dM r T q=(!(r.start && decide (q≠n1)) && !(r.fin && decide (q+n2+n3≠T.length))) by rw [HP.out,zc.out,xU.out,h3];simp);have BI:=qqh (HI.out.keep _ _ HR.out bL.out);clear h3 E8 Y3 Yx HP zc xU;have hst:(r.start=true∧q≠n1)∨(!(r.start && decide (q≠n1)))=true:=by
  cases r.start;exact .inr (by simp);by_cases h:q=n1;exact .inr (by simp [h]);exact .inl ⟨rfl,h⟩
 rcases hst with ⟨hs0,hs1⟩ | hs0
 ·have HF:=qqh (show dM r T q=false by rw [kO.out,hs0];simp [hs1]);have I5:((q:Int) !=(n1:Int))=true:=(by rw [bne_iff_ne];omega);rw [hs0]at k0;clear hs0;go_wp2_with fail;go_ret;exact⟨bB HF.out.symm,bL.out⟩
 have iY:=qqh (show dM r T q = !(r.fin && decide (q+n2+n3≠T.length)) by rw [kO.out,hs0,Bool.true_and]);have hcs:r.start=false∨(r.start=true∧((q:Int) !=(n1:Int))=false):=by
  cases h:r.start;exact .inl rfl;right;rw [h]at hs0;refine⟨rfl,?_⟩;have h2:q=n1:=(by simpa using hs0);rw [h2];simp
 clear hs0;rcases hcs with hs0 | ⟨hs0,I5⟩
 ·rw [hs0]at k0;clear hs0;cases hf:r.fin
  ·have HF:=qqh (show dM r T q=true by rw [iY.out,hf];rfl);rw [hf]at k1;clear hf;go_wp2_with fail;go_quiet (fail);go_wp2_with fail;go_ret;exact⟨bB HF.out.symm,below_drewN bL.out nq⟩
  rw [hf]at k1;have VJ:=qqh (fun(m:Nat)=>HI.out.len (w3.drewN m) (HI.out.keep _ _ BI.out (below_drewN (Below.refl _ _) m)));have mL:=fun(m:Nat)=>HI.out.ml (w3.drewN m) (HI.out.keep _ _ BI.out (below_drewN (Below.refl _ _) m));have fO:((((q:Int)+(n2:Int))+(n3:Int)) !=(T.length:Int))=decide (q+n2+n3≠T.length):=by
   by_cases h:q+n2+n3=T.length
   ·have h2:(((q:Int)+(n2:Int))+(n3:Int))=(T.length:Int):=(by omega);rw [h2];simp [h]
   have h2:¬(((q:Int)+(n2:Int))+(n3:Int))=(T.length:Int):=(by omega);simp [h,h2]
  cases GB:decide (q+n2+n3≠T.length)
  ·have HF:=qqh (show dM r T q=true by rw [iY.out,hf,GB];rfl);rw [GB]at fO;clear hf GB;go_wp2_with fail;go_quiet (first | exact Calls.quiet_of (VJ.out _));go_wp2_with fail;go_ret;exact⟨bB HF.out.symm,below_drewN bL.out nq⟩
  have HF:=qqh (show dM r T q=false by rw [iY.out,hf,GB];rfl);rw [GB]at fO;clear hf GB;go_wp2_with fail;go_quiet (first | exact Calls.quiet_of (VJ.out _));go_wp2_with fail;go_ret;exact⟨bB HF.out.symm,below_drewN bL.out nq⟩
 rw [hs0]at k0;clear hs0;cases hf:r.fin
 ·have HF:=qqh (show dM r T q=true by rw [iY.out,hf];rfl);rw [hf]at k1;clear hf;go_wp2_with fail;go_quiet (fail);go_wp2_with fail;go_ret;exact⟨bB HF.out.symm,below_drewN bL.out nq⟩
 rw [hf]at k1;have VJ:=qqh (fun(m:Nat)=>HI.out.len (w3.drewN m) (HI.out.keep _ _ BI.out (below_drewN (Below.refl _ _) m)));have mL:=fun(m:Nat)=>HI.out.ml (w3.drewN m) (HI.out.keep _ _ BI.out (below_drewN (Below.refl _ _) m));have fO:((((q:Int)+(n2:Int))+(n3:Int)) !=(T.length:Int))=decide (q+n2+n3≠T.length):=by
  by_cases h:q+n2+n3=T.length
  ·have h2:(((q:Int)+(n2:Int))+(n3:Int))=(T.length:Int):=(by omega);rw [h2];simp [h]
  have h2:¬(((q:Int)+(n2:Int))+(n3:Int))=(T.length:Int):=(by omega);simp [h,h2]
 cases GB:decide (q+n2+n3≠T.length)
 ·have HF:=qqh (show dM r T q=true by rw [iY.out,hf,GB];rfl);rw [GB]at fO;clear hf GB;go_wp2_with fail;go_quiet (first | exact Calls.quiet_of (VJ.out _));go_wp2_with fail;go_ret;exact⟨bB HF.out.symm,below_drewN bL.out nq⟩
 have HF:=qqh (show dM r T q=false by rw [iY.out,hf,GB];rfl);rw [GB]at fO;clear hf GB;go_wp2_with fail;go_quiet (first | exact Calls.quiet_of (VJ.out _));go_wp2_with fail;go_ret;exact⟨bB HF.out.symm,below_drewN bL.out nq⟩
theorem TZ (l:List aj):eF (l.map bA)=bf l:=by
 unfold eF bf dV;rw [List.flatMap_map]
theorem Pb {l:List aj} {E:List Int} {j:Nat} {r:Int} (h:aP l E j = []) (hr:E[j]? = some r):jH (aP l E (j+1)) 1114111 = [⟨r,1114111,bZ l r⟩]:=by
 rw [dS hr,h];rfl
theorem Ob {l:List aj} {E:List Int} {j:Nat} {r:Int} {i:List bt} {x:bt} (h:aP l E j=i++[x]) (hr:E[j]? = some r) (hx:(x.rules == bZ l r)=true) :
    jH (aP l E (j+1)) 1114111=i++[{ x with high:=1114111 }]:=by
 rw [dS hr,h,oX,fF,if_pos hx,ew,ew]
theorem NL {l:List aj} {E:List Int} {j:Nat} {r:Int} {i:List bt} {x:bt} (h:aP l E j=i++[x]) (hr:E[j]? = some r) (hx:(x.rules == bZ l r)=false) :
    jH (aP l E (j+1)) 1114111=i++[{ x with high:=r - 1 }]++[⟨r,1114111,bZ l r⟩]:=by
 have hxh:x.high=r - 1:=by
  have hlt:=(List.getElem?_eq_some_iff.1 hr).1;cases j with
  | zero=>rw [aP]at h;simp at h
  | succ j=>
   obtain⟨i',x',h',hh⟩:=oF (l:=l) (E:=E) (j:=j) (by omega);rw [h]at h';have:=List.append_inj' h' rfl;have hxx:x=x':=(by simpa using this.2);rw [hxx,hh];unfold cR;rw [hr]
 rw [dS hr,h,oX,fF,if_neg (by rw [hx];decide),ew];congr 2;rw [← hxh]
theorem Xx {l:List aj} {E:List Int}:jH (gX l E) 1114111=gX l E:=by
 unfold gX;cases hE:E.length with
 | zero=>rfl
 | succ j=>
  obtain⟨i,x,h,hh⟩:=oF (l:=l) (E:=E) (j:=j) (by omega);rw [h,ew];have:x.high=1114111:=by
   rw [hh];unfold cR;rw [List.getElem?_eq_none (by omega)]
  rw [← this]
theorem QX (acc:List bt) (h:Int):(jH acc h).length=acc.length:=by
 rcases List.eq_nil_or_concat acc with rfl | ⟨i,x,rfl⟩;rfl;rw [List.concat_eq_append,ew];simp
theorem T3:(Tryz.prog.info? 41).map (fun i=>(i.zero,i.size,i.bytes))=some (some (.slice none 0 0),1,24):=by kernel_rfl
theorem RG {l:List aj} {k:Nat} (h:k≤l.length):((l.take k).map bA).length=k:=by simp;omega
theorem QZ {l:List aj} {k:Nat} {x:aj} (h:l[k]? = some x):(l.take k).map bA++[bA x] =(l.take (k+1)).map bA:=by
 rw [List.take_add_one,h];simp
def RcA (w:World) (l:List aj) (n:Nat) (s5 i:Value) (wr:World):Prop :=
  ∃ k:Nat,k≤n∧i=.int .i64 k∧dH (mF wr (fun b=>b<w.heap.size)) 41 1 wr w.heap.size s5 ((l.take k).map bA)∧ai wr w.heap.size 32 #[.int .i64 0,.int .i64 0]∧Below w.heap.size w wr
def RcB (w0:World) (l:List aj) (n:Nat) (s7 i:Value) (wr:World):Prop :=
  ∃ j:Nat,j≤n∧i=.int .i64 j∧dB w0.heap.size wr s7 (jH (aP l (bf l) j) 1114111)∧Below w0.heap.size w0 wr
end Go.Proofs.YthgkedoildcbcaaGreatDoor
