import Derived.Test.YtamkjeipdjbemaaGreatDoorZp19
import Derived.Test.YtamkjeipdjbemaaGreatDoorZp24
set_option maxHeartbeats 3200000
set_option maxRecDepth 100000
namespace Go.Proofs.YtamkjeipdjbemaaGreatDoor
open Go.RowKit
structure fK (r:az):Prop where
  src:r.source ≠ []
  sets:∀ l∈cC r,l.length≤20∧∀ s∈l,aJ s
  tgt:r.target.length≤20∧cj r.target=false
  cur:0≤r.ai∧r.ai≤r.target.length
theorem F0 {r:az} (h:iA r=0):fK r:=by
 unfold iA at h;by_cases h0:bX ((cC r).map gM)=0
 ·rw [if_neg (by rw [h0];decide)]at h;unfold jQ at h;by_cases h1:r.source.length=0
  ·rw [if_pos h1]at h;cases h
  rw [if_neg h1]at h;by_cases h2:20<r.target.length
  ·rw [if_pos h2]at h;cases h
  rw [if_neg h2]at h;by_cases h3:cj r.target=true
  ·rw [if_pos h3]at h;cases h
  rw [if_neg h3]at h;by_cases h4:r.ai<0∨(r.target.length:Int)<r.ai
  ·rw [if_pos h4]at h;cases h
  refine⟨fun e=>h1 (by rw [e];rfl),fun l hl=>?_,⟨by omega,by simpa using h3⟩,by omega⟩;have hs:=kC h0 (gM l) (List.mem_map.2 ⟨l,hl,rfl⟩);unfold gM at hs;by_cases h20:20<l.length
  ·rw [if_pos h20]at hs;cases hs
  rw [if_neg h20]at hs;exact⟨by omega,fun s vB=>oU (kC hs _ (List.mem_map.2 ⟨s,vB,rfl⟩))⟩
 rw [if_pos h0]at h;exact absurd h h0
def cV (r:az) (t:List Int) (q:Nat):Bool :=
  je t q r.source && je t ((q:Int) - r.before.length) r.before && je t ((q:Int)+r.source.length) r.after && !(r.start && decide (q≠r.before.length)) && !(r.fin && decide (q+r.source.length+r.after.length≠t.length))
structure xd (w:World) (X:Nat→Prop) (r:az) (b o:Nat) (A1 A2 A3 A4:Option Addr) (n1 c1 n2 c2 n3 c3 n4 c4:Nat):Prop where
  lt:b<w.heap.size
  d0:w.cell? ⟨b,o,none⟩=some (.bool r.start)
  d1:w.cell? ⟨b,o+1,none⟩=some (.bool r.fin)
  d2:w.cell? ⟨b,o+2,none⟩=some (.slice A1 n1 c1)
  d3:w.cell? ⟨b,o+3,none⟩=some (.slice A2 n2 c2)
  d4:w.cell? ⟨b,o+4,none⟩=some (.slice A3 n3 c3)
  d5:w.cell? ⟨b,o+5,none⟩=some (.slice A4 n4 c4)
  d6:w.cell? ⟨b,o+6,none⟩=some (.int .i64 r.ai)
  s1:eH w X r.before (.slice A1 n1 c1)
  s2:eH w X r.source (.slice A2 n2 c2)
  s3:eH w X r.after (.slice A3 n3 c3)
  s4:cL w X 1 A4 n4 (runeCells r.target)
theorem Ik {w:World} {X:Nat→Prop} {A:Option Addr} {n:Nat} {l:List az} (h:bS (bg w X) w X 7 A n l) {k:Nat} {r:az} (hk:l[k]? = some r) :
    ∃ (b off:Nat) (A1 A2 A3 A4:Option Addr) (n1 c1 n2 c2 n3 c3 n4 c4:Nat),A=some ⟨b,off,none⟩∧X b∧xd w X r b (off+k*7) A1 A2 A3 A4 n1 c1 n2 c2 n3 c3 n4 c4:=by
 obtain⟨b,off,A1,A2,A3,A4,n1,c1,n2,c2,n3,c3,n4,c4,e,hX,hb,⟨d0,d1,d2,d3,d4,d5,d6⟩,s1,s2,s3,s4,_⟩:=kF h hk;exact⟨b,off,A1,A2,A3,A4,n1,c1,n2,c2,n3,c3,n4,c4,e,hX,⟨hb,d0,d1,d2,d3,d4,d5,d6,s1,s2,s3,s4⟩⟩
theorem xd.below {w w':World} {X:Nat→Prop} {r:az} {b o:Nat} {A1 A2 A3 A4:Option Addr} {n1 c1 n2 c2 n3 c3 n4 c4:Nat} (h:xd w X r b o A1 A2 A3 A4 n1 c1 n2 c2 n3 c3 n4 c4) (hb:Below w.heap.size w w'):xd w' X r b o A1 A2 A3 A4 n1 c1 n2 c2 n3 c3 n4 c4 :=
  have hk:aa w X w' X:=aa.any hb
  have hc:∀ i,w'.cell? ⟨b,i,none⟩=w.cell? ⟨b,i,none⟩:=fun i=>hb.cell (p:=⟨b,i,none⟩) h.lt
  ⟨Nat.lt_of_lt_of_le h.lt hb.size,(hc _).trans h.d0,(hc _).trans h.d1,(hc _).trans h.d2,(hc _).trans h.d3,(hc _).trans h.d4,(hc _).trans h.d5,(hc _).trans h.d6,h.s1.keep hk,h.s2.keep hk,h.s3.keep hk,h.s4.keep hk⟩
theorem eH.list {w:World} {X:Nat→Prop} {l:List ag} {A:Option Addr} {n c:Nat} (h:eH w X l (.slice A n c)):bS (iH w X) w X 1 A n l:=by
 obtain⟨A',n',c',e,h1,_⟩:=h;cases e;exact h1
theorem GK {tI:TypeId} {xI recv:Value} {fL fR:FuncId} {T:List Int} {R:World→Prop} (I:Nj tI xI recv fL fR T R) (X:Nat→Prop) (r:az) (b o:Nat) (A1 A2 A3 A4:Option Addr) (n1 c1 n2 c2 n3 c3 n4 c4:Nat) (q:Nat) (w:World)
    (hT:T.length≤100000) (hq:q≤T.length) (hr:fK r) (ha:xd w X r b o A1 A2 A3 A4 n1 c1 n2 c2 n3 c3 n4 c4) (hR:R w) :
    Calls Tryz.prog 160 #[.pointer (some ⟨b,o,none⟩),.iface tI xI,.int .i64 q] w fun e w'=>e=.returned (.bool (cV r T q))∧Below w.heap.size w w':=by
 have iJ:=ha.s1.list.len;have gh:=ha.s2.list.len;have nC:=ha.s3.list.len;have hs1:=hr.sets r.before (by simp [cC]);have vB:=hr.sets r.source (by simp [cC]);have Ot:=hr.sets r.after (by simp [cC]);have TU:n1≤20:=(by omega);have hn2:n2≤20:=(by omega);have Su:n3≤20:=(by omega);have HP:=qqh (show cV r T q=(je T q r.source && je T ((q:Int) - n1) r.before && je T ((q:Int)+n2) r.after && !(r.start && decide (q≠n1)) && !(r.fin && decide (q+n2+n3≠T.length))) by unfold cV;rw [iJ,gh,nC]);have YS:=qqh (fun(W:World) (hb:Below w.heap.size w W)=>sX I q X r.source A2 n2 c2 W (by omega) (by omega) hn2 vB.2 (ha.below hb).s2.list (I.keep _ _ hR hb));have OA:=qqh (fun(W:World) (hb:Below w.heap.size w W)=>sX I ((q:Int) - n1) X r.before A1 n1 c1 W (by omega) (by omega) TU hs1.2 (ha.below hb).s1.list (I.keep _ _ hR hb));have XZ:=qqh (fun(W:World) (hb:Below w.heap.size w W)=>sX I ((q:Int)+n2) X r.after A3 n3 c3 W (by omega) (by omega) Su Ot.2 (ha.below hb).s3.list (I.keep _ _ hR hb));have hwr:IntKind.i64.wrap ((q:Int) - (n1:Int))=(q:Int) - (n1:Int):=(by rw [IntKind.wrap_i64];omega);have HA:=qqh ha;have HI:=qqh I;have HR:=qqh hR;have eL:=I.enterL;have e3:=ha.d3;clear ha hr I hR hs1 vB Ot iJ gh nC;go_enter Tryz.func160,Tryz.ntmps160;go_wp2_with fail;refine(YS.out _ qqb).mono ?_;rintro e w1 ⟨rfl,aP⟩;have bF:=qqh aP;have e2:=(HA.out.below aP).d2;clear aP e3;cases h1:je T q r.source
 ·have HF:=qqh (show cV r T q=false by rw [HP.out,h1];simp);clear h1;go_wp2_with fail;go_ret;exact⟨aV HF.out.symm,bF.out⟩
 have x7:=qqh h1;clear h1;go_upto_region 3 with fail;have Q9:=qqh (OA.out _ (ak bF.out));refine aC (S:=fun w'=>w'.cell? ⟨b,o+2,none⟩=some (.slice A1 n1 c1)) [5,11] (by kernel_rfl) e2 (fun aQ=>?_);refine tq 0 24 ?_;(try simp only [zp,za,z0,zs]);refine tq 1 25 ?_;(try simp only [zp,za,z0,zs]);refine tq 2 26 ?_;(try simp only [zp,za,z0,zs]);refine tq 3 27 ?_;(try simp only [zp,za,z0,zs]);refine tq 4 28 ?_;(try simp only [zp,za,z0,zs]);refine tu 5 29 ?_;(try simp only [zp,za,z0,zs]);refine tq 6 30 ?_;(try simp only [zp,za,z0,zs]);refine tq 7 31 ?_;(try simp only [zp,za,z0,zs]);refine tq 8 32 ?_;(try simp only [zp,za,z0,zs]);refine tq 9 33 ?_;(try simp only [zp,za,z0,zs]);refine tq 10 34 ?_;(try simp only [zp,za,z0,zs]);refine tu 11 35 ?_;(try simp only [zp,za,z0,zs]);refine aA (i:=12) (o:=⟨some 36,_,_,_,_,_⟩) (by kernel_rfl) rfl (by kernel_rfl) (fun K hK=>?_);go_simp;go_at_call 186;refine Q9.out.mono ?_;rintro e w2 ⟨rfl,aX⟩;(try dsimp only);refine hK.out _ _ ?_;clear hK K;(try simp only [zp,za,z0,zs]);refine tq 13 37 ?_;(try simp only [zp,za,z0,zs]);refine tq 14 15 ?_;(try simp only [zp,za,z0,zs]);refine aL (by kernel_rfl) ?_ _;go_simp;have bf:=qqh ((ak bF.out).trans (aX.mono (ak bF.out).size));have e4:=(HA.out.below bf.out).d4;clear aX Q9 e2;cases h2:je T ((q:Int) - n1) r.before
 ·have HF:=qqh (show cV r T q=false by rw [HP.out,h2];simp);clear h2;go_wp2_with fail;go_ret;exact⟨aV HF.out.symm,bf.out⟩
 have wu:=qqh h2;clear h2;go_wp2_with fail;refine(XZ.out _ bf.out).mono ?_;rintro e w3 ⟨rfl,bM⟩;have bN:=qqh (bf.out.trans (bM.mono bf.out.size));have k0:=(HA.out.below bN.out).d0;have k1:=(HA.out.below bN.out).d1;have k2:=(HA.out.below bN.out).d2;have k4:=(HA.out.below bN.out).d4;clear bM e4;cases h3:je T ((q:Int)+n2) r.after
 ·have HF:=qqh (show cV r T q=false by rw [HP.out,h3];simp);clear h3;go_wp2_with fail;go_ret;exact⟨aV HF.out.symm,bN.out⟩
 have kz:=qqh (show cV r T q=(!(r.start && decide (q≠n1)) && !(r.fin && decide (q+n2+n3≠T.length))) by rw [HP.out,x7.out,wu.out,h3];simp);have tL:=qqh (HI.out.keep _ _ HR.out bN.out);clear h3 OA YS XZ HP x7 wu;have hst:(r.start=true∧q≠n1)∨(!(r.start && decide (q≠n1)))=true:=by
  cases r.start;exact .inr (by simp);by_cases h:q=n1;exact .inr (by simp [h]);exact .inl ⟨rfl,h⟩
 rcases hst with ⟨hs0,hs1⟩ | hs0
 ·have HF:=qqh (show cV r T q=false by rw [kz.out,hs0];simp [hs1]);have IS:((q:Int) !=(n1:Int))=true:=(by rw [bne_iff_ne];omega);rw [hs0]at k0;clear hs0;go_wp2_with fail;go_ret;exact⟨aV HF.out.symm,bN.out⟩
 have i7:=qqh (show cV r T q = !(r.fin && decide (q+n2+n3≠T.length)) by rw [kz.out,hs0,Bool.true_and]);have hcs:r.start=false∨(r.start=true∧((q:Int) !=(n1:Int))=false):=by
  cases h:r.start;exact .inl rfl;right;rw [h]at hs0;refine⟨rfl,?_⟩;have h2:q=n1:=(by simpa using hs0);rw [h2];simp
 clear hs0;rcases hcs with hs0 | ⟨hs0,IS⟩
 ·rw [hs0]at k0;clear hs0;cases hf:r.fin
  ·have HF:=qqh (show cV r T q=true by rw [i7.out,hf];rfl);rw [hf]at k1;clear hf;go_wp2_with fail;go_quiet (fail);go_wp2_with fail;go_ret;exact⟨aV HF.out.symm,below_drewN bN.out nq⟩
  rw [hf]at k1;have Vo:=qqh (fun(m:Nat)=>HI.out.len (w3.drewN m) (HI.out.keep _ _ tL.out (below_drewN qqb m)));have mL:=fun(m:Nat)=>HI.out.ml (w3.drewN m) (HI.out.keep _ _ tL.out (below_drewN qqb m));have oe:((((q:Int)+(n2:Int))+(n3:Int)) !=(T.length:Int))=decide (q+n2+n3≠T.length):=by
   by_cases h:q+n2+n3=T.length
   ·have h2:(((q:Int)+(n2:Int))+(n3:Int))=(T.length:Int):=(by omega);rw [h2];simp [h]
   have h2:¬(((q:Int)+(n2:Int))+(n3:Int))=(T.length:Int):=(by omega);simp [h,h2]
  cases ED:decide (q+n2+n3≠T.length)
  ·have HF:=qqh (show cV r T q=true by rw [i7.out,hf,ED];rfl);rw [ED]at oe;clear hf ED;go_wp2_with fail;go_quiet (first | exact Calls.quiet_of (Vo.out _));go_wp2_with fail;go_ret;exact⟨aV HF.out.symm,below_drewN bN.out nq⟩
  have HF:=qqh (show cV r T q=false by rw [i7.out,hf,ED];rfl);rw [ED]at oe;clear hf ED;go_wp2_with fail;go_quiet (first | exact Calls.quiet_of (Vo.out _));go_wp2_with fail;go_ret;exact⟨aV HF.out.symm,below_drewN bN.out nq⟩
 rw [hs0]at k0;clear hs0;cases hf:r.fin
 ·have HF:=qqh (show cV r T q=true by rw [i7.out,hf];rfl);rw [hf]at k1;clear hf;go_wp2_with fail;go_quiet (fail);go_wp2_with fail;go_ret;exact⟨aV HF.out.symm,below_drewN bN.out nq⟩
 rw [hf]at k1;have Vo:=qqh (fun(m:Nat)=>HI.out.len (w3.drewN m) (HI.out.keep _ _ tL.out (below_drewN qqb m)));have mL:=fun(m:Nat)=>HI.out.ml (w3.drewN m) (HI.out.keep _ _ tL.out (below_drewN qqb m));have oe:((((q:Int)+(n2:Int))+(n3:Int)) !=(T.length:Int))=decide (q+n2+n3≠T.length):=by
  by_cases h:q+n2+n3=T.length
  ·have h2:(((q:Int)+(n2:Int))+(n3:Int))=(T.length:Int):=(by omega);rw [h2];simp [h]
  have h2:¬(((q:Int)+(n2:Int))+(n3:Int))=(T.length:Int):=(by omega);simp [h,h2]
 cases ED:decide (q+n2+n3≠T.length)
 ·have HF:=qqh (show cV r T q=true by rw [i7.out,hf,ED];rfl);rw [ED]at oe;clear hf ED;go_wp2_with fail;go_quiet (first | exact Calls.quiet_of (Vo.out _));go_wp2_with fail;go_ret;exact⟨aV HF.out.symm,below_drewN bN.out nq⟩
 have HF:=qqh (show cV r T q=false by rw [i7.out,hf,ED];rfl);rw [ED]at oe;clear hf ED;go_wp2_with fail;go_quiet (first | exact Calls.quiet_of (Vo.out _));go_wp2_with fail;go_ret;exact⟨aV HF.out.symm,below_drewN bN.out nq⟩
theorem JY (l:List az):ez (l.map bk)=aY l:=by
 unfold ez aY dM;rw [List.flatMap_map]
theorem Bx {l:List az} {E:List Int} {j:Nat} {r:Int} (h:aS l E j = []) (hr:E[j]? = some r):jE (aS l E (j+1)) 1114111 = [⟨r,1114111,bJ l r⟩]:=by
 rw [dZ hr,h];rfl
theorem yR {l:List az} {E:List Int} {j:Nat} {r:Int} {i:List bK} {x:bK} (h:aS l E j=i++[x]) (hr:E[j]? = some r) (hx:(x.rules == bJ l r)=true) :
    jE (aS l E (j+1)) 1114111=i++[{ x with high:=1114111 }]:=by
 rw [dZ hr,h,nX,fT,if_pos hx,dY,dY]
theorem yz {l:List az} {E:List Int} {j:Nat} {r:Int} {i:List bK} {x:bK} (h:aS l E j=i++[x]) (hr:E[j]? = some r) (hx:(x.rules == bJ l r)=false) :
    jE (aS l E (j+1)) 1114111=i++[{ x with high:=r - 1 }]++[⟨r,1114111,bJ l r⟩]:=by
 have hxh:x.high=r - 1:=by
  have hlt:=(List.getElem?_eq_some_iff.1 hr).1;cases j with
  | zero=>rw [aS]at h;simp at h
  | succ j=>
   obtain⟨i',x',h',hh⟩:=oo (l:=l) (E:=E) (j:=j) (by omega);rw [h]at h';have:=List.append_inj' h' rfl;have hxx:x=x':=(by simpa using this.2);rw [hxx,hh];unfold cZ;rw [hr]
 rw [dZ hr,h,nX,fT,if_neg (by rw [hx];decide),dY];congr 2;rw [← hxh]
theorem Mx {l:List az} {E:List Int}:jE (fV l E) 1114111=fV l E:=by
 unfold fV;cases hE:E.length with
 | zero=>rfl
 | succ j=>
  obtain⟨i,x,h,hh⟩:=oo (l:=l) (E:=E) (j:=j) (by omega);rw [h,dY];have:x.high=1114111:=by
   rw [hh];unfold cZ;rw [List.getElem?_eq_none (by omega)]
  rw [← this]
theorem CX (acc:List bK) (h:Int):(jE acc h).length=acc.length:=by
 rcases List.eq_nil_or_concat acc with rfl | ⟨i,x,rfl⟩;rfl;rw [List.concat_eq_append,dY];simp
theorem Ke:(Tryz.prog.info? 26).map (fun i=>(i.zero,i.size,i.bytes))=some (some (.slice none 0 0),1,24):=by kernel_rfl
theorem qH {l:List az} {k:Nat} (h:k≤l.length):((l.take k).map bk).length=k:=by simp;omega
theorem DM {l:List az} {k:Nat} {x:az} (h:l[k]? = some x):(l.take k).map bk++[bk x] =(l.take (k+1)).map bk:=by
 rw [List.take_add_one,h];simp
def RcA (w:World) (l:List az) (n:Nat) (s5 i:Value) (wr:World):Prop :=
  ∃ k:Nat,k≤n∧i=.int .i64 k∧dD (iH wr (fun b=>b<w.heap.size)) 26 1 wr w.heap.size s5 ((l.take k).map bk)∧an wr w.heap.size 34 #[.int .i64 0,.int .i64 0]∧Below w.heap.size w wr
def RcB (w0:World) (l:List az) (n:Nat) (s7 i:Value) (wr:World):Prop :=
  ∃ j:Nat,j≤n∧i=.int .i64 j∧dc w0.heap.size wr s7 (jE (aS l (aY l) j) 1114111)∧Below w0.heap.size w0 wr
theorem C' (X:Nat→Prop) (l:List az) (A:Option Addr) (n c:Nat) (w:World) (hn:n≤maxLen) (hl:bS (bg w X) w X 7 A n l) :
    Calls Tryz.prog 54 #[.slice A n c] w fun e w'=>(∃ v,e=.returned (.tuple #[v,.agg #[.int .i64 (dR l).2.1,.int .i64 (dR l).2.2]])∧oy w' (fun b=>w.heap.size≤b) (dR l).1 v)∧Below w.heap.size w w':=by
 obtain⟨i0,hi,q0,q1,q2⟩:=info_parts Eo;have hl:=hl.keep (aa.refl (w:=w) (X:=X) (X':=X) (fun _ h=>h)) (fun _ _ h=>h);have aM:=qqh (show l.length=n from hl.len);have HL:=qqh (hl.keep (show aa w X w (fun b=>b<w.heap.size) from fun b _ hlt=>⟨rfl,hlt,hlt⟩) (fun _ _=>bg.keep (show aa w X w (fun b=>b<w.heap.size) from fun b _ hlt=>⟨rfl,hlt,hlt⟩)));have lX:=qqh (an.new w 34 #[.int .i64 0,.int .i64 0]);have cy:=qqh ((Below.refl w.heap.size w).alloc qql (.cells #[.int .i64 0,.int .i64 0] 34));obtain⟨r1,r2,hR⟩:∃ r1 r2,bZ l=(r1,r2):=⟨_,_,rfl⟩;have HW:=qqh (fun(w1:World) (hb:Below w.heap.size w w1)=>show Calls Tryz.prog 50 #[.slice A n c] w1 fun e w'=>e=.returned (.agg #[.int .i64 r1,.int .i64 r2])∧Below w1.heap.size w1 w' by
  have:=nE (fun b=>b<w.heap.size) l A n c w1 hn (HL.out.keep (aa.below hb (fun _ h _=>h)) (fun _ _=>bg.keep (aa.below hb (fun _ h _=>h))));rwa [hR]at this)
 clear hl;simp only [maxLen]at hn;by_cases hz:r1=0
 ·subst hz;have iT:=qqh (jJ (l:=l) (by rw [hR]));have HP:=qqh (show dR l=if 400<(fV l (aY l)).length then ([],(5,0))else (fV l (aY l),(0,0)) by unfold dR;rw [hR];rfl);have hn2:n≤200:=(by rw [← aM.out];exact iT.out.size);clear hR;go_enter Tryz.func54,Tryz.ntmps54;go_wp2_with fail;refine(HW.out _ cy.out).mono ?_;rintro e w1 ⟨rfl,aP⟩;have eW:=qqh (an.below lX.out aP lX.out.lt);have bF:=qqh (cy.out.trans (aP.mono cy.out.size));clear aP lX cy HW;have eC:=qqh (an.alloc eW.out (.cells #[.int .i64 0,.int .i64 r2] 34));have bf:=qqh (bF.out.alloc bF.out.size (.cells #[.int .i64 0,.int .i64 r2] 34));go_wp2_with fail;go_loopw [5,20] (RcA w l n) (fun _ i _=>n - (intOf i).toNat);(case atStart=>exact⟨0,Nat.zero_le _,rfl,dD.nil _ _,eC.out,bf.out⟩);obtain⟨k,hk,rfl,hown,hf,hb⟩:=hrel;have hz:=hb.size;by_cases hlt:k<n
  ·obtain⟨x,hx⟩:∃ z,l[k]? = some z:=⟨_,List.getElem?_eq_getElem (by rw [aM.out];exact hlt)⟩;have hmem:=List.mem_of_getElem? hx;have hkk:=aa.below (X:=fun b=>b<w.heap.size) (X':=fun b=>b<w.heap.size) hb (fun _ h _=>h);obtain⟨b,off,A1,A2,A3,A4,n1,c1,n2,c2,n3,c3,n4,c4,rfl,_,cK,⟨d0,d1,d2,d3,d4,d5,d6⟩,_,s2,_,_,_⟩:=kF (HL.out.keep hkk (fun _ _=>bg.keep hkk)) hx;obtain⟨b2,off2,Vw,JI,A',n',c',e2,hn2,Fu,_,_,pT,_,hrd,hnn⟩:=sg s2 (iT.out.src x hmem);cases e2;obtain⟨css,k1,k2,k3,k4⟩:=hown;have Cl:=qH (l:=l) (k:=k) (by rw [aM.out];omega);rw [Cl]at k1 k4;obtain⟨Av,cv,rfl,_⟩:=av k4;have jo:=qqh (DM hx);have HO:=qqh (World.ownsRow.alloc k4 (.cells #[.slice A' n' c'] 26));have bN:=qqh (hb.alloc hb.size (.cells #[.slice A' n' c'] 26));have dV:=qqh (hf.alloc (.cells #[.slice A' n' c'] 26));have hka:=aa.alloc (w:=wr) (X:=fun b=>b<w.heap.size) (X':=fun b=>b<w.heap.size) (.cells #[.slice A' n' c'] 26) (fun _ h _=>h);have HK:=qqh (And.intro k1 (And.intro (fun(i:Nat) (a:ag) (cs:List Value) h1 h2=>iH.keep hka (k2 i a cs h1 h2)) (And.intro k3 (show iH (wr.alloc (.cells #[.slice A' n' c'] 26)) (fun b=>b<w.heap.size) (bk x) [.slice A' n' c'] from⟨_,rfl,A',n',c',rfl,hrd.keep hka,hnn⟩))));have HN:=qqh (Rd.new wr 26 1 1 [.slice A' n' c'] rfl);have mS:=qqh (show ∀ u ∈ [Value.slice A' n' c'],u.oneCell'=true by intro x hx;simp at hx;subst hx;rfl);have Y4:=qqh Cl;simp only [maxLen]at Fu;obtain⟨j0,hj,hj0,OO,hj2⟩:=info_parts Ke;clear hx hmem s2 hrd k1 k2 k3 k4 hb hf d0 d1 d2 d4 d5 d6 hkk hka Cl
   go_wp2_with (at_builtin;refine aj _ rfl (.tmp 23) (.tmp 31) 131 rfl w.heap.size 26 j0 _ 1 24 Tryz.underlying131 hj hj0 OO hj2 rfl (by decide) _ _ _ rfl HO.out _ (some ⟨wr.heap.size,0,none⟩) 1 1 [.slice A' n' c'] rfl HN.out mS.out (by simp only [maxLen];omega) (by omega) bN.out.size ?_);intro v9 w9 af;have cA:=bN.out.trans (af.below bN.out.size HO.out);have E1:aa (wr.alloc (.cells #[.slice A' n' c'] 26)) (fun b=>b<w.heap.size) w9 (fun b=>b<w.heap.size):=aa.app af (fun b hb e=>by have:=(bt HO.out e).1;omega) (fun _ h _=>h);have mB:=qqh (aZ dV.out HO.out (by decide) af);have cB:=qqh cA;have fH:=qqh (show dD (iH w9 (fun b=>b<w.heap.size)) 26 1 w9 w.heap.size v9 ((l.take (k+1)).map bk) by
    have:=dD.push (R:=iH (wr.alloc (.cells #[.slice A' n' c'] 26)) (fun b=>b<w.heap.size)) (by rw [Y4.out];exact HK.out.1) HK.out.2.1 HK.out.2.2.1 (fun _ _=>iH.keep E1) (iH.keep E1 HK.out.2.2.2) rfl (by rw [Y4.out];exact af);rwa [jo.out]at this)
   clear af E1 cA;go_wp2_with fail;exact⟨⟨k+1,by omega,by go_num,fH.out,mB.out,cB.out⟩,by simp [intOf];omega⟩
  obtain rfl:k=n:=(by omega);have Cl:=qH (l:=l) (k:=k) (by rw [aM.out];omega);obtain⟨Av,cv,rfl,_⟩:=dD.form hown;have hrd:=dD.done (X:=xG) (R':=iH wr xG) hown (fun _ _=>iH.keep (aa.refl (fun _ _=>trivial))) (fun _ _=>trivial);rw [show(l.take k).map bk=l.map bk by rw [List.take_of_length_le (by rw [aM.out];exact qql)]]at hrd Cl;rw [Cl]at hrd;have HE:=qqh (KC xG (l.map bk) Av k cv wr hn2 (fun s hs=>by obtain⟨x,hx,rfl⟩:=List.mem_map.1 hs;exact iT.out.set x hx) hrd);have dV:=qqh hf;have bN:=qqh hb;have VO:=qH (l:=l) (k:=k) (by rw [aM.out];omega);rw [VO];clear hf hb hrd hown Cl VO eW bF eC bf;go_wp2_with fail;refine HE.out.mono ?_;rintro e w2 ⟨⟨A',n',c',rfl,hE⟩,aX⟩;rw [JY]at hE;have qg:=qqh (show(aY l).length=n' by have:=hE.1;rw [runeCells_length]at this;omega);have hEN:n'≤80001:=by
   rw [← qg.out];have h1:=(ug (dM l) [0]).2;have h2:=xQ iT.out.set;unfold aY;rw [aM.out]at h2;simp at h1;omega
  have HEE:=qqh (show mg w2 w2.heap.size A' n' (aY l) from hE.of);have iC:=qqh (an.below dV.out aX dV.out.lt);have bW:=qqh (bN.out.trans (aX.mono bN.out.size));have kO:=aX.size;clear hE aX HE dV bN;go_wp2_with fail;go_loopw [7,37] (RcB w2 l n') (fun _ i _=>n' - (intOf i).toNat);(case atStart=>exact⟨0,Nat.zero_le _,rfl,dc.nil _ _,qqb⟩);obtain⟨j,hj,rfl,E3,hb⟩:=hrel;have Uj:=hb.size;have ig:=qqh (bW.out.trans (hb.mono bW.out.size));by_cases hlt:j<n'
  ·obtain⟨r,hr⟩:∃ z,(aY l)[j]? = some z:=⟨_,List.getElem?_eq_getElem (by rw [qg.out];exact hlt)⟩;obtain⟨b,off,rfl,cK,hc0⟩:=HEE.out.at (k:=j) hlt;rw [show(aY l).getD j 0=r by simp [List.getD,hr]]at hc0;have hc:=(hb.cell (p:=⟨b,off+j,none⟩) cK).trans hc0;have hkk:=aa.below (X:=fun b=>b<w.heap.size) (X':=fun b=>b<w.heap.size) ig.out (fun _ h _=>h);have HBG:=qqh (Jc (fun b=>b<w.heap.size) l r A k c wr iT.out (HL.out.keep hkk (fun _ _=>bg.keep hkk)));have HR:=qqh hr;have hjl:j<(aY l).length:=(by rw [qg.out];exact hlt);have Mh:0≤r∧r≤1114111:=by
    have:=(eY l r).1 (List.mem_of_getElem? hr);rcases this with rfl | ⟨h1,h2⟩;decide;exact⟨(jA iT.out.set r h1).1,h2⟩
   have qu:=fo l (aY l) j;have K3:=qqh E3;have HB:=qqh hb;obtain⟨QF,QI,rfl,_⟩:=E3.form;rw [CX];clear hr hc0 hkk E3 hb hjl;rcases List.eq_nil_or_concat (aS l (aY l) j)with hacc | ⟨i,x,hacc⟩
   ·have Cm:=qqh (Bx hacc HR.out);rw [hacc]at K3 ⊢;clear hacc qu;go_wp2_with fail;refine HBG.out.mono ?_;rintro e w3 ⟨⟨v10,rfl,Ci⟩,bM⟩;have HI:=qqh Ci;have eD:=qqh (HB.out.trans (bM.mono HB.out.size));have F6:=qqh (K3.out.below bM);obtain⟨Um,c10,rfl,_,_,_⟩:=Ci.form;have Wi:=bM.size;obtain⟨xs,ho,hf⟩:=dc.ready (hs:=[]) F6.out HI.out eD.out.size Uj r 1114111;have HO:=qqh ho;have Qh:=qqh hf;have HN:=qqh (Rd.new w3 147 3 1 [.int .i32 r,.int .i32 1114111,.slice Um (bJ l r).length c10] rfl);have mS:=qqh (show ∀ u ∈ [Value.int .i32 r,.int .i32 1114111,.slice Um (bJ l r).length c10],u.oneCell'=true by intro x hx;simp at hx;rcases hx with rfl | rfl | rfl <;> rfl);clear ho hf;go_wp2_with (at_builtin;refine aj _ rfl (.tmp 66) (.tmp 70) 99 rfl w2.heap.size 147 i0 _ 3 32 Tryz.underlying99 hi q0 q1 q2 rfl (by decide) _ 0 _ rfl HO.out _ (some ⟨w3.heap.size,0,none⟩) 1 1 _ rfl HN.out mS.out (by simp only [maxLen];omega) (by omega) (by simp;omega) ?_);intro v9 w9 af;have h9:=Qh.out _ _ _ rfl af;rw [List.nil_append,← Cm.out]at h9;have G9:=qqh h9.1;have cB:=qqh (eD.out.trans h9.2);clear af h9;go_wp2_with fail;exact⟨⟨j+1,by omega,by go_num,G9.out,cB.out⟩,by simp [intOf];omega⟩
   rw [List.concat_eq_append]at hacc;rw [hacc,dY]at K3;rw [hacc]at qu ⊢;obtain⟨g,cg,Ag,cg',e2,hcg,Ow,Yz,g1,gf,g2,gr,_⟩:=K3.out.last;simp only [List.length_append,List.length_cons,List.length_nil,Nat.zero_add,Value.slice.injEq,true_and]at e2;obtain⟨rfl,rfl⟩:=e2;simp only [List.length_append,List.length_cons,List.length_nil,Nat.zero_add]at qu ⊢;have Gq:=K3.out;simp only [List.length_append,List.length_cons,List.length_nil,Nat.zero_add]at Gq;have K3:=qqh Gq;clear gr g1 gf g2 Gq;generalize hm:i.length=m at *;have HM:=qqh hm;have NH:=qqh hacc;clear hm hacc
   have Ki:=qqh (fun(W:World) (C D:Option Addr) (c1 d1:Nat) (h1:JK W W.heap.size C x.rules.length x.rules) (h2:JK W W.heap.size D (bJ l r).length (bJ l r)) (hx:x.rules.length≤9223372036854775807)=>
     Jm C D x.rules.length (bJ l r).length c1 d1 x.rules (bJ l r) W hx h1 h2)
   cases hsame:x.rules == bJ l r
   ·have Cm:=qqh (yz NH.out HR.out hsame);rw [hsame]at Ki;clear hsame;go_wp2_with fail;refine HBG.out.mono ?_;rintro e w3 ⟨⟨v10,rfl,Ci⟩,bM⟩;have eD:=qqh (HB.out.trans (bM.mono HB.out.size));have F6:=qqh (K3.out.below bM);have hne:∀ b,gV wr.heap.size w3 b→((w3.drewN 0).setCell ⟨g,m*3+1,none⟩ (.int .i32 (r - 1))).heap[b]? = w3.heap[b]?:=fun b hb=>Below.heap_setCell _ _ _ _ (by
     have:=hb.1;simp only;omega)
    obtain⟨Um,c10,rfl,EB,_,_⟩:=Ci.form;obtain⟨g',cg2,Ag2,Ry,e2,_,_,_,g1,gf,g2,Wq,hxl⟩:=F6.out.last;rw [HM.out]at e2 g1 gf g2;cases e2;simp only [maxLen]at hxl;have K8:=qqh (Ki.out w3 _ _ Ry c10 Wq EB (by omega));have HI:=qqh Ci;have zf:=qqh hne;clear Ci hne bM EB Wq Ki;have hge:decide ((0:Int)≤(m:Int))=true:=decide_eq_true (by omega);go_wp2_with fail;refine K8.out.mono ?_;rintro e w4 ⟨rfl,kq,rfl⟩;have hh:=dc.Ig (F6.out.below (w':=w3.drewN kq) (below_drewN qqb kq)) (r - 1);rw [HM.out]at hh;have HH5:=qqh hh.1;have iQ:=qqh ((below_drewN eD.out kq).trans hh.2);have HI5:=qqh (HI.out.keep (gV.keeps (w':=(w3.drewN kq).setCell ⟨g,m*3+1,none⟩ (.int .i32 (r - 1))) (fun b hb _=>zf.out b hb) (by simp)));clear hh;have g1':(w3.drewN kq).cell? ⟨g,m*3+1,none⟩=some (.int .i32 1114111):=g1;have gf':(w3.drewN kq).frozen? ⟨g,m*3+1,none⟩=false:=gf;have Rr:w2.heap.size≤((w3.drewN kq).setCell ⟨g,m*3+1,none⟩ (.int .i32 (r - 1))).heap.size:=iQ.out.size;obtain⟨xs,ho,hf⟩:=dc.ready HH5.out HI5.out Rr Uj r 1114111;rw [show(i++[({ low:=x.low,high:=r - 1,rules:=x.rules }:bK)]).length=m+1 by simp [HM.out]]at ho hf;have HO:=qqh ho;have Qh:=qqh hf;have hsz:((w3.drewN kq).setCell ⟨g,m*3+1,none⟩ (.int .i32 (r - 1))).heap.size=w3.heap.size:=(by simp);have hnew:=Rd.new ((w3.drewN kq).setCell ⟨g,m*3+1,none⟩ (.int .i32 (r - 1))) 147 3 1 [.int .i32 r,.int .i32 1114111,.slice Um (bJ l r).length c10] rfl;rw [hsz]at hnew Rr;have HN:=qqh hnew;clear hnew;have mS:=qqh (show ∀ u ∈ [Value.int .i32 r,.int .i32 1114111,.slice Um (bJ l r).length c10],u.oneCell'=true by intro x hx;simp at hx;rcases hx with rfl | rfl | rfl <;> rfl);clear ho hf
    go_wp2_with (at_builtin;refine aj _ rfl (.tmp 66) (.tmp 70) 99 rfl w2.heap.size 147 i0 _ 3 32 Tryz.underlying99 hi q0 q1 q2 rfl (by decide) _ (m+1) _ rfl HO.out _ (some ⟨w3.heap.size,0,none⟩) 1 1 _ rfl HN.out mS.out (by simp only [maxLen];omega) (by omega) (by simp;omega) ?_);intro v9 w9 af;have h9:=Qh.out _ _ _ rfl af;rw [← Cm.out]at h9;have G9:=qqh h9.1;have cB:=qqh (iQ.out.trans h9.2);clear af h9;go_wp2_with fail;exact⟨⟨j+1,by omega,by go_num,G9.out,cB.out⟩,by simp [intOf];omega⟩
   have Cm:=qqh (yR NH.out HR.out hsame);rw [hsame]at Ki;clear hsame;go_wp2_with fail;refine HBG.out.mono ?_;rintro e w3 ⟨⟨v10,rfl,Ci⟩,bM⟩;have eD:=qqh (HB.out.trans (bM.mono HB.out.size));have F6:=qqh (K3.out.below bM);obtain⟨Um,c10,rfl,EB,_,_⟩:=Ci.form;obtain⟨g',cg2,Ag2,Ry,e2,_,_,_,g1,gf,g2,Wq,hxl⟩:=F6.out.last;rw [HM.out]at e2 g1 gf g2;cases e2;simp only [maxLen]at hxl;have K8:=qqh (Ki.out w3 _ _ Ry c10 Wq EB (by omega));clear Ci bM EB Wq Ki;have hge:decide ((0:Int)≤(m:Int))=true:=decide_eq_true (by omega);go_wp2_with fail;refine K8.out.mono ?_;rintro e w4 ⟨rfl,kq,rfl⟩;have G9:=qqh (F6.out.below (w':=w3.drewN kq) (below_drewN qqb kq));have cB:=qqh (below_drewN eD.out kq);rw [← Cm.out]at G9;go_wp2_with fail;exact⟨⟨j+1,by omega,by go_num,G9.out,cB.out⟩,by simp [intOf];omega⟩
  obtain rfl:j=n':=(by omega);have T2:=Mx (l:=l) (E:=aY l);unfold fV at T2;rw [qg.out]at T2;rw [T2]at E3;have qu:=fo l (aY l) j;have kz:=qqh (HP.out.trans (by rw [show fV l (aY l)=aS l (aY l) j by unfold fV;rw [qg.out]]));have nK:=qqh (bW.out.trans (hb.mono bW.out.size));have mj:=qqh (an.below iC.out hb iC.out.lt);have KU:=qqh (E3.done (by simp only [maxLen];omega));obtain⟨QF,QI,rfl,_⟩:=E3.form;have a0:=mj.out.cell 0;have a1:=mj.out.cell 1;have f0:=mj.out.frozen 0;have f1:=mj.out.frozen 1;have hfl:=mj.out.lt;have nT:=(nK.out.setCell (p:=⟨w.heap.size,0,none⟩) (by simp) (.int .i64 5)).setCell (p:=⟨w.heap.size,1,none⟩) (by simp) (.int .i64 0);have QC:=(nK.out.setCell (p:=⟨w.heap.size,0,none⟩) (by simp) (.int .i64 0)).setCell (p:=⟨w.heap.size,1,none⟩) (by simp) (.int .i64 0);have VZ:w.heap.size<w2.heap.size:=iC.out.lt
  have hk2:aa wr (fun b=>w2.heap.size≤b) ((wr.setCell ⟨w.heap.size,0,none⟩ (.int .i64 0)).setCell ⟨w.heap.size,1,none⟩ (.int .i64 0)) (fun b=>w.heap.size≤b) :=
    (aa.setCell (X':=fun b=>w2.heap.size≤b) (p:=⟨w.heap.size,0,none⟩) _ (fun b h=>by simp only;omega) (fun _ h _=>h)).trans (aa.setCell (p:=⟨w.heap.size,1,none⟩) _ (fun b h=>by simp only;omega) (fun _ h _=>by omega))
  have On:=qqh (KU.out.keep hk2);have oH:=qqh nT;have MM:=qqh QC;clear T2 E3 hb HP nT QC hk2 KU;generalize aS l (aY l) j=H at *;by_cases h4:400<H.length
  ·have i7:=qqh (kz.out.trans (if_pos h4));go_wp2_with fail;rw [i7.out];refine bodyPost_ret (v:=.tuple #[.slice none 0 0,.agg #[.int .i64 5,.int .i64 0]]) (by simp [results,Tryz.results54,go_sem,a0,a1]) rfl ⟨⟨_,rfl,?_⟩,oH.out⟩;exact⟨none,0,0,rfl,⟨[],rfl,rfl,by simp,by simp,by simp,fun h=>absurd h (Nat.lt_irrefl 0)⟩,Nat.zero_le _⟩
  have i7:=qqh (kz.out.trans (if_neg h4));go_wp2_with fail;rw [i7.out];exact bodyPost_ret (v:=.tuple #[.slice QF H.length QI,.agg #[.int .i64 0,.int .i64 0]]) (by simp [results,Tryz.results54,go_sem,a0,a1]) rfl ⟨⟨_,rfl,On.out⟩,MM.out⟩
 have HP:=qqh (show dR l=([],(r1,r2)) by unfold dR;rw [hR,if_pos hz]);clear hR;go_enter Tryz.func54,Tryz.ntmps54;go_wp2_with fail;refine(HW.out _ cy.out).mono ?_;rintro e w1 ⟨rfl,aP⟩;have eW:=qqh (an.below lX.out aP lX.out.lt);have bF:=qqh (cy.out.trans (aP.mono cy.out.size));clear aP lX cy HW;go_upto_region 3 with fail;have bf:=qqh (bF.out.alloc bF.out.size (.cells #[.int .i64 r1,.int .i64 r2] 34));have hx:=an.alloc eW.out (.cells #[.int .i64 r1,.int .i64 r2] 34);have hy:=an.new w1 34 #[.int .i64 r1,.int .i64 r2];have hxy:=eW.out.lt;generalize (w1.alloc (.cells #[.int .i64 r1,.int .i64 r2] 34))=W3 at *;have a0:=hx.cell 0;have a1:=hx.cell 1;have e0:=hy.cell 0;have e1:=hy.cell 1;have f0:=hx.frozen 0;have f1:=hx.frozen 1;clear hx hy;go_region
 all_goals
   go_wp2_with fail
   rw [HP.out]
   refine bodyPost_ret (v:=.tuple #[.slice none 0 0,.agg #[.int .i64 r1,.int .i64 r2]]) (by simp [results,Tryz.results54,go_sem,a0,a1]) rfl ⟨⟨_,rfl,?_⟩,?_⟩
   · exact⟨none,0,0,rfl,⟨[],rfl,rfl,by simp,by simp,by simp,fun h=>absurd h (Nat.lt_irrefl 0)⟩,Nat.zero_le _⟩
   · exact((bf.out.setCell (p:=⟨w.heap.size,0,none⟩) (by simp) _).setCell (p:=⟨w.heap.size,1,none⟩) (by simp) _).drew
end Go.Proofs.YtamkjeipdjbemaaGreatDoor
