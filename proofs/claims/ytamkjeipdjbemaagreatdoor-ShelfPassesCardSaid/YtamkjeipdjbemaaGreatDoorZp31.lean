import Derived.Test.YtamkjeipdjbemaaGreatDoorZp30
import Derived.BigRegion
set_option maxHeartbeats 3200000
set_option maxRecDepth 100000
namespace Go.Proofs.YtamkjeipdjbemaaGreatDoor
open Go.RowKit
theorem sS (A:Option Addr) (n c:Nat) (t:List Int) (w:World) (hn:n≤maxLen) (ht:mg w w.heap.size A n t) :
    Calls Tryz.prog 22 #[.slice A n c] w fun e w'=>e=.returned (.int .i64 (cW t))∧Below w.heap.size w w':=by
 have hl:=ht.len;simp only [maxLen]at hn;have HC:=qqh (Hf A n c t w (by omega) ht);have HP:=qqh (show cW t=if 4000<n then 4 else if cj t=true then 3 else 0 by unfold cW;rw [hl]);clear ht hl;by_cases h4:4000<n
 ·have kz:=qqh (HP.out.trans (if_pos h4));go_enter Tryz.func22,Tryz.ntmps22;go_wp2_with fail;go_ret;rw [kz.out];exact⟨rfl,qqb⟩
 have kz:=qqh (HP.out.trans (if_neg h4));clear HP;go_enter Tryz.func22,Tryz.ntmps22;go_wp2_with fail;refine HC.out.mono ?_;rintro e w1 ⟨rfl,hb⟩;have HB:=qqh hb;clear hb;cases hr:cj t
 ·have i7:=qqh (kz.out.trans (if_neg (by rw [hr];decide)));clear hr kz;go_wp2_with fail;go_ret;rw [i7.out];exact⟨rfl,HB.out⟩
 have i7:=qqh (kz.out.trans (if_pos hr));clear hr kz;go_wp2_with fail;go_ret;rw [i7.out];exact⟨rfl,HB.out⟩
def fB:List ag→List Int→Int→Bool
  | [],_,_=>true
  | s::l,t,k=>if k<0∨(t.length:Int)≤k then false else bB s (t.getD k.toNat 0) && fB l t (k+1)
theorem ql (a b:List ag) (t:List Int):∀ k,fB (a++b) t k=(fB a t k && fB b t (k+a.length)):=by
 induction a with
 | nil=>intro k;simp [fB]
 | cons s a ih=>
  intro k;simp only [List.cons_append,fB];by_cases h:k<0∨(t.length:Int)≤k
  ·rw [if_pos h,if_pos h];rfl
  rw [if_neg h,if_neg h,ih,Bool.and_assoc,show k+1+(a.length:Int)=k+((s::a).length:Nat) by simp only [List.length_cons];omega]
theorem JA (l:List ag) (t:List Int):∀ k:Nat,fB l t k=jz l (t.drop k):=by
 induction l with
 | nil=>intro k;rfl
 | cons s l ih=>
  intro k;rw [fB];by_cases h:t.length≤k
  ·rw [if_pos (.inr (by omega)),List.drop_of_length_le h];rfl
  obtain⟨x,hx⟩:∃ x,t[k]? = some x:=⟨_,List.getElem?_eq_getElem (by omega)⟩;rw [if_neg (by omega),bR hx,jz,show(k:Int)+1=((k+1:Nat):Int) by omega,ih,Int.toNat_natCast,show t.getD k 0=x by simp [List.getD,hx]]
theorem Eu (l:List ag):∀ t:List Int,t.length<l.length→jz l t=false:=by
 induction l with
 | nil=>intro t h;simp at h
 | cons s l ih=>
  intro t h;cases t with
  | nil=>rfl
  | cons x t=>rw [jz,ih t (by simpa using h),Bool.and_false]
theorem nU (l:List ag) (t:List Int) (k:Nat) (hk:k≤t.length):fB l t k=je t k l:=by
 rw [JA];unfold je;by_cases h:(t.length:Int) - (l.length:Int)<k
 ·rw [if_pos (.inr h),Eu];rw [List.length_drop];omega
 rw [if_neg (by omega)];rfl
theorem FK (l:List ag) (t:List Int) (k:Int) (hk:k<0) (h:l ≠ []):fB l t k=false:=by
 cases l with
 | nil=>exact absurd rfl h
 | cons s l=>rw [fB,if_pos (.inl hk)]
def kW (r:az):List ag:=r.before++r.source++r.after
theorem Kw (r:az) (t:List Int) (q:Nat) (hq:q≤t.length) :
    cV r t q=(fB (kW r) t ((q:Int) - r.before.length) && !(r.start && decide (0<(q:Int) - r.before.length)) && !(r.fin && decide ((q:Int) - r.before.length+(kW r).length<t.length))):=by
 unfold cV kW;rw [ql,ql];have hb:fB r.before t ((q:Int) - r.before.length)=je t ((q:Int) - r.before.length) r.before:=by
  by_cases h:r.before.length≤q
  ·rw [show(q:Int) - r.before.length=((q - r.before.length:Nat):Int) by omega];exact nU _ _ _ (by omega)
  rw [FK _ _ _ (by omega) (by intro e;rw [e]at h;exact h (Nat.zero_le _)),CJ (by omega)]
 rw [hb,show(q:Int) - r.before.length+r.before.length=(q:Int) by omega,nU _ _ _ hq];cases h1:je t ((q:Int) - r.before.length) r.before
 ·simp
 cases h2:je t q r.source
 ·simp
 have hq1:q+r.source.length≤t.length:=by
  unfold je at h2;split at h2
  ·cases h2
  rename_i hn;omega
 have S3:r.before.length≤q:=by
  unfold je at h1;split at h1
  ·cases h1
  rename_i hn;omega
 rw [show(q:Int) - (r.before.length:Int)+((r.before++r.source).length:Nat)=((q+r.source.length:Nat):Int) by rw [List.length_append];omega,nU _ _ _ hq1,show((q+r.source.length:Nat):Int)=(q:Int)+r.source.length by omega];cases h3:je t ((q:Int)+r.source.length) r.after
 ·simp
 have C8:q+r.source.length+r.after.length≤t.length:=by
  unfold je at h3;split at h3
  ·cases h3
  rename_i hn;omega
 have e1:decide (q≠r.before.length)=decide (0<(q:Int) - r.before.length):=by
  apply Bool.eq_iff_iff.2;simp only [decide_eq_true_iff];omega
 have e2:decide (q+r.source.length+r.after.length≠t.length)=decide ((q:Int) - r.before.length+((r.before++r.source++r.after).length:Nat)<t.length):=by
  apply Bool.eq_iff_iff.2;simp only [decide_eq_true_iff,List.length_append];omega
 rw [e1,e2]
def ic (w:World) (X:Nat→Prop) (l:List ag) (xs:List Value):Prop:=xs.length=l.length∧∀ (i:Nat) (s:ag) (u:Value),l[i]? = some s→xs[i]? = some u→jh w X s u
theorem ic.append {w:World} {X:Nat→Prop} {l m:List ag} {xs ys:List Value} (h:ic w X l xs) (h2:ic w X m ys):ic w X (l++m) (xs++ys):=by
 refine⟨by simp [h.1,h2.1],fun i s u hs hu=>?_⟩;rcases Nat.lt_or_ge i l.length with hi | hi
 ·rw [List.getElem?_append_left hi]at hs;rw [List.getElem?_append_left (by rw [h.1];exact hi)]at hu;exact h.2 i s u hs hu
 rw [List.getElem?_append_right hi]at hs;rw [List.getElem?_append_right (by rw [h.1];exact hi),h.1]at hu;exact h2.2 _ s u hs hu
theorem ic.keep {w w':World} {X X':Nat→Prop} {l:List ag} {xs:List Value} (hk:aa w X w' X') (h:ic w X l xs):ic w' X' l xs:=⟨h.1,fun i s u h1 h2=>(h.2 i s u h1 h2).keep hk⟩
theorem ic.one {w:World} {X:Nat→Prop} {l:List ag} {xs:List Value} (h:ic w X l xs):∀ u∈xs,u.oneCell'=true:=by
 intro u hu;obtain⟨i,hi⟩:=List.mem_iff_getElem?.1 hu;obtain⟨s,hs⟩:∃ s,l[i]? = some s:=⟨_,List.getElem?_eq_getElem (by rw [← h.1];exact(List.getElem?_eq_some_iff.1 hi).1)⟩;obtain⟨A,n,c,rfl,_⟩:=h.2 i s u hs hi;rfl
theorem tU {w:World} {X:Nat→Prop} {A:Option Addr} {n:Nat} {l:List ag} (h:bS (iH w X) w X 1 A n l):∃ xs,ic w X l xs∧cL w X 1 A n xs:=by
 obtain⟨css,h1,h2,h3,h4,h5⟩:=h;refine⟨css.flatten,⟨by rw [h5.1,h1,Nat.mul_one],fun i s u hs hu=>?_⟩,h5⟩;obtain⟨cs,hcs⟩:∃ cs,css[i]? = some cs:=⟨_,List.getElem?_eq_getElem (by have:=(List.getElem?_eq_some_iff.1 hs).1;omega)⟩;obtain⟨u2,rfl,hv⟩:=h3 i s cs hs hcs;have:=dH h4 i _ hcs 0 u2 rfl;rw [Nat.mul_one,Nat.add_zero,hu]at this;injection this with this;rwa [this]
theorem Bi:(Tryz.prog.info? 26).map (fun i=>(i.zero,i.size,i.bytes))=some (some (.slice none 0 0),1,24):=by kernel_rfl
def XV (w1:World) (W:List ag) (t:List Int) (fr:Int) (n:Nat) (i:Value) (wr:World):Prop :=
  ∃ j:Nat,j≤n∧i=.int .i64 j∧fB W t fr=fB (W.drop j) t (fr+j)∧Below w1.heap.size w1 wr
theorem Bp (X:Nat→Prop) (r:az) (A1 A2 A3 A4 At:Option Addr) (n1 c1 n2 c2 n3 c3 n4 c4 nt ct:Nat) (t:List Int) (q:Nat) (w:World) (hr:fK r) (s1:eH w X r.before (.slice A1 n1 c1)) (s2:eH w X r.source (.slice A2 n2 c2)) (s3:eH w X r.after (.slice A3 n3 c3))
    (hnt:nt≤100000) (hq:q≤nt) (ht:mg w w.heap.size At nt t) :
    Calls Tryz.prog 112 #[.agg #[.bool r.start,.bool r.fin,.slice A1 n1 c1,.slice A2 n2 c2,.slice A3 n3 c3,.slice A4 n4 c4,.int .i64 r.ai],.slice At nt ct,.int .i64 q] w fun e w'=>e=.returned (.bool (cV r t q))∧Below w.heap.size w w':=by
 obtain⟨i0,hi,Cs,z1,z2⟩:=info_parts Bi;have iJ:=s1.list.len;have gh:=s2.list.len;have nC:=s3.list.len;have hs1:=(hr.sets r.before (by simp [cC])).1;have vB:=(hr.sets r.source (by simp [cC])).1;have Ot:=(hr.sets r.after (by simp [cC])).1;have TU:n1≤20:=(by omega);have hn2:n2≤20:=(by omega);have Su:n3≤20:=(by omega);have htl:=ht.len;have HP:=qqh (show cV r t q=(fB (kW r) t ((q:Int) - n1) && !(r.start && decide (0<(q:Int) - n1)) && !(r.fin && decide ((q:Int) - n1+(n1+n2+n3:Nat)<nt))) by
  rw [Kw r t q (by omega),show(kW r).length=n1+n2+n3 by unfold kW;simp only [List.length_append];omega,iJ,htl])
 have Xm:=qqh (show(kW r).length=n1+n2+n3 by unfold kW;simp only [List.length_append];omega);have T9:=qqh (show ∀ s∈kW r,aJ s by
  intro s hs;unfold kW at hs;rcases List.mem_append.1 hs with hs | hs
  ·rcases List.mem_append.1 hs with hs | hs;exact(hr.sets r.before (by simp [cC])).2 s hs;exact(hr.sets r.source (by simp [cC])).2 s hs
  exact(hr.sets r.after (by simp [cC])).2 s hs)
 obtain⟨Yk,k1,e1⟩:=tU s1.list;obtain⟨Ya,k2,e2⟩:=tU s2.list;obtain⟨Yf,k3,e3⟩:=tU s3.list;have HT:=qqh ht;have Ie:=qqh htl;generalize hcs:(#[.bool r.start,.bool r.fin,.slice A1 n1 c1,.slice A2 n2 c2,.slice A3 n3 c3,.slice A4 n4 c4,.int .i64 r.ai]:Array Value)=cs;have HG:=qqh (show an (w.alloc (.cells cs 133)) w.heap.size 133 cs from an.new w _ _);have cy:=qqh ((Below.refl w.heap.size w).alloc qql (.cells cs 133));have HK:=qqh (And.intro k1 (And.intro k2 k3));have HE:=qqh (And.intro e1.of (And.intro e2.of e3.of));have ng:=qqh (show cs[0]? = some (.bool r.start)∧cs[1]? = some (.bool r.fin)∧cs[2]? = some (.slice A1 n1 c1)∧cs[3]? = some (.slice A2 n2 c2)∧cs[4]? = some (.slice A3 n3 c3) by subst hcs;exact⟨rfl,rfl,rfl,rfl,rfl⟩);have JI:(w.alloc (.cells cs 133)).cell? ⟨w.heap.size,2,none⟩=some (.slice A1 n1 c1):=(HG.out.cell 2).trans ng.out.2.2.1;have Xi:(w.alloc (.cells cs 133)).cell? ⟨w.heap.size,3,none⟩=some (.slice A2 n2 c2):=(HG.out.cell 3).trans ng.out.2.2.2.1;have Rt:(w.alloc (.cells cs 133)).cell? ⟨w.heap.size,4,none⟩=some (.slice A3 n3 c3):=(HG.out.cell 4).trans ng.out.2.2.2.2;clear ht htl k1 k2 k3 e1 e2 e3 s1 s2 s3 hr hs1 vB Ot iJ gh nC hcs;go_enter Tryz.func112,Tryz.ntmps112;go_upto_region 2 with fail;refine aC (S:=(fun w1=>w1.cell? ⟨w.heap.size,2,none⟩=some (.slice A1 n1 c1)∧w1.cell? ⟨w.heap.size,3,none⟩=some (.slice A2 n2 c2)∧w1.cell? ⟨w.heap.size,4,none⟩=some (.slice A3 n3 c3))) [2,5,8] (by kernel_rfl) ⟨JI,Xi,Rt⟩ (fun aQ=>?_);refine tq 0 12 ?_;(try simp only [zp,za,z0,zs]);refine tq 1 13 ?_;(try simp only [zp,za,z0,zs]);refine tu 2 14 ?_
 (try simp only [zp,za,z0,zs]);refine tq 4 16 ?_;(try simp only [zp,za,z0,zs]);refine tu 5 17 ?_;(try simp only [zp,za,z0,zs]);refine tq 7 19 ?_;(try simp only [zp,za,z0,zs]);refine tu 8 20 ?_;(try simp only [zp,za,z0,zs]);refine ax (i:=3) (o:=⟨some 15,_,_,_,_,_⟩) (by kernel_rfl) rfl (fun K hK=>?_);refine aH _ rfl (.tmp 12) (.tmp 14) 131 rfl w.heap.size 26 i0 _ 1 24 Tryz.underlying131 hi Cs z1 z2 rfl (by decide) _ _ _ rfl (World.ownsRow_nil _ w.heap.size 26 1) _ A1 n1 c1 Yk rfl (Rd.below HE.out.1 (ak cy.out)) HK.out.1.one (by simp only [maxLen];omega) (by omega) (cy.out.size) ?_;intro v1 wa1 af;have js:=qqh (show an wa1 w.heap.size 133 cs from aZ (show an (w.alloc (.cells cs 133)).drew w.heap.size 133 cs from HG.out) (World.ownsRow_nil _ w.heap.size 26 1) (by decide) af);have Mr:=qqh ((ak cy.out).trans (af.below (ak cy.out).size (World.ownsRow_nil _ w.heap.size 26 1)));have Pj:=qqh af.own;clear af;(try dsimp only);refine hK.out _ _ ?_ (fun aQ=>?_);exact⟨(js.out.cell 2).trans ng.out.2.2.1,(js.out.cell 3).trans ng.out.2.2.2.1,(js.out.cell 4).trans ng.out.2.2.2.2⟩;clear hK K;(try simp only [zp,za,z0,zs]);refine ax (i:=6) (o:=⟨some 18,_,_,_,_,_⟩) (by kernel_rfl) rfl (fun K hK=>?_);refine aH _ rfl (.tmp 15) (.tmp 17) 131 rfl w.heap.size 26 i0 _ 1 24 Tryz.underlying131 hi Cs z1 z2 rfl (by decide) _ _ _ rfl (Pj.out) _ A2 n2 c2 Ya rfl (Rd.below HE.out.2.1 Mr.out) HK.out.2.1.one (by simp only [maxLen];omega) (by omega) (Mr.out.size) ?_;intro v2 wa2 af;have jZ:=qqh (show an wa2 w.heap.size 133 cs from aZ js.out Pj.out (by decide) af)
 have Nh:=qqh (Mr.out.trans (af.below Mr.out.size Pj.out));have OL:=qqh af.own;clear af;(try dsimp only);refine hK.out _ _ ?_ (fun aQ=>?_);exact⟨(jZ.out.cell 2).trans ng.out.2.2.1,(jZ.out.cell 3).trans ng.out.2.2.2.1,(jZ.out.cell 4).trans ng.out.2.2.2.2⟩;clear hK K;(try simp only [zp,za,z0,zs]);refine aA (i:=9) (o:=⟨some 21,_,_,_,_,_⟩) (by kernel_rfl) rfl (by kernel_rfl) (fun K hK=>?_);refine aH _ rfl (.tmp 18) (.tmp 20) 131 rfl w.heap.size 26 i0 _ 1 24 Tryz.underlying131 hi Cs z1 z2 rfl (by decide) _ _ _ rfl (OL.out) _ A3 n3 c3 Yf rfl (Rd.below HE.out.2.2 Nh.out) HK.out.2.2.one (by simp only [maxLen];omega) (by omega) (Nh.out.size) ?_;intro v3 T8 af;have BE:=qqh (show an T8 w.heap.size 133 cs from aZ jZ.out OL.out (by decide) af);have LR:=qqh (Nh.out.trans (af.below Nh.out.size OL.out));have Uw:=qqh af.own;clear af;(try dsimp only);refine hK.out _ _ ?_;clear hK K;(try simp only [zp,za,z0,zs]);refine tq 10 7 ?_;(try simp only [zp,za,z0,zs]);refine aL (by kernel_rfl) ?_ _;go_simp;obtain⟨N,hN⟩:∃ N,N=n1+n2+n3:=⟨_,rfl⟩;have HO:=qqh (show T8.ownsRow w.heap.size 26 1 v3 N (Yk++Ya++Yf) by have:=Uw.out;rw [hN];simpa using this);have yg:=qqh (ic.keep (X':=fun _=>True) (show aa w X T8 (fun _=>True) from aa.below LR.out (fun _ _ _=>trivial)) ((HK.out.1.append HK.out.2.1).append HK.out.2.2));obtain⟨Av,cv,rfl,_⟩:=av HO.out;have eU:=qqh (show cL T8 (fun _=>True) 1 Av N (Yk++Ya++Yf) from cL.b8 HO.out (fun _ _=>trivial));have d2:T8.cell? ⟨w.heap.size,2,none⟩=some (.slice A1 n1 c1):=(BE.out.cell 2).trans ng.out.2.2.1;obtain⟨fr,hfr⟩:∃ fr:Int,fr=(q:Int) - (n1:Int):=⟨_,rfl⟩
 have hw1:IntKind.i64.wrap ((q:Int) - (n1:Int))=fr:=(by rw [IntKind.wrap_i64];omega);have kz:=qqh (show cV r t q=(fB (kW r) t fr && !(r.start && decide (0<fr)) && !(r.fin && decide (fr+(N:Int)<nt))) by rw [HP.out,hfr,hN]);have HWN:=qqh (Xm.out.trans hN.symm);have ri:fr≤100000:=(by omega);have pP : -20≤fr:=(by omega);have hf3:N≤60:=(by omega);clear hfr hN HP Xm HO Pj OL Uw Mr Nh js jZ HK HE JI Xi Rt;go_wp2_with fail;go_loopw [29] (XV T8 (kW r) t fr N) (fun i _=>N - (intOf i).toNat);(case atStart=>exact⟨0,Nat.zero_le _,rfl,by simp,qqb⟩);obtain⟨j,hj,rfl,aN,hb⟩:=hrel;have nK:=qqh (LR.out.trans (hb.mono LR.out.size));have QJ:=qqh hb;by_cases hlt:j<N
 ·obtain⟨sx,hs⟩:∃ z,(kW r)[j]? = some z:=⟨_,List.getElem?_eq_getElem (by rw [HWN.out];exact hlt)⟩;obtain⟨u,hu⟩:∃ z,(Yk++Ya++Yf)[j]? = some z:=⟨_,List.getElem?_eq_getElem (by rw [yg.out.1,show(r.before++r.source++r.after).length=N from HWN.out];exact hlt)⟩;obtain⟨A',n',c',rfl,hrd,hnn⟩:=yg.out.2 j sx u hs hu;obtain⟨b,off,rfl,_,cK,hc⟩:=eU.out.2 (by omega);have d0:=(hb.cell (p:=⟨b,off+j,none⟩) cK).trans (hc j _ hu);rw [bR hs,fB]at aN;have HS:=qqh (yg.out.1);have nP:=qqh (cL.of (hrd.keep (aa.any hb)));have sN:=qqh (T9.out sx (List.mem_of_getElem? hs));simp only [maxLen]at hnn;clear hs hu hrd hb;by_cases hk0:fr+(j:Int)<0
  ·have HF:=qqh (show cV r t q=false by rw [kz.out,aN,if_pos (.inl hk0)];simp);have ya:IntKind.i64.wrap (fr+(j:Int))=fr+(j:Int):=(by rw [IntKind.wrap_i64];omega);clear aN;go_wp2_with fail;go_ret;exact⟨aV HF.out.symm,nK.out⟩
  obtain⟨kk,hkk⟩:∃ kk:Nat,fr+(j:Int)=(kk:Int):=⟨(fr+(j:Int)).toNat,by omega⟩;have ya:IntKind.i64.wrap (fr+(j:Int))=(kk:Int):=(by rw [IntKind.wrap_i64];omega);by_cases hk1:nt≤kk
  ·have HF:=qqh (show cV r t q=false by rw [kz.out,aN,if_pos (.inr (by rw [Ie.out];omega))];simp);clear aN;go_wp2_with fail;go_ret;exact⟨aV HF.out.symm,nK.out⟩
  obtain⟨b2,off2,rfl,aX,c0⟩:=HT.out.at (k:=kk) (by omega);have d1:=(nK.out.cell (p:=⟨b2,off2+kk,none⟩) aX).trans c0;have dh:=qqh (show fB (kW r) t fr=(bB sx (t.getD kk 0) && fB ((kW r).drop (j+1)) t (fr+((j+1:Nat):Int))) by rw [aN,if_neg (by rw [Ie.out];omega),hkk,Int.toNat_natCast,show fr+((j+1:Nat):Int)=(kk:Int)+1 by omega]);generalize t.getD kk 0=x at *;clear aN c0;go_wp2_with fail;refine(vQ A' n' c' sx x _ (by omega) nP.out).mono ?_;rintro e w9 ⟨rfl,cA⟩;have cB:=qqh (QJ.out.trans (cA.mono QJ.out.size));have ab0:=qqh (LR.out.trans (cB.out.mono LR.out.size));clear cA;cases hh:bB sx x
  ·have HF:=qqh (show cV r t q=false by rw [kz.out,dh.out,hh];simp);clear hh;go_wp2_with fail;go_ret;exact⟨aV HF.out.symm,ab0.out⟩
  have FC:=qqh (dh.out.trans (by rw [hh,Bool.true_and]));clear hh;go_wp2_with fail;exact⟨⟨j+1,by omega,by go_num,FC.out,cB.out⟩,by simp [intOf];omega⟩
 obtain rfl:j=N:=(by omega);have HQ:=qqh (show cV r t q=(!(r.start && decide (0<fr)) && !(r.fin && decide (fr+(j:Int)<nt))) by
  rw [kz.out,aN,List.drop_of_length_le (by rw [HWN.out];exact qql),fB,Bool.true_and])
 have d0:wr.cell? ⟨w.heap.size,0,none⟩=some (.bool r.start):=((an.below BE.out hb BE.out.lt).cell 0).trans ng.out.1;have d1:wr.cell? ⟨w.heap.size,1,none⟩=some (.bool r.fin):=((an.below BE.out hb BE.out.lt).cell 1).trans ng.out.2.1;clear aN hb;cases hst:r.start
 ·rw [hst]at d0;cases hf:r.fin
  ·rw [hf]at d1;have HF:=qqh (show cV r t q=true by rw [HQ.out,hst,hf];simp);clear HQ;go_wp2_with fail;go_ret;exact⟨aV HF.out.symm,nK.out⟩
  by_cases he:fr+(j:Int)<nt
  ·rw [hf]at d1;have HF:=qqh (show cV r t q=false by rw [HQ.out,hst,hf];simp;exact he);clear HQ;go_wp2_with fail;go_ret;exact⟨aV HF.out.symm,nK.out⟩
  rw [hf]at d1;have HF:=qqh (show cV r t q=true by rw [HQ.out,hst,hf];simp;omega);clear HQ;go_wp2_with fail;go_ret;exact⟨aV HF.out.symm,nK.out⟩
 by_cases hz:0<fr
 ·rw [hst]at d0;have HF:=qqh (show cV r t q=false by rw [HQ.out,hst];simp;intro h;omega);clear HQ;go_wp2_with fail;go_ret;exact⟨aV HF.out.symm,nK.out⟩
 rw [hst]at d0;cases hf:r.fin
 ·rw [hf]at d1;have HF:=qqh (show cV r t q=true by rw [HQ.out,hst,decide_eq_false hz,hf];simp);clear HQ;go_wp2_with fail;go_ret;exact⟨aV HF.out.symm,nK.out⟩
 by_cases he:fr+(j:Int)<nt
 ·rw [hf]at d1;have HF:=qqh (show cV r t q=false by rw [HQ.out,hst,decide_eq_false hz,hf];simp;exact he);clear HQ;go_wp2_with fail;go_ret;exact⟨aV HF.out.symm,nK.out⟩
 rw [hf]at d1;have HF:=qqh (show cV r t q=true by rw [HQ.out,hst,decide_eq_false hz,hf];simp;omega);clear HQ;go_wp2_with fail;go_ret;exact⟨aV HF.out.symm,nK.out⟩
end Go.Proofs.YtamkjeipdjbemaaGreatDoor
