/- UnIdle + GuessSets + GuessGrow + UnImages + GuessWrong -/
import Derived.Test.YtkggjgeihhialaaGreatDoorZu36
import Derived.Test.YtkggjgeihhialaaGreatDoorZu37
import Derived.Test.YtkggjgeihhialaaGreatDoorZu17
import Derived.Test.YtkggjgeihhialaaGreatDoorZu8
import Derived.Test.YtkggjgeihhialaaGreatDoorZu11
import Derived.Test.YtkggjgeihhialaaGreatDoorZu3
set_option maxHeartbeats 6400000
set_option maxRecDepth 100000
namespace Go.Proofs.YtkggjgeihhialaaGreatDoor
open Go.RowKit
def Xn (w:World) (A:Option Addr) (L:List af):Prop:=∀ (k:Nat) (s:af),L[k]? = some s→∃ (b off:Nat) (A':Option Addr) (n' c':Nat),A=some ⟨b,off,none⟩∧b<w.heap.size∧w.cell? ⟨b,off+k,none⟩=some (.slice A' n' c')∧jz w w.heap.size A' n' s∧n'≤c'
def AH:Prop:=∀ (w:World) (X:Nat→Prop) (L:List af) (A:Option Addr) (n c:Nat),fq w X L (.slice A n c)→Xn w A L
def mM (dom s:af):Bool:=decide ((mz 38 s dom).2=0) && decide ((mz 38 s dom).1.length=0)
def q6 (dom:af) (r:ai):Bool:=r.source.any (mM dom)
theorem OE {dom:af} {r:ai} (hr:bQ r) (hd:aF dom) (h:q6 dom r=true):Mt dom r:=by
 obtain⟨s,hs,h⟩:=List.any_eq_true.1 h;have NR:=(hr.sets r.source (by simp [cB])).2 s hs;refine⟨s,hs,fun x hx=>?_⟩;unfold mM at h;rw [Gn NR hd,Bool.and_eq_true,decide_eq_true_iff,decide_eq_true_iff]at h;obtain⟨h1,h2⟩:=h;unfold sy at h1 h2;by_cases h3:200<(dw s dom).length
 ·rw [if_pos h3]at h1;cases h1
 rw [if_neg h3]at h2;dsimp only at h2;have h4:=(vW NR.canon hd.canon).2.2 x;rw [List.eq_nil_of_length_eq_zero h2]at h4;cases h5:bf dom x;rfl;rw [hx,h5]at h4;cases h4
def Ua (w:World) (L:List af) (dom:af) (n:Nat) (i:Value) (wr:World):Prop:=∃ q:Nat,q≤n∧i=.int .i64 (q:Int)∧(L.take q).any (mM dom)=false∧Below w.heap.size w wr
theorem IM (r:ai) (rb ro:Nat) (A2 Ad:Option Addr) (n2 c2 nd cd:Nat) (dom:af) (w:World) (hr:bQ r) (hn2:r.source.length=n2) (h3:w.cell? ⟨rb,ro+3,none⟩=some (.slice A2 n2 c2)) (hcap:Xn w A2 r.source) (hd:bU w Ad nd cd dom) :
    Calls Tryz.prog 59 #[.pointer (some ⟨rb,ro,none⟩),.slice Ad nd cd] w fun e w'=>e=.returned (.bool (q6 dom r))∧Below w.heap.size w w':=by
 have HSR:=qqh (hr.sets r.source (by simp [cB])).2;have iw:n2≤20:=(by rw [← hn2];exact(hr.sets r.source (by simp [cB])).1);have HN:=qqh hn2;have PS:=qqh hcap;have YA:=qqh hd;unfold q6;clear hr hcap hd hn2;generalize r.source=L at *;go_enter Tryz.func59,Tryz.ntmps59;go_wp2_with fail;clear h3;go_loopw [14] (Ua w L dom n2) (fun i _=>n2 - (intOf i).toNat);(case atStart=>exact⟨0,Nat.zero_le _,rfl,rfl,Below.refl _ _⟩);obtain⟨q,hq,rfl,hno,hb⟩:=hrel;have TO:=qqh hno;have HB:=qqh hb;by_cases NV:q<n2
 ·obtain⟨s,hs⟩:∃ s,L[q]? = some s:=⟨_,List.getElem?_eq_getElem (by rw [HN.out];exact NV)⟩;obtain⟨b,off,A',n',c',rfl,cH,hc,hrd,hnc⟩:=PS.out q s hs;have hc1:=(hb.cell (p:=⟨b,off+q,none⟩) cH).trans hc;have X9:=oM A' Ad n' c' nd cd s dom wr ⟨HSR.out s (List.mem_of_getElem? hs),(Rd.below hrd hb).more hb.size,hnc⟩ (YA.out.below hb);unfold bS at X9;obtain⟨M,e2,hM⟩:∃ M e2,mz 38 s dom=(M,e2):=⟨_,_,rfl⟩;rw [hM]at X9;have HMM:=qqh X9;have MA:=qqh (show mM dom s=(decide (e2=0) && decide (M.length=0)) by unfold mM;rw [hM]);have GP:=qqh (show L.take (q+1)=L.take q++[s] by rw [List.take_add_one,hs];rfl);have G6:=qqh (List.mem_of_getElem? hs);have JC:(0:Int)≤(q:Int):=(by omega);have hq1:(q:Int)<(n2:Int):=(by omega);have Sm:decide ((q:Int)<(n2:Int))=true:=decide_eq_true hq1;clear hs hc hrd hno hb X9 hM;go_wp2_with fail;refine HMM.out.mono ?_;rintro e w2 ⟨A5,n5,c5,rfl,BJ,hn5,lH,dJ⟩;have hml:M.length=n5:=(by have:=BJ.1;rw [bB]at this;omega);have dn:=qqh (HB.out.trans (dJ.mono HB.out.size));have SA:=qqh hml;clear BJ dJ hml;by_cases he:e2=0
  ·subst he;by_cases h0:n5=0
   ·subst h0;go_wp2_with fail;go_ret;have ht:L.any (mM dom)=true:=List.any_eq_true.2 ⟨s,G6.out,by rw [MA.out,SA.out];rfl⟩;exact⟨aW ht.symm,dn.out⟩
   have h0b:((n5:Int) == 0)=false:=(by rw [beq_eq_false_iff_ne];omega);go_wp2_with fail;refine⟨⟨q+1,by omega,by go_num,?_,dn.out⟩,by simp [intOf];omega⟩;rw [GP.out,List.any_append,TO.out,List.any_cons,MA.out,SA.out,decide_eq_false h0];simp
  have heb:(e2 == 0)=false:=(by rw [beq_eq_false_iff_ne];exact he);go_wp2_with fail;refine⟨⟨q+1,by omega,by go_num,?_,dn.out⟩,by simp [intOf];omega⟩;rw [GP.out,List.any_append,TO.out,List.any_cons,MA.out,decide_eq_false he];simp
 obtain rfl:q=n2:=(by omega);have hf:L.any (mM dom)=false:=(by have:=TO.out;rwa [List.take_of_length_le (Nat.le_of_eq HN.out)]at this);have Sm:decide ((q:Int)<(q:Int))=false:=decide_eq_false (by omega);go_wp2_with fail;go_ret;exact⟨aW hf.symm,HB.out⟩
def fT (x:Int × Int):List Int:=(List.range (x.2 - x.1+1).toNat).map fun i:Nat=>x.1+(i:Int)
def aM (s:af):List Int:=s.flatMap fT
theorem vS {x:Int × Int} {r:Int}:r∈fT x↔x.1≤r∧r≤x.2:=by
 unfold fT;rw [List.mem_map];constructor
 ·rintro⟨i,hi,rfl⟩;rw [List.mem_range]at hi;omega
 rintro⟨h1,h2⟩;exact⟨(r - x.1).toNat,by rw [List.mem_range];omega,by omega⟩
theorem iq {s:af} {r:Int}:r∈aM s↔bf s r=true:=by
 unfold aM;rw [nC,List.mem_flatMap];constructor
 ·rintro⟨x,hx,h⟩;exact⟨x,hx,vS.1 h⟩
 rintro⟨x,hx,h⟩;exact⟨x,hx,vS.2 h⟩
theorem qf {x:Int × Int} (h:x.1≤x.2):((fT x).length:Int)=x.2 - x.1+1:=by
 unfold fT;rw [List.length_map,List.length_range];omega
theorem Fp {x:Int × Int} {k:Nat} (h:(k:Int)<x.2 - x.1+1):(fT x)[k]? = some (x.1+(k:Int)):=by
 unfold fT;rw [List.getElem?_map,List.getElem?_range (by omega)];rfl
theorem tM (A:Option Addr) (n c:Nat) (s:af) (w:World) (hn:n≤9223372036854775807) (hl:jz w w.heap.size A n s) :
    Calls Tryz.prog 55 #[.slice (some ⟨w.heap.size,0,none⟩) 1 1] (w.alloc (.cells #[.slice A n c] 24)) fun e w'=>e=.returned (.int .i64 (bC s))∧Below w.heap.size w w':=by
 have hb0:=(Below.refl w.heap.size w).alloc (Nat.le_refl _) (.cells #[.slice A n c] 24);have HW:=qqh (hJ A n c s _ hn ((Rd.below hl hb0).more hb0.size));have dY:=qqh hb0;have HA:=qqh (aj.new w 24 #[.slice A n c]);clear hl hb0;generalize w.alloc (.cells #[.slice A n c] 24)=W at *;have a0:W.cell? ⟨w.heap.size,0,none⟩=some (.slice A n c):=HA.out.cell 0;obtain⟨e,he⟩:∃ e,bC s=e:=⟨_,rfl⟩;rw [he]at HW ⊢;go_enter Tryz.func55,Tryz.ntmps55;go_wp2_with fail;go_loopw [8] (fun i wr=>(i=.int .i64 0∧wr=W)∨(i=.int .i64 1∧e=0∧Below W.heap.size W wr)) (fun i _=>1 - (intOf i).toNat);(case atStart=>exact .inl ⟨rfl,rfl⟩);rcases hrel with ⟨rfl,rfl⟩ | ⟨rfl,rfl,hb⟩
 ·go_wp2_with fail;refine HW.out.mono ?_;rintro e1 w1 ⟨rfl,aR⟩;have bJ:=qqh (dY.out.trans (aR.mono dY.out.size));have bD:=qqh aR;clear aR;by_cases hz:e=0
  ·subst hz;go_wp2_with fail;exact⟨.inr ⟨by first | rfl | trivial,by first | rfl | trivial,bD.out⟩,by simp [intOf]⟩
  go_wp2_with fail;go_ret;exact⟨rfl,bJ.out⟩
 have bJ:=qqh (dY.out.trans (hb.mono dY.out.size));go_wp2_with fail;go_ret;exact⟨rfl,bJ.out⟩
def qW (s:af):Int × Int:=if bC s≠0 then (0,bC s)else (((aM s).length:Int),0)
theorem Bn (x:Int × Int) (s:af):aM (x::s)=fT x++aM s:=rfl
theorem oW {s:af} (h:∀ x∈s,0≤x.1∧x.1≤x.2∧x.2≤1114111):(aM s).length≤s.length*1114112:=by
 induction s with
 | nil=>exact Nat.zero_le _
 | cons x s ih=>
  rw [Bn,List.length_append,List.length_cons];have h1:=ih (fun y hy=>h y (List.mem_cons_of_mem _ hy));have h2:=h x (List.mem_cons_self ..);have h3:=qf (x:=x) h2.2.1;omega
def Wm (w:World) (s:af) (n:Nat) (a i:Value) (wr:World):Prop:=∃ (j:Nat) (k:Nat),j≤n∧i=.int .i64 (j:Int)∧a=.int .i64 (k:Int)∧k+(aM (s.drop j)).length=(aM s).length∧Below w.heap.size w wr
theorem FU (A:Option Addr) (n c:Nat) (s:af) (w:World) (hn:n≤9223372036854775807) (hl:jz w w.heap.size A n s) :
    Calls Tryz.prog 27 #[.slice A n c] w fun e w'=>e=.returned (.tuple #[.int .i64 (qW s).1,.int .i64 (qW s).2])∧Below w.heap.size w w':=by
 have aQ:=qqh hl.len;have qB:=qqh (tM A n c s w hn hl);have HL:=qqh hl;have PS:=qqh (qW.eq_1 s);have qo:=qqh (@i6 s);clear hl;obtain⟨e,he⟩:∃ e,bC s=e:=⟨_,rfl⟩;rw [he]at qB PS qo;go_enter Tryz.func27,Tryz.ntmps27;go_wp2_with fail;refine qB.out.mono ?_;rintro e1 w1 ⟨rfl,aR⟩;have bJ:=qqh aR;clear aR;by_cases hz:e=0
 ·subst hz;have HR:=qqh (qo.out rfl);have hn2:n≤200:=(by rw [← aQ.out];exact HR.out.size);have G6:=qqh (oW HR.out.each);have mT:=qqh (PS.out.trans (if_neg (fun h=>h rfl)));go_wp2_with fail;go_loopw [5,16] (Wm w s n) (fun _ i _=>n - (intOf i).toNat);(case atStart=>exact⟨0,0,Nat.zero_le _,rfl,rfl,by simp,bJ.out⟩);obtain⟨j,k,hj,rfl,rfl,hk,hb⟩:=hrel;have HB:=qqh hb;have HK:=qqh hk;clear hb hk;by_cases hlt:j<n
  ·obtain⟨⟨x,y⟩,hx⟩:∃ z,s[j]? = some z:=⟨_,List.getElem?_eq_getElem (by rw [aQ.out];exact hlt)⟩;obtain⟨b,off,rfl,cH,c0,c1⟩:=HL.out.at hx;have d0:=(HB.out.cell (p:=⟨b,off+j*2,none⟩) cH).trans c0;have d1:=(HB.out.cell (p:=⟨b,off+j*2+1,none⟩) cH).trans c1;obtain⟨h0,h1,h2⟩:=HR.out.each (x,y) (List.mem_of_getElem? hx);dsimp only at h0 h1 h2;have DP:=qf (x:=(x,y)) h1;dsimp only at DP;have BX:aM (s.drop j)=fT (x,y)++aM (s.drop (j+1)):=(by rw [cW hx];rfl);have HN:=qqh (show(k+(fT (x,y)).length)+(aM (s.drop (j+1))).length=(aM s).length by have:=HK.out;rw [BX,List.length_append]at this;omega);have hks:(aM s).length≤222822400:=(by have:=G6.out;have:=aQ.out;omega);have hk2:k≤222822400:=(by have:=HK.out;omega);have e1:IntKind.i32.wrap (y - x)=y - x:=IntWalk.i32_in _ (by omega);have e2:IntKind.i64.wrap (y - x)=y - x:=wrap_small _ (by omega) (by omega);have e3:IntKind.i64.wrap (y - x+1)=y - x+1:=wrap_small _ (by omega) (by omega);have e4:IntKind.i64.wrap ((k:Int)+(y - x+1))=((k+(fT (x,y)).length:Nat):Int):=(by rw [wrap_small _ (by omega) (by omega)];omega);have JC:(0:Int)≤(j:Int):=(by omega);have hq1:(j:Int)<(n:Int):=(by omega);clear c0 c1 hx BX DP;go_wp2_with fail;exact⟨⟨j+1,k+(fT (x,y)).length,by omega,by go_num,by first | rfl | simp [*],HN.out,HB.out.alloc HB.out.size _⟩,by simp [intOf];omega⟩
  obtain rfl:j=n:=(by omega);have hkk:(k:Int)=((aM s).length:Int):=by
   have h:=HK.out;rw [List.drop_eq_nil_of_le (Nat.le_of_eq aQ.out)]at h;have h2:k+0=(aM s).length:=h;omega
  go_wp2_with fail;go_ret2;rw [mT.out,hkk];exact⟨rfl,HB.out⟩
 have mT:=qqh (PS.out.trans (if_pos hz));go_wp2_with fail;go_ret2;rw [mT.out];exact⟨rfl,bJ.out⟩
def WK (w:World) (s:af) (n:Nat) (r:Int) (a i:Value) (wr:World):Prop:=∃ (j:Nat) (k:Nat),j≤n∧i=.int .i64 (j:Int)∧a=.int .i64 (k:Int)∧(aM (s.drop j))[k]? = some r∧Below w.heap.size w wr
theorem KM (A:Option Addr) (n c k:Nat) (s:af) (r:Int) (w:World) (hs:aF s) (hk:(aM s)[k]? = some r) (hl:jz w w.heap.size A n s) :
    Calls Tryz.prog 60 #[.slice A n c,.int .i64 (k:Int)] w fun e w'=>e=.returned (.tuple #[.int .i32 r,.int .i64 0])∧Below w.heap.size w w':=by
 have hn2:n≤200:=(by rw [← hl.len];exact hs.size);have aQ:=qqh hl.len;have qB:=qqh (show Calls Tryz.prog 55 #[.slice (some ⟨w.heap.size,0,none⟩) 1 1] (w.alloc (.cells #[.slice A n c] 24)) fun e w'=>e=.returned (.int .i64 0)∧Below w.heap.size w w' by
  have h:=tM A n c s w (by omega) hl;rwa [gP hs]at h)
 have HL:=qqh hl;have HR:=qqh hs;have G6:=qqh (oW hs.each);have ir:=qqh hk;have hk0:¬((k:Int)<0):=(by omega);clear hl hs hk;go_enter Tryz.func60,Tryz.ntmps60;go_wp2_with fail;refine qB.out.mono ?_;rintro e1 w1 ⟨rfl,aR⟩;have bJ:=qqh aR;clear aR;go_wp2_with fail;go_loopw [1,20] (WK w s n r) (fun _ i _=>n - (intOf i).toNat);(case atStart=>exact⟨0,k,Nat.zero_le _,rfl,rfl,by simpa using ir.out,bJ.out⟩);obtain⟨j,q,hj,rfl,rfl,hq,hb⟩:=hrel;have HB:=qqh hb;have HQ:=qqh hq;clear hb hq;by_cases hlt:j<n
 ·obtain⟨⟨x,y⟩,hx⟩:∃ z,s[j]? = some z:=⟨_,List.getElem?_eq_getElem (by rw [aQ.out];exact hlt)⟩;obtain⟨b,off,rfl,cH,c0,c1⟩:=HL.out.at hx;have d0:=(HB.out.cell (p:=⟨b,off+j*2,none⟩) cH).trans c0;have d1:=(HB.out.cell (p:=⟨b,off+j*2+1,none⟩) cH).trans c1;obtain⟨h0,h1,h2⟩:=HR.out.each (x,y) (List.mem_of_getElem? hx);dsimp only at h0 h1 h2;have DP:=qf (x:=(x,y)) h1;dsimp only at DP;have BX:aM (s.drop j)=fT (x,y)++aM (s.drop (j+1)):=(by rw [cW hx];rfl);have HN:=qqh (show(fT (x,y)++aM (s.drop (j+1)))[q]? = some r by rw [← BX];exact HQ.out);have NI:=qqh BX;have e1:IntKind.i32.wrap (y - x)=y - x:=IntWalk.i32_in _ (by omega);have e2:IntKind.i64.wrap (y - x)=y - x:=wrap_small _ (by omega) (by omega);have e3:IntKind.i64.wrap (y - x+1)=y - x+1:=wrap_small _ (by omega) (by omega);have JC:(0:Int)≤(j:Int):=(by omega);have hq1:(j:Int)<(n:Int):=(by omega);clear c0 c1 hx BX;by_cases hin:(q:Int)<y - x+1
  ·have hr:r=x+(q:Int):=by
    have h:=HN.out;rw [List.getElem?_append_left (by omega),Fp (by exact hin)]at h;injection h with h;exact h.symm
   have e4:IntKind.i32.wrap (q:Int)=(q:Int):=IntWalk.i32_in _ (by omega);have e5:IntKind.i32.wrap (x+(q:Int))=x+(q:Int):=IntWalk.i32_in _ (by omega);have hd:decide ((q:Int)<y - x+1)=true:=decide_eq_true hin;clear DP;go_wp2_with fail;go_ret2;rw [hr];exact⟨rfl,HB.out.alloc HB.out.size _⟩
  have hd:decide ((q:Int)<y - x+1)=false:=decide_eq_false hin;have AT:=qqh (show(aM (s.drop (j+1)))[q - (fT (x,y)).length]? = some r by
   have h:=HN.out;rwa [List.getElem?_append_right (by omega)]at h)
  have hqs:q<222822400:=by
   have h:=ir.out;have h3:=(List.getElem?_eq_some_iff.1 HN.out).1;have h4:(fT (x,y)++aM (s.drop (j+1))).length≤(aM s).length:=by
    have h5:aM s=aM (s.take j)++aM (s.drop j):=by
     unfold aM;rw [← List.flatMap_append,List.take_append_drop]
    have h6:=congrArg List.length h5;rw [List.length_append,NI.out]at h6;omega
   have:=G6.out;have:=aQ.out;omega
  have e4:IntKind.i64.wrap ((q:Int) - (y - x+1))=((q - (fT (x,y)).length:Nat):Int):=(by rw [IntWalk.i64_in _ (by omega)];omega);clear DP;go_wp2_with fail;exact⟨⟨j+1,q - (fT (x,y)).length,by omega,by go_num,by first | rfl | simp [*],AT.out,HB.out.alloc HB.out.size _⟩,by simp [intOf];omega⟩
 obtain rfl:j=n:=(by omega);have h:=HQ.out;rw [List.drop_eq_nil_of_le (Nat.le_of_eq aQ.out)]at h;cases h
theorem E1 (g:Nat) (cb:Array Value) (n:Nat) (p:Nat→Bool) (w:World) (eg:∀ args w,(callFunc g args).run Tryz.prog w=.ok (.enter g args) w) (hsz:n<4611686018427387904)
    (hf:∀ (w':World) (i:Nat),Below w.heap.size w w'→i<n→Calls Tryz.prog g (#[.int .i64 i]++cb) w' fun e w2=>e=.returned (.bool (p i))∧Below w'.heap.size w' w2) :
    Calls Tryz.prog 33 #[.int .i64 n,.func (.func g) #[] cb] w fun e w'=>∃ k:Nat,e=.returned (.int .i64 k)∧k≤n∧Below w.heap.size w w':=by
 have HF:=qqh hf;clear hf;go_enter Tryz.func33,Tryz.ntmps33;go_wp2_with fail;go_loopw [5,6] (fun s5 s6 wr=>∃ lo hi:Nat,s5=.int .i64 lo∧s6=.int .i64 hi∧lo≤hi∧hi≤n∧Below w.heap.size w wr) (fun s5 s6 _=>(intOf s6).toNat - (intOf s5).toNat);(case atStart=>exact⟨0,n,rfl,rfl,Nat.zero_le _,Nat.le_refl _,Below.refl _ _⟩);obtain⟨lo,hi,rfl,rfl,hlh,hin,hb⟩:=hrel;by_cases hlt:lo<hi
 ·have hc:=HF.out wr ((lo+hi) / 2) hb (by omega);rw [show(((lo+hi) / 2:Nat):Int)=((lo:Int)+(hi:Int)) / 2 by omega]at hc;cases hp:p ((lo+hi) / 2) <;> rw [hp]at hc
  ·have HC:=qqh hc;clear hp hc;go_wp2_with (go_at_fn g;refine HC.out.mono ?_;rintro e w' ⟨rfl,hb'⟩);exact⟨⟨(lo+hi) / 2+1,hi,by rw [show((lo:Int)+(hi:Int)) / 2+1=(((lo+hi) / 2+1:Nat):Int) by omega],rfl,by omega,hin,hb.trans (hb'.mono hb.size)⟩,by simp [intOf];omega⟩
  have HC:=qqh hc;clear hp hc;go_wp2_with (go_at_fn g;refine HC.out.mono ?_;rintro e w' ⟨rfl,hb'⟩);exact⟨⟨lo,(lo+hi) / 2,rfl,by rw [show((lo:Int)+(hi:Int)) / 2=(((lo+hi) / 2:Nat):Int) by omega],by omega,by omega,hb.trans (hb'.mono hb.size)⟩,by simp [intOf];omega⟩
 obtain rfl:hi=lo:=(by omega);go_wp2_with fail;go_ret;exact⟨_,rfl,hin,hb⟩
theorem Oo (A:Option Addr) (n c:Nat) (s:af) (r:Int) (w:World) (hn:n<4611686018427387904) (hl:jz w w.heap.size A n s) :
    Calls Tryz.prog 13 #[.slice A n c,.int .i32 r] w fun e w'=>(∃ b,e=.returned (.bool b)∧(aF s→b=bf s r))∧Below w.heap.size w w':=by
 by_cases hw:bC s=0;exact(qN A n c s r w (i6 hw) hl).mono fun e w' ⟨he,hb⟩=>⟨⟨_,he,fun _=>rfl⟩,hb⟩;have TO:=qqh (show ¬ aF s from fun h=>hw (gP h));have aQ:=qqh hl.len;have HL:=qqh hl;have dY:=qqh (((Below.refl w.heap.size w).alloc (Nat.le_refl _) (.cells #[.slice A n c] 24)).alloc (by simp) (.cells #[.int .i32 r] 21));have HA:=qqh (aj.alloc (aj.new w 24 #[.slice A n c]) (.cells #[.int .i32 r] 21));have HR:=qqh (show aj ((w.alloc (.cells #[.slice A n c] 24)).alloc (.cells #[.int .i32 r] 21)) (w.heap.size+1) 21 #[.int .i32 r] by
  have:=aj.new (w.alloc (.cells #[.slice A n c] 24)) 21 #[.int .i32 r];simpa using this)
 have J9:=qqh (E1 34 #[.pointer (some ⟨w.heap.size,0,none⟩),.pointer (some ⟨w.heap.size+1,0,none⟩)] n (fun i=>decide (r≤(s[i]?.getD (0,0)).2))
   ((w.alloc (.cells #[.slice A n c] 24)).alloc (.cells #[.int .i32 r] 21)) wu hn
   (fun w' i hb hi=>by
     obtain⟨z,hz⟩:∃ z,s[i]? = some z:=⟨_,List.getElem?_eq_getElem (by rw [aQ.out];exact hi)⟩
     obtain⟨b,off,rfl,cH,_,c1⟩:=HL.out.at (x:=z.1) (y:=z.2) hz
     rw [hz]
     exact sZ w.heap.size (w.heap.size+1) b off n c i r z.2 w' hi ((aj.below HA.out hb HA.out.lt).cell 0) ((aj.below HR.out hb HR.out.lt).cell 0)
       (((dY.out.trans (hb.mono dY.out.size)).cell (p:=⟨b,off+i*2+1,none⟩) cH).trans c1)))
 clear hl;go_enter Tryz.func13,Tryz.ntmps13;go_wp2_with fail;refine J9.out.mono ?_;rintro e w1 ⟨k,rfl,hk,hb⟩;have a0:w1.cell? ⟨w.heap.size,0,none⟩=some (.slice A n c):=(aj.below HA.out hb HA.out.lt).cell 0;have r0:w1.cell? ⟨w.heap.size+1,0,none⟩=some (.int .i32 r):=(aj.below HR.out hb HR.out.lt).cell 0;have HB:=qqh (dY.out.trans (hb.mono dY.out.size));clear hb;by_cases hlt:k<n
 ·obtain⟨⟨x,y⟩,hx⟩:∃ z,s[k]? = some z:=⟨_,List.getElem?_eq_getElem (by rw [aQ.out];exact hlt)⟩;obtain⟨b,off,rfl,cH,c0,_⟩:=HL.out.at hx;have d0:=(HB.out.cell (p:=⟨b,off+k*2,none⟩) cH).trans c0;have hlt2:decide ((k:Int)<(n:Int))=true:=decide_eq_true (by omega);clear hx c0;go_wp2_with fail;go_quiet (fail);go_wp2_with fail;go_ret;exact⟨⟨_,rfl,fun h=>absurd h TO.out⟩,below_drewN HB.out _⟩
 have hlt2:decide ((k:Int)<(n:Int))=false:=decide_eq_false (by omega);go_wp2_with fail;go_quiet (fail);go_wp2_with fail;go_ret;exact⟨⟨_,rfl,fun h=>absurd h TO.out⟩,below_drewN HB.out _⟩
def nc (w:World) (X:Nat→Prop) (t:List Int) (cs:List Value):Prop:=∃ (A:Option Addr) (n c:Nat),cs = [.slice A n c]∧cE w X 1 A n (runeCells t)
theorem nc.keep {w w':World} {X X':Nat→Prop} {t:List Int} {cs:List Value} (hk:aa w X w' X') (h:nc w X t cs):nc w' X' t cs:=by
 obtain⟨A,n,c,e,h⟩:=h;exact⟨A,n,c,e,h.keep hk⟩
def nO (w:World) (X:Nat→Prop) (A:Option Addr) (n:Nat) (L:List (List Int)):Prop:=bt (nc w X) w X 1 A n L
theorem nO.keep {w w':World} {X X':Nat→Prop} {A:Option Addr} {n:Nat} {L:List (List Int)} (hk:aa w X w' X') (h:nO w X A n L):nO w' X' A n L :=
  bt.keep hk (fun _ _=>nc.keep hk) h
theorem C6 {w:World} {X:Nat→Prop} {A:Option Addr} {n:Nat} {L:List (List Int)} (h:nO w X A n L) {k:Nat} {t:List Int} (hk:L[k]? = some t) :
    ∃ (b off:Nat) (A':Option Addr) (m c:Nat),A=some ⟨b,off,none⟩∧X b∧b<w.heap.size∧w.cell? ⟨b,off+k,none⟩=some (.slice A' m c)∧cE w X 1 A' m (runeCells t):=by
 obtain⟨b,off,cs,e,hx,hb,⟨A',m,c,rfl,hr⟩,_,hc⟩:=bt.at h hk;refine⟨b,off,A',m,c,e,hx,hb,?_,hr⟩;have:=hc 0 _ rfl;rwa [Nat.mul_one,Nat.add_zero]at this
def Dj (w:World) (B:Nat) (v:Value) (L:List (List Int)):Prop:=cR (nc w (fun b=>B≤b∧v.ownBlock≠some b)) 33 1 w B v L
theorem Dj.below {w w':World} {B:Nat} {v:Value} {L:List (List Int)} (hb:Below w.heap.size w w') (h:Dj w B v L):Dj w' B v L :=
  cR.kept (fun _ _ ho=>cC ho hb) (fun _ _=>nc.keep (aa.any hb)) h
theorem Dj.done {w:World} {B:Nat} {A:Option Addr} {c:Nat} {L:List (List Int)} (h:Dj w B (.slice A L.length c) L):nO w (fun b=>B≤b) A L.length L:=by
 have hown:∀ b,(Value.slice A L.length c).ownBlock=some b→B≤b:=by
  obtain⟨_,_,_,_,h4⟩:=h;exact fun b hb=>(aY h4 hb).1
 exact cR.done h (fun a cs hc=>by
  obtain⟨A',m,c',e,hr⟩:=hc;exact⟨A',m,c',e,hr.keep (fun b hx hl=>⟨rfl,hx.1,hl⟩)⟩) hown
theorem Pk:(Tryz.prog.info? 33).map (fun i=>(i.zero,i.size,i.bytes))=some (some (.slice none 0 0),1,24):=by kernel_rfl
def ku (w:World) (B:Nat) (u v:Value) (L:List (List Int)):Prop:=cR (nc w (fun b=>v.ownBlock≠some b∧u.ownBlock≠some b)) 33 1 w B v L
theorem ku.below {w w':World} {B:Nat} {u v:Value} {L:List (List Int)} (hb:Below w.heap.size w w') (h:ku w B u v L):ku w' B u v L :=
  cR.kept (fun _ _ ho=>cC ho hb) (fun _ _=>nc.keep (aa.any hb)) h
theorem ku.aY {w:World} {B:Nat} {u v:Value} {L:List (List Int)} (h:ku w B u v L):∀ b,v.ownBlock=some b→B≤b∧b<w.heap.size:=by
 obtain⟨_,_,_,_,h4⟩:=h;exact fun b hb=>Go.Proofs.YtkggjgeihhialaaGreatDoor.aY h4 hb
theorem vP {w w':World} {B:Nat} {u v v':Value} {L:List (List Int)} {t:List Int} {css:List (List Value)} {A:Option Addr} {n c:Nat}
    (h1:css.length=L.length) (h2:∀ (i:Nat) (a:List Int) (cs:List Value),L[i]? = some a→css[i]? = some cs→nc w (fun b=>v.ownBlock≠some b∧u.ownBlock≠some b) a cs) (h3:∀ cs∈css,cs.length=1)
    (hr:cE w (fun b=>v.ownBlock≠some b∧u.ownBlock≠some b) 1 A n (runeCells t)) (au:aX B 33 1 v w (L.length+1) (css.flatten++[.slice A n c]) v' w'):ku w' B u v' (L++[t]):=by
 have hk:aa w (fun b=>v.ownBlock≠some b∧u.ownBlock≠some b) w' (fun b=>v'.ownBlock≠some b∧u.ownBlock≠some b):=aa.app au (fun b h=>h.1) (fun b h hl=>⟨fun e=>by
  rcases au.2.2 with h4 | h4;exact h.1 (h4 ▸ e);rw [h4]at e;injection e with e;omega,h.2⟩)
 exact cR.push h1 h2 h3 (fun _ _=>nc.keep hk) ⟨A,n,c,rfl,hr.keep hk⟩ rfl au
theorem ku.all {w w':World} {B n m:Nat} {u u' v:Value} {xs ys:List Value} {L:List (List Int)} (ho:w.ownsRow B 21 1 u m ys) (au:aX B 21 1 u w n xs u' w') (h:ku w B u v L):ku w' B u' v L :=
  cR.kept (fun _ _ h=>kC h ho (by decide) au) (fun _ _=>nc.keep (aa.app au (fun b h=>h.2) (fun b h hl=>⟨h.1,fun e=>by
    rcases au.2.2 with h4 | h4
    · exact h.2 (h4 ▸ e)
    · rw [h4]at e
      injection e with e
      omega⟩))) h
theorem GW {w w':World} {B n m:Nat} {u u' v:Value} {xs:List Value} {A:Option Addr} {t:List Value} (au:aX B 21 1 u w n xs u' w') (h:cE w (fun b=>v.ownBlock≠some b∧u.ownBlock≠some b) 1 A m t):cE w' (fun b=>v.ownBlock≠some b∧u'.ownBlock≠some b) 1 A m t :=
  h.keep (aa.app au (fun b h=>h.2) (fun b h hl=>⟨h.1,fun e=>by
    rcases au.2.2 with h4 | h4
    · exact h.2 (h4 ▸ e)
    · rw [h4]at e
      injection e with e
      omega⟩))
theorem ku.done {w:World} {B:Nat} {u:Value} {A:Option Addr} {c:Nat} {L:List (List Int)} (h:ku w B u (.slice A L.length c) L):nO w (fun _=>True) A L.length L :=
  cR.done h (fun a cs hc=>by
    obtain⟨A',m,c',e,hr⟩:=hc
    exact⟨A',m,c',e,hr.keep (fun b hx hl=>⟨rfl,trivial,hl⟩)⟩) (fun _ _=>trivial)
def Ti (l:List ai) (dom:af) (lo:Nat) (e:Ending) (w':World):Prop :=
  ∃ (A1 A2:Option Addr) (n1 c1 n2 c2:Nat) (ok:Bool),e=.returned (.tuple #[.slice A1 n1 c1,.slice A2 n2 c2,.bool ok])∧(ok=true→(∀ r∈l,1<r.source.length→q6 dom r=true)∧(∀ u∈aM dom,aS l u ≠ [])∧n1=(aM dom).length∧n2=(aM dom).length∧cE w' (fun b=>lo≤b) 1 A1 n1 (runeCells (aM dom))∧nO w' (fun _=>True) A2 n2 ((aM dom).map (aS l)))
def XH (w:World) (l:List ai) (dom:af) (i:Value) (wr:World):Prop:=∃ q:Nat,q≤l.length∧i=.int .i64 (q:Int)∧(∀ r∈l.take q,1<r.source.length→q6 dom r=true)∧Below w.heap.size w wr
def UX (w:World) (l:List ai) (dom:af) (u v i:Value) (wr:World):Prop :=
  ∃ (k:Nat) (U:List Int) (G:List (List Int)),k≤(aM dom).length∧i=.int .i64 (k:Int)∧U=(aM dom).take k∧G=U.map (aS l)∧(∀ u∈U,aS l u ≠ [])∧wr.ownsRow w.heap.size 21 1 u U.length (runeCells U)∧ku wr w.heap.size u v G∧U.length=k∧G.length=k∧Below w.heap.size w wr
theorem CQ (HC:AH) (X:Nat→Prop) (l:List ai) (Ar Ad:Option Addr) (nr cr nd cd:Nat) (dom:af) (w:World) (zk:nr≤maxLen) (hX:∀ b,X b→b<w.heap.size) (hR:∀ r∈l,bQ r) (hl:bt (aL w X) w X 7 Ar nr l) (hd:bU w Ad nd cd dom) (hn:(aM dom).length≤40) :
    Calls Tryz.prog 29 #[.slice Ar nr cr,.slice Ad nd cd,.int .i64 ((aM dom).length:Int)] w fun e w'=>Ti l dom w.heap.size e w'∧Below w.heap.size w w':=by
 obtain⟨i0,hi,z0,z1,z2⟩:=info_parts Tryz.info21;obtain⟨i1,hi1,y0,y1,y2⟩:=info_parts Pk;have Ei:=qqh (show l.length=nr from hl.len);have HL:=qqh (fun(W:World) (hb:Below w.heap.size w W)=>show bt (aL W X) W X 7 Ar nr l from hl.keep (aa.any hb) (fun _ _=>aL.keep (aa.any hb)));have HD:=qqh hd;have HR:=qqh hR;have ahL:nr≤9223372036854775807:=(by simp only [maxLen]at zk;omega);have HLW:=qqh hl;clear hl hd hR;go_enter Tryz.func29,Tryz.ntmps29;go_wp2_with fail;go_loopw [19] (XH w l dom) (fun i _=>nr - (intOf i).toNat);(case atStart=>exact⟨0,Nat.zero_le _,rfl,by simp,Below.refl _ _⟩);obtain⟨q,hq,rfl,hall,hb⟩:=hrel;have jH:=qqh hall;have HB:=qqh hb;rw [Ei.out]at hq;clear hall;by_cases NV:q<nr
 ·obtain⟨r,hr⟩:∃ r,l[q]? = some r:=⟨_,List.getElem?_eq_getElem (by rw [Ei.out];exact NV)⟩;have pG:=HR.out r (List.mem_of_getElem? hr);obtain⟨rb,ro,A1,A2,A3,A4,n1,c1,n2,c2,n3,c3,n4,c4,rfl,_,cH,⟨d0,d1,d2,d3,d4,d5,d6⟩,_,s2',_,_,_⟩:=gT (HL.out wr hb) hr;have hn2:r.source.length=n2:=s2'.list.len;have GP:=qqh (show l.take (q+1)=l.take q++[r] by rw [List.take_add_one,hr];rfl);have MA:=qqh (IM r rb (ro+q*7) A2 Ad n2 c2 nd cd dom wr pG hn2 d3 (HC wr X r.source A2 n2 c2 s2') (HD.out.below hb));have AT:=qqh hn2;have JC:(0:Int)≤(q:Int):=(by omega);have hq1:(q:Int)<(nr:Int):=(by omega);have Sm:decide ((q:Int)<(nr:Int))=true:=decide_eq_true hq1;clear hr pG s2' hn2 hb d0 d1 d2 d4 d5 d6;by_cases h1:1<n2
  ·have rL:decide (1<(n2:Int))=true:=decide_eq_true (by omega);obtain⟨ib,hib⟩:∃ ib,q6 dom r=ib:=⟨_,rfl⟩;rw [hib]at MA;have HIB:=qqh hib;clear hib;cases ib
   ·go_wp2_with fail;refine MA.out.mono ?_;rintro e w2 ⟨rfl,aU⟩;have bD:=qqh (HB.out.trans (aU.mono HB.out.size));go_wp2_with fail;go_ret3;exact⟨⟨none,none,0,0,0,0,false,rfl,fun h=>by cases h⟩,bD.out⟩
   go_wp2_with fail;refine MA.out.mono ?_;rintro e w2 ⟨rfl,aU⟩;have bD:=qqh (HB.out.trans (aU.mono HB.out.size));go_wp2_with fail;refine⟨⟨q+1,by rw [Ei.out];omega,by go_num,fun x hx hx1=>?_,bD.out⟩,by simp [intOf];omega⟩;rw [GP.out]at hx;rcases List.mem_append.1 hx with hx | hx;exact jH.out x hx hx1;rw [List.mem_singleton.1 hx];exact HIB.out
  have rL:decide (1<(n2:Int))=false:=decide_eq_false (by omega);go_wp2_with fail;refine⟨⟨q+1,by rw [Ei.out];omega,by go_num,fun x hx hx1=>?_,HB.out⟩,by simp [intOf];omega⟩;rw [GP.out]at hx;rcases List.mem_append.1 hx with hx | hx;exact jH.out x hx hx1;rw [List.mem_singleton.1 hx]at hx1;have:=AT.out;omega
 obtain rfl:q=nr:=(by omega);have MA:=qqh (show ∀ r∈l,1<r.source.length→q6 dom r=true from fun r hr h1=>jH.out r (by rw [List.take_of_length_le (Nat.le_of_eq Ei.out)];exact hr) h1);have Sm:decide ((q:Int)<(q:Int))=false:=decide_eq_false (by omega);clear hb jH;go_wp2_with fail;go_loopw [9,10,39] (UX w l dom) (fun _ _ i _=>(aM dom).length - (intOf i).toNat);(case atStart=>exact⟨0,[],[],Nat.zero_le _,rfl,by simp,rfl,by simp,World.ownsRow_nil _ _ _ _,cR.nil _ _,rfl,rfl,HB.out⟩);obtain⟨k,U,G,hk,rfl,hU,hG,hne,hou,Z3,hul,LZ,hb⟩:=hrel;obtain⟨Au,cu,rfl,_⟩:=aI hou;obtain⟨Av,cv,rfl,_⟩:=cR.form Z3;have HU:=qqh hU;have HG:=qqh hG;have uW:=qqh hne;have Tk:=qqh hou;have UZ:=qqh Z3;have NF:=qqh hul;have Tx:=qqh LZ;have Cn:=qqh hb;clear hU hG hne hou Z3 hul LZ;by_cases hlk:k<(aM dom).length
 ·obtain⟨r,hr⟩:∃ r,(aM dom)[k]? = some r:=⟨_,List.getElem?_eq_getElem hlk⟩;have HN:=qqh (KM Ad nd cd k dom r wr HD.out.right hr (HD.out.below hb).rd);have GP:=qqh (show(aM dom).take (k+1)=U++[r] by rw [List.take_add_one,hr,← HU.out];rfl);have hdk:decide ((k:Int)<((aM dom).length:Int))=true:=decide_eq_true (by omega);clear hr hb;go_wp2_with fail;refine HN.out.mono ?_;rintro e w2 ⟨rfl,aU⟩;have nL:=(Below.refl w2.heap.size w2).alloc (Nat.le_refl _) (.cells #[.int .i32 r] 21);have Q0:=aU.trans (nL.mono aU.size);have bG:=qqh (Cn.out.trans (Q0.mono Cn.out.size));have Tf:=qqh (cE.new (X:=fun b=>wr.heap.size≤b) (n:=1) (sz:=1) (w:=w2) 21 (runeCells [r]) rfl aU.size);have HF:=rW X l Ar (some ⟨w2.heap.size,0,none⟩) q cr 1 1 0 [r] (w2.alloc (.cells #[.int .i32 r] 21)) zk HR.out (HL.out _ bG.out) (by omega) (Nat.zero_le _) Tf.out.of;rw [show((0:Nat):Int)=0 from rfl]at HF;have JG:=qqh Q0;clear nL aU Q0 HN;rcases fE l [r] 0 with hw | ⟨j,rr,hw,hj,_⟩
  ·rw [hw]at HF;have Ox:=qqh HF;have Qj:=qqh (show aS l r = [r] by unfold aS;rw [hw];rfl);have HNZ:=qqh (show([r]:List Int) ≠ [] by simp);clear HF hw;go_wp2_with fail;refine Ox.out.mono ?_;rintro e w4 ⟨rfl,hb4⟩;have yG:=JG.out.trans (hb4.mono JG.out.size);have Na:=qqh (Tf.out.keep (X':=fun b=>(Value.slice Av G.length cv).ownBlock≠some b∧(Value.slice Au U.length cu).ownBlock≠some b) (aa.below hb4 (fun b (h:wr.heap.size≤b) _=>⟨fun e=>by have:=(UZ.out.aY b e).2;omega,fun e=>by have:=(aY Tk.out e).2;omega⟩)));clear hb4 Tf bG JG Ox;have KX:=qqh (cC Tk.out yG);have MS:=qqh (UZ.out.below yG);have dI:=qqh (Cn.out.trans (yG.mono Cn.out.size));have xB:=(Below.refl w4.heap.size w4).alloc (Nat.le_refl _) (.cells #[.int .i32 r] 21);have zR:=qqh (cC KX.out xB);have Lx:=qqh (MS.out.below xB);have M1:=qqh (Na.out.keep (aa.any xB));have dn:=qqh (dI.out.trans (xB.mono dI.out.size));have XA:=qqh (Rd.new w4 21 1 1 [.int .i32 r] rfl);have VA:U.length≤40:=(by have:=NF.out;omega);have zg:=dn.out.size;clear xB KX MS Na dI yG;go_wp2_with (at_builtin;refine ak _ rfl (.tmp 64) (.tmp 66) 33 rfl w.heap.size 21 i0 _ 1 4 Tryz.underlying33 hi z0 z1 z2 rfl (by decide) _ _ _ rfl zR.out (w4.heap.size+1) (some ⟨w4.heap.size,0,none⟩) 1 1 [.int .i32 r] rfl XA.out ?s1 (by simp only [maxLen];omega) (by omega) zg ?_);(case s1=>intro u hu;simp at hu;rw [hu];rfl);intro v6 w6 au;have L8:w6.ownsRow w.heap.size 21 1 v6 (U++[r]).length (runeCells (U++[r])):=by
    have:=au.own;rw [List.length_append,ef];exact this
   have MV:=ku.all zR.out au Lx.out;have AV:=GW au M1.out;have dV:=dn.out.trans (au.below zg zR.out);have vw:=(Below.refl w6.heap.size w6).alloc (Nat.le_refl _) (.cells #[.slice (some ⟨w2.heap.size,0,none⟩) 1 1] 33);have M5:=qqh (cC L8 vw);have Ly:=qqh (MV.below vw);have Cw:=qqh (AV.keep (aa.any vw));have iU:=qqh (dV.trans (vw.mono dV.size));have Ev:=qqh (Rd.new w6 33 1 1 [.slice (some ⟨w2.heap.size,0,none⟩) 1 1] rfl);have KN:=iU.out.size;obtain⟨css,k1,k2,k3,k4⟩:=Ly.out;have V8:G.length≤40:=(by have:=Tx.out;omega);clear au L8 MV AV dV vw zR Lx M1 dn XA zg;go_wp2_with (at_builtin;refine ak _ rfl (.tmp 68) (.tmp 70) 34 rfl w.heap.size 33 i1 _ 1 24 Tryz.underlying34 hi1 y0 y1 y2 rfl (by decide) _ _ _ rfl k4 (w6.heap.size+1) (some ⟨w6.heap.size,0,none⟩) 1 1 [.slice (some ⟨w2.heap.size,0,none⟩) 1 1] rfl Ev.out ?s2 (by simp only [maxLen];omega) (by omega) KN ?_);(case s2=>intro u hu;simp at hu;rw [hu];rfl);intro v8 w8 au;have RH:=qqh (vP k1 k2 k3 Cw.out (c:=1) au);have RG:=qqh (kC M5.out k4 (by decide) au);have rV:=qqh (iU.out.trans (au.below KN k4));clear au k1 k2 k3 k4 M5 Ly Cw iU Ev KN;go_wp2_with fail;refine⟨⟨k+1,U++[r],G++[[r]],by omega,by go_num,GP.out.symm,by rw [HG.out,List.map_append,List.map_singleton,Qj.out],fun x hx=>?_,RG.out,RH.out,by rw [List.length_append,NF.out];rfl,by rw [List.length_append,Tx.out];rfl,rV.out⟩,by simp [intOf];omega⟩;rcases List.mem_append.1 hx with hx | hx;exact uW.out x hx;rw [List.mem_singleton.1 hx,Qj.out];exact HNZ.out
  rw [hw]at HF;have Ox:=qqh HF;have Qj:=qqh (show aS l r=rr.target by unfold aS;rw [hw,if_neg (by omega),Int.toNat_natCast,hj]);have HJ:=qqh hj;have hjl:j<q:=(by have:=(List.getElem?_eq_some_iff.1 hj).1;have:=Ei.out;omega);clear HF hw hj;go_wp2_with fail;refine Ox.out.mono ?_;rintro e w4 ⟨rfl,hb4⟩;have yG:=JG.out.trans (hb4.mono JG.out.size);have RT:=Cn.out.trans (yG.mono Cn.out.size);obtain⟨rb,ro,A1,A2,A3,A4,n1,c1,n2,c2,n3,c3,n4,c4,rfl,_,cH,⟨d0,d1,d2,d3,d4,d5,d6⟩,_,_,_,MU,_⟩:=gT (HL.out w4 RT) HJ.out;have rD:rr.target.length=n4:=(by have:=MU.1;rw [runeCells_length]at this;omega);have Na:=qqh (MU.keep (X':=fun b=>(Value.slice Av G.length cv).ownBlock≠some b∧(Value.slice Au U.length cu).ownBlock≠some b) (aa.refl (fun b h=>⟨fun e=>by have:=(UZ.out.aY b e).1;have:=hX b h;omega,fun e=>by have:=(aY Tk.out e).1;have:=hX b h;omega⟩)));have hj0:(0:Int)≤(j:Int):=(by omega);have Qg:(j:Int)<(q:Int):=(by omega);have hjd:decide ((j:Int)≥0)=true:=decide_eq_true (by omega);have iY:=qqh RT;clear hb4 Tf bG JG Ox MU d0 d1 d2 d3 d4 d6 RT;by_cases hz:n4=0
  ·subst hz;go_wp2_with fail;go_ret3;exact⟨⟨none,none,0,0,0,0,false,rfl,fun h=>by cases h⟩,iY.out⟩
  have HNZ:=qqh (show rr.target ≠ [] from fun e=>hz (by rw [← rD,e];rfl));clear rD;have KX:=qqh (cC Tk.out yG);have MS:=qqh (UZ.out.below yG);have dI:=qqh (Cn.out.trans (yG.mono Cn.out.size));have h0b:((n4:Int) == 0)=false:=(by rw [beq_eq_false_iff_ne];omega);have xB:=(Below.refl w4.heap.size w4).alloc (Nat.le_refl _) (.cells #[.int .i32 r] 21);have zR:=qqh (cC KX.out xB);have Lx:=qqh (MS.out.below xB);have M1:=qqh (Na.out.keep (aa.any xB));have dn:=qqh (dI.out.trans (xB.mono dI.out.size));have XA:=qqh (Rd.new w4 21 1 1 [.int .i32 r] rfl);have VA:U.length≤40:=(by have:=NF.out;omega);have zg:=dn.out.size;clear xB KX MS Na dI yG;go_wp2_with (at_builtin;refine ak _ rfl (.tmp 64) (.tmp 66) 33 rfl w.heap.size 21 i0 _ 1 4 Tryz.underlying33 hi z0 z1 z2 rfl (by decide) _ _ _ rfl zR.out (w4.heap.size+1) (some ⟨w4.heap.size,0,none⟩) 1 1 [.int .i32 r] rfl XA.out ?s1 (by simp only [maxLen];omega) (by omega) zg ?_);(case s1=>intro u hu;simp at hu;rw [hu];rfl);intro v6 w6 au;have L8:w6.ownsRow w.heap.size 21 1 v6 (U++[r]).length (runeCells (U++[r])):=by
   have:=au.own;rw [List.length_append,ef];exact this
  have MV:=ku.all zR.out au Lx.out;have AV:=GW au M1.out;have dV:=dn.out.trans (au.below zg zR.out);have vw:=(Below.refl w6.heap.size w6).alloc (Nat.le_refl _) (.cells #[.slice A4 n4 c4] 33);have M5:=qqh (cC L8 vw);have Ly:=qqh (MV.below vw);have Cw:=qqh (AV.keep (aa.any vw));have iU:=qqh (dV.trans (vw.mono dV.size));have Ev:=qqh (Rd.new w6 33 1 1 [.slice A4 n4 c4] rfl);have KN:=iU.out.size;obtain⟨css,k1,k2,k3,k4⟩:=Ly.out;have V8:G.length≤40:=(by have:=Tx.out;omega);clear au L8 MV AV dV vw zR Lx M1 dn XA zg;go_wp2_with (at_builtin;refine ak _ rfl (.tmp 68) (.tmp 70) 34 rfl w.heap.size 33 i1 _ 1 24 Tryz.underlying34 hi1 y0 y1 y2 rfl (by decide) _ _ _ rfl k4 (w6.heap.size+1) (some ⟨w6.heap.size,0,none⟩) 1 1 [.slice A4 n4 c4] rfl Ev.out ?s2 (by simp only [maxLen];omega) (by omega) KN ?_);(case s2=>intro u hu;simp at hu;rw [hu];rfl);intro v8 w8 au;have RH:=qqh (vP k1 k2 k3 Cw.out (c:=c4) au);have RG:=qqh (kC M5.out k4 (by decide) au);have rV:=qqh (iU.out.trans (au.below KN k4));clear au k1 k2 k3 k4 M5 Ly Cw iU Ev KN;go_wp2_with fail;refine⟨⟨k+1,U++[r],G++[rr.target],by omega,by go_num,GP.out.symm,by rw [HG.out,List.map_append,List.map_singleton,Qj.out],fun x hx=>?_,RG.out,RH.out,by rw [List.length_append,NF.out];rfl,by rw [List.length_append,Tx.out];rfl,rV.out⟩,by simp [intOf];omega⟩;rcases List.mem_append.1 hx with hx | hx;exact uW.out x hx;rw [List.mem_singleton.1 hx,Qj.out];exact HNZ.out
 obtain hkn:k=(aM dom).length:=(by omega);have Va:U=aM dom:=(by rw [HU.out,hkn,List.take_length]);have hdk:decide ((k:Int)<((aM dom).length:Int))=false:=decide_eq_false (by omega);have ic:=qqh (cE.cP (X:=fun b=>w.heap.size≤b) Tk.out (fun b hb=>(aY Tk.out hb).1));have gJ:=qqh (ku.done UZ.out);have h1:U.length=(aM dom).length:=(by rw [Va]);have h2:G.length=(aM dom).length:=(by rw [Tx.out,hkn])
 have HDN:=qqh (show(∀ r∈l,1<r.source.length→q6 dom r=true)∧(∀ u∈aM dom,aS l u ≠ [])∧U.length=(aM dom).length∧G.length=(aM dom).length∧cE wr (fun b=>w.heap.size≤b) 1 Au U.length (runeCells (aM dom))∧nO wr (fun _=>True) Av G.length ((aM dom).map (aS l)) from
   ⟨MA.out,fun u hu=>uW.out u (by rw [Va];exact hu),h1,h2,by have:=ic.out;rwa [Va]at this ⊢,by have:=gJ.out;rw [HG.out,Va]at this ⊢;exact this⟩)
 clear Va h1 h2 hb;go_wp2_with fail;go_ret3;exact⟨⟨Au,Av,U.length,cu,G.length,cv,true,rfl,fun _=>HDN.out⟩,Cn.out⟩
theorem rq (a b:Int) (w:World):(Instr.field 38 (.agg #[.int .i64 a,.int .i64 b]) 0).run Tryz.prog w=.ok (.int .i64 a) w:=by kernel_rfl
end Go.Proofs.YtkggjgeihhialaaGreatDoor
