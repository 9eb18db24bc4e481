/- GuessSets + GuessWrong + GuessGrow + Guess -/
import Derived.Test.YthgkedoildcbcaaGreatDoorZg17
import Derived.Test.YthgkedoildcbcaaGreatDoorZg37
import Derived.Test.YthgkedoildcbcaaGreatDoorZg8
import Derived.Test.YthgkedoildcbcaaGreatDoorZg11
import Derived.Test.YthgkedoildcbcaaGreatDoorZg36
import Derived.Test.YthgkedoildcbcaaGreatDoorZg3
import Derived.Test.YthgkedoildcbcaaGreatDoorZg12
import Derived.Test.YthgkedoildcbcaaGreatDoorZg35
set_option maxHeartbeats 6400000
set_option maxRecDepth 100000
namespace Go.Proofs.YthgkedoildcbcaaGreatDoor
open Go.RowKit
def fO (x:Int × Int):List Int:=(List.range (x.2 - x.1+1).toNat).map fun i:Nat=>x.1+(i:Int)
def aT (s:af):List Int:=s.flatMap fO
theorem uJ {x:Int × Int} {r:Int}:r∈fO x↔x.1≤r∧r≤x.2:=by
 unfold fO;rw [List.mem_map];constructor
 ·rintro⟨i,hi,rfl⟩;rw [List.mem_range]at hi;omega
 rintro⟨h1,h2⟩;exact⟨(r - x.1).toNat,by rw [List.mem_range];omega,by omega⟩
theorem Dd {s:af} {r:Int}:r∈aT s↔bt s r=true:=by
 unfold aT;rw [mZ,List.mem_flatMap];constructor
 ·rintro⟨x,hx,h⟩;exact⟨x,hx,uJ.1 h⟩
 rintro⟨x,hx,h⟩;exact⟨x,hx,uJ.2 h⟩
theorem pJ {x:Int × Int} (h:x.1≤x.2):((fO x).length:Int)=x.2 - x.1+1:=by
 unfold fO;rw [List.length_map,List.length_range];omega
theorem EU {x:Int × Int} {k:Nat} (h:(k:Int)<x.2 - x.1+1):(fO x)[k]? = some (x.1+(k:Int)):=by
 unfold fO;rw [List.getElem?_map,List.getElem?_range (by omega)];rfl
theorem sr (A:Option Addr) (n c:Nat) (s:af) (w:World) (hn:n≤9223372036854775807) (hl:jz w w.heap.size A n s) :
    Calls Tryz.prog 50 #[.slice (some ⟨w.heap.size,0,none⟩) 1 1] (w.alloc (.cells #[.slice A n c] 41)) fun e w'=>e=.returned (.int .i64 (bA s))∧Below w.heap.size w w':=by
 have hb0:=(Below.refl w.heap.size w).alloc (Nat.le_refl _) (.cells #[.slice A n c] 41);have HW:=qqh (gR A n c s _ hn ((Rd.below hl hb0).more hb0.size));have dF:=qqh hb0;have HA:=qqh (ai.new w 41 #[.slice A n c]);clear hl hb0;generalize w.alloc (.cells #[.slice A n c] 41)=W at *;have a0:W.cell? ⟨w.heap.size,0,none⟩=some (.slice A n c):=HA.out.cell 0;obtain⟨e,he⟩:∃ e,bA s=e:=⟨_,rfl⟩;rw [he]at HW ⊢;go_enter Tryz.func50,Tryz.ntmps50;go_wp2_with fail;go_loopw [8] (fun i wr=>(i=.int .i64 0∧wr=W)∨(i=.int .i64 1∧e=0∧Below W.heap.size W wr)) (fun i _=>1 - (intOf i).toNat);(case atStart=>exact .inl ⟨rfl,rfl⟩);rcases hrel with ⟨rfl,rfl⟩ | ⟨rfl,rfl,hb⟩
 ·go_wp2_with fail;refine HW.out.mono ?_;rintro e1 w1 ⟨rfl,aP⟩;have bI:=qqh (dF.out.trans (aP.mono dF.out.size));have bw:=qqh aP;clear aP;by_cases hz:e=0
  ·subst hz;go_wp2_with fail;exact⟨.inr ⟨by first | rfl | trivial,by first | rfl | trivial,bw.out⟩,by simp [intOf]⟩
  go_wp2_with fail;go_ret;exact⟨rfl,bI.out⟩
 have bI:=qqh (dF.out.trans (hb.mono dF.out.size));go_wp2_with fail;go_ret;exact⟨rfl,bI.out⟩
def iF (s:af):Int × Int:=if bA s≠0 then (0,bA s)else (((aT s).length:Int),0)
theorem zN (x:Int × Int) (s:af):aT (x::s)=fO x++aT s:=rfl
theorem oD {s:af} (h:∀ x∈s,0≤x.1∧x.1≤x.2∧x.2≤1114111):(aT s).length≤s.length*1114112:=by
 induction s with
 | nil=>exact Nat.zero_le _
 | cons x s ih=>
  rw [zN,List.length_append,List.length_cons];have h1:=ih (fun y hy=>h y (List.mem_cons_of_mem _ hy));have h2:=h x (List.mem_cons_self ..);have h3:=pJ (x:=x) h2.2.1;omega
def Wa (w:World) (s:af) (n:Nat) (a i:Value) (wr:World):Prop:=∃ (j:Nat) (k:Nat),j≤n∧i=.int .i64 (j:Int)∧a=.int .i64 (k:Int)∧k+(aT (s.drop j)).length=(aT s).length∧Below w.heap.size w wr
theorem EA (A:Option Addr) (n c:Nat) (s:af) (w:World) (hn:n≤9223372036854775807) (hl:jz w w.heap.size A n s) :
    Calls Tryz.prog 49 #[.slice A n c] w fun e w'=>e=.returned (.tuple #[.int .i64 (iF s).1,.int .i64 (iF s).2])∧Below w.heap.size w w':=by
 have aO:=qqh hl.len;have oC:=qqh (sr A n c s w hn hl);have HL:=qqh hl;have SA:=qqh (iF.eq_1 s);have pV:=qqh (@iS s);clear hl;obtain⟨e,he⟩:∃ e,bA s=e:=⟨_,rfl⟩;rw [he]at oC SA pV;go_enter Tryz.func49,Tryz.ntmps49;go_wp2_with fail;refine oC.out.mono ?_;rintro e1 w1 ⟨rfl,aP⟩;have bI:=qqh aP;clear aP;by_cases hz:e=0
 ·subst hz;have HR:=qqh (pV.out rfl);have hn2:n≤200:=(by rw [← aO.out];exact HR.out.size);have IF:=qqh (oD HR.out.each);have mB:=qqh (SA.out.trans (if_neg (fun h=>h rfl)));go_wp2_with fail;go_loopw [5,16] (Wa w s n) (fun _ i _=>n - (intOf i).toNat);(case atStart=>exact⟨0,0,Nat.zero_le _,rfl,rfl,by simp,bI.out⟩);obtain⟨j,k,hj,rfl,rfl,hk,hb⟩:=hrel;have HB:=qqh hb;have HK:=qqh hk;clear hb hk;by_cases hlt:j<n
  ·obtain⟨⟨x,y⟩,hx⟩:∃ z,s[j]? = some z:=⟨_,List.getElem?_eq_getElem (by rw [aO.out];exact hlt)⟩;obtain⟨b,off,rfl,cC,c0,c1⟩:=HL.out.at hx;have d0:=(HB.out.cell (p:=⟨b,off+j*2,none⟩) cC).trans c0;have d1:=(HB.out.cell (p:=⟨b,off+j*2+1,none⟩) cC).trans c1;obtain⟨h0,h1,h2⟩:=HR.out.each (x,y) (List.mem_of_getElem? hx);dsimp only at h0 h1 h2;have BG:=pJ (x:=(x,y)) h1;dsimp only at BG;have BS:aT (s.drop j)=fO (x,y)++aT (s.drop (j+1)):=(by rw [cW hx];rfl);have HN:=qqh (show(k+(fO (x,y)).length)+(aT (s.drop (j+1))).length=(aT s).length by have:=HK.out;rw [BS,List.length_append]at this;omega);have hks:(aT s).length≤222822400:=(by have:=IF.out;have:=aO.out;omega);have hk2:k≤222822400:=(by have:=HK.out;omega);have e1:IntKind.i32.wrap (y - x)=y - x:=IntWalk.i32_in _ (by omega);have e2:IntKind.i64.wrap (y - x)=y - x:=wrap_small _ (by omega) (by omega);have e3:IntKind.i64.wrap (y - x+1)=y - x+1:=wrap_small _ (by omega) (by omega);have e4:IntKind.i64.wrap ((k:Int)+(y - x+1))=((k+(fO (x,y)).length:Nat):Int):=(by rw [wrap_small _ (by omega) (by omega)];omega);have KM:(0:Int)≤(j:Int):=(by omega);have hq1:(j:Int)<(n:Int):=(by omega);clear c0 c1 hx BS BG;go_wp2_with fail;exact⟨⟨j+1,k+(fO (x,y)).length,by omega,by go_num,by first | rfl | simp [*],HN.out,HB.out.alloc HB.out.size _⟩,by simp [intOf];omega⟩
  obtain rfl:j=n:=(by omega);have hkk:(k:Int)=((aT s).length:Int):=by
   have h:=HK.out;rw [List.drop_eq_nil_of_le (Nat.le_of_eq aO.out)]at h;have h2:k+0=(aT s).length:=h;omega
  go_wp2_with fail;go_ret2;rw [mB.out,hkk];exact⟨rfl,HB.out⟩
 have mB:=qqh (SA.out.trans (if_pos hz));go_wp2_with fail;go_ret2;rw [mB.out];exact⟨rfl,bI.out⟩
def T2 (w:World) (s:af) (n:Nat) (r:Int) (a i:Value) (wr:World):Prop:=∃ (j:Nat) (k:Nat),j≤n∧i=.int .i64 (j:Int)∧a=.int .i64 (k:Int)∧(aT (s.drop j))[k]? = some r∧Below w.heap.size w wr
theorem KV (A:Option Addr) (n c k:Nat) (s:af) (r:Int) (w:World) (hs:aE s) (hk:(aT s)[k]? = some r) (hl:jz w w.heap.size A n s) :
    Calls Tryz.prog 28 #[.slice A n c,.int .i64 (k:Int)] w fun e w'=>e=.returned (.tuple #[.int .i32 r,.int .i64 0])∧Below w.heap.size w w':=by
 have hn2:n≤200:=(by rw [← hl.len];exact hs.size);have aO:=qqh hl.len;have oC:=qqh (show Calls Tryz.prog 50 #[.slice (some ⟨w.heap.size,0,none⟩) 1 1] (w.alloc (.cells #[.slice A n c] 41)) fun e w'=>e=.returned (.int .i64 0)∧Below w.heap.size w w' by
  have h:=sr A n c s w (by omega) hl;rwa [gH hs]at h)
 have HL:=qqh hl;have HR:=qqh hs;have IF:=qqh (oD hs.each);have gY:=qqh hk;have hk0:¬((k:Int)<0):=(by omega);clear hl hs hk;go_enter Tryz.func28,Tryz.ntmps28;go_wp2_with fail;refine oC.out.mono ?_;rintro e1 w1 ⟨rfl,aP⟩;have bI:=qqh aP;clear aP;go_wp2_with fail;go_loopw [1,20] (T2 w s n r) (fun _ i _=>n - (intOf i).toNat);(case atStart=>exact⟨0,k,Nat.zero_le _,rfl,rfl,by simpa using gY.out,bI.out⟩);obtain⟨j,q,hj,rfl,rfl,hq,hb⟩:=hrel;have HB:=qqh hb;have HQ:=qqh hq;clear hb hq;by_cases hlt:j<n
 ·obtain⟨⟨x,y⟩,hx⟩:∃ z,s[j]? = some z:=⟨_,List.getElem?_eq_getElem (by rw [aO.out];exact hlt)⟩;obtain⟨b,off,rfl,cC,c0,c1⟩:=HL.out.at hx;have d0:=(HB.out.cell (p:=⟨b,off+j*2,none⟩) cC).trans c0;have d1:=(HB.out.cell (p:=⟨b,off+j*2+1,none⟩) cC).trans c1;obtain⟨h0,h1,h2⟩:=HR.out.each (x,y) (List.mem_of_getElem? hx);dsimp only at h0 h1 h2;have BG:=pJ (x:=(x,y)) h1;dsimp only at BG;have BS:aT (s.drop j)=fO (x,y)++aT (s.drop (j+1)):=(by rw [cW hx];rfl);have HN:=qqh (show(fO (x,y)++aT (s.drop (j+1)))[q]? = some r by rw [← BS];exact HQ.out);have Mr:=qqh BS;have e1:IntKind.i32.wrap (y - x)=y - x:=IntWalk.i32_in _ (by omega);have e2:IntKind.i64.wrap (y - x)=y - x:=wrap_small _ (by omega) (by omega);have e3:IntKind.i64.wrap (y - x+1)=y - x+1:=wrap_small _ (by omega) (by omega);have KM:(0:Int)≤(j:Int):=(by omega);have hq1:(j:Int)<(n:Int):=(by omega);clear c0 c1 hx BS;by_cases hin:(q:Int)<y - x+1
  ·have hr:r=x+(q:Int):=by
    have h:=HN.out;rw [List.getElem?_append_left (by omega),EU (by exact hin)]at h;injection h with h;exact h.symm
   have e4:IntKind.i32.wrap (q:Int)=(q:Int):=IntWalk.i32_in _ (by omega);have e5:IntKind.i32.wrap (x+(q:Int))=x+(q:Int):=IntWalk.i32_in _ (by omega);have hd:decide ((q:Int)<y - x+1)=true:=decide_eq_true hin;clear BG;go_wp2_with fail;go_ret2;rw [hr];exact⟨rfl,HB.out.alloc HB.out.size _⟩
  have hd:decide ((q:Int)<y - x+1)=false:=decide_eq_false hin;have FD:=qqh (show(aT (s.drop (j+1)))[q - (fO (x,y)).length]? = some r by
   have h:=HN.out;rwa [List.getElem?_append_right (by omega)]at h)
  have hqs:q<222822400:=by
   have h:=gY.out;have h3:=(List.getElem?_eq_some_iff.1 HN.out).1;have h4:(fO (x,y)++aT (s.drop (j+1))).length≤(aT s).length:=by
    have h5:aT s=aT (s.take j)++aT (s.drop j):=by
     unfold aT;rw [← List.flatMap_append,List.take_append_drop]
    have h6:=congrArg List.length h5;rw [List.length_append,Mr.out]at h6;omega
   have:=IF.out;have:=aO.out;omega
  have e4:IntKind.i64.wrap ((q:Int) - (y - x+1))=((q - (fO (x,y)).length:Nat):Int):=(by rw [IntWalk.i64_in _ (by omega)];omega);clear BG;go_wp2_with fail;exact⟨⟨j+1,q - (fO (x,y)).length,by omega,by go_num,by first | rfl | simp [*],FD.out,HB.out.alloc HB.out.size _⟩,by simp [intOf];omega⟩
 obtain rfl:j=n:=(by omega);have h:=HQ.out;rw [List.drop_eq_nil_of_le (Nat.le_of_eq aO.out)]at h;cases h
theorem EP (g:Nat) (cb:Array Value) (n:Nat) (p:Nat→Bool) (w:World) (eg:∀ args w,(callFunc g args).run Tryz.prog w=.ok (.enter g args) w) (hsz:n<4611686018427387904)
    (hf:∀ (w':World) (i:Nat),Below w.heap.size w w'→i<n→Calls Tryz.prog g (#[.int .i64 i]++cb) w' fun e w2=>e=.returned (.bool (p i))∧Below w'.heap.size w' w2) :
    Calls Tryz.prog 25 #[.int .i64 n,.func (.func g) #[] cb] w fun e w'=>∃ k:Nat,e=.returned (.int .i64 k)∧k≤n∧Below w.heap.size w w':=by
 have HF:=qqh hf;clear hf;go_enter Tryz.func25,Tryz.ntmps25;go_wp2_with fail;go_loopw [5,6] (fun s5 s6 wr=>∃ lo hi:Nat,s5=.int .i64 lo∧s6=.int .i64 hi∧lo≤hi∧hi≤n∧Below w.heap.size w wr) (fun s5 s6 _=>(intOf s6).toNat - (intOf s5).toNat);(case atStart=>exact⟨0,n,rfl,rfl,Nat.zero_le _,Nat.le_refl _,Below.refl _ _⟩);obtain⟨lo,hi,rfl,rfl,hlh,hin,hb⟩:=hrel;by_cases hlt:lo<hi
 ·have hc:=HF.out wr ((lo+hi) / 2) hb (by omega);rw [show(((lo+hi) / 2:Nat):Int)=((lo:Int)+(hi:Int)) / 2 by omega]at hc;cases hp:p ((lo+hi) / 2) <;> rw [hp]at hc
  ·have HC:=qqh hc;clear hp hc;go_wp2_with (go_at_fn g;refine HC.out.mono ?_;rintro e w' ⟨rfl,hb'⟩);exact⟨⟨(lo+hi) / 2+1,hi,by rw [show((lo:Int)+(hi:Int)) / 2+1=(((lo+hi) / 2+1:Nat):Int) by omega],rfl,by omega,hin,hb.trans (hb'.mono hb.size)⟩,by simp [intOf];omega⟩
  have HC:=qqh hc;clear hp hc;go_wp2_with (go_at_fn g;refine HC.out.mono ?_;rintro e w' ⟨rfl,hb'⟩);exact⟨⟨lo,(lo+hi) / 2,rfl,by rw [show((lo:Int)+(hi:Int)) / 2=(((lo+hi) / 2:Nat):Int) by omega],by omega,by omega,hb.trans (hb'.mono hb.size)⟩,by simp [intOf];omega⟩
 obtain rfl:hi=lo:=(by omega);go_wp2_with fail;go_ret;exact⟨_,rfl,hin,hb⟩
theorem Na (A:Option Addr) (n c:Nat) (s:af) (r:Int) (w:World) (hn:n<4611686018427387904) (hl:jz w w.heap.size A n s) :
    Calls Tryz.prog 10 #[.slice A n c,.int .i32 r] w fun e w'=>(∃ b,e=.returned (.bool b)∧(aE s→b=bt s r))∧Below w.heap.size w w':=by
 by_cases hw:bA s=0;exact(qD A n c s r w (iS hw) hl).mono fun e w' ⟨he,hb⟩=>⟨⟨_,he,fun _=>rfl⟩,hb⟩;have HNO:=qqh (show ¬ aE s from fun h=>hw (gH h));have aO:=qqh hl.len;have HL:=qqh hl;have dF:=qqh (((Below.refl w.heap.size w).alloc (Nat.le_refl _) (.cells #[.slice A n c] 41)).alloc (by simp) (.cells #[.int .i32 r] 21));have HA:=qqh (ai.alloc (ai.new w 41 #[.slice A n c]) (.cells #[.int .i32 r] 21));have HR:=qqh (show ai ((w.alloc (.cells #[.slice A n c] 41)).alloc (.cells #[.int .i32 r] 21)) (w.heap.size+1) 21 #[.int .i32 r] by
  have:=ai.new (w.alloc (.cells #[.slice A n c] 41)) 21 #[.int .i32 r];simpa using this)
 have Jl:=qqh (EP 26 #[.pointer (some ⟨w.heap.size,0,none⟩),.pointer (some ⟨w.heap.size+1,0,none⟩)] n (fun i=>decide (r≤(s[i]?.getD (0,0)).2))
   ((w.alloc (.cells #[.slice A n c] 41)).alloc (.cells #[.int .i32 r] 21)) vv hn
   (fun w' i hb hi=>by
     obtain⟨z,hz⟩:∃ z,s[i]? = some z:=⟨_,List.getElem?_eq_getElem (by rw [aO.out];exact hi)⟩
     obtain⟨b,off,rfl,cC,_,c1⟩:=HL.out.at (x:=z.1) (y:=z.2) hz
     rw [hz]
     exact sV w.heap.size (w.heap.size+1) b off n c i r z.2 w' hi ((ai.below HA.out hb HA.out.lt).cell 0) ((ai.below HR.out hb HR.out.lt).cell 0)
       (((dF.out.trans (hb.mono dF.out.size)).cell (p:=⟨b,off+i*2+1,none⟩) cC).trans c1)))
 clear hl;go_enter Tryz.func10,Tryz.ntmps10;go_wp2_with fail;refine Jl.out.mono ?_;rintro e w1 ⟨k,rfl,hk,hb⟩;have a0:w1.cell? ⟨w.heap.size,0,none⟩=some (.slice A n c):=(ai.below HA.out hb HA.out.lt).cell 0;have r0:w1.cell? ⟨w.heap.size+1,0,none⟩=some (.int .i32 r):=(ai.below HR.out hb HR.out.lt).cell 0;have HB:=qqh (dF.out.trans (hb.mono dF.out.size));clear hb;by_cases hlt:k<n
 ·obtain⟨⟨x,y⟩,hx⟩:∃ z,s[k]? = some z:=⟨_,List.getElem?_eq_getElem (by rw [aO.out];exact hlt)⟩;obtain⟨b,off,rfl,cC,c0,_⟩:=HL.out.at hx;have d0:=(HB.out.cell (p:=⟨b,off+k*2,none⟩) cC).trans c0;have hlt2:decide ((k:Int)<(n:Int))=true:=decide_eq_true (by omega);clear hx c0;go_wp2_with fail;go_quiet (fail);go_wp2_with fail;go_ret;exact⟨⟨_,rfl,fun h=>absurd h HNO.out⟩,below_drewN HB.out _⟩
 have hlt2:decide ((k:Int)<(n:Int))=false:=decide_eq_false (by omega);go_wp2_with fail;go_quiet (fail);go_wp2_with fail;go_ret;exact⟨⟨_,rfl,fun h=>absurd h HNO.out⟩,below_drewN HB.out _⟩
def pF (l:List ax) (s:af) (t:List Int):Int × Int:=if (cz l).1≠0 then (0,(cz l).1)else if (iF s).2≠0 then (0,(iF s).2)else if 5<(iF s).1 then (0,5)else ((iF s).1,eK t)
theorem zU (a b:Int) (w:World):(Instr.field 32 (.agg #[.int .i64 a,.int .i64 b]) 0).run Tryz.prog w=.ok (.int .i64 a) w:=by kernel_rfl
theorem Bz (X:Nat→Prop) (l:List ax) (Ar:Option Addr) (nr cr:Nat) (s:af) (A:Option Addr) (n c:Nat) (t:List Int) (At:Option Addr) (nt ct:Nat) (w:World) (Du:nr≤maxLen) (hl:bH (aW w X) w X 7 Ar nr l) (hn:n≤maxLen) (hs:jz w w.heap.size A n s) (hnt:nt≤maxLen) (ht:kJ w w.heap.size At nt t) :
    Calls Tryz.prog 27 #[.slice Ar nr cr,.slice A n c,.slice At nt ct] w fun e w'=>e=.returned (.tuple #[.int .i64 (pF l s t).1,.int .i64 (pF l s t).2])∧Below w.heap.size w w':=by
 have wL:=qqh (jU X l Ar nr cr w Du hl);have Sm:=qqh (fun(W:World) (hb:Below w.heap.size w W)=>EA A n c s W (by simp only [maxLen]at hn;omega) ((Rd.below hs hb).more hb.size));have MK:=qqh (fun(W:World) (hb:Below w.heap.size w W)=>mj At nt ct t W hnt ((Rd.below ht hb).more hb.size));obtain⟨r1,r2,hr⟩:∃ r1 r2,cz l=(r1,r2):=⟨_,_,rfl⟩;obtain⟨c1,c2,hc⟩:∃ c1 c2,iF s=(c1,c2):=⟨_,_,rfl⟩;have HG:=qqh (pF.eq_1 l s t);rw [hr,hc]at HG;rw [hr]at wL;rw [hc]at Sm;dsimp only at HG wL Sm;have hfr:=zU r1 r2;clear hl hs ht hr hc;go_enter Tryz.func27,Tryz.ntmps27;go_wp2_with fail;refine wL.out.mono ?_;rintro e w1 ⟨rfl,aP⟩;have bI:=qqh aP;clear aP;by_cases hz:r1=0
 ·subst hz;have iM:=qqh (HG.out.trans (if_neg (fun h=>h rfl)));go_wp2_with fail;refine(Sm.out w1 bI.out).mono ?_;rintro e w2 ⟨rfl,aR⟩;have bw:=qqh (bI.out.trans (aR.mono bI.out.size));clear aR;by_cases tG:c2=0
  ·subst tG;have kB:=qqh (iM.out.trans (if_neg (fun h=>h rfl)));by_cases Pf:5<c1
   ·have DS:=qqh (kB.out.trans (if_pos Pf));have hd:decide (5<c1)=true:=decide_eq_true Pf;go_wp2_with fail;go_ret2;rw [DS.out];exact⟨rfl,bw.out⟩
   have DS:=qqh (kB.out.trans (if_neg Pf));have hd:decide (5<c1)=false:=decide_eq_false Pf;go_wp2_with fail;refine(MK.out w2 bw.out).mono ?_;rintro e w3 ⟨rfl,bL⟩;have bF:=qqh (bw.out.trans (bL.mono bw.out.size));go_wp2_with fail;go_ret2;rw [DS.out];exact⟨rfl,bF.out⟩
  have kB:=qqh (iM.out.trans (if_pos tG));go_wp2_with fail;go_ret2;rw [kB.out];exact⟨rfl,bw.out⟩
 have iM:=qqh (HG.out.trans (if_pos hz));go_wp2_with fail;go_ret2;rw [iM.out];exact⟨rfl,bI.out⟩
def qM (w:World) (X:Nat→Prop) (t:List Int) (cs:List Value):Prop:=∃ (A:Option Addr) (n c:Nat),cs = [.slice A n c]∧cE w X 1 A n (runeCells t)
theorem qM.keep {w w':World} {X X':Nat→Prop} {t:List Int} {cs:List Value} (hk:aa w X w' X') (h:qM w X t cs):qM w' X' t cs:=by
 obtain⟨A,n,c,e,h⟩:=h;exact⟨A,n,c,e,h.keep hk⟩
def ld (w:World) (X:Nat→Prop) (A:Option Addr) (n:Nat) (L:List (List Int)):Prop:=bH (qM w X) w X 1 A n L
theorem ld.keep {w w':World} {X X':Nat→Prop} {A:Option Addr} {n:Nat} {L:List (List Int)} (hk:aa w X w' X') (h:ld w X A n L):ld w' X' A n L :=
  bH.keep hk (fun _ _=>qM.keep hk) h
theorem vI {w:World} {X:Nat→Prop} {A:Option Addr} {n:Nat} {L:List (List Int)} (h:ld w X A n L) {k:Nat} {t:List Int} (hk:L[k]? = some t) :
    ∃ (b off:Nat) (A':Option Addr) (m c:Nat),A=some ⟨b,off,none⟩∧X b∧b<w.heap.size∧w.cell? ⟨b,off+k,none⟩=some (.slice A' m c)∧cE w X 1 A' m (runeCells t):=by
 obtain⟨b,off,cs,e,hx,hb,⟨A',m,c,rfl,hr⟩,_,hc⟩:=bH.at h hk;refine⟨b,off,A',m,c,e,hx,hb,?_,hr⟩;have:=hc 0 _ rfl;rwa [Nat.mul_one,Nat.add_zero]at this
def jA (w:World) (B:Nat) (v:Value) (L:List (List Int)):Prop:=cL (qM w (fun b=>B≤b∧v.ownBlock≠some b)) 26 1 w B v L
theorem jA.nil (w:World) (B:Nat):jA w B (.slice none 0 0) []:=cL.nil w B
theorem jA.below {w w':World} {B:Nat} {v:Value} {L:List (List Int)} (hb:Below w.heap.size w w') (h:jA w B v L):jA w' B v L :=
  cL.kept (fun _ _ ho=>ew ho hb) (fun _ _=>qM.keep (aa.any hb)) h
theorem yj {w w':World} {B:Nat} {v v':Value} {L:List (List Int)} {t:List Int} {css:List (List Value)} {A:Option Addr} {n c:Nat}
    (h1:css.length=L.length) (h2:∀ (i:Nat) (a:List Int) (cs:List Value),L[i]? = some a→css[i]? = some cs→qM w (fun b=>B≤b∧v.ownBlock≠some b) a cs) (h3:∀ cs∈css,cs.length=1)
    (hr:cE w (fun b=>B≤b∧v.ownBlock≠some b) 1 A n (runeCells t)) (an:aY B 26 1 v w (L.length+1) (css.flatten++[.slice A n c]) v' w'):jA w' B v' (L++[t]):=by
 have hk:aa w (fun b=>B≤b∧v.ownBlock≠some b) w' (fun b=>B≤b∧v'.ownBlock≠some b):=aa.app an (fun b h=>h.2) (fun b h hl=>⟨h.1,fun e=>by
  rcases an.2.2 with h4 | h4;exact h.2 (h4 ▸ e);rw [h4]at e;injection e with e;omega⟩)
 exact cL.push h1 h2 h3 (fun _ _=>qM.keep hk) ⟨A,n,c,rfl,hr.keep hk⟩ rfl an
theorem jA.done {w:World} {B:Nat} {A:Option Addr} {c:Nat} {L:List (List Int)} (h:jA w B (.slice A L.length c) L):ld w (fun b=>B≤b) A L.length L:=by
 have hown:∀ b,(Value.slice A L.length c).ownBlock=some b→B≤b:=by
  obtain⟨_,_,_,_,h4⟩:=h;exact fun b hb=>(aU h4 hb).1
 exact cL.done h (fun a cs hc=>by
  obtain⟨A',m,c',e,hr⟩:=hc;exact⟨A',m,c',e,hr.keep (fun b hx hl=>⟨rfl,hx.1,hl⟩)⟩) hown
def words (U:List Int):Nat→List (List Int)
  | 0=>[[]]
  | k+1=>(words U k).flatMap fun t=>U.map fun u=>t++[u]
theorem GY {U:List Int}:∀ (k:Nat) (t:List Int),t.length=k→(∀ r∈t,r∈U)→t∈words U k:=by
 intro k;induction k with
 | zero=>
  intro t h _;rw [List.length_eq_zero_iff.1 h];exact List.mem_singleton.2 rfl
 | succ k ih=>
  intro t h hU;rcases List.eq_nil_or_concat t with rfl | ⟨s,u,rfl⟩
  ·cases h
  rw [List.concat_eq_append]at h hU ⊢;rw [List.length_append]at h;refine List.mem_flatMap.2 ⟨s,ih s (by simpa using h) (fun r hr=>hU r (List.mem_append_left _ hr)),List.mem_map.2 ⟨u,hU u (by simp),rfl⟩⟩
theorem yI {U:List Int} (k:Nat):(words U k).length=U.length ^ k:=by
 induction k with
 | zero=>rfl
 | succ k ih=>
  have key:∀ L:List (List Int),(L.flatMap fun t=>U.map fun u=>t++[u]).length=L.length*U.length:=by
   intro L;induction L with
   | nil=>simp
   | cons x L ih2=>rw [List.flatMap_cons,List.length_append,ih2,List.length_map,List.length_cons,Nat.succ_mul,Nat.add_comm]
  rw [words,key,ih,Nat.pow_succ]
theorem uK {U:List Int}:∀ (k:Nat) (t:List Int),t∈words U k→t.length=k:=by
 intro k;induction k with
 | zero=>intro t h;rw [List.mem_singleton.1 h];rfl
 | succ k ih=>
  intro t h;obtain⟨s,hs,h2⟩:=List.mem_flatMap.1 h;obtain⟨u,_,rfl⟩:=List.mem_map.1 h2;rw [List.length_append,ih s hs];rfl
def Pv (l:List ax) (text t:List Int):Prop:=(eP l t).2.1=0∧(eP l t).1.text=text
def zY (s:af):List Int:=(aT s).filter bT
def IM (lo:Nat) (l:List ax) (s:af) (text:List Int) (m:Nat) (e:Ending) (w':World):Prop :=
  ∃ (A:Option Addr) (n c:Nat) (er:Int),e=.returned (.tuple #[.slice A n c,.int .i64 er])∧(er=0→aE s∧∃ G,n≤1000∧ld w' (fun b=>lo≤b) A n G∧∀ t,t.length≤m→(∀ r∈t,r∈zY s)→Pv l text t→t∈G)
theorem JW {l:List ax} {s:af} {t:List Int} (h:(pF l s t).2=0):aE s∧(pF l s t).1=((aT s).length:Int)∧(aT s).length≤5∧(cz l).1=0∧eK t=0:=by
 unfold pF at h ⊢;by_cases h1:(cz l).1=0
 ·rw [if_neg (fun h2=>h2 h1)]at h ⊢;by_cases h2:(iF s).2=0
  ·rw [if_neg (fun h3=>h3 h2)]at h ⊢;by_cases h3:5<(iF s).1
   ·rw [if_pos h3]at h;cases h
   rw [if_neg h3]at h ⊢;unfold iF at h2 h3 ⊢;by_cases h4:bA s=0
   ·rw [if_neg (fun h5=>h5 h4)]at h3 ⊢;exact⟨iS h4,rfl,by dsimp only at h3;omega,h1,h⟩
   rw [if_pos h4]at h2;exact absurd h2 h4
  rw [if_pos h2]at h;exact absurd h h2
 rw [if_pos h1]at h;exact absurd h h1
theorem yA (l:List ax) (t:List Int):(eP l t).1.text.length≤4000:=by
 unfold eP;by_cases h1:(pN l t).1=0
 ·rw [if_neg (fun h2=>h2 h1)];have h3:=sv l (8*t.length+40) [] t 0 0 (by simpa using mS (L8 h1).2);unfold oI;by_cases h2:(cS l (8*t.length+40) [] t 0 0).2=0
  ·rw [if_neg (fun h4=>h4 h2)];exact h3
  rw [if_pos h2];exact Nat.zero_le _
 rw [if_pos h1];exact Nat.zero_le _
def Ur (w:World) (B:Nat) (s:af) (u i:Value) (wr:World):Prop:=∃ (q:Nat) (L:List Int),q≤(aT s).length∧i=.int .i64 (q:Int)∧wr.ownsRow B 21 1 u L.length (runeCells L)∧L=((aT s).take q).filter bT∧Below w.heap.size w wr∧B≤wr.heap.size
theorem DE (U:List Int) (L:List (List Int)):(L.flatMap fun t=>U.map fun u=>t++[u]).length=L.length*U.length:=by
 induction L with
 | nil=>simp
 | cons x L ih2=>rw [List.flatMap_cons,List.length_append,ih2,List.length_map,List.length_cons,Nat.succ_mul,Nat.add_comm]
theorem Q2:(Tryz.prog.info? 26).map (fun i=>(i.zero,i.size,i.bytes))=some (some (.slice none 0 0),1,24):=by kernel_rfl
theorem EY (w:World):ld (w.alloc (.cells #[.slice none 0 0] 26)) (fun b=>w.heap.size≤b∧b<w.heap.size+1) (some ⟨w.heap.size,0,none⟩) 1 [[]]:=by
 refine⟨[[.slice none 0 0]],rfl,rfl,?_,by simp,rfl,fun _=>⟨_,_,rfl,⟨Nat.le_refl _,Nat.lt_succ_self _⟩,by simp,fun j u hu=>?_⟩⟩
 ·intro i t cs ht hc;match i with
  | 0=>simp at ht hc;subst ht hc;exact⟨none,0,0,rfl,rfl,fun h=>absurd h (Nat.lt_irrefl 0)⟩
  | i+1=>simp at ht
 rw [(ai.new w _ _).cell (0+j),Nat.zero_add];simpa using hu
def Qf (l:List ax) (text U:List Int) (W0:World) (m:Nat) (o v lg:Value) (wr:World):Prop :=
  ∃ (k:Nat) (G:List (List Int)) (Al:Option Addr) (cl h0 h1:Nat),lg=.int .i64 (k:Int)∧k≤m∧jA wr W0.heap.size o G∧v=.slice Al (words U k).length cl∧ld wr (fun b=>h0≤b∧b<h1) Al (words U k).length (words U k) ∧
    (∀ b,o.ownBlock=some b→b<h0∨h1≤b)∧h1≤wr.heap.size∧(∀ j,j<k→∀ t∈words U j,Pv l text t→t∈G)∧G.length≤125*k∧Below W0.heap.size W0 wr
def Pp (l:List ax) (text:List Int) (LV:List (List Int)) (W0:World) (Al:Option Addr) (h0 h1:Nat) (G0:List (List Int)) (o i:Value) (wr:World):Prop :=
  ∃ (q:Nat) (G:List (List Int)),q≤LV.length∧i=.int .i64 (q:Int)∧jA wr W0.heap.size o G∧ld wr (fun b=>h0≤b∧b<h1) Al LV.length LV∧(∀ b,o.ownBlock=some b→b<h0∨h1≤b)∧h1≤wr.heap.size∧(∀ t∈G0,t∈G)∧(∀ t∈LV.take q,Pv l text t→t∈G)∧G.length≤G0.length+q∧Below W0.heap.size W0 wr
def Vy (LV:List (List Int)) (U:List Int) (W1:World) (x i:Value) (wr:World):Prop :=
  ∃ q:Nat,q≤LV.length∧i=.int .i64 (q:Int)∧jA wr W1.heap.size x ((LV.take q).flatMap fun t=>U.map fun u=>t++[u])∧Below W1.heap.size W1 wr
def UB (N0:List (List Int)) (t U:List Int) (W1:World) (x i:Value) (wr:World):Prop :=
  ∃ p:Nat,p≤U.length∧i=.int .i64 (p:Int)∧jA wr W1.heap.size x (N0++(U.take p).map fun u=>t++[u])∧Below W1.heap.size W1 wr
theorem CZ (X:Nat→Prop) (l:List ax) (Ar:Option Addr) (nr cr:Nat) (s:af) (A:Option Addr) (n c:Nat) (text:List Int) (At:Option Addr) (nt ct m:Nat) (w:World) (hm:m≤3) (Du:nr≤maxLen) (hl:bH (aW w X) w X 7 Ar nr l) (hn:n≤maxLen) (hs:jz w w.heap.size A n s) (hnt:nt≤maxLen) (ht:kJ w w.heap.size At nt text) :
    Calls Tryz.prog 11 #[.slice Ar nr cr,.slice A n c,.slice At nt ct,.int .i64 (m:Int)] w fun e w'=>IM w.heap.size l s text m e w'∧Below w.heap.size w w':=by
 obtain⟨i0,hi,z0,z1,z2⟩:=info_parts Tryz.info21;obtain⟨i1,hi1,y0,y1,y2⟩:=info_parts Q2;have RZ:=qqh (Bz X l Ar nr cr s A n c text At nt ct w Du hl hn hs hnt ht);have HL:=qqh (fun(W:World) (hb:Below w.heap.size w W)=>show bH (aW W X) W X 7 Ar nr l from hl.keep (aa.any hb) (fun _ _=>aW.keep (aa.any hb)));have HS:=qqh (fun(W:World) (hb:Below w.heap.size w W)=>show jz W W.heap.size A n s from(Rd.below hs hb).more hb.size);have HT:=qqh (fun(W:World) (hb:Below w.heap.size w W)=>show kJ W W.heap.size At nt text from(Rd.below ht hb).more hb.size);have Dq:=qqh (@JW l s text);obtain⟨g1,g2,hg⟩:∃ g1 g2,pF l s text=(g1,g2):=⟨_,_,rfl⟩;rw [hg]at RZ Dq;dsimp only at RZ Dq;clear hl hs ht hg;go_enter Tryz.func11,Tryz.ntmps11;go_wp2_with fail;refine RZ.out.mono ?_;rintro e w1 ⟨rfl,aP⟩;have bI:=qqh aP;clear aP RZ;by_cases hz:g2=0
 ·subst hz;obtain⟨Ns,rfl,h5,_,_⟩:=Dq.out rfl;have pV:=qqh Ns;have hm0:decide ((m:Int)<0)=false:=decide_eq_false (by omega);have hm5:decide ((5:Int)<(m:Int))=false:=decide_eq_false (by omega);clear Ns Dq;go_wp2_with fail;go_loopw [12,45] (Ur w w1.heap.size s) (fun _ i _=>(aT s).length - (intOf i).toNat);(case atStart=>exact⟨0,[],Nat.zero_le _,rfl,World.ownsRow_nil _ _ _ _,rfl,bI.out,Nat.le_refl _⟩);obtain⟨q,L,hq,rfl,ho,hL,hb,hB⟩:=hrel;have HB:=qqh hb;have HO:=qqh ho;have NK:=qqh hL;obtain⟨Au,cu,rfl,_⟩:=aI ho;clear hb ho hL;by_cases hlt:q<(aT s).length
  ·obtain⟨r,hr⟩:∃ r,(aT s)[q]? = some r:=⟨_,List.getElem?_eq_getElem hlt⟩;have HN:=qqh (KV A n c q s r wr pV.out hr (HS.out wr HB.out));have htk:(aT s).take (q+1)=(aT s).take q++[r]:=(by rw [List.take_add_one,hr];rfl);have Jk:=qqh htk;have hd:decide ((q:Int)<((aT s).length:Int))=true:=decide_eq_true (by omega);clear hr htk;go_wp2_with fail;refine HN.out.mono ?_;rintro e w2 ⟨rfl,aR⟩;have bw:=qqh (HB.out.trans (aR.mono HB.out.size));have sj:=qqh (ew HO.out aR);have Vd:=Nat.le_trans hB aR.size;have jd:=qqh (fm r w2);clear aR HN;obtain⟨rb,hrb⟩:∃ rb,bT r=rb:=⟨_,rfl⟩;rw [hrb]at jd;have yp:=qqh hrb;clear hrb;cases rb
   ·go_wp2_with (go_at_call 29;refine jd.out.mono ?_;rintro e w3 ⟨rfl,rfl⟩);refine⟨⟨q+1,L,by omega,by go_num,sj.out,?_,bw.out,Vd⟩,by simp [intOf];omega⟩;rw [Jk.out,List.filter_append,NK.out];simp [yp.out]
   have HN3:=qqh (Rd.new w2 21 1 1 [.int .i32 r] rfl);have nc:=qqh (World.ownsRow.alloc sj.out (.cells #[.int .i32 r] 21));have hL5:L.length≤5:=by
    rw [NK.out];have h1:=List.length_filter_le bT ((aT s).take q);have h2:=List.length_take_le q (aT s);omega
   go_wp2_with (first | (go_at_call 29;refine jd.out.mono ?_;rintro e w3 ⟨rfl,rfl⟩) | (at_builtin;refine aj _ rfl (.tmp 56) (.tmp 58) 26 rfl w1.heap.size 21 i0 _ 1 4 Tryz.underlying26 hi z0 z1 z2 rfl (by decide) _ _ _ rfl nc.out (w2.heap.size+1) (some ⟨w2.heap.size,0,none⟩) 1 1 [.int .i32 r] rfl HN3.out ?s1 (by simp only [maxLen];omega) (by omega) (by simp;omega) ?_));(case s1=>intro u hu;simp at hu;rw [hu];rfl);intro v' w4 an;have ri:w4.ownsRow w1.heap.size 21 1 v' (L++[r]).length (runeCells (L++[r])):=by
    have:=an.own;simpa [runeCells] using this
   have hb4:Below w.heap.size w w4:=(bw.out.alloc bw.out.size _).trans ((an.below (B:=w1.heap.size) (by simp;omega) nc.out).mono bI.out.size);have hs4:w1.heap.size≤w4.heap.size:=by
    have:=an.2.1.size;simp at this;omega
   clear an;go_wp2_with fail;refine⟨⟨q+1,L++[r],by omega,by go_num,ri,?_,hb4,hs4⟩,by simp [intOf];omega⟩;rw [Jk.out,List.filter_append,NK.out];simp [yp.out]
  obtain rfl:q=(aT s).length:=(by omega);have hU:L=zY s:=(by rw [NK.out,List.take_length];rfl);have WS:L.length≤5:=by
   rw [NK.out];have h1:=List.length_filter_le bT ((aT s).take (aT s).length);rw [List.take_length]at h1 ⊢;omega
  have HTU:=qqh (EY wr);have dF:=qqh (HB.out.alloc HB.out.size (.cells #[.slice none 0 0] 26));have Vo:=qqh (show kJ (wr.alloc (.cells #[.slice none 0 0] 26)) (wr.alloc (.cells #[.slice none 0 0] 26)).heap.size Au L.length L from((Rd.ck HO.out).alloc (Nat.le_refl _) _).more (by simp));rw [hU]at Vo WS ⊢;clear NK HO hU;generalize hUU:zY s=U at *;have HUU:=qqh hUU;clear hUU;have Js:=qqh (show(wr.alloc (.cells #[.slice none 0 0] 26)).heap.size=wr.heap.size+1 by simp);go_upto_region 16 with fail;generalize wr.alloc (.cells #[.slice none 0 0] 26)=W0 at *;go_wp2_with fail;go_loopw [16,17,18] (Qf l text U W0 m) (fun _ _ lg _=>m - (intOf lg).toNat);(case atStart=>exact⟨0,[],some ⟨wr.heap.size,0,none⟩,1,wr.heap.size,wr.heap.size+1,rfl,Nat.zero_le _,jA.nil _ _,rfl,HTU.out,fun b hb=>by simp [Value.ownBlock]at hb,by have:=Js.out;omega,fun j hj=>absurd hj (Nat.not_lt_zero _),Nat.zero_le _,Below.refl _ _⟩);obtain⟨k,G0,Al,cl,h0,h1,rfl,hk,q5,rfl,LG,hap,Tn,hall,On,hb0⟩:=hrel;have od:=qqh hall;obtain⟨LV,Xh⟩:∃ LV,words U k=LV:=⟨_,rfl⟩;have hlv:LV.length≤125:=by
   rw [← Xh,yI];exact Nat.le_trans (Nat.pow_le_pow_left WS k) (Nat.le_trans (Nat.pow_le_pow_right (by decide) (Nat.le_trans hk hm)) (by decide))
  have Tx:=qqh Xh;rw [Xh]at LG ⊢;have ff:=qqh (show Pp l text LV W0 Al h0 h1 G0 _ (.int .i64 0) _ from⟨0,G0,Nat.zero_le _,rfl,q5,LG,hap,Tn,fun _ h=>h,fun t h=>by simp at h,Nat.le_refl _,hb0⟩);clear q5 LG hap Tn hall hb0 Xh;go_wp2_with fail;go_loopw [16,66] (Pp l text LV W0 Al h0 h1 G0) (fun _ i _=>LV.length - (intOf i).toNat);(case atStart=>exact ff.out);obtain⟨q,G,hq,rfl,q5,LG,hap,Tn,TM,OP,aeh,hb⟩:=hrel;obtain⟨Ao,co,rfl,_⟩:=cL.form q5;have Lq:=qqh q5;have um:=qqh LG;have Ph:=qqh hap;have KO:=qqh TM;have Bc:=qqh OP;have bw:=qqh hb;have iG:=qqh (dF.out.trans (hb.mono dF.out.size));clear q5 hap TM OP hb;by_cases hlt:q<LV.length
  ·obtain⟨t,Nk⟩:∃ t,LV[q]? = some t:=⟨_,List.getElem?_eq_getElem hlt⟩;obtain⟨b,off,A',mm,c',rfl,_,dV,hcell,Dw⟩:=vI LG Nk;have hmm:t.length=mm:=(by have:=Dw.1;rw [runeCells_length]at this;omega);have hmk:t.length=k:=uK k t (by rw [Tx.out];exact List.mem_of_getElem? Nk);have jC:=qqh (CY X l Ar nr cr t A' mm c' wr Du (HL.out wr iG.out) (by simp only [maxLen];omega) Dw.of);unfold rV at jC;have Jk:=qqh (show LV.take (q+1)=LV.take q++[t] by rw [List.take_add_one,Nk];rfl);have oC:=qqh Dw;have hd:decide ((q:Int)<(LV.length:Int))=true:=decide_eq_true (by omega);have KM:(0:Int)≤(q:Int):=(by omega);have hq1:(q:Int)<(LV.length:Int):=(by omega);clear LG Nk Dw;go_wp2_with fail;refine jC.out.mono ?_;rintro e w2 ⟨⟨A3,n3,c3,rfl,iY,_⟩,aR⟩;have wW:=yA l t;obtain⟨⟨Qk,s3,p3⟩,e1,e2,hC⟩:∃ o g1 g2,eP l t=(o,(g1,g2)):=⟨_,_,_,rfl⟩;have Kn:=qqh (show Pv l text t→e1=0∧Qk=text by unfold Pv;rw [hC];exact fun h=>h);rw [hC]at iY wW ⊢;dsimp only at iY wW ⊢;have hba:=((Below.refl w2.heap.size w2).alloc (Nat.le_refl _) (.cells #[.slice A3 n3 c3,.int .i64 s3,.int .i64 p3] 29)).alloc (by simp) (.cells #[.int .i64 e1,.int .i64 e2] 32);have cC:=aR.trans (hba.mono aR.size);have ND:=qqh (Lq.out.below cC);have MU:=qqh (um.out.keep (aa.any cC));have bF:=qqh (bw.out.trans (cC.mono bw.out.size));have V2:=qqh (iG.out.trans (cC.mono iG.out.size));have SX:=qqh (oC.out.keep (aa.any cC));have ic:=qqh (iY.keep (aa.any hba)).of;have My:n3≤9223372036854775807:=(by have:=iY.1;rw [runeCells_length]at this;omega)
   have Ml:h1≤((w2.alloc (.cells #[.slice A3 n3 c3,.int .i64 s3,.int .i64 p3] 29)).alloc (.cells #[.int .i64 e1,.int .i64 e2] 32)).heap.size:=Nat.le_trans Tn cC.size;have mX:=qqh (show ai ((w2.alloc (.cells #[.slice A3 n3 c3,.int .i64 s3,.int .i64 p3] 29)).alloc (.cells #[.int .i64 e1,.int .i64 e2] 32)) w2.heap.size 29 #[.slice A3 n3 c3,.int .i64 s3,.int .i64 p3] from(ai.new w2 _ _).alloc _);have gx:=qqh (show ai ((w2.alloc (.cells #[.slice A3 n3 c3,.int .i64 s3,.int .i64 p3] 29)).alloc (.cells #[.int .i64 e1,.int .i64 e2] 32)) (w2.heap.size+1) 32 #[.int .i64 e1,.int .i64 e2] by simpa using ai.new (w2.alloc (.cells #[.slice A3 n3 c3,.int .i64 s3,.int .i64 p3] 29)) 32 #[.int .i64 e1,.int .i64 e2]);clear aR iY hba cC hC jC Lq um bw iG oC wW;go_upto_region 22 with fail;generalize (w2.alloc (.cells #[.slice A3 n3 c3,.int .i64 s3,.int .i64 p3] 29)).alloc (.cells #[.int .i64 e1,.int .i64 e2] 32)=W3 at *;have q0:=gx.out.cell 0;have o0:=mX.out.cell 0;by_cases he:e1=0
   ·subst he;have Ed:=qqh (Cg A3 At n3 nt c3 ct Qk text W3 My ic.out (HT.out W3 V2.out));obtain⟨E,hE⟩:∃ E,(Qk == text)=E:=⟨_,rfl⟩;rw [hE]at Ed;have HEE:=qqh hE;clear hE;cases E
    ·go_wp2_with (go_at_call 24;refine Ed.out.mono ?_;rintro e w4 ⟨rfl,nq,rfl⟩);have DH:Below W3.heap.size W3 (W3.drewN nq):=(Below.refl _ _).trans ⟨rfl,rfl,rfl,Nat.le_refl _,fun _ _=>rfl⟩;refine⟨⟨q+1,G,by omega,by go_num,ND.out.below DH,MU.out.keep (aa.any DH),Ph.out,Ml,KO.out,fun y hy hk2=>?_,by omega,bF.out.trans (DH.mono bF.out.size)⟩,by simp [intOf];omega⟩;rw [Jk.out]at hy;rcases List.mem_append.1 hy with hy | hy;exact Bc.out y hy hk2;rw [List.mem_singleton]at hy;subst hy;have h9:=HEE.out;rw [(Kn.out hk2).2]at h9;simp at h9
    go_wp2_with (go_at_call 24;refine Ed.out.mono ?_;rintro e w4 ⟨rfl,nq,rfl⟩);have DH:Below W3.heap.size W3 (W3.drewN nq):=(Below.refl _ _).trans ⟨rfl,rfl,rfl,Nat.le_refl _,fun _ _=>rfl⟩;have Uy:=qqh (ND.out.below DH);have YS:=qqh (MU.out.keep (aa.any DH));have dP:=qqh (bF.out.trans (DH.mono bF.out.size));have NL:h1≤(W3.drewN nq).heap.size:=Ml;have qq:=qqh (mo A' mm c' t (W3.drewN nq) (by omega) (SX.out.keep (aa.any DH)).of);clear ND MU bF SX ic Ed q0 o0 mX gx V2 Ml DH;generalize W3.drewN nq=W4 at *;refine qq.out.mono ?_;rintro e w5 ⟨⟨v5,rfl,Qr⟩,cY⟩;obtain⟨A5,c5,rfl,_⟩:=aI Qr;have ek:=cY.trans ((Below.refl w5.heap.size w5).alloc (Nat.le_refl _) (.cells #[.slice A5 mm c5] 26) |>.mono cY.size);have FG:=qqh (Uy.out.below ek);have Y9:=qqh (YS.out.keep (aa.any ek));have fC:=qqh (dP.out.trans (ek.mono dP.out.size));have uS:=qqh (World.ownsRow.alloc Qr (.cells #[.slice A5 mm c5] 26));have HN6:=qqh (Rd.new w5 26 1 1 [.slice A5 mm c5] rfl);have PB:=Nat.le_trans NL ek.size;have WH:=qqh (fun(b:Nat) (hb:(Value.slice Ao G.length co).ownBlock=some b)=>show b<W4.heap.size by
     obtain⟨_,_,_,_,h9⟩:=Uy.out;exact(aU h9 hb).2)
    have agB:=dP.out.size;obtain⟨css,k1,k2,k3,k4⟩:=FG.out;have aeP:G.length≤1000:=(by omega);clear cY ek Qr;go_wp2_with (at_builtin;refine aj _ rfl (.tmp 85) (.tmp 88) 43 rfl W0.heap.size 26 i1 _ 1 24 Tryz.underlying43 hi1 y0 y1 y2 rfl (by decide) _ _ _ rfl k4 (w5.heap.size+1) (some ⟨w5.heap.size,0,none⟩) 1 1 [.slice A5 mm c5] rfl HN6.out ?s1 (by simp only [maxLen];omega) (by omega) fC.out.size ?_);(case s1=>intro u hu;simp at hu;rw [hu];rfl);intro v' w7 an;have Jn:cE (w5.alloc (.cells #[.slice A5 mm c5] 26)) (fun b=>W0.heap.size≤b∧(Value.slice Ao G.length co).ownBlock≠some b) 1 A5 mm (runeCells t):=cE.ck uS.out (fun b hb=>⟨by have:=(aU uS.out hb).1;omega,fun e=>by have h8:=(aU uS.out hb).1;have h9:=WH.out b e;omega⟩);have hg7:=yj k1 k2 k3 Jn (c:=c5) an;have YN:=Y9.out.keep (aa.app an (X:=fun b=>h0≤b∧b<h1) (X':=fun b=>h0≤b∧b<h1) (fun b hX e=>by rcases Ph.out b e with h | h <;> omega) (fun _ h _=>h));have gw:=fC.out.trans (an.below fC.out.size k4);have hh7:=Nat.le_trans PB an.2.1.size;have Yd:∀ b,v'.ownBlock=some b→b<h0∨h1≤b:=fun b e=>by
     rcases an.2.2 with h | h;exact Ph.out b (h ▸ e);rw [h]at e;injection e with e;exact .inr (by omega)
    clear an k1 k2 k3 k4 Jn;go_wp2_with fail;refine⟨⟨q+1,G++[t],by omega,by go_num,hg7,YN,Yd,hh7,fun y hy=>List.mem_append_left _ (KO.out y hy),fun y hy hk2=>?_,by rw [List.length_append,List.length_singleton];omega,gw⟩,by simp [intOf];omega⟩;rw [Jk.out]at hy;rcases List.mem_append.1 hy with hy | hy;exact List.mem_append_left _ (Bc.out y hy hk2);exact List.mem_append_right _ hy
   go_wp2_with fail;refine⟨⟨q+1,G,by omega,by go_num,ND.out,MU.out,Ph.out,Ml,KO.out,fun y hy hk2=>?_,by omega,bF.out⟩,by simp [intOf];omega⟩;rw [Jk.out]at hy;rcases List.mem_append.1 hy with hy | hy;exact Bc.out y hy hk2;rw [List.mem_singleton]at hy;subst hy;exact absurd (Kn.out hk2).1 he
  obtain rfl:q=LV.length:=(by omega);have OS:=qqh (show ∀ j,j<k+1→∀ t∈words U j,Pv l text t→t∈G from fun j hj t ht hk2=>by
   rcases Nat.lt_or_ge j k with h | h;exact KO.out t (od.out j h t ht hk2);obtain rfl:j=k:=(by omega);rw [Tx.out]at ht;exact Bc.out t (by rw [List.take_length];exact ht) hk2)
  clear Bc KO;by_cases hkm:k=m
  ·subst hkm;go_wp2_with fail;go_ret2;refine⟨⟨Ao,G.length,co,0,rfl,fun _=>⟨pV.out,G,by omega,(jA.done Lq.out).keep (fun b hx ia=>⟨rfl,Nat.le_trans dF.out.size hx,ia⟩),fun t hlen hu hk2=>OS.out t.length (by omega) t (GY _ t rfl (fun r hr=>HUU.out ▸ hu r hr)) hk2⟩⟩,iG.out⟩
  have afF:((k:Int) ==(m:Int))=false:=(by rw [beq_eq_false_iff_ne];omega);have ae5:LV.length≤25:=by
   rw [← Tx.out,yI];exact Nat.le_trans (Nat.pow_le_pow_left WS k) (Nat.le_trans (Nat.pow_le_pow_right (by decide) (show k≤2 by omega)) (by decide))
  obtain⟨W1,rfl⟩:∃ W1:World,W1=wr:=⟨_,rfl⟩;have X4:=qqh (fun(W:World) (hb:Below W1.heap.size W1 W)=>show ld W (fun b=>h0≤b∧b<h1) Al LV.length LV from um.out.keep (aa.any hb));go_wp2_with fail;go_loopw [23,97] (Vy LV U W1) (fun _ i _=>LV.length - (intOf i).toNat);(case atStart=>exact⟨0,Nat.zero_le _,rfl,jA.nil _ _,Below.refl _ _⟩);obtain⟨q,hq,rfl,YM,ie⟩:=hrel;obtain⟨Ax,cx,rfl,_⟩:=cL.form YM;have FK:=qqh YM;have su:=qqh ie;have HTQ:=qqh (X4.out wr ie);clear YM ie;by_cases hlt2:q<LV.length
  ·obtain⟨t,Nk⟩:∃ t,LV[q]? = some t:=⟨_,List.getElem?_eq_getElem hlt2⟩;obtain⟨b,off,A',mm,c',rfl,_,dV,L5,Rn⟩:=vI um.out Nk;have hcell:=(su.out.cell (p:=⟨b,off+q,none⟩) dV).trans L5;have Yg:=qqh Rn;have hmm:t.length=mm:=(by have:=Rn.1;rw [runeCells_length]at this;omega);clear L5 Rn;have Jk:=qqh (show LV.take (q+1)=LV.take q++[t] by rw [List.take_add_one,Nk];rfl);have KM:(0:Int)≤(q:Int):=(by omega);have hq1:(q:Int)<(LV.length:Int):=(by omega);have hd:decide ((q:Int)<(LV.length:Int))=true:=decide_eq_true (by omega);have hmk:t.length=k:=uK k t (by rw [Tx.out];exact List.mem_of_getElem? Nk);clear Nk;go_wp2_with fail;go_loopw [23,103] (UB ((LV.take q).flatMap fun t=>U.map fun u=>t++[u]) t U W1) (fun _ i _=>U.length - (intOf i).toNat);(case atStart=>exact⟨0,Nat.zero_le _,rfl,by simpa using FK.out,su.out⟩);obtain⟨p,hp,rfl,Sf,hby⟩:=hrel;by_cases Td:p<U.length
   ·obtain⟨u,hu⟩:∃ u,U[p]? = some u:=⟨_,List.getElem?_eq_getElem Td⟩;have HUW:=qqh (Rd.below Vo.out (bw.out.trans (hby.mono bw.out.size)));obtain⟨bu,ou,rfl,_,Iz⟩:=kJ.at HUW.out Td;have SM:U.getD p 0=u:=(by rw [List.getD_eq_getElem?_getD,hu];rfl);rw [SM]at Iz;have HTP:=qqh (show U.take (p+1)=U.take p++[u] by rw [List.take_add_one,hu];rfl);have qq:=qqh (mo A' mm c' t wr (by omega) (Yg.out.keep (aa.any hby)).of);have UI:=qqh Sf;have Ta:=qqh hby;have hd3:decide ((p:Int)<(U.length:Int))=true:=decide_eq_true (by omega);have hp0:(0:Int)≤(p:Int):=(by omega);have hp1:(p:Int)<(U.length:Int):=(by omega);have hgn:((LV.take q).flatMap (fun t=>U.map fun u=>t++[u])++(U.take p).map fun u=>t++[u]).length≤130:=by
     rw [List.length_append,DE,List.length_map,List.length_take,List.length_take];have h8:=Nat.mul_le_mul (show min q LV.length≤25 by omega) WS;omega
    obtain⟨N,hN⟩:∃ N,(LV.take q).flatMap (fun t=>U.map fun u=>t++[u])++(U.take p).map (fun u=>t++[u])=N:=⟨_,rfl⟩;have Sp:=qqh hN;rw [hN]at hgn Sf UI;clear hN;obtain⟨Ay,cy,rfl,_⟩:=cL.form Sf;clear hu SM Sf hby;go_wp2_with fail;refine qq.out.mono ?_;rintro e w5 ⟨⟨v5,rfl,Qr⟩,cY⟩;obtain⟨A5,c5,rfl,_⟩:=aI Qr;have tO:=qqh (World.ownsRow.alloc Qr (.cells #[.int .i32 u] 21));have HN5:=qqh (Rd.new w5 21 1 1 [.int .i32 u] rfl);have dN:=qqh cY;have U8:=cY.size;clear Qr cY;go_wp2_with (at_builtin;refine aj _ rfl (.tmp 109) (.tmp 111) 26 rfl wr.heap.size 21 i0 _ 1 4 Tryz.underlying26 hi z0 z1 z2 rfl (by decide) _ _ _ rfl tO.out (w5.heap.size+1) (some ⟨w5.heap.size,0,none⟩) 1 1 [.int .i32 u] rfl HN5.out ?s1 (by simp only [maxLen];omega) (by omega) (by simp;omega) ?_);(case s1=>intro u hu;simp at hu;rw [hu];rfl);intro v6 w6 K0;have ho6:w6.ownsRow wr.heap.size 21 1 v6 (mm+1) (runeCells (t++[u])):=by
     have:=K0.own;simpa [runeCells] using this
    have ek:Below wr.heap.size wr w6:=(dN.out.alloc dN.out.size _).trans (K0.below (B:=wr.heap.size) (by simp;omega) tO.out);obtain⟨A6,c6,rfl,_⟩:=aI ho6;have TD:=ek.size;have gw:Below wr.heap.size wr (w6.alloc (.cells #[.slice A6 (mm+1) c6] 26)):=ek.alloc TD _;have F5:=qqh (UI.out.below gw);have FA:=qqh (World.ownsRow.alloc ho6 (.cells #[.slice A6 (mm+1) c6] 26));have Ls:=qqh (Rd.new w6 26 1 1 [.slice A6 (mm+1) c6] rfl);have kV:=qqh (Ta.out.trans (gw.mono Ta.out.size));have HOX:=qqh (show ∀ b,(Value.slice Ay N.length cy).ownBlock=some b→b<wr.heap.size from fun b hb=>by
     obtain⟨_,_,_,_,h9⟩:=UI.out;exact(aU h9 hb).2)
    have hw1:=Ta.out.size;obtain⟨css,k1,k2,k3,k4⟩:=F5.out;clear K0 ho6 ek gw;go_wp2_with (at_builtin;refine aj _ rfl (.tmp 107) (.tmp 113) 43 rfl W1.heap.size 26 i1 _ 1 24 Tryz.underlying43 hi1 y0 y1 y2 rfl (by decide) _ _ _ rfl k4 (w6.heap.size+1) (some ⟨w6.heap.size,0,none⟩) 1 1 [.slice A6 (mm+1) c6] rfl Ls.out ?s1 (by simp only [maxLen];omega) (by omega) kV.out.size ?_);(case s1=>intro u hu;simp at hu;rw [hu];rfl);intro v8 w8 an;have Ms:=cE.ck (X:=fun b=>W1.heap.size≤b∧(Value.slice Ay N.length cy).ownBlock≠some b) FA.out (fun b hb=>⟨by have:=(aU FA.out hb).1;omega,fun e=>by have h8:=(aU FA.out hb).1;have h9:=HOX.out b e;omega⟩);have hg8:=yj k1 k2 k3 Ms (c:=c6) an;have gy:=kV.out.trans (an.below kV.out.size k4);clear an k1 k2 k3 k4 Ms;go_wp2_with fail;exact⟨⟨p+1,by omega,by go_num,by rw [HTP.out,List.map_append,← List.append_assoc,Sp.out];exact hg8,gy⟩,by simp [intOf];omega⟩
   obtain rfl:p=U.length:=(by omega);have UI:=qqh Sf;have Ta:=qqh hby;clear Sf hby;go_wp2_with fail;exact⟨⟨q+1,by omega,by go_num,by rw [Jk.out,List.flatMap_append];simpa using UI.out,Ta.out⟩,by simp [intOf];omega⟩
  obtain rfl:q=LV.length:=(by omega);have hw:((LV.take LV.length).flatMap fun t=>U.map fun u=>t++[u])=words U (k+1):=(by rw [List.take_length,← Tx.out];rfl);rw [hw]at FK ⊢;have HTD:=qqh ((jA.done FK.out).keep (X':=fun b=>W1.heap.size≤b∧b<wr.heap.size) (fun b hx ia=>⟨rfl,⟨hx,ia⟩,ia⟩));have HAO:=qqh (fun(b:Nat) (hb:(Value.slice Ao G.length co).ownBlock=some b)=>show b<W1.heap.size∨wr.heap.size≤b from by
   obtain⟨_,_,_,_,h9⟩:=Lq.out;exact .inl (aU h9 hb).2)
  go_wp2_with fail;exact⟨⟨k+1,G,Ax,cx,W1.heap.size,wr.heap.size,by go_num,by omega,Lq.out.below su.out,rfl,HTD.out,HAO.out,Nat.le_refl _,OS.out,by omega,bw.out.trans (su.out.mono bw.out.size)⟩,by simp [intOf];omega⟩
 go_wp2_with fail;go_ret2;exact⟨⟨none,0,0,g2,rfl,fun h=>absurd h hz⟩,bI.out⟩
end Go.Proofs.YthgkedoildcbcaaGreatDoor
