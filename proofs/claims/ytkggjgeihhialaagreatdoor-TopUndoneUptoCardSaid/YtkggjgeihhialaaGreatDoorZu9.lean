/- SetWork + SpanInfo + Same -/
import Derived.Test.YtkggjgeihhialaaGreatDoorZu8
import Derived.Test.YtkggjgeihhialaaGreatDoorRows
import Derived.Test.YtkggjgeihhialaaGreatDoorZu3
import Derived.Deep.QuietTactic
import Derived.BigQuiet
set_option maxHeartbeats 400000
namespace Go.Proofs.YtkggjgeihhialaaGreatDoor
open Go.RowKit
def mj (a:Int):af→af
  | []=>if a≤1114111 then [(a,1114111)]else []
  | x::s=>(if a<x.1 then [(a,x.1 - 1)]else [])++mj (x.2+1) s
theorem Ld (s:af):∀ a,0≤a→Canon s→(∀ x∈s,a≤x.1)→Canon (mj a s)∧(∀ y∈mj a s,a≤y.1)∧∀ r,a≤r→r≤1114111→bf (mj a s) r = !bf s r:=by
 induction s with
 | nil=>
  intro a h0 _ _;unfold mj;split
  ·rename_i h;refine⟨⟨by simp;omega,List.pairwise_singleton _ _⟩,by simp,fun r h1 h2=>?_⟩;simp [bf];omega
  exact⟨Canon.nil,by simp,fun r h1 h2=>by omega⟩
 | cons x s ih=>
  intro a h0 hc hl;have hx:=hc.each x List.mem_cons_self;have hax:=hl x List.mem_cons_self;have qx:=hc.low;obtain⟨i1,i2,i3⟩:=ih (x.2+1) (by omega) hc.tail (fun y hy=>by have:=qx y hy;omega);have key:∀ r,x.1≤r→r≤1114111→bf (mj (x.2+1) s) r = !bf (x::s) r:=by
   intro r h1 h2;rw [cj];by_cases hr:r≤x.2
   ·rw [eu (s:=mj (x.2+1) s) (m:=x.2) (fun y hy=>by have:=i2 y hy;omega) hr];simp [h1,hr]
   rw [i3 r (by omega) h2];simp [hr]
  unfold mj;split
  ·rename_i h;refine⟨⟨fun y hy=>?_,?_⟩,fun y hy=>?_,fun r h1 h2=>?_⟩
   ·rcases List.mem_append.1 hy with hy | hy
    ·rw [List.mem_singleton.1 hy];simp only;omega
    exact i1.each y hy
   ·rw [List.pairwise_append];refine⟨List.pairwise_singleton _ _,i1.mV,fun p hp q hq=>?_⟩;rw [List.mem_singleton.1 hp];have:=i2 q hq;simp only;omega
   ·rcases List.mem_append.1 hy with hy | hy
    ·rw [List.mem_singleton.1 hy];exact Int.le_refl _
    have:=i2 y hy;omega
   rw [ee];by_cases hr:x.1≤r
   ·rw [key r hr h2];simp [bf];omega
   rw [eu (s:=mj (x.2+1) s) (m:=x.2) (fun y hy=>by have:=i2 y hy;omega) (by omega),cj x s,eu (s:=s) (m:=x.2+1) qx (by omega)];rw [decide_eq_false hr];simp [bf];omega
  refine⟨i1,fun y hy=>by have:=i2 y hy;omega,fun r h1 h2=>?_⟩;rw [List.nil_append];exact key r (by omega) h2
def wS (s:af):af:=mj 0 s
theorem Bu {s:af} (h:Canon s):Canon (wS s)∧∀ r,0≤r→r≤1114111→bf (wS s) r = !bf s r :=
  let ⟨h1,_,h3⟩:=Ld s 0 (Int.le_refl _) h (fun x hx=>(h.each x hx).1)
  ⟨h1,h3⟩
def dw:af→af→af
  | [],_=>[]
  | _::_,[]=>[]
  | x::a,y::b=>(if max x.1 y.1≤min x.2 y.2 then [(max x.1 y.1,min x.2 y.2)]else [])++(if x.2<y.2 then dw a (y::b)else dw (x::a) b)
termination_by a b=>a.length+b.length
theorem sD (b:af):dw [] b = []:=by unfold dw;rfl
theorem uZ (a:af):dw a [] = []:=by cases a <;> unfold dw <;> rfl
theorem vg (x y:Int × Int) (a b:af):dw (x::a) (y::b)=(if max x.1 y.1≤min x.2 y.2 then [(max x.1 y.1,min x.2 y.2)]else [])++(if x.2<y.2 then dw a (y::b)else dw (x::a) b):=by
 rw [dw]
theorem LV (n:Nat):∀ a b:af,a.length+b.length≤n→Canon a→Canon b →
    (dw a b).length≤a.length+b.length∧Canon (dw a b)∧(∀ z∈dw a b,(∃ x∈a,x.1≤z.1)∧∃ y∈b,y.1≤z.1)∧∀ r,bf (dw a b) r=(bf a r && bf b r):=by
 induction n with
 | zero=>
  intro a b hn _ _;obtain rfl:a = []:=List.eq_nil_of_length_eq_zero (by omega);rw [sD];exact⟨Nat.zero_le _,Canon.nil,by simp,fun r=>by simp [bf]⟩
 | succ n ih=>
  intro a b hn ha hb;cases a with
  | nil=>rw [sD];exact⟨Nat.zero_le _,Canon.nil,by simp,fun r=>by simp [bf]⟩
  | cons x a=>
   cases b with
   | nil=>rw [uZ];exact⟨Nat.zero_le _,Canon.nil,by simp,fun r=>by simp [bf]⟩
   | cons y b=>
    have hx:=ha.each x List.mem_cons_self;have hy:=hb.each y List.mem_cons_self;have la:=ha.low;have lb:=hb.low;rw [List.length_cons,List.length_cons]at hn;rw [vg];by_cases h:x.2<y.2
    ·rw [if_pos h];obtain⟨i0,i1,i2,i3⟩:=ih a (y::b) (by rw [List.length_cons];omega) ha.tail hb;rw [List.length_cons]at i0;have qx:∀ z∈dw a (y::b),x.2+1<z.1:=fun z hz=>by
      obtain⟨⟨p,hp,h1⟩,_⟩:=i2 z hz;have:=la p hp;omega
     have hmin:min x.2 y.2=x.2:=(by omega);rw [hmin];refine⟨?_,?_,fun z hz=>?_,fun r=>?_⟩
     ·rw [List.length_append,List.length_cons,List.length_cons];split <;> simp <;> omega
     ·split
      ·rename_i hm;refine⟨fun z hz=>?_,?_⟩
       ·rcases List.mem_append.1 hz with hz | hz
        ·rw [List.mem_singleton.1 hz];simp only;omega
        exact i1.each z hz
       rw [List.pairwise_append];refine⟨List.pairwise_singleton _ _,i1.mV,fun p hp q hq=>?_⟩;rw [List.mem_singleton.1 hp];exact qx q hq
      exact i1
     ·rcases List.mem_append.1 hz with hz | hz
      ·split at hz
       ·rw [List.mem_singleton.1 hz];exact⟨⟨x,List.mem_cons_self,by simp only;omega⟩,y,List.mem_cons_self,by simp only;omega⟩
       simp at hz
      obtain⟨⟨p,hp,h1⟩,h2⟩:=i2 z hz;exact⟨⟨p,List.mem_cons_of_mem _ hp,h1⟩,h2⟩
     rw [ee,i3,cj x a];have e1:bf (if max x.1 y.1≤x.2 then [(max x.1 y.1,x.2)]else []) r=((decide (x.1≤r) && decide (r≤x.2)) && decide (y.1≤r)):=by
      split
      ·rw [Bool.eq_iff_iff];simp [bf];omega
      rw [Bool.eq_iff_iff];simp [bf];omega
     rw [e1];by_cases hr:r≤x.2
     ·rw [eu (s:=a) (m:=x.2+1) la (by omega),cj y b,eu (s:=b) (m:=y.2+1) lb (by omega)];rw [Bool.eq_iff_iff];simp;omega
     simp [hr]
    rw [if_neg h];obtain⟨i0,i1,i2,i3⟩:=ih (x::a) b (by rw [List.length_cons];omega) ha hb.tail;rw [List.length_cons]at i0;have qx:∀ z∈dw (x::a) b,y.2+1<z.1:=fun z hz=>by
     obtain⟨_,⟨p,hp,h1⟩⟩:=i2 z hz;have:=lb p hp;omega
    have hmin:min x.2 y.2=y.2:=(by omega);rw [hmin];refine⟨?_,?_,fun z hz=>?_,fun r=>?_⟩
    ·rw [List.length_append,List.length_cons,List.length_cons];split <;> simp <;> omega
    ·split
     ·rename_i hm;refine⟨fun z hz=>?_,?_⟩
      ·rcases List.mem_append.1 hz with hz | hz
       ·rw [List.mem_singleton.1 hz];simp only;omega
       exact i1.each z hz
      rw [List.pairwise_append];refine⟨List.pairwise_singleton _ _,i1.mV,fun p hp q hq=>?_⟩;rw [List.mem_singleton.1 hp];exact qx q hq
     exact i1
    ·rcases List.mem_append.1 hz with hz | hz
     ·split at hz
      ·rw [List.mem_singleton.1 hz];exact⟨⟨x,List.mem_cons_self,by simp only;omega⟩,y,List.mem_cons_self,by simp only;omega⟩
      simp at hz
     obtain⟨h1,⟨p,hp,h2⟩⟩:=i2 z hz;exact⟨h1,p,List.mem_cons_of_mem _ hp,h2⟩
    rw [ee,i3,cj y b];have e1:bf (if max x.1 y.1≤y.2 then [(max x.1 y.1,y.2)]else []) r=((decide (y.1≤r) && decide (r≤y.2)) && decide (x.1≤r)):=by
     split
     ·rw [Bool.eq_iff_iff];simp [bf];omega
     rw [Bool.eq_iff_iff];simp [bf];omega
    rw [e1];by_cases hr:r≤y.2
    ·rw [eu (s:=b) (m:=y.2+1) lb (by omega),cj x a,eu (s:=a) (m:=x.2+1) la (by omega)];rw [Bool.eq_iff_iff];simp;omega
    simp [hr]
theorem vW {a b:af} (ha:Canon a) (hb:Canon b):(dw a b).length≤a.length+b.length∧Canon (dw a b)∧∀ r,bf (dw a b) r=(bf a r && bf b r) :=
  let ⟨h0,h1,_,h3⟩:=LV _ a b (Nat.le_refl _) ha hb
  ⟨h0,h1,h3⟩
def dP (out:af) (x:Int × Int):af :=
  match out.getLast? with
  | some k=>if x.1≤k.2+1 then out.dropLast++[(k.1,max k.2 x.2)]else out++[x]
  | none=>out++[x]
theorem oP (x:Int × Int):dP [] x = [x]:=rfl
theorem kO (i:af) (k x:Int × Int):dP (i++[k]) x=if x.1≤k.2+1 then i++[(k.1,max k.2 x.2)]else i++[k]++[x]:=by
 unfold dP;simp
def iD (l:af):af:=l.foldl dP []
theorem Bm {out:af} {x:Int × Int} (h:Canon out) (hx:0≤x.1∧x.1≤x.2∧x.2≤1114111) (hl:∀ y∈out,y.1≤x.1) :
    Canon (dP out x)∧(∀ y∈dP out x,y.1≤x.1)∧(dP out x).length≤out.length+1∧∀ r,bf (dP out x) r=(bf out r || (decide (x.1≤r) && decide (r≤x.2))):=by
 rcases List.eq_nil_or_concat out with rfl | ⟨i,k,rfl⟩
 ·rw [oP];exact⟨⟨by simpa using hx,List.pairwise_singleton _ _⟩,by simp,by simp,fun r=>by simp [bf]⟩
 rw [List.concat_eq_append]at h hl ⊢;obtain⟨hi,hk,hik⟩:=xg h;have hkx:=hl k (by simp);rw [kO];by_cases he:x.1≤k.2+1
 ·rw [if_pos he];refine⟨mN hi ⟨hk.1,by simp only;omega,by simp only;omega⟩ hik,fun y hy=>?_,by simp,fun r=>?_⟩
  ·rcases List.mem_append.1 hy with hy | hy;exact hl y (by simp [hy]);rw [List.mem_singleton.1 hy];exact hkx
  rw [ee,ee,Bool.or_assoc];congr 1;simp only [bf,List.any_cons,List.any_nil,Bool.or_false];rw [Bool.eq_iff_iff];simp;omega
 rw [if_neg he];refine⟨mN h hx (fun y hy=>?_),fun y hy=>?_,by simp,fun r=>?_⟩
 ·rcases List.mem_append.1 hy with hy | hy
  ·have:=hik y hy;omega
  rw [List.mem_singleton.1 hy];omega
 ·rcases List.mem_append.1 hy with hy | hy;exact hl y hy;rw [List.mem_singleton.1 hy];exact Int.le_refl _
 rw [ee];congr 1;simp [bf]
theorem Np (l:af):∀ out:af,Canon out→(∀ x∈l,0≤x.1∧x.1≤x.2∧x.2≤1114111)→l.Pairwise (fun a b=>a.1≤b.1)→(∀ y∈out,∀ x∈l,y.1≤x.1) →
    Canon (l.foldl dP out)∧(l.foldl dP out).length≤out.length+l.length∧∀ r,bf (l.foldl dP out) r=(bf out r || bf l r):=by
 induction l with
 | nil=>intro out h _ _ _;exact⟨h,Nat.le_refl _,fun r=>by simp [bf]⟩
 | cons x l ih=>
  intro out h hv hs hl;rw [List.pairwise_cons]at hs;obtain⟨m1,m2,m3,m4⟩:=Bm h (hv x List.mem_cons_self) (fun y hy=>hl y hy x List.mem_cons_self);obtain⟨i1,i2,i3⟩:=ih (dP out x) m1 (fun y hy=>hv y (List.mem_cons_of_mem _ hy)) hs.2 (fun y hy z hz=>by have:=m2 y hy;have:=hs.1 z hz;omega);rw [List.foldl_cons,List.length_cons];refine⟨i1,by omega,fun r=>?_⟩;rw [i3,m4,cj,Bool.or_assoc]
theorem Es {l:af} (hv:∀ x∈l,0≤x.1∧x.1≤x.2∧x.2≤1114111) (hs:l.Pairwise (fun a b=>a.1≤b.1)):Canon (iD l)∧(iD l).length≤l.length∧∀ r,bf (iD l) r=bf l r:=by
 obtain⟨h1,h2,h3⟩:=Np l [] Canon.nil hv hs (by simp);exact⟨h1,by rw [iD];simpa using h2,fun r=>by rw [iD,h3];simp [bf]⟩
theorem Ig {a b:af} (h:a.Perm b) (r:Int):bf a r=bf b r:=by
 rw [Bool.eq_iff_iff,nC,nC];exact⟨fun⟨x,hx,h1⟩=>⟨x,h.mem_iff.1 hx,h1⟩,fun⟨x,hx,h1⟩=>⟨x,h.mem_iff.2 hx,h1⟩⟩
def sy (s:af):af × Int:=if 200<s.length then ([],5)else (s,0)
theorem LR {a b l:af} (ha:aF a) (hb:aF b) (hp:(a++b).Perm l) (hs:l.Pairwise (fun a b=>a.1≤b.1)):mz 124 a b=sy (iD l):=by
 obtain⟨h1,_,h3⟩:=Es (l:=l) (fun x hx=>by
  rcases List.mem_append.1 (hp.mem_iff.2 hx)with h | h;exact ha.each x h;exact hb.each x h) hs
 refine Li (by decide) ha hb h1 fun r _ _=>?_;rw [h3,← Ig hp,ee];simp [mH]
theorem Gn {a b:af} (ha:aF a) (hb:aF b):mz 38 a b=sy (dw a b):=by
 obtain⟨_,h1,h3⟩:=vW ha.canon hb.canon;refine Li (by decide) ha hb h1 fun r _ _=>?_;rw [h3];simp [mH]
theorem M7 {a b:af} (ha:aF a) (hb:aF b):mz 45 a b=sy (dw a (wS b)):=by
 obtain⟨n1,n2⟩:=Bu hb.canon;obtain⟨_,h1,h3⟩:=vW ha.canon n1;refine Li (by decide) ha hb h1 fun r h0 h2=>?_;rw [h3,n2 r h0 h2];simp [mH]
theorem Nf {a:af} (ha:aF a) (b:af):mz 94 a b=sy (wS a):=by
 obtain⟨n1,n2⟩:=Bu ha.canon;exact Rh ha n1 n2 b
theorem jj:(Tryz.prog.info? 82).map (fun i=>(i.zero,i.size,i.bytes))=some (some (.agg #[.int .i32 0,.int .i32 0]),2,8):=by kernel_rfl
theorem l9 (x y:Int):∀ u ∈ [Value.int .i32 x,.int .i32 y],u.oneCell'=true:=by
 intro u hu;simp at hu;rcases hu with rfl | rfl <;> rfl
theorem gx (l:af) (x y:Int):an (l++[(x,y)])=an l++[.int .i32 x,.int .i32 y]:=by simp [an]
theorem lJ (l:af):∀ u∈an l,u.oneCell'=true:=by
 intro u hu;simp only [an,List.mem_flatMap]at hu;obtain⟨x,_,hu⟩:=hu;simp at hu;rcases hu with rfl | rfl <;> rfl
theorem wg (a b:af):an (a++b)=an a++an b:=by simp [an]
theorem lU (a b:af):an (a++b)=an a++an b:=by simp [an]
theorem OS {xs ys:List Int} {k:Nat} (h:(xs[k]?.getD 0 != ys[k]?.getD 0)=true):false=(xs == ys):=by
 symm;rw [beq_eq_false_iff_ne];rintro rfl;simp at h
theorem H6 {xs ys:List Int} {k:Nat} (hx:k<xs.length) (hy:k<ys.length) (he:xs.take k=ys.take k) (h:(xs[k]?.getD 0 != ys[k]?.getD 0)=false):xs.take (k+1)=ys.take (k+1):=by
 rw [List.take_succ_eq_append_getElem hx,List.take_succ_eq_append_getElem hy,he];simp [List.getElem?_eq_getElem hx,List.getElem?_eq_getElem hy]at h;rw [h]
theorem Mj {xs ys:List Int} {n:Nat} (hx:xs.length=n) (hy:ys.length=n) (he:xs.take n=ys.take n):true=(xs == ys):=by
 rw [List.take_of_length_le (by omega),List.take_of_length_le (by omega)]at he;simp [he]
theorem LO (A C:Option Addr) (n m c d:Nat) (xs ys:List Int) (w:World) (hn:n≤9223372036854775807)
    (hx:lX w w.heap.size A n xs) (hy:lX w w.heap.size C m ys) :
    Calls Tryz.prog 10 #[.slice A n c,.slice C m d] w fun e w'=>e=.returned (.bool (xs == ys))∧∃ k,w'=w.drewN k:=by
 have lx:=hx.len;have ly:=hy.len;by_cases hnm:n=m
 ·subst hnm;go_enter Tryz.func10,Tryz.ntmps10;go_wp2;go_loopw [13] (fun i wr=>∃ k q:Nat,k≤n∧i=.int .i64 k∧wr=w.drewN q∧xs.take k=ys.take k) (fun i _=>n - (intOf i).toNat);(case atStart=>exact⟨0,0,Nat.zero_le _,rfl,rfl,rfl⟩);obtain⟨k,q,hk,rfl,rfl,heq⟩:=hrel;have HE:=qqh heq;clear heq;by_cases hlt:k<n
  ·obtain⟨b1,o1,rfl,aR,hc1⟩:=hx.at hlt;obtain⟨b2,o2,rfl,aU,hc2⟩:=hy.at hlt;have HX:=qqh hx;have HY:=qqh hy;have LX:=qqh lx;have LY:=qqh ly;clear hx hy lx ly;go_wp2;go_quiet (fail);go_wp2
   ·have hd:(xs[k]?.getD 0 != ys[k]?.getD 0)=true:=(by assumption);go_ret;exact⟨aW (OS hd),_,World.drewN_drewN _ _ _⟩
   have hd:(xs[k]?.getD 0 != ys[k]?.getD 0)=false:=(by assumption);refine⟨⟨k+1,_,by omega,by go_num,rfl,H6 (by rw [LX.out];exact hlt) (by rw [LY.out];exact hlt) HE.out hd⟩,by simp [intOf];omega⟩
  obtain rfl:k=n:=(by omega);go_wp2;go_ret;exact⟨aW (Mj lx ly HE.out),_,rfl⟩
 have hne:((n:Int) !=(m:Int))=true:=(by rw [bne_iff_ne];omega);go_enter Tryz.func10,Tryz.ntmps10;go_wp2;go_ret;refine⟨aW ?_,0,rfl⟩;symm;rw [beq_eq_false_iff_ne];intro e;rw [e]at lx;omega
end Go.Proofs.YtkggjgeihhialaaGreatDoor
