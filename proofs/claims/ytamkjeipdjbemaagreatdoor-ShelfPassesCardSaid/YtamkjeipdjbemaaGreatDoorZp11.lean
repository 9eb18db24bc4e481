/- SetWork -/
import Derived.Test.YtamkjeipdjbemaaGreatDoorZp10
namespace Go.Proofs.YtamkjeipdjbemaaGreatDoor
open Go.RowKit
def mY (a:Int):ag→ag
  | []=>if a≤1114111 then [(a,1114111)]else []
  | x::s=>(if a<x.1 then [(a,x.1 - 1)]else [])++mY (x.2+1) s
theorem M6 (s:ag):∀ a,0≤a→Canon s→(∀ x∈s,a≤x.1)→Canon (mY a s)∧(∀ y∈mY a s,a≤y.1)∧∀ r,a≤r→r≤1114111→bB (mY a s) r = !bB s r:=by
 induction s with
 | nil=>
  intro a h0 _ _;unfold mY;split
  ·rename_i h;refine⟨⟨by simp;omega,List.pairwise_singleton _ _⟩,by simp,fun r h1 h2=>?_⟩;simp [bB];omega
  exact⟨Canon.nil,by simp,fun r h1 h2=>by omega⟩
 | cons x s ih=>
  intro a h0 hc hl;have hx:=hc.each x List.mem_cons_self;have hax:=hl x List.mem_cons_self;have nY:=hc.low;obtain⟨i1,i2,i3⟩:=ih (x.2+1) (by omega) hc.tail (fun y hy=>by have:=nY y hy;omega);have key:∀ r,x.1≤r→r≤1114111→bB (mY (x.2+1) s) r = !bB (x::s) r:=by
   intro r h1 h2;rw [cH];by_cases hr:r≤x.2
   ·rw [eI (s:=mY (x.2+1) s) (m:=x.2) (fun y hy=>by have:=i2 y hy;omega) hr];simp [h1,hr]
   rw [i3 r (by omega) h2];simp [hr]
  unfold mY;split
  ·rename_i h;refine⟨⟨fun y hy=>?_,?_⟩,fun y hy=>?_,fun r h1 h2=>?_⟩
   ·rcases List.mem_append.1 hy with hy | hy
    ·rw [List.mem_singleton.1 hy];simp only;omega
    exact i1.each y hy
   ·rw [List.pairwise_append];refine⟨List.pairwise_singleton _ _,i1.nD,fun p hp q hq=>?_⟩;rw [List.mem_singleton.1 hp];have:=i2 q hq;simp only;omega
   ·rcases List.mem_append.1 hy with hy | hy
    ·rw [List.mem_singleton.1 hy];exact Int.le_refl _
    have:=i2 y hy;omega
   rw [eE];by_cases hr:x.1≤r
   ·rw [key r hr h2];simp [bB];omega
   rw [eI (s:=mY (x.2+1) s) (m:=x.2) (fun y hy=>by have:=i2 y hy;omega) (by omega),cH x s,eI (s:=s) (m:=x.2+1) nY (by omega)];rw [decide_eq_false hr];simp [bB];omega
  refine⟨i1,fun y hy=>by have:=i2 y hy;omega,fun r h1 h2=>?_⟩;rw [List.nil_append];exact key r (by omega) h2
def wP (s:ag):ag:=mY 0 s
theorem AS {s:ag} (h:Canon s):Canon (wP s)∧∀ r,0≤r→r≤1114111→bB (wP s) r = !bB s r :=
  let ⟨h1,_,h3⟩:=M6 s 0 (Int.le_refl _) h (fun x hx=>(h.each x hx).1)
  ⟨h1,h3⟩
def dU:ag→ag→ag
  | [],_=>[]
  | _::_,[]=>[]
  | x::a,y::b=>(if max x.1 y.1≤min x.2 y.2 then [(max x.1 y.1,min x.2 y.2)]else [])++(if x.2<y.2 then dU a (y::b)else dU (x::a) b)
termination_by a b=>a.length+b.length
theorem tw (b:ag):dU [] b = []:=by unfold dU;rfl
theorem wL (a:ag):dU a [] = []:=by cases a <;> unfold dU <;> rfl
theorem wE (x y:Int × Int) (a b:ag):dU (x::a) (y::b)=(if max x.1 y.1≤min x.2 y.2 then [(max x.1 y.1,min x.2 y.2)]else [])++(if x.2<y.2 then dU a (y::b)else dU (x::a) b):=by
 rw [dU]
theorem No (n:Nat):∀ a b:ag,a.length+b.length≤n→Canon a→Canon b →
    (dU a b).length≤a.length+b.length∧Canon (dU a b)∧(∀ z∈dU a b,(∃ x∈a,x.1≤z.1)∧∃ y∈b,y.1≤z.1)∧∀ r,bB (dU a b) r=(bB a r && bB b r):=by
 induction n with
 | zero=>
  intro a b hn _ _;obtain rfl:a = []:=List.eq_nil_of_length_eq_zero (by omega);rw [tw];exact⟨Nat.zero_le _,Canon.nil,by simp,fun r=>by simp [bB]⟩
 | succ n ih=>
  intro a b hn ha hb;cases a with
  | nil=>rw [tw];exact⟨Nat.zero_le _,Canon.nil,by simp,fun r=>by simp [bB]⟩
  | cons x a=>
   cases b with
   | nil=>rw [wL];exact⟨Nat.zero_le _,Canon.nil,by simp,fun r=>by simp [bB]⟩
   | cons y b=>
    have hx:=ha.each x List.mem_cons_self;have hy:=hb.each y List.mem_cons_self;have la:=ha.low;have lb:=hb.low;rw [List.length_cons,List.length_cons]at hn;rw [wE];by_cases h:x.2<y.2
    ·rw [if_pos h];obtain⟨i0,i1,i2,i3⟩:=ih a (y::b) (by rw [List.length_cons];omega) ha.tail hb;rw [List.length_cons]at i0;have nY:∀ z∈dU a (y::b),x.2+1<z.1:=fun z hz=>by
      obtain⟨⟨p,hp,h1⟩,_⟩:=i2 z hz;have:=la p hp;omega
     have hmin:min x.2 y.2=x.2:=(by omega);rw [hmin];refine⟨?_,?_,fun z hz=>?_,fun r=>?_⟩
     ·rw [List.length_append,List.length_cons,List.length_cons];split <;> simp <;> omega
     ·split
      ·rename_i hm;refine⟨fun z hz=>?_,?_⟩
       ·rcases List.mem_append.1 hz with hz | hz
        ·rw [List.mem_singleton.1 hz];simp only;omega
        exact i1.each z hz
       rw [List.pairwise_append];refine⟨List.pairwise_singleton _ _,i1.nD,fun p hp q hq=>?_⟩;rw [List.mem_singleton.1 hp];exact nY q hq
      exact i1
     ·rcases List.mem_append.1 hz with hz | hz
      ·split at hz
       ·rw [List.mem_singleton.1 hz];exact⟨⟨x,List.mem_cons_self,by simp only;omega⟩,y,List.mem_cons_self,by simp only;omega⟩
       simp at hz
      obtain⟨⟨p,hp,h1⟩,h2⟩:=i2 z hz;exact⟨⟨p,List.mem_cons_of_mem _ hp,h1⟩,h2⟩
     rw [eE,i3,cH x a];have e1:bB (if max x.1 y.1≤x.2 then [(max x.1 y.1,x.2)]else []) r=((decide (x.1≤r) && decide (r≤x.2)) && decide (y.1≤r)):=by
      split
      ·rw [Bool.eq_iff_iff];simp [bB];omega
      rw [Bool.eq_iff_iff];simp [bB];omega
     rw [e1];by_cases hr:r≤x.2
     ·rw [eI (s:=a) (m:=x.2+1) la (by omega),cH y b,eI (s:=b) (m:=y.2+1) lb (by omega)];rw [Bool.eq_iff_iff];simp;omega
     simp [hr]
    rw [if_neg h];obtain⟨i0,i1,i2,i3⟩:=ih (x::a) b (by rw [List.length_cons];omega) ha hb.tail;rw [List.length_cons]at i0;have nY:∀ z∈dU (x::a) b,y.2+1<z.1:=fun z hz=>by
     obtain⟨_,⟨p,hp,h1⟩⟩:=i2 z hz;have:=lb p hp;omega
    have hmin:min x.2 y.2=y.2:=(by omega);rw [hmin];refine⟨?_,?_,fun z hz=>?_,fun r=>?_⟩
    ·rw [List.length_append,List.length_cons,List.length_cons];split <;> simp <;> omega
    ·split
     ·rename_i hm;refine⟨fun z hz=>?_,?_⟩
      ·rcases List.mem_append.1 hz with hz | hz
       ·rw [List.mem_singleton.1 hz];simp only;omega
       exact i1.each z hz
      rw [List.pairwise_append];refine⟨List.pairwise_singleton _ _,i1.nD,fun p hp q hq=>?_⟩;rw [List.mem_singleton.1 hp];exact nY q hq
     exact i1
    ·rcases List.mem_append.1 hz with hz | hz
     ·split at hz
      ·rw [List.mem_singleton.1 hz];exact⟨⟨x,List.mem_cons_self,by simp only;omega⟩,y,List.mem_cons_self,by simp only;omega⟩
      simp at hz
     obtain⟨h1,⟨p,hp,h2⟩⟩:=i2 z hz;exact⟨h1,p,List.mem_cons_of_mem _ hp,h2⟩
    rw [eE,i3,cH y b];have e1:bB (if max x.1 y.1≤y.2 then [(max x.1 y.1,y.2)]else []) r=((decide (y.1≤r) && decide (r≤y.2)) && decide (x.1≤r)):=by
     split
     ·rw [Bool.eq_iff_iff];simp [bB];omega
     rw [Bool.eq_iff_iff];simp [bB];omega
    rw [e1];by_cases hr:r≤y.2
    ·rw [eI (s:=b) (m:=y.2+1) lb (by omega),cH x a,eI (s:=a) (m:=x.2+1) la (by omega)];rw [Bool.eq_iff_iff];simp;omega
    simp [hr]
theorem Ex {a b:ag} (ha:Canon a) (hb:Canon b):(dU a b).length≤a.length+b.length∧Canon (dU a b)∧∀ r,bB (dU a b) r=(bB a r && bB b r) :=
  let ⟨h0,h1,_,h3⟩:=No _ a b qql ha hb
  ⟨h0,h1,h3⟩
def ek (out:ag) (x:Int × Int):ag :=
  match out.getLast? with
  | some k=>if x.1≤k.2+1 then out.dropLast++[(k.1,max k.2 x.2)]else out++[x]
  | none=>out++[x]
theorem qf (x:Int × Int):ek [] x = [x]:=rfl
theorem ld (i:ag) (k x:Int × Int):ek (i++[k]) x=if x.1≤k.2+1 then i++[(k.1,max k.2 x.2)]else i++[k]++[x]:=by
 unfold ek;simp
def i9 (l:ag):ag:=l.foldl ek []
theorem Bt {out:ag} {x:Int × Int} (h:Canon out) (hx:0≤x.1∧x.1≤x.2∧x.2≤1114111) (hl:∀ y∈out,y.1≤x.1) :
    Canon (ek out x)∧(∀ y∈ek out x,y.1≤x.1)∧(ek out x).length≤out.length+1∧∀ r,bB (ek out x) r=(bB out r || (decide (x.1≤r) && decide (r≤x.2))):=by
 rcases List.eq_nil_or_concat out with rfl | ⟨i,k,rfl⟩
 ·rw [qf];exact⟨⟨by simpa using hx,List.pairwise_singleton _ _⟩,by simp,by simp,fun r=>by simp [bB]⟩
 rw [List.concat_eq_append]at h hl ⊢;obtain⟨hi,hk,hik⟩:=xW h;have hkx:=hl k (by simp);rw [ld];by_cases he:x.1≤k.2+1
 ·rw [if_pos he];refine⟨nk hi ⟨hk.1,by simp only;omega,by simp only;omega⟩ hik,fun y hy=>?_,by simp,fun r=>?_⟩
  ·rcases List.mem_append.1 hy with hy | hy;exact hl y (by simp [hy]);rw [List.mem_singleton.1 hy];exact hkx
  rw [eE,eE,Bool.or_assoc];congr 1;simp only [bB,List.any_cons,List.any_nil,Bool.or_false];rw [Bool.eq_iff_iff];simp;omega
 rw [if_neg he];refine⟨nk h hx (fun y hy=>?_),fun y hy=>?_,by simp,fun r=>?_⟩
 ·rcases List.mem_append.1 hy with hy | hy
  ·have:=hik y hy;omega
  rw [List.mem_singleton.1 hy];omega
 ·rcases List.mem_append.1 hy with hy | hy;exact hl y hy;rw [List.mem_singleton.1 hy];exact Int.le_refl _
 rw [eE];congr 1;simp [bB]
theorem Nz (l:ag):∀ out:ag,Canon out→(∀ x∈l,0≤x.1∧x.1≤x.2∧x.2≤1114111)→l.Pairwise (fun a b=>a.1≤b.1)→(∀ y∈out,∀ x∈l,y.1≤x.1) →
    Canon (l.foldl ek out)∧(l.foldl ek out).length≤out.length+l.length∧∀ r,bB (l.foldl ek out) r=(bB out r || bB l r):=by
 induction l with
 | nil=>intro out h _ _ _;exact⟨h,qql,fun r=>by simp [bB]⟩
 | cons x l ih=>
  intro out h hv hs hl;rw [List.pairwise_cons]at hs;obtain⟨m1,m2,m3,m4⟩:=Bt h (hv x List.mem_cons_self) (fun y hy=>hl y hy x List.mem_cons_self);obtain⟨i1,i2,i3⟩:=ih (ek out x) m1 (fun y hy=>hv y (List.mem_cons_of_mem _ hy)) hs.2 (fun y hy z hz=>by have:=m2 y hy;have:=hs.1 z hz;omega);rw [List.foldl_cons,List.length_cons];refine⟨i1,by omega,fun r=>?_⟩;rw [i3,m4,cH,Bool.or_assoc]
theorem Gx {l:ag} (hv:∀ x∈l,0≤x.1∧x.1≤x.2∧x.2≤1114111) (hs:l.Pairwise (fun a b=>a.1≤b.1)):Canon (i9 l)∧(i9 l).length≤l.length∧∀ r,bB (i9 l) r=bB l r:=by
 obtain⟨h1,h2,h3⟩:=Nz l [] Canon.nil hv hs (by simp);exact⟨h1,by rw [i9];simpa using h2,fun r=>by rw [i9,h3];simp [bB]⟩
theorem KB {a b:ag} (h:a.Perm b) (r:Int):bB a r=bB b r:=by
 rw [Bool.eq_iff_iff,rE,rE];exact⟨fun⟨x,hx,h1⟩=>⟨x,h.mem_iff.1 hx,h1⟩,fun⟨x,hx,h1⟩=>⟨x,h.mem_iff.2 hx,h1⟩⟩
def uN (s:ag):ag × Int:=if 200<s.length then ([],5)else (s,0)
theorem Ld {a b l:ag} (ha:aJ a) (hb:aJ b) (hp:(a++b).Perm l) (hs:l.Pairwise (fun a b=>a.1≤b.1)):nS 124 a b=uN (i9 l):=by
 obtain⟨h1,_,h3⟩:=Gx (l:=l) (fun x hx=>by
  rcases List.mem_append.1 (hp.mem_iff.2 hx)with h | h;exact ha.each x h;exact hb.each x h) hs
 refine MA (by decide) ha hb h1 fun r _ _=>?_;rw [h3,← KB hp,eE];simp [nx]
theorem Po {a b:ag} (ha:aJ a) (hb:aJ b):nS 38 a b=uN (dU a b):=by
 obtain⟨_,h1,h3⟩:=Ex ha.canon hb.canon;refine MA (by decide) ha hb h1 fun r _ _=>?_;rw [h3];simp [nx]
theorem Mw {a b:ag} (ha:aJ a) (hb:aJ b):nS 45 a b=uN (dU a (wP b)):=by
 obtain⟨n1,n2⟩:=AS hb.canon;obtain⟨_,h1,h3⟩:=Ex ha.canon n1;refine MA (by decide) ha hb h1 fun r h0 h2=>?_;rw [h3,n2 r h0 h2];simp [nx]
theorem Ll {a:ag} (ha:aJ a) (b:ag):nS 94 a b=uN (wP a):=by
 obtain⟨n1,n2⟩:=AS ha.canon;exact SW ha n1 n2 b
end Go.Proofs.YtamkjeipdjbemaaGreatDoor
