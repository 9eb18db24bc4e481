/- SetWork + SpanInfo -/
import Derived.Test.YtblinekbpcdbfaaGreatDoorZv9
namespace Go.Proofs.YtblinekbpcdbfaaGreatDoor
open Go.RowKit
def mu (a:Int):aa→aa
  | []=>if a≤1114111 then [(a,1114111)]else []
  | x::s=>(if a<x.1 then [(a,x.1 - 1)]else [])++mu (x.2+1) s
theorem NI (s:aa):∀ a,0≤a→Canon s→(∀ x∈s,a≤x.1)→Canon (mu a s)∧(∀ y∈mu a s,a≤y.1)∧∀ r,a≤r→r≤1114111→aO (mu a s) r = !aO s r:=by
 induction s with
 | nil=>
  intro a h0 _ _;unfold mu;split
  ·rename_i h;refine⟨⟨by simp;omega,List.pairwise_singleton _ _⟩,by simp,fun r h1 h2=>?_⟩;simp [aO];omega
  exact⟨Canon.nil,by simp,fun r h1 h2=>by omega⟩
 | cons x s ih=>
  intro a h0 hc hl;have hx:=hc.each x List.mem_cons_self;have hax:=hl x List.mem_cons_self;have rz:=hc.low;obtain⟨i1,i2,i3⟩:=ih (x.2+1) (by omega) hc.tail (fun y hy=>by have:=rz y hy;omega);have key:∀ r,x.1≤r→r≤1114111→aO (mu (x.2+1) s) r = !aO (x::s) r:=by
   intro r h1 h2;rw [bX];by_cases hr:r≤x.2
   ·rw [dZ (s:=mu (x.2+1) s) (m:=x.2) (fun y hy=>by have:=i2 y hy;omega) hr];simp [h1,hr]
   rw [i3 r (by omega) h2];simp [hr]
  unfold mu;split
  ·rename_i h;refine⟨⟨fun y hy=>?_,?_⟩,fun y hy=>?_,fun r h1 h2=>?_⟩
   ·rcases List.mem_append.1 hy with hy | hy
    ·rw [List.mem_singleton.1 hy];simp only;omega
    exact i1.each y hy
   ·rw [List.pairwise_append];refine⟨List.pairwise_singleton _ _,i1.mQ,fun p hp q hq=>?_⟩;rw [List.mem_singleton.1 hp];have:=i2 q hq;simp only;omega
   ·rcases List.mem_append.1 hy with hy | hy
    ·rw [List.mem_singleton.1 hy];exact Int.le_refl _
    have:=i2 y hy;omega
   rw [dW];by_cases hr:x.1≤r
   ·rw [key r hr h2];simp [aO];omega
   rw [dZ (s:=mu (x.2+1) s) (m:=x.2) (fun y hy=>by have:=i2 y hy;omega) (by omega),bX x s,dZ (s:=s) (m:=x.2+1) rz (by omega)];rw [decide_eq_false hr];simp [aO];omega
  refine⟨i1,fun y hy=>by have:=i2 y hy;omega,fun r h1 h2=>?_⟩;rw [List.nil_append];exact key r (by omega) h2
def wI (s:aa):aa:=mu 0 s
theorem BA {s:aa} (h:Canon s):Canon (wI s)∧∀ r,0≤r→r≤1114111→aO (wI s) r = !aO s r :=
  let ⟨h1,_,h3⟩:=NI s 0 (Int.le_refl _) h (fun x hx=>(h.each x hx).1)
  ⟨h1,h3⟩
def dr:aa→aa→aa
  | [],_=>[]
  | _::_,[]=>[]
  | x::a,y::b=>(if max x.1 y.1≤min x.2 y.2 then [(max x.1 y.1,min x.2 y.2)]else [])++(if x.2<y.2 then dr a (y::b)else dr (x::a) b)
termination_by a b=>a.length+b.length
theorem sj (b:aa):dr [] b = []:=by unfold dr;rfl
theorem xC (a:aa):dr a [] = []:=by cases a <;> unfold dr <;> rfl
theorem xz (x y:Int × Int) (a b:aa):dr (x::a) (y::b)=(if max x.1 y.1≤min x.2 y.2 then [(max x.1 y.1,min x.2 y.2)]else [])++(if x.2<y.2 then dr a (y::b)else dr (x::a) b):=by
 rw [dr]
theorem NN (n:Nat):∀ a b:aa,a.length+b.length≤n→Canon a→Canon b →
    (dr a b).length≤a.length+b.length∧Canon (dr a b)∧(∀ z∈dr a b,(∃ x∈a,x.1≤z.1)∧∃ y∈b,y.1≤z.1)∧∀ r,aO (dr a b) r=(aO a r && aO b r):=by
 induction n with
 | zero=>
  intro a b hn _ _;obtain rfl:a = []:=List.eq_nil_of_length_eq_zero (by omega);rw [sj];exact⟨Nat.zero_le _,Canon.nil,by simp,fun r=>by simp [aO]⟩
 | succ n ih=>
  intro a b hn ha hb;cases a with
  | nil=>rw [sj];exact⟨Nat.zero_le _,Canon.nil,by simp,fun r=>by simp [aO]⟩
  | cons x a=>
   cases b with
   | nil=>rw [xC];exact⟨Nat.zero_le _,Canon.nil,by simp,fun r=>by simp [aO]⟩
   | cons y b=>
    have hx:=ha.each x List.mem_cons_self;have hy:=hb.each y List.mem_cons_self;have la:=ha.low;have lb:=hb.low;rw [List.length_cons,List.length_cons]at hn;rw [xz];by_cases h:x.2<y.2
    ·rw [if_pos h];obtain⟨i0,i1,i2,i3⟩:=ih a (y::b) (by rw [List.length_cons];omega) ha.tail hb;rw [List.length_cons]at i0;have rz:∀ z∈dr a (y::b),x.2+1<z.1:=fun z hz=>by
      obtain⟨⟨p,hp,h1⟩,_⟩:=i2 z hz;have:=la p hp;omega
     have hmin:min x.2 y.2=x.2:=(by omega);rw [hmin];refine⟨?_,?_,fun z hz=>?_,fun r=>?_⟩
     ·rw [List.length_append,List.length_cons,List.length_cons];split <;> simp <;> omega
     ·split
      ·rename_i hm;refine⟨fun z hz=>?_,?_⟩
       ·rcases List.mem_append.1 hz with hz | hz
        ·rw [List.mem_singleton.1 hz];simp only;omega
        exact i1.each z hz
       rw [List.pairwise_append];refine⟨List.pairwise_singleton _ _,i1.mQ,fun p hp q hq=>?_⟩;rw [List.mem_singleton.1 hp];exact rz q hq
      exact i1
     ·rcases List.mem_append.1 hz with hz | hz
      ·split at hz
       ·rw [List.mem_singleton.1 hz];exact⟨⟨x,List.mem_cons_self,by simp only;omega⟩,y,List.mem_cons_self,by simp only;omega⟩
       simp at hz
      obtain⟨⟨p,hp,h1⟩,h2⟩:=i2 z hz;exact⟨⟨p,List.mem_cons_of_mem _ hp,h1⟩,h2⟩
     rw [dW,i3,bX x a];have e1:aO (if max x.1 y.1≤x.2 then [(max x.1 y.1,x.2)]else []) r=((decide (x.1≤r) && decide (r≤x.2)) && decide (y.1≤r)):=by
      split
      ·rw [Bool.eq_iff_iff];simp [aO];omega
      rw [Bool.eq_iff_iff];simp [aO];omega
     rw [e1];by_cases hr:r≤x.2
     ·rw [dZ (s:=a) (m:=x.2+1) la (by omega),bX y b,dZ (s:=b) (m:=y.2+1) lb (by omega)];rw [Bool.eq_iff_iff];simp;omega
     simp [hr]
    rw [if_neg h];obtain⟨i0,i1,i2,i3⟩:=ih (x::a) b (by rw [List.length_cons];omega) ha hb.tail;rw [List.length_cons]at i0;have rz:∀ z∈dr (x::a) b,y.2+1<z.1:=fun z hz=>by
     obtain⟨_,⟨p,hp,h1⟩⟩:=i2 z hz;have:=lb p hp;omega
    have hmin:min x.2 y.2=y.2:=(by omega);rw [hmin];refine⟨?_,?_,fun z hz=>?_,fun r=>?_⟩
    ·rw [List.length_append,List.length_cons,List.length_cons];split <;> simp <;> omega
    ·split
     ·rename_i hm;refine⟨fun z hz=>?_,?_⟩
      ·rcases List.mem_append.1 hz with hz | hz
       ·rw [List.mem_singleton.1 hz];simp only;omega
       exact i1.each z hz
      rw [List.pairwise_append];refine⟨List.pairwise_singleton _ _,i1.mQ,fun p hp q hq=>?_⟩;rw [List.mem_singleton.1 hp];exact rz q hq
     exact i1
    ·rcases List.mem_append.1 hz with hz | hz
     ·split at hz
      ·rw [List.mem_singleton.1 hz];exact⟨⟨x,List.mem_cons_self,by simp only;omega⟩,y,List.mem_cons_self,by simp only;omega⟩
      simp at hz
     obtain⟨h1,⟨p,hp,h2⟩⟩:=i2 z hz;exact⟨h1,p,List.mem_cons_of_mem _ hp,h2⟩
    rw [dW,i3,bX y b];have e1:aO (if max x.1 y.1≤y.2 then [(max x.1 y.1,y.2)]else []) r=((decide (y.1≤r) && decide (r≤y.2)) && decide (x.1≤r)):=by
     split
     ·rw [Bool.eq_iff_iff];simp [aO];omega
     rw [Bool.eq_iff_iff];simp [aO];omega
    rw [e1];by_cases hr:r≤y.2
    ·rw [dZ (s:=b) (m:=y.2+1) lb (by omega),bX x a,dZ (s:=a) (m:=x.2+1) la (by omega)];rw [Bool.eq_iff_iff];simp;omega
    simp [hr]
theorem CM {a b:aa} (ha:Canon a) (hb:Canon b):(dr a b).length≤a.length+b.length∧Canon (dr a b)∧∀ r,aO (dr a b) r=(aO a r && aO b r) :=
  let ⟨h0,h1,_,h3⟩:=NN _ a b qql ha hb
  ⟨h0,h1,h3⟩
def dH (out:aa) (x:Int × Int):aa :=
  match out.getLast? with
  | some k=>if x.1≤k.2+1 then out.dropLast++[(k.1,max k.2 x.2)]else out++[x]
  | none=>out++[x]
theorem pH (x:Int × Int):dH [] x = [x]:=rfl
theorem kC (i:aa) (k x:Int × Int):dH (i++[k]) x=if x.1≤k.2+1 then i++[(k.1,max k.2 x.2)]else i++[k]++[x]:=by
 unfold dH;simp
def iI (l:aa):aa:=l.foldl dH []
theorem BD {out:aa} {x:Int × Int} (h:Canon out) (hx:0≤x.1∧x.1≤x.2∧x.2≤1114111) (hl:∀ y∈out,y.1≤x.1) :
    Canon (dH out x)∧(∀ y∈dH out x,y.1≤x.1)∧(dH out x).length≤out.length+1∧∀ r,aO (dH out x) r=(aO out r || (decide (x.1≤r) && decide (r≤x.2))):=by
 rcases List.eq_nil_or_concat out with rfl | ⟨i,k,rfl⟩
 ·rw [pH];exact⟨⟨by simpa using hx,List.pairwise_singleton _ _⟩,by simp,by simp,fun r=>by simp [aO]⟩
 rw [List.concat_eq_append]at h hl ⊢;obtain⟨hi,hk,hik⟩:=vF h;have hkx:=hl k (by simp);rw [kC];by_cases he:x.1≤k.2+1
 ·rw [if_pos he];refine⟨ni hi ⟨hk.1,by simp only;omega,by simp only;omega⟩ hik,fun y hy=>?_,by simp,fun r=>?_⟩
  ·rcases List.mem_append.1 hy with hy | hy;exact hl y (by simp [hy]);rw [List.mem_singleton.1 hy];exact hkx
  rw [dW,dW,Bool.or_assoc];congr 1;simp only [aO,List.any_cons,List.any_nil,Bool.or_false];rw [Bool.eq_iff_iff];simp;omega
 rw [if_neg he];refine⟨ni h hx (fun y hy=>?_),fun y hy=>?_,by simp,fun r=>?_⟩
 ·rcases List.mem_append.1 hy with hy | hy
  ·have:=hik y hy;omega
  rw [List.mem_singleton.1 hy];omega
 ·rcases List.mem_append.1 hy with hy | hy;exact hl y hy;rw [List.mem_singleton.1 hy];exact Int.le_refl _
 rw [dW];congr 1;simp [aO]
theorem Mn (l:aa):∀ out:aa,Canon out→(∀ x∈l,0≤x.1∧x.1≤x.2∧x.2≤1114111)→l.Pairwise (fun a b=>a.1≤b.1)→(∀ y∈out,∀ x∈l,y.1≤x.1) →
    Canon (l.foldl dH out)∧(l.foldl dH out).length≤out.length+l.length∧∀ r,aO (l.foldl dH out) r=(aO out r || aO l r):=by
 induction l with
 | nil=>intro out h _ _ _;exact⟨h,qql,fun r=>by simp [aO]⟩
 | cons x l ih=>
  intro out h hv hs hl;rw [List.pairwise_cons]at hs;obtain⟨m1,m2,m3,m4⟩:=BD h (hv x List.mem_cons_self) (fun y hy=>hl y hy x List.mem_cons_self);obtain⟨i1,i2,i3⟩:=ih (dH out x) m1 (fun y hy=>hv y (List.mem_cons_of_mem _ hy)) hs.2 (fun y hy z hz=>by have:=m2 y hy;have:=hs.1 z hz;omega);rw [List.foldl_cons,List.length_cons];refine⟨i1,by omega,fun r=>?_⟩;rw [i3,m4,bX,Bool.or_assoc]
theorem Fv {l:aa} (hv:∀ x∈l,0≤x.1∧x.1≤x.2∧x.2≤1114111) (hs:l.Pairwise (fun a b=>a.1≤b.1)):Canon (iI l)∧(iI l).length≤l.length∧∀ r,aO (iI l) r=aO l r:=by
 obtain⟨h1,h2,h3⟩:=Mn l [] Canon.nil hv hs (by simp);exact⟨h1,by rw [iI];simpa using h2,fun r=>by rw [iI,h3];simp [aO]⟩
theorem Ko {a b:aa} (h:a.Perm b) (r:Int):aO a r=aO b r:=by
 rw [Bool.eq_iff_iff,rR,rR];exact⟨fun⟨x,hx,h1⟩=>⟨x,h.mem_iff.1 hx,h1⟩,fun⟨x,hx,h1⟩=>⟨x,h.mem_iff.2 hx,h1⟩⟩
def uo (s:aa):aa × Int:=if 200<s.length then ([],5)else (s,0)
theorem Ng {a b l:aa} (ha:aH a) (hb:aH b) (hp:(a++b).Perm l) (hs:l.Pairwise (fun a b=>a.1≤b.1)):nC 124 a b=uo (iI l):=by
 obtain⟨h1,_,h3⟩:=Fv (l:=l) (fun x hx=>by
  rcases List.mem_append.1 (hp.mem_iff.2 hx)with h | h;exact ha.each x h;exact hb.each x h) hs
 refine M3 (by decide) ha hb h1 fun r _ _=>?_;rw [h3,← Ko hp,dW];simp [mS]
theorem PR {a b:aa} (ha:aH a) (hb:aH b):nC 38 a b=uo (dr a b):=by
 obtain⟨_,h1,h3⟩:=CM ha.canon hb.canon;refine M3 (by decide) ha hb h1 fun r _ _=>?_;rw [h3];simp [mS]
theorem K5 {a b:aa} (ha:aH a) (hb:aH b):nC 45 a b=uo (dr a (wI b)):=by
 obtain⟨n1,n2⟩:=BA hb.canon;obtain⟨_,h1,h3⟩:=CM ha.canon n1;refine M3 (by decide) ha hb h1 fun r h0 h2=>?_;rw [h3,n2 r h0 h2];simp [mS]
theorem M7 {a:aa} (ha:aH a) (b:aa):nC 94 a b=uo (wI a):=by
 obtain⟨n1,n2⟩:=BA ha.canon;exact Ts ha n1 n2 b
theorem jk:(Tryz.prog.info? 134).map (fun i=>(i.zero,i.size,i.bytes))=some (some (.agg #[.int .i32 0,.int .i32 0]),2,8):=by kernel_rfl
theorem lZ (x y:Int):∀ u ∈ [Value.int .i32 x,.int .i32 y],u.oneCell'=true:=by
 intro u hu;simp at hu;rcases hu with rfl | rfl <;> rfl
theorem gi (l:aa) (x y:Int):an (l++[(x,y)])=an l++[.int .i32 x,.int .i32 y]:=by simp [an]
theorem lO (l:aa):∀ u∈an l,u.oneCell'=true:=by
 intro u hu;simp only [an,List.mem_flatMap]at hu;obtain⟨x,_,hu⟩:=hu;simp at hu;rcases hu with rfl | rfl <;> rfl
theorem wU (a b:aa):an (a++b)=an a++an b:=by simp [an]
theorem mw (a b:aa):an (a++b)=an a++an b:=by simp [an]
end Go.Proofs.YtblinekbpcdbfaaGreatDoor
