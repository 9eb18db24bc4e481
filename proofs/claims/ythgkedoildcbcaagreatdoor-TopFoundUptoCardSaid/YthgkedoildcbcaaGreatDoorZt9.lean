/- SetWork + SpanInfo -/
import Derived.Test.YthgkedoildcbcaaGreatDoorZt8
namespace Go.Proofs.YthgkedoildcbcaaGreatDoor
open Go.RowKit
def ny (a:Int):ag→ag
  | []=>if a≤1114111 then [(a,1114111)]else []
  | x::s=>(if a<x.1 then [(a,x.1 - 1)]else [])++ny (x.2+1) s
theorem M3 (s:ag):∀ a,0≤a→Canon s→(∀ x∈s,a≤x.1)→Canon (ny a s)∧(∀ y∈ny a s,a≤y.1)∧∀ r,a≤r→r≤1114111→bF (ny a s) r = !bF s r:=by
 induction s with
 | nil=>
  intro a h0 _ _;unfold ny;split
  ·rename_i h;refine⟨⟨by simp;omega,List.pairwise_singleton _ _⟩,by simp,fun r h1 h2=>?_⟩;simp [bF];omega
  exact⟨Canon.nil,by simp,fun r h1 h2=>by omega⟩
 | cons x s ih=>
  intro a h0 hc hl;have hx:=hc.each x List.mem_cons_self;have hax:=hl x List.mem_cons_self;have sS:=hc.low;obtain⟨i1,i2,i3⟩:=ih (x.2+1) (by omega) hc.tail (fun y hy=>by have:=sS y hy;omega);have key:∀ r,x.1≤r→r≤1114111→bF (ny (x.2+1) s) r = !bF (x::s) r:=by
   intro r h1 h2;rw [cA];by_cases hr:r≤x.2
   ·rw [eG (s:=ny (x.2+1) s) (m:=x.2) (fun y hy=>by have:=i2 y hy;omega) hr];simp [h1,hr]
   rw [i3 r (by omega) h2];simp [hr]
  unfold ny;split
  ·rename_i h;refine⟨⟨fun y hy=>?_,?_⟩,fun y hy=>?_,fun r h1 h2=>?_⟩
   ·rcases List.mem_append.1 hy with hy | hy
    ·rw [List.mem_singleton.1 hy];simp only;omega
    exact i1.each y hy
   ·rw [List.pairwise_append];refine⟨List.pairwise_singleton _ _,i1.nV,fun p hp q hq=>?_⟩;rw [List.mem_singleton.1 hp];have:=i2 q hq;simp only;omega
   ·rcases List.mem_append.1 hy with hy | hy
    ·rw [List.mem_singleton.1 hy];exact Int.le_refl _
    have:=i2 y hy;omega
   rw [eB];by_cases hr:x.1≤r
   ·rw [key r hr h2];simp [bF];omega
   rw [eG (s:=ny (x.2+1) s) (m:=x.2) (fun y hy=>by have:=i2 y hy;omega) (by omega),cA x s,eG (s:=s) (m:=x.2+1) sS (by omega)];rw [decide_eq_false hr];simp [bF];omega
  refine⟨i1,fun y hy=>by have:=i2 y hy;omega,fun r h1 h2=>?_⟩;rw [List.nil_append];exact key r (by omega) h2
def wW (s:ag):ag:=ny 0 s
theorem Ck {s:ag} (h:Canon s):Canon (wW s)∧∀ r,0≤r→r≤1114111→bF (wW s) r = !bF s r :=
  let ⟨h1,_,h3⟩:=M3 s 0 (Int.le_refl _) h (fun x hx=>(h.each x hx).1)
  ⟨h1,h3⟩
def dN:ag→ag→ag
  | [],_=>[]
  | _::_,[]=>[]
  | x::a,y::b=>(if max x.1 y.1≤min x.2 y.2 then [(max x.1 y.1,min x.2 y.2)]else [])++(if x.2<y.2 then dN a (y::b)else dN (x::a) b)
termination_by a b=>a.length+b.length
theorem ug (b:ag):dN [] b = []:=by unfold dN;rfl
theorem wN (a:ag):dN a [] = []:=by cases a <;> unfold dN <;> rfl
theorem xG (x y:Int × Int) (a b:ag):dN (x::a) (y::b)=(if max x.1 y.1≤min x.2 y.2 then [(max x.1 y.1,min x.2 y.2)]else [])++(if x.2<y.2 then dN a (y::b)else dN (x::a) b):=by
 rw [dN]
theorem LO (n:Nat):∀ a b:ag,a.length+b.length≤n→Canon a→Canon b →
    (dN a b).length≤a.length+b.length∧Canon (dN a b)∧(∀ z∈dN a b,(∃ x∈a,x.1≤z.1)∧∃ y∈b,y.1≤z.1)∧∀ r,bF (dN a b) r=(bF a r && bF b r):=by
 induction n with
 | zero=>
  intro a b hn _ _;obtain rfl:a = []:=List.eq_nil_of_length_eq_zero (by omega);rw [ug];exact⟨Nat.zero_le _,Canon.nil,by simp,fun r=>by simp [bF]⟩
 | succ n ih=>
  intro a b hn ha hb;cases a with
  | nil=>rw [ug];exact⟨Nat.zero_le _,Canon.nil,by simp,fun r=>by simp [bF]⟩
  | cons x a=>
   cases b with
   | nil=>rw [wN];exact⟨Nat.zero_le _,Canon.nil,by simp,fun r=>by simp [bF]⟩
   | cons y b=>
    have hx:=ha.each x List.mem_cons_self;have hy:=hb.each y List.mem_cons_self;have la:=ha.low;have lb:=hb.low;rw [List.length_cons,List.length_cons]at hn;rw [xG];by_cases h:x.2<y.2
    ·rw [if_pos h];obtain⟨i0,i1,i2,i3⟩:=ih a (y::b) (by rw [List.length_cons];omega) ha.tail hb;rw [List.length_cons]at i0;have sS:∀ z∈dN a (y::b),x.2+1<z.1:=fun z hz=>by
      obtain⟨⟨p,hp,h1⟩,_⟩:=i2 z hz;have:=la p hp;omega
     have hmin:min x.2 y.2=x.2:=(by omega);rw [hmin];refine⟨?_,?_,fun z hz=>?_,fun r=>?_⟩
     ·rw [List.length_append,List.length_cons,List.length_cons];split <;> simp <;> omega
     ·split
      ·rename_i hm;refine⟨fun z hz=>?_,?_⟩
       ·rcases List.mem_append.1 hz with hz | hz
        ·rw [List.mem_singleton.1 hz];simp only;omega
        exact i1.each z hz
       rw [List.pairwise_append];refine⟨List.pairwise_singleton _ _,i1.nV,fun p hp q hq=>?_⟩;rw [List.mem_singleton.1 hp];exact sS q hq
      exact i1
     ·rcases List.mem_append.1 hz with hz | hz
      ·split at hz
       ·rw [List.mem_singleton.1 hz];exact⟨⟨x,List.mem_cons_self,by simp only;omega⟩,y,List.mem_cons_self,by simp only;omega⟩
       simp at hz
      obtain⟨⟨p,hp,h1⟩,h2⟩:=i2 z hz;exact⟨⟨p,List.mem_cons_of_mem _ hp,h1⟩,h2⟩
     rw [eB,i3,cA x a];have e1:bF (if max x.1 y.1≤x.2 then [(max x.1 y.1,x.2)]else []) r=((decide (x.1≤r) && decide (r≤x.2)) && decide (y.1≤r)):=by
      split
      ·rw [Bool.eq_iff_iff];simp [bF];omega
      rw [Bool.eq_iff_iff];simp [bF];omega
     rw [e1];by_cases hr:r≤x.2
     ·rw [eG (s:=a) (m:=x.2+1) la (by omega),cA y b,eG (s:=b) (m:=y.2+1) lb (by omega)];rw [Bool.eq_iff_iff];simp;omega
     simp [hr]
    rw [if_neg h];obtain⟨i0,i1,i2,i3⟩:=ih (x::a) b (by rw [List.length_cons];omega) ha hb.tail;rw [List.length_cons]at i0;have sS:∀ z∈dN (x::a) b,y.2+1<z.1:=fun z hz=>by
     obtain⟨_,⟨p,hp,h1⟩⟩:=i2 z hz;have:=lb p hp;omega
    have hmin:min x.2 y.2=y.2:=(by omega);rw [hmin];refine⟨?_,?_,fun z hz=>?_,fun r=>?_⟩
    ·rw [List.length_append,List.length_cons,List.length_cons];split <;> simp <;> omega
    ·split
     ·rename_i hm;refine⟨fun z hz=>?_,?_⟩
      ·rcases List.mem_append.1 hz with hz | hz
       ·rw [List.mem_singleton.1 hz];simp only;omega
       exact i1.each z hz
      rw [List.pairwise_append];refine⟨List.pairwise_singleton _ _,i1.nV,fun p hp q hq=>?_⟩;rw [List.mem_singleton.1 hp];exact sS q hq
     exact i1
    ·rcases List.mem_append.1 hz with hz | hz
     ·split at hz
      ·rw [List.mem_singleton.1 hz];exact⟨⟨x,List.mem_cons_self,by simp only;omega⟩,y,List.mem_cons_self,by simp only;omega⟩
      simp at hz
     obtain⟨h1,⟨p,hp,h2⟩⟩:=i2 z hz;exact⟨h1,p,List.mem_cons_of_mem _ hp,h2⟩
    rw [eB,i3,cA y b];have e1:bF (if max x.1 y.1≤y.2 then [(max x.1 y.1,y.2)]else []) r=((decide (y.1≤r) && decide (r≤y.2)) && decide (x.1≤r)):=by
     split
     ·rw [Bool.eq_iff_iff];simp [bF];omega
     rw [Bool.eq_iff_iff];simp [bF];omega
    rw [e1];by_cases hr:r≤y.2
    ·rw [eG (s:=b) (m:=y.2+1) lb (by omega),cA x a,eG (s:=a) (m:=x.2+1) la (by omega)];rw [Bool.eq_iff_iff];simp;omega
    simp [hr]
theorem EI {a b:ag} (ha:Canon a) (hb:Canon b):(dN a b).length≤a.length+b.length∧Canon (dN a b)∧∀ r,bF (dN a b) r=(bF a r && bF b r) :=
  let ⟨h0,h1,_,h3⟩:=LO _ a b (Nat.le_refl _) ha hb
  ⟨h0,h1,h3⟩
def ec (out:ag) (x:Int × Int):ag :=
  match out.getLast? with
  | some k=>if x.1≤k.2+1 then out.dropLast++[(k.1,max k.2 x.2)]else out++[x]
  | none=>out++[x]
theorem qD (x:Int × Int):ec [] x = [x]:=rfl
theorem lD (i:ag) (k x:Int × Int):ec (i++[k]) x=if x.1≤k.2+1 then i++[(k.1,max k.2 x.2)]else i++[k]++[x]:=by
 unfold ec;simp
def jj (l:ag):ag:=l.foldl ec []
theorem AZ {out:ag} {x:Int × Int} (h:Canon out) (hx:0≤x.1∧x.1≤x.2∧x.2≤1114111) (hl:∀ y∈out,y.1≤x.1) :
    Canon (ec out x)∧(∀ y∈ec out x,y.1≤x.1)∧(ec out x).length≤out.length+1∧∀ r,bF (ec out x) r=(bF out r || (decide (x.1≤r) && decide (r≤x.2))):=by
 rcases List.eq_nil_or_concat out with rfl | ⟨i,k,rfl⟩
 ·rw [qD];exact⟨⟨by simpa using hx,List.pairwise_singleton _ _⟩,by simp,by simp,fun r=>by simp [bF]⟩
 rw [List.concat_eq_append]at h hl ⊢;obtain⟨hi,hk,hik⟩:=wR h;have hkx:=hl k (by simp);rw [lD];by_cases he:x.1≤k.2+1
 ·rw [if_pos he];refine⟨nJ hi ⟨hk.1,by simp only;omega,by simp only;omega⟩ hik,fun y hy=>?_,by simp,fun r=>?_⟩
  ·rcases List.mem_append.1 hy with hy | hy;exact hl y (by simp [hy]);rw [List.mem_singleton.1 hy];exact hkx
  rw [eB,eB,Bool.or_assoc];congr 1;simp only [bF,List.any_cons,List.any_nil,Bool.or_false];rw [Bool.eq_iff_iff];simp;omega
 rw [if_neg he];refine⟨nJ h hx (fun y hy=>?_),fun y hy=>?_,by simp,fun r=>?_⟩
 ·rcases List.mem_append.1 hy with hy | hy
  ·have:=hik y hy;omega
  rw [List.mem_singleton.1 hy];omega
 ·rcases List.mem_append.1 hy with hy | hy;exact hl y hy;rw [List.mem_singleton.1 hy];exact Int.le_refl _
 rw [eB];congr 1;simp [bF]
theorem NA (l:ag):∀ out:ag,Canon out→(∀ x∈l,0≤x.1∧x.1≤x.2∧x.2≤1114111)→l.Pairwise (fun a b=>a.1≤b.1)→(∀ y∈out,∀ x∈l,y.1≤x.1) →
    Canon (l.foldl ec out)∧(l.foldl ec out).length≤out.length+l.length∧∀ r,bF (l.foldl ec out) r=(bF out r || bF l r):=by
 induction l with
 | nil=>intro out h _ _ _;exact⟨h,Nat.le_refl _,fun r=>by simp [bF]⟩
 | cons x l ih=>
  intro out h hv hs hl;rw [List.pairwise_cons]at hs;obtain⟨m1,m2,m3,m4⟩:=AZ h (hv x List.mem_cons_self) (fun y hy=>hl y hy x List.mem_cons_self);obtain⟨i1,i2,i3⟩:=ih (ec out x) m1 (fun y hy=>hv y (List.mem_cons_of_mem _ hy)) hs.2 (fun y hy z hz=>by have:=m2 y hy;have:=hs.1 z hz;omega);rw [List.foldl_cons,List.length_cons];refine⟨i1,by omega,fun r=>?_⟩;rw [i3,m4,cA,Bool.or_assoc]
theorem Fg {l:ag} (hv:∀ x∈l,0≤x.1∧x.1≤x.2∧x.2≤1114111) (hs:l.Pairwise (fun a b=>a.1≤b.1)):Canon (jj l)∧(jj l).length≤l.length∧∀ r,bF (jj l) r=bF l r:=by
 obtain⟨h1,h2,h3⟩:=NA l [] Canon.nil hv hs (by simp);exact⟨h1,by rw [jj];simpa using h2,fun r=>by rw [jj,h3];simp [bF]⟩
theorem IA {a b:ag} (h:a.Perm b) (r:Int):bF a r=bF b r:=by
 rw [Bool.eq_iff_iff,sF,sF];exact⟨fun⟨x,hx,h1⟩=>⟨x,h.mem_iff.1 hx,h1⟩,fun⟨x,hx,h1⟩=>⟨x,h.mem_iff.2 hx,h1⟩⟩
def vP (s:ag):ag × Int:=if 200<s.length then ([],5)else (s,0)
theorem Mz {a b l:ag} (ha:aH a) (hb:aH b) (hp:(a++b).Perm l) (hs:l.Pairwise (fun a b=>a.1≤b.1)):ot 124 a b=vP (jj l):=by
 obtain⟨h1,_,h3⟩:=Fg (l:=l) (fun x hx=>by
  rcases List.mem_append.1 (hp.mem_iff.2 hx)with h | h;exact ha.each x h;exact hb.each x h) hs
 refine Nb (by decide) ha hb h1 fun r _ _=>?_;rw [h3,← IA hp,eB];simp [nU]
theorem PC {a b:ag} (ha:aH a) (hb:aH b):ot 38 a b=vP (dN a b):=by
 obtain⟨_,h1,h3⟩:=EI ha.canon hb.canon;refine Nb (by decide) ha hb h1 fun r _ _=>?_;rw [h3];simp [nU]
theorem Mu {a b:ag} (ha:aH a) (hb:aH b):ot 45 a b=vP (dN a (wW b)):=by
 obtain⟨n1,n2⟩:=Ck hb.canon;obtain⟨_,h1,h3⟩:=EI ha.canon n1;refine Nb (by decide) ha hb h1 fun r h0 h2=>?_;rw [h3,n2 r h0 h2];simp [nU]
theorem MY {a:ag} (ha:aH a) (b:ag):ot 94 a b=vP (wW a):=by
 obtain⟨n1,n2⟩:=Ck ha.canon;exact SJ ha n1 n2 b
theorem jZ:(Tryz.prog.info? 77).map (fun i=>(i.zero,i.size,i.bytes))=some (some (.agg #[.int .i32 0,.int .i32 0]),2,8):=by kernel_rfl
theorem mY (x y:Int):∀ u ∈ [Value.int .i32 x,.int .i32 y],u.oneCell'=true:=by
 intro u hu;simp at hu;rcases hu with rfl | rfl <;> rfl
theorem gP (l:ag) (x y:Int):an (l++[(x,y)])=an l++[.int .i32 x,.int .i32 y]:=by simp [an]
theorem mE (l:ag):∀ u∈an l,u.oneCell'=true:=by
 intro u hu;simp only [an,List.mem_flatMap]at hu;obtain⟨x,_,hu⟩:=hu;simp at hu;rcases hu with rfl | rfl <;> rfl
theorem xg (a b:ag):an (a++b)=an a++an b:=by simp [an]
theorem mS (a b:ag):an (a++b)=an a++an b:=by simp [an]
end Go.Proofs.YthgkedoildcbcaaGreatDoor
