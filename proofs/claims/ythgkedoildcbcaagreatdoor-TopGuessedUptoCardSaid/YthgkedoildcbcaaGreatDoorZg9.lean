/- SetWork + SpanInfo + Same -/
import Derived.Test.YthgkedoildcbcaaGreatDoorZg8
import Derived.Test.YthgkedoildcbcaaGreatDoorRows
import Derived.Test.YthgkedoildcbcaaGreatDoorZg3
import Derived.Deep.QuietTactic
import Derived.BigQuiet
set_option maxHeartbeats 400000
namespace Go.Proofs.YthgkedoildcbcaaGreatDoor
open Go.RowKit
def lO (a:Int):af→af
  | []=>if a≤1114111 then [(a,1114111)]else []
  | x::s=>(if a<x.1 then [(a,x.1 - 1)]else [])++lO (x.2+1) s
theorem Lr (s:af):∀ a,0≤a→Canon s→(∀ x∈s,a≤x.1)→Canon (lO a s)∧(∀ y∈lO a s,a≤y.1)∧∀ r,a≤r→r≤1114111→bt (lO a s) r = !bt s r:=by
 induction s with
 | nil=>
  intro a h0 _ _;unfold lO;split
  ·rename_i h;refine⟨⟨by simp;omega,List.pairwise_singleton _ _⟩,by simp,fun r h1 h2=>?_⟩;simp [bt];omega
  exact⟨Canon.nil,by simp,fun r h1 h2=>by omega⟩
 | cons x s ih=>
  intro a h0 hc hl;have hx:=hc.each x List.mem_cons_self;have hax:=hl x List.mem_cons_self;have qd:=hc.low;obtain⟨i1,i2,i3⟩:=ih (x.2+1) (by omega) hc.tail (fun y hy=>by have:=qd y hy;omega);have key:∀ r,x.1≤r→r≤1114111→bt (lO (x.2+1) s) r = !bt (x::s) r:=by
   intro r h1 h2;rw [bW];by_cases hr:r≤x.2
   ·rw [dZ (s:=lO (x.2+1) s) (m:=x.2) (fun y hy=>by have:=i2 y hy;omega) hr];simp [h1,hr]
   rw [i3 r (by omega) h2];simp [hr]
  unfold lO;split
  ·rename_i h;refine⟨⟨fun y hy=>?_,?_⟩,fun y hy=>?_,fun r h1 h2=>?_⟩
   ·rcases List.mem_append.1 hy with hy | hy
    ·rw [List.mem_singleton.1 hy];simp only;omega
    exact i1.each y hy
   ·rw [List.pairwise_append];refine⟨List.pairwise_singleton _ _,i1.me,fun p hp q hq=>?_⟩;rw [List.mem_singleton.1 hp];have:=i2 q hq;simp only;omega
   ·rcases List.mem_append.1 hy with hy | hy
    ·rw [List.mem_singleton.1 hy];exact Int.le_refl _
    have:=i2 y hy;omega
   rw [dS];by_cases hr:x.1≤r
   ·rw [key r hr h2];simp [bt];omega
   rw [dZ (s:=lO (x.2+1) s) (m:=x.2) (fun y hy=>by have:=i2 y hy;omega) (by omega),bW x s,dZ (s:=s) (m:=x.2+1) qd (by omega)];rw [decide_eq_false hr];simp [bt];omega
  refine⟨i1,fun y hy=>by have:=i2 y hy;omega,fun r h1 h2=>?_⟩;rw [List.nil_append];exact key r (by omega) h2
def wI (s:af):af:=lO 0 s
theorem AQ {s:af} (h:Canon s):Canon (wI s)∧∀ r,0≤r→r≤1114111→bt (wI s) r = !bt s r :=
  let ⟨h1,_,h3⟩:=Lr s 0 (Int.le_refl _) h (fun x hx=>(h.each x hx).1)
  ⟨h1,h3⟩
def dy:af→af→af
  | [],_=>[]
  | _::_,[]=>[]
  | x::a,y::b=>(if max x.1 y.1≤min x.2 y.2 then [(max x.1 y.1,min x.2 y.2)]else [])++(if x.2<y.2 then dy a (y::b)else dy (x::a) b)
termination_by a b=>a.length+b.length
theorem rO (b:af):dy [] b = []:=by unfold dy;rfl
theorem uI (a:af):dy a [] = []:=by cases a <;> unfold dy <;> rfl
theorem uL (x y:Int × Int) (a b:af):dy (x::a) (y::b)=(if max x.1 y.1≤min x.2 y.2 then [(max x.1 y.1,min x.2 y.2)]else [])++(if x.2<y.2 then dy a (y::b)else dy (x::a) b):=by
 rw [dy]
theorem LW (n:Nat):∀ a b:af,a.length+b.length≤n→Canon a→Canon b →
    (dy a b).length≤a.length+b.length∧Canon (dy a b)∧(∀ z∈dy a b,(∃ x∈a,x.1≤z.1)∧∃ y∈b,y.1≤z.1)∧∀ r,bt (dy a b) r=(bt a r && bt b r):=by
 induction n with
 | zero=>
  intro a b hn _ _;obtain rfl:a = []:=List.eq_nil_of_length_eq_zero (by omega);rw [rO];exact⟨Nat.zero_le _,Canon.nil,by simp,fun r=>by simp [bt]⟩
 | succ n ih=>
  intro a b hn ha hb;cases a with
  | nil=>rw [rO];exact⟨Nat.zero_le _,Canon.nil,by simp,fun r=>by simp [bt]⟩
  | cons x a=>
   cases b with
   | nil=>rw [uI];exact⟨Nat.zero_le _,Canon.nil,by simp,fun r=>by simp [bt]⟩
   | cons y b=>
    have hx:=ha.each x List.mem_cons_self;have hy:=hb.each y List.mem_cons_self;have la:=ha.low;have lb:=hb.low;rw [List.length_cons,List.length_cons]at hn;rw [uL];by_cases h:x.2<y.2
    ·rw [if_pos h];obtain⟨i0,i1,i2,i3⟩:=ih a (y::b) (by rw [List.length_cons];omega) ha.tail hb;rw [List.length_cons]at i0;have qd:∀ z∈dy a (y::b),x.2+1<z.1:=fun z hz=>by
      obtain⟨⟨p,hp,h1⟩,_⟩:=i2 z hz;have:=la p hp;omega
     have hmin:min x.2 y.2=x.2:=(by omega);rw [hmin];refine⟨?_,?_,fun z hz=>?_,fun r=>?_⟩
     ·rw [List.length_append,List.length_cons,List.length_cons];split <;> simp <;> omega
     ·split
      ·rename_i hm;refine⟨fun z hz=>?_,?_⟩
       ·rcases List.mem_append.1 hz with hz | hz
        ·rw [List.mem_singleton.1 hz];simp only;omega
        exact i1.each z hz
       rw [List.pairwise_append];refine⟨List.pairwise_singleton _ _,i1.me,fun p hp q hq=>?_⟩;rw [List.mem_singleton.1 hp];exact qd q hq
      exact i1
     ·rcases List.mem_append.1 hz with hz | hz
      ·split at hz
       ·rw [List.mem_singleton.1 hz];exact⟨⟨x,List.mem_cons_self,by simp only;omega⟩,y,List.mem_cons_self,by simp only;omega⟩
       simp at hz
      obtain⟨⟨p,hp,h1⟩,h2⟩:=i2 z hz;exact⟨⟨p,List.mem_cons_of_mem _ hp,h1⟩,h2⟩
     rw [dS,i3,bW x a];have e1:bt (if max x.1 y.1≤x.2 then [(max x.1 y.1,x.2)]else []) r=((decide (x.1≤r) && decide (r≤x.2)) && decide (y.1≤r)):=by
      split
      ·rw [Bool.eq_iff_iff];simp [bt];omega
      rw [Bool.eq_iff_iff];simp [bt];omega
     rw [e1];by_cases hr:r≤x.2
     ·rw [dZ (s:=a) (m:=x.2+1) la (by omega),bW y b,dZ (s:=b) (m:=y.2+1) lb (by omega)];rw [Bool.eq_iff_iff];simp;omega
     simp [hr]
    rw [if_neg h];obtain⟨i0,i1,i2,i3⟩:=ih (x::a) b (by rw [List.length_cons];omega) ha hb.tail;rw [List.length_cons]at i0;have qd:∀ z∈dy (x::a) b,y.2+1<z.1:=fun z hz=>by
     obtain⟨_,⟨p,hp,h1⟩⟩:=i2 z hz;have:=lb p hp;omega
    have hmin:min x.2 y.2=y.2:=(by omega);rw [hmin];refine⟨?_,?_,fun z hz=>?_,fun r=>?_⟩
    ·rw [List.length_append,List.length_cons,List.length_cons];split <;> simp <;> omega
    ·split
     ·rename_i hm;refine⟨fun z hz=>?_,?_⟩
      ·rcases List.mem_append.1 hz with hz | hz
       ·rw [List.mem_singleton.1 hz];simp only;omega
       exact i1.each z hz
      rw [List.pairwise_append];refine⟨List.pairwise_singleton _ _,i1.me,fun p hp q hq=>?_⟩;rw [List.mem_singleton.1 hp];exact qd q hq
     exact i1
    ·rcases List.mem_append.1 hz with hz | hz
     ·split at hz
      ·rw [List.mem_singleton.1 hz];exact⟨⟨x,List.mem_cons_self,by simp only;omega⟩,y,List.mem_cons_self,by simp only;omega⟩
      simp at hz
     obtain⟨h1,⟨p,hp,h2⟩⟩:=i2 z hz;exact⟨h1,p,List.mem_cons_of_mem _ hp,h2⟩
    rw [dS,i3,bW y b];have e1:bt (if max x.1 y.1≤y.2 then [(max x.1 y.1,y.2)]else []) r=((decide (y.1≤r) && decide (r≤y.2)) && decide (x.1≤r)):=by
     split
     ·rw [Bool.eq_iff_iff];simp [bt];omega
     rw [Bool.eq_iff_iff];simp [bt];omega
    rw [e1];by_cases hr:r≤y.2
    ·rw [dZ (s:=b) (m:=y.2+1) lb (by omega),bW x a,dZ (s:=a) (m:=x.2+1) la (by omega)];rw [Bool.eq_iff_iff];simp;omega
    simp [hr]
theorem CK {a b:af} (ha:Canon a) (hb:Canon b):(dy a b).length≤a.length+b.length∧Canon (dy a b)∧∀ r,bt (dy a b) r=(bt a r && bt b r) :=
  let ⟨h0,h1,_,h3⟩:=LW _ a b (Nat.le_refl _) ha hb
  ⟨h0,h1,h3⟩
def dI (out:af) (x:Int × Int):af :=
  match out.getLast? with
  | some k=>if x.1≤k.2+1 then out.dropLast++[(k.1,max k.2 x.2)]else out++[x]
  | none=>out++[x]
theorem oM (x:Int × Int):dI [] x = [x]:=rfl
theorem kz (i:af) (k x:Int × Int):dI (i++[k]) x=if x.1≤k.2+1 then i++[(k.1,max k.2 x.2)]else i++[k]++[x]:=by
 unfold dI;simp
def iw (l:af):af:=l.foldl dI []
theorem zL {out:af} {x:Int × Int} (h:Canon out) (hx:0≤x.1∧x.1≤x.2∧x.2≤1114111) (hl:∀ y∈out,y.1≤x.1) :
    Canon (dI out x)∧(∀ y∈dI out x,y.1≤x.1)∧(dI out x).length≤out.length+1∧∀ r,bt (dI out x) r=(bt out r || (decide (x.1≤r) && decide (r≤x.2))):=by
 rcases List.eq_nil_or_concat out with rfl | ⟨i,k,rfl⟩
 ·rw [oM];exact⟨⟨by simpa using hx,List.pairwise_singleton _ _⟩,by simp,by simp,fun r=>by simp [bt]⟩
 rw [List.concat_eq_append]at h hl ⊢;obtain⟨hi,hk,hik⟩:=vg h;have hkx:=hl k (by simp);rw [kz];by_cases he:x.1≤k.2+1
 ·rw [if_pos he];refine⟨mg hi ⟨hk.1,by simp only;omega,by simp only;omega⟩ hik,fun y hy=>?_,by simp,fun r=>?_⟩
  ·rcases List.mem_append.1 hy with hy | hy;exact hl y (by simp [hy]);rw [List.mem_singleton.1 hy];exact hkx
  rw [dS,dS,Bool.or_assoc];congr 1;simp only [bt,List.any_cons,List.any_nil,Bool.or_false];rw [Bool.eq_iff_iff];simp;omega
 rw [if_neg he];refine⟨mg h hx (fun y hy=>?_),fun y hy=>?_,by simp,fun r=>?_⟩
 ·rcases List.mem_append.1 hy with hy | hy
  ·have:=hik y hy;omega
  rw [List.mem_singleton.1 hy];omega
 ·rcases List.mem_append.1 hy with hy | hy;exact hl y hy;rw [List.mem_singleton.1 hy];exact Int.le_refl _
 rw [dS];congr 1;simp [bt]
theorem J5 (l:af):∀ out:af,Canon out→(∀ x∈l,0≤x.1∧x.1≤x.2∧x.2≤1114111)→l.Pairwise (fun a b=>a.1≤b.1)→(∀ y∈out,∀ x∈l,y.1≤x.1) →
    Canon (l.foldl dI out)∧(l.foldl dI out).length≤out.length+l.length∧∀ r,bt (l.foldl dI out) r=(bt out r || bt l r):=by
 induction l with
 | nil=>intro out h _ _ _;exact⟨h,Nat.le_refl _,fun r=>by simp [bt]⟩
 | cons x l ih=>
  intro out h hv hs hl;rw [List.pairwise_cons]at hs;obtain⟨m1,m2,m3,m4⟩:=zL h (hv x List.mem_cons_self) (fun y hy=>hl y hy x List.mem_cons_self);obtain⟨i1,i2,i3⟩:=ih (dI out x) m1 (fun y hy=>hv y (List.mem_cons_of_mem _ hy)) hs.2 (fun y hy z hz=>by have:=m2 y hy;have:=hs.1 z hz;omega);rw [List.foldl_cons,List.length_cons];refine⟨i1,by omega,fun r=>?_⟩;rw [i3,m4,bW,Bool.or_assoc]
theorem Fe {l:af} (hv:∀ x∈l,0≤x.1∧x.1≤x.2∧x.2≤1114111) (hs:l.Pairwise (fun a b=>a.1≤b.1)):Canon (iw l)∧(iw l).length≤l.length∧∀ r,bt (iw l) r=bt l r:=by
 obtain⟨h1,h2,h3⟩:=J5 l [] Canon.nil hv hs (by simp);exact⟨h1,by rw [iw];simpa using h2,fun r=>by rw [iw,h3];simp [bt]⟩
theorem IX {a b:af} (h:a.Perm b) (r:Int):bt a r=bt b r:=by
 rw [Bool.eq_iff_iff,mZ,mZ];exact⟨fun⟨x,hx,h1⟩=>⟨x,h.mem_iff.1 hx,h1⟩,fun⟨x,hx,h1⟩=>⟨x,h.mem_iff.2 hx,h1⟩⟩
def tT (s:af):af × Int:=if 200<s.length then ([],5)else (s,0)
theorem LB {a b l:af} (ha:aE a) (hb:aE b) (hp:(a++b).Perm l) (hs:l.Pairwise (fun a b=>a.1≤b.1)):mJ 124 a b=tT (iw l):=by
 obtain⟨h1,_,h3⟩:=Fe (l:=l) (fun x hx=>by
  rcases List.mem_append.1 (hp.mem_iff.2 hx)with h | h;exact ha.each x h;exact hb.each x h) hs
 refine LH (by decide) ha hb h1 fun r _ _=>?_;rw [h3,← IX hp,dS];simp [mC]
theorem Nz {a b:af} (ha:aE a) (hb:aE b):mJ 38 a b=tT (dy a b):=by
 obtain⟨_,h1,h3⟩:=CK ha.canon hb.canon;refine LH (by decide) ha hb h1 fun r _ _=>?_;rw [h3];simp [mC]
theorem Kj {a b:af} (ha:aE a) (hb:aE b):mJ 45 a b=tT (dy a (wI b)):=by
 obtain⟨n1,n2⟩:=AQ hb.canon;obtain⟨_,h1,h3⟩:=CK ha.canon n1;refine LH (by decide) ha hb h1 fun r h0 h2=>?_;rw [h3,n2 r h0 h2];simp [mC]
theorem Mh {a:af} (ha:aE a) (b:af):mJ 94 a b=tT (wI a):=by
 obtain⟨n1,n2⟩:=AQ ha.canon;exact PJ ha n1 n2 b
theorem jj:(Tryz.prog.info? 77).map (fun i=>(i.zero,i.size,i.bytes))=some (some (.agg #[.int .i32 0,.int .i32 0]),2,8):=by kernel_rfl
theorem lG (x y:Int):∀ u ∈ [Value.int .i32 x,.int .i32 y],u.oneCell'=true:=by
 intro u hu;simp at hu;rcases hu with rfl | rfl <;> rfl
theorem fZ (l:af) (x y:Int):ak (l++[(x,y)])=ak l++[.int .i32 x,.int .i32 y]:=by simp [ak]
theorem lu (l:af):∀ u∈ak l,u.oneCell'=true:=by
 intro u hu;simp only [ak,List.mem_flatMap]at hu;obtain⟨x,_,hu⟩:=hu;simp at hu;rcases hu with rfl | rfl <;> rfl
theorem wm (a b:af):ak (a++b)=ak a++ak b:=by simp [ak]
theorem lM (a b:af):ak (a++b)=ak a++ak b:=by simp [ak]
theorem N8 {xs ys:List Int} {k:Nat} (h:(xs[k]?.getD 0 != ys[k]?.getD 0)=true):false=(xs == ys):=by
 symm;rw [beq_eq_false_iff_ne];rintro rfl;simp at h
theorem IC {xs ys:List Int} {k:Nat} (hx:k<xs.length) (hy:k<ys.length) (he:xs.take k=ys.take k) (h:(xs[k]?.getD 0 != ys[k]?.getD 0)=false):xs.take (k+1)=ys.take (k+1):=by
 rw [List.take_succ_eq_append_getElem hx,List.take_succ_eq_append_getElem hy,he];simp [List.getElem?_eq_getElem hx,List.getElem?_eq_getElem hy]at h;rw [h]
theorem Kv {xs ys:List Int} {n:Nat} (hx:xs.length=n) (hy:ys.length=n) (he:xs.take n=ys.take n):true=(xs == ys):=by
 rw [List.take_of_length_le (by omega),List.take_of_length_le (by omega)]at he;simp [he]
theorem Mk (A C:Option Addr) (n m c d:Nat) (xs ys:List Int) (w:World) (hn:n≤9223372036854775807)
    (hx:kJ w w.heap.size A n xs) (hy:kJ w w.heap.size C m ys) :
    Calls Tryz.prog 12 #[.slice A n c,.slice C m d] w fun e w'=>e=.returned (.bool (xs == ys))∧∃ k,w'=w.drewN k:=by
 have lx:=hx.len;have ly:=hy.len;by_cases hnm:n=m
 ·subst hnm;go_enter Tryz.func12,Tryz.ntmps12;go_wp2;go_loopw [13] (fun i wr=>∃ k q:Nat,k≤n∧i=.int .i64 k∧wr=w.drewN q∧xs.take k=ys.take k) (fun i _=>n - (intOf i).toNat);(case atStart=>exact⟨0,0,Nat.zero_le _,rfl,rfl,rfl⟩);obtain⟨k,q,hk,rfl,rfl,heq⟩:=hrel;have HE:=qqh heq;clear heq;by_cases hlt:k<n
  ·obtain⟨b1,o1,rfl,aP,hc1⟩:=hx.at hlt;obtain⟨b2,o2,rfl,aR,hc2⟩:=hy.at hlt;have HX:=qqh hx;have HY:=qqh hy;have LX:=qqh lx;have LY:=qqh ly;clear hx hy lx ly;go_wp2;go_quiet (fail);go_wp2
   ·have hd:(xs[k]?.getD 0 != ys[k]?.getD 0)=true:=(by assumption);go_ret;exact⟨bg (N8 hd),_,World.drewN_drewN _ _ _⟩
   have hd:(xs[k]?.getD 0 != ys[k]?.getD 0)=false:=(by assumption);refine⟨⟨k+1,_,by omega,by go_num,rfl,IC (by rw [LX.out];exact hlt) (by rw [LY.out];exact hlt) HE.out hd⟩,by simp [intOf];omega⟩
  obtain rfl:k=n:=(by omega);go_wp2;go_ret;exact⟨bg (Kv lx ly HE.out),_,rfl⟩
 have hne:((n:Int) !=(m:Int))=true:=(by rw [bne_iff_ne];omega);go_enter Tryz.func12,Tryz.ntmps12;go_wp2;go_ret;refine⟨bg ?_,0,rfl⟩;symm;rw [beq_eq_false_iff_ne];intro e;rw [e]at lx;omega
end Go.Proofs.YthgkedoildcbcaaGreatDoor
