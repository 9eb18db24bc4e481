/- SetWork + SpanInfo + Same -/
import Derived.Test.YtkggjgeihhialaaGreatDoorZs9
import Derived.Test.YtkggjgeihhialaaGreatDoorRows
import Derived.Test.YtkggjgeihhialaaGreatDoorZs3
import Derived.Deep.QuietTactic
import Derived.BigQuiet
set_option maxHeartbeats 400000
namespace Go.Proofs.YtkggjgeihhialaaGreatDoor
open Go.RowKit
def lA (a:Int):ag→ag
  | []=>if a≤1114111 then [(a,1114111)]else []
  | x::s=>(if a<x.1 then [(a,x.1 - 1)]else [])++lA (x.2+1) s
theorem KV (s:ag):∀ a,0≤a→Canon s→(∀ x∈s,a≤x.1)→Canon (lA a s)∧(∀ y∈lA a s,a≤y.1)∧∀ r,a≤r→r≤1114111→bB (lA a s) r = !bB s r:=by
 induction s with
 | nil=>
  intro a h0 _ _;unfold lA;split
  ·rename_i h;refine⟨⟨by simp;omega,List.pairwise_singleton _ _⟩,by simp,fun r h1 h2=>?_⟩;simp [bB];omega
  exact⟨Canon.nil,by simp,fun r h1 h2=>by omega⟩
 | cons x s ih=>
  intro a h0 hc hl;have hx:=hc.each x List.mem_cons_self;have hax:=hl x List.mem_cons_self;have nU:=hc.low;obtain⟨i1,i2,i3⟩:=ih (x.2+1) (by omega) hc.tail (fun y hy=>by have:=nU y hy;omega);have key:∀ r,x.1≤r→r≤1114111→bB (lA (x.2+1) s) r = !bB (x::s) r:=by
   intro r h1 h2;rw [bW];by_cases hr:r≤x.2
   ·rw [ec (s:=lA (x.2+1) s) (m:=x.2) (fun y hy=>by have:=i2 y hy;omega) hr];simp [h1,hr]
   rw [i3 r (by omega) h2];simp [hr]
  unfold lA;split
  ·rename_i h;refine⟨⟨fun y hy=>?_,?_⟩,fun y hy=>?_,fun r h1 h2=>?_⟩
   ·rcases List.mem_append.1 hy with hy | hy
    ·rw [List.mem_singleton.1 hy];simp only;omega
    exact i1.each y hy
   ·rw [List.pairwise_append];refine⟨List.pairwise_singleton _ _,i1.l9,fun p hp q hq=>?_⟩;rw [List.mem_singleton.1 hp];have:=i2 q hq;simp only;omega
   ·rcases List.mem_append.1 hy with hy | hy
    ·rw [List.mem_singleton.1 hy];exact Int.le_refl _
    have:=i2 y hy;omega
   rw [dW];by_cases hr:x.1≤r
   ·rw [key r hr h2];simp [bB];omega
   rw [ec (s:=lA (x.2+1) s) (m:=x.2) (fun y hy=>by have:=i2 y hy;omega) (by omega),bW x s,ec (s:=s) (m:=x.2+1) nU (by omega)];rw [decide_eq_false hr];simp [bB];omega
  refine⟨i1,fun y hy=>by have:=i2 y hy;omega,fun r h1 h2=>?_⟩;rw [List.nil_append];exact key r (by omega) h2
def uD (s:ag):ag:=lA 0 s
theorem zM {s:ag} (h:Canon s):Canon (uD s)∧∀ r,0≤r→r≤1114111→bB (uD s) r = !bB s r :=
  let ⟨h1,_,h3⟩:=KV s 0 (Int.le_refl _) h (fun x hx=>(h.each x hx).1)
  ⟨h1,h3⟩
def dz:ag→ag→ag
  | [],_=>[]
  | _::_,[]=>[]
  | x::a,y::b=>(if max x.1 y.1≤min x.2 y.2 then [(max x.1 y.1,min x.2 y.2)]else [])++(if x.2<y.2 then dz a (y::b)else dz (x::a) b)
termination_by a b=>a.length+b.length
theorem rm (b:ag):dz [] b = []:=by unfold dz;rfl
theorem uZ (a:ag):dz a [] = []:=by cases a <;> unfold dz <;> rfl
theorem vD (x y:Int × Int) (a b:ag):dz (x::a) (y::b)=(if max x.1 y.1≤min x.2 y.2 then [(max x.1 y.1,min x.2 y.2)]else [])++(if x.2<y.2 then dz a (y::b)else dz (x::a) b):=by
 rw [dz]
theorem Lw (n:Nat):∀ a b:ag,a.length+b.length≤n→Canon a→Canon b →
    (dz a b).length≤a.length+b.length∧Canon (dz a b)∧(∀ z∈dz a b,(∃ x∈a,x.1≤z.1)∧∃ y∈b,y.1≤z.1)∧∀ r,bB (dz a b) r=(bB a r && bB b r):=by
 induction n with
 | zero=>
  intro a b hn _ _;obtain rfl:a = []:=List.eq_nil_of_length_eq_zero (by omega);rw [rm];exact⟨Nat.zero_le _,Canon.nil,by simp,fun r=>by simp [bB]⟩
 | succ n ih=>
  intro a b hn ha hb;cases a with
  | nil=>rw [rm];exact⟨Nat.zero_le _,Canon.nil,by simp,fun r=>by simp [bB]⟩
  | cons x a=>
   cases b with
   | nil=>rw [uZ];exact⟨Nat.zero_le _,Canon.nil,by simp,fun r=>by simp [bB]⟩
   | cons y b=>
    have hx:=ha.each x List.mem_cons_self;have hy:=hb.each y List.mem_cons_self;have la:=ha.low;have lb:=hb.low;rw [List.length_cons,List.length_cons]at hn;rw [vD];by_cases h:x.2<y.2
    ·rw [if_pos h];obtain⟨i0,i1,i2,i3⟩:=ih a (y::b) (by rw [List.length_cons];omega) ha.tail hb;rw [List.length_cons]at i0;have nU:∀ z∈dz a (y::b),x.2+1<z.1:=fun z hz=>by
      obtain⟨⟨p,hp,h1⟩,_⟩:=i2 z hz;have:=la p hp;omega
     have hmin:min x.2 y.2=x.2:=(by omega);rw [hmin];refine⟨?_,?_,fun z hz=>?_,fun r=>?_⟩
     ·rw [List.length_append,List.length_cons,List.length_cons];split <;> simp <;> omega
     ·split
      ·rename_i hm;refine⟨fun z hz=>?_,?_⟩
       ·rcases List.mem_append.1 hz with hz | hz
        ·rw [List.mem_singleton.1 hz];simp only;omega
        exact i1.each z hz
       rw [List.pairwise_append];refine⟨List.pairwise_singleton _ _,i1.l9,fun p hp q hq=>?_⟩;rw [List.mem_singleton.1 hp];exact nU q hq
      exact i1
     ·rcases List.mem_append.1 hz with hz | hz
      ·split at hz
       ·rw [List.mem_singleton.1 hz];exact⟨⟨x,List.mem_cons_self,by simp only;omega⟩,y,List.mem_cons_self,by simp only;omega⟩
       simp at hz
      obtain⟨⟨p,hp,h1⟩,h2⟩:=i2 z hz;exact⟨⟨p,List.mem_cons_of_mem _ hp,h1⟩,h2⟩
     rw [dW,i3,bW x a];have e1:bB (if max x.1 y.1≤x.2 then [(max x.1 y.1,x.2)]else []) r=((decide (x.1≤r) && decide (r≤x.2)) && decide (y.1≤r)):=by
      split
      ·rw [Bool.eq_iff_iff];simp [bB];omega
      rw [Bool.eq_iff_iff];simp [bB];omega
     rw [e1];by_cases hr:r≤x.2
     ·rw [ec (s:=a) (m:=x.2+1) la (by omega),bW y b,ec (s:=b) (m:=y.2+1) lb (by omega)];rw [Bool.eq_iff_iff];simp;omega
     simp [hr]
    rw [if_neg h];obtain⟨i0,i1,i2,i3⟩:=ih (x::a) b (by rw [List.length_cons];omega) ha hb.tail;rw [List.length_cons]at i0;have nU:∀ z∈dz (x::a) b,y.2+1<z.1:=fun z hz=>by
     obtain⟨_,⟨p,hp,h1⟩⟩:=i2 z hz;have:=lb p hp;omega
    have hmin:min x.2 y.2=y.2:=(by omega);rw [hmin];refine⟨?_,?_,fun z hz=>?_,fun r=>?_⟩
    ·rw [List.length_append,List.length_cons,List.length_cons];split <;> simp <;> omega
    ·split
     ·rename_i hm;refine⟨fun z hz=>?_,?_⟩
      ·rcases List.mem_append.1 hz with hz | hz
       ·rw [List.mem_singleton.1 hz];simp only;omega
       exact i1.each z hz
      rw [List.pairwise_append];refine⟨List.pairwise_singleton _ _,i1.l9,fun p hp q hq=>?_⟩;rw [List.mem_singleton.1 hp];exact nU q hq
     exact i1
    ·rcases List.mem_append.1 hz with hz | hz
     ·split at hz
      ·rw [List.mem_singleton.1 hz];exact⟨⟨x,List.mem_cons_self,by simp only;omega⟩,y,List.mem_cons_self,by simp only;omega⟩
      simp at hz
     obtain⟨h1,⟨p,hp,h2⟩⟩:=i2 z hz;exact⟨h1,p,List.mem_cons_of_mem _ hp,h2⟩
    rw [dW,i3,bW y b];have e1:bB (if max x.1 y.1≤y.2 then [(max x.1 y.1,y.2)]else []) r=((decide (y.1≤r) && decide (r≤y.2)) && decide (x.1≤r)):=by
     split
     ·rw [Bool.eq_iff_iff];simp [bB];omega
     rw [Bool.eq_iff_iff];simp [bB];omega
    rw [e1];by_cases hr:r≤y.2
    ·rw [ec (s:=b) (m:=y.2+1) lb (by omega),bW x a,ec (s:=a) (m:=x.2+1) la (by omega)];rw [Bool.eq_iff_iff];simp;omega
    simp [hr]
theorem Bx {a b:ag} (ha:Canon a) (hb:Canon b):(dz a b).length≤a.length+b.length∧Canon (dz a b)∧∀ r,bB (dz a b) r=(bB a r && bB b r) :=
  let ⟨h0,h1,_,h3⟩:=Lw _ a b (Nat.le_refl _) ha hb
  ⟨h0,h1,h3⟩
def dK (out:ag) (x:Int × Int):ag :=
  match out.getLast? with
  | some k=>if x.1≤k.2+1 then out.dropLast++[(k.1,max k.2 x.2)]else out++[x]
  | none=>out++[x]
theorem oA (x:Int × Int):dK [] x = [x]:=rfl
theorem jY (i:ag) (k x:Int × Int):dK (i++[k]) x=if x.1≤k.2+1 then i++[(k.1,max k.2 x.2)]else i++[k]++[x]:=by
 unfold dK;simp
def iB (l:ag):ag:=l.foldl dK []
theorem zJ {out:ag} {x:Int × Int} (h:Canon out) (hx:0≤x.1∧x.1≤x.2∧x.2≤1114111) (hl:∀ y∈out,y.1≤x.1) :
    Canon (dK out x)∧(∀ y∈dK out x,y.1≤x.1)∧(dK out x).length≤out.length+1∧∀ r,bB (dK out x) r=(bB out r || (decide (x.1≤r) && decide (r≤x.2))):=by
 rcases List.eq_nil_or_concat out with rfl | ⟨i,k,rfl⟩
 ·rw [oA];exact⟨⟨by simpa using hx,List.pairwise_singleton _ _⟩,by simp,by simp,fun r=>by simp [bB]⟩
 rw [List.concat_eq_append]at h hl ⊢;obtain⟨hi,hk,hik⟩:=vN h;have hkx:=hl k (by simp);rw [jY];by_cases he:x.1≤k.2+1
 ·rw [if_pos he];refine⟨mz hi ⟨hk.1,by simp only;omega,by simp only;omega⟩ hik,fun y hy=>?_,by simp,fun r=>?_⟩
  ·rcases List.mem_append.1 hy with hy | hy;exact hl y (by simp [hy]);rw [List.mem_singleton.1 hy];exact hkx
  rw [dW,dW,Bool.or_assoc];congr 1;simp only [bB,List.any_cons,List.any_nil,Bool.or_false];rw [Bool.eq_iff_iff];simp;omega
 rw [if_neg he];refine⟨mz h hx (fun y hy=>?_),fun y hy=>?_,by simp,fun r=>?_⟩
 ·rcases List.mem_append.1 hy with hy | hy
  ·have:=hik y hy;omega
  rw [List.mem_singleton.1 hy];omega
 ·rcases List.mem_append.1 hy with hy | hy;exact hl y hy;rw [List.mem_singleton.1 hy];exact Int.le_refl _
 rw [dW];congr 1;simp [bB]
theorem KD (l:ag):∀ out:ag,Canon out→(∀ x∈l,0≤x.1∧x.1≤x.2∧x.2≤1114111)→l.Pairwise (fun a b=>a.1≤b.1)→(∀ y∈out,∀ x∈l,y.1≤x.1) →
    Canon (l.foldl dK out)∧(l.foldl dK out).length≤out.length+l.length∧∀ r,bB (l.foldl dK out) r=(bB out r || bB l r):=by
 induction l with
 | nil=>intro out h _ _ _;exact⟨h,Nat.le_refl _,fun r=>by simp [bB]⟩
 | cons x l ih=>
  intro out h hv hs hl;rw [List.pairwise_cons]at hs;obtain⟨m1,m2,m3,m4⟩:=zJ h (hv x List.mem_cons_self) (fun y hy=>hl y hy x List.mem_cons_self);obtain⟨i1,i2,i3⟩:=ih (dK out x) m1 (fun y hy=>hv y (List.mem_cons_of_mem _ hy)) hs.2 (fun y hy z hz=>by have:=m2 y hy;have:=hs.1 z hz;omega);rw [List.foldl_cons,List.length_cons];refine⟨i1,by omega,fun r=>?_⟩;rw [i3,m4,bW,Bool.or_assoc]
theorem DD {l:ag} (hv:∀ x∈l,0≤x.1∧x.1≤x.2∧x.2≤1114111) (hs:l.Pairwise (fun a b=>a.1≤b.1)):Canon (iB l)∧(iB l).length≤l.length∧∀ r,bB (iB l) r=bB l r:=by
 obtain⟨h1,h2,h3⟩:=KD l [] Canon.nil hv hs (by simp);exact⟨h1,by rw [iB];simpa using h2,fun r=>by rw [iB,h3];simp [bB]⟩
theorem IT {a b:ag} (h:a.Perm b) (r:Int):bB a r=bB b r:=by
 rw [Bool.eq_iff_iff,qn,qn];exact⟨fun⟨x,hx,h1⟩=>⟨x,h.mem_iff.1 hx,h1⟩,fun⟨x,hx,h1⟩=>⟨x,h.mem_iff.2 hx,h1⟩⟩
def sQ (s:ag):ag × Int:=if 200<s.length then ([],5)else (s,0)
theorem Lr {a b l:ag} (ha:aG a) (hb:aG b) (hp:(a++b).Perm l) (hs:l.Pairwise (fun a b=>a.1≤b.1)):mF 124 a b=sQ (iB l):=by
 obtain⟨h1,_,h3⟩:=DD (l:=l) (fun x hx=>by
  rcases List.mem_append.1 (hp.mem_iff.2 hx)with h | h;exact ha.each x h;exact hb.each x h) hs
 refine Kb (by decide) ha hb h1 fun r _ _=>?_;rw [h3,← IT hp,dW];simp [lY]
theorem M8 {a b:ag} (ha:aG a) (hb:aG b):mF 38 a b=sQ (dz a b):=by
 obtain⟨_,h1,h3⟩:=Bx ha.canon hb.canon;refine Kb (by decide) ha hb h1 fun r _ _=>?_;rw [h3];simp [lY]
theorem Ka {a b:ag} (ha:aG a) (hb:aG b):mF 45 a b=sQ (dz a (uD b)):=by
 obtain⟨n1,n2⟩:=zM hb.canon;obtain⟨_,h1,h3⟩:=Bx ha.canon n1;refine Kb (by decide) ha hb h1 fun r h0 h2=>?_;rw [h3,n2 r h0 h2];simp [lY]
theorem K5 {a:ag} (ha:aG a) (b:ag):mF 94 a b=sQ (uD a):=by
 obtain⟨n1,n2⟩:=zM ha.canon;exact Pv ha n1 n2 b
theorem ja:(Tryz.prog.info? 82).map (fun i=>(i.zero,i.size,i.bytes))=some (some (.agg #[.int .i32 0,.int .i32 0]),2,8):=by kernel_rfl
theorem lI (x y:Int):∀ u ∈ [Value.int .i32 x,.int .i32 y],u.oneCell'=true:=by
 intro u hu;simp at hu;rcases hu with rfl | rfl <;> rfl
theorem gi (l:ag) (x y:Int):ak (l++[(x,y)])=ak l++[.int .i32 x,.int .i32 y]:=by simp [ak]
theorem kT (l:ag):∀ u∈ak l,u.oneCell'=true:=by
 intro u hu;simp only [ak,List.mem_flatMap]at hu;obtain⟨x,_,hu⟩:=hu;simp at hu;rcases hu with rfl | rfl <;> rfl
theorem uB (a b:ag):ak (a++b)=ak a++ak b:=by simp [ak]
theorem lK (a b:ag):ak (a++b)=ak a++ak b:=by simp [ak]
theorem NS {xs ys:List Int} {k:Nat} (h:(xs[k]?.getD 0 != ys[k]?.getD 0)=true):false=(xs == ys):=by
 symm;rw [beq_eq_false_iff_ne];rintro rfl;simp at h
theorem Ga {xs ys:List Int} {k:Nat} (hx:k<xs.length) (hy:k<ys.length) (he:xs.take k=ys.take k) (h:(xs[k]?.getD 0 != ys[k]?.getD 0)=false):xs.take (k+1)=ys.take (k+1):=by
 rw [List.take_succ_eq_append_getElem hx,List.take_succ_eq_append_getElem hy,he];simp [List.getElem?_eq_getElem hx,List.getElem?_eq_getElem hy]at h;rw [h]
theorem JG {xs ys:List Int} {n:Nat} (hx:xs.length=n) (hy:ys.length=n) (he:xs.take n=ys.take n):true=(xs == ys):=by
 rw [List.take_of_length_le (by omega),List.take_of_length_le (by omega)]at he;simp [he]
theorem Kj (A C:Option Addr) (n m c d:Nat) (xs ys:List Int) (w:World) (hn:n≤9223372036854775807)
    (hx:pN w w.heap.size A n xs) (hy:pN w w.heap.size C m ys) :
    Calls Tryz.prog 10 #[.slice A n c,.slice C m d] w fun e w'=>e=.returned (.bool (xs == ys))∧∃ k,w'=w.drewN k:=by
 have lx:=hx.len;have ly:=hy.len;by_cases hnm:n=m
 ·subst hnm;go_enter Tryz.func10,Tryz.ntmps10;go_wp2;go_loopw [13] (fun i wr=>∃ k q:Nat,k≤n∧i=.int .i64 k∧wr=w.drewN q∧xs.take k=ys.take k) (fun i _=>n - (intOf i).toNat);(case atStart=>exact⟨0,0,Nat.zero_le _,rfl,rfl,rfl⟩);obtain⟨k,q,hk,rfl,rfl,heq⟩:=hrel;have HE:=qqh heq;clear heq;by_cases hlt:k<n
  ·obtain⟨b1,o1,rfl,aT,hc1⟩:=hx.at hlt;obtain⟨b2,o2,rfl,aQ,hc2⟩:=hy.at hlt;have HX:=qqh hx;have HY:=qqh hy;have LX:=qqh lx;have LY:=qqh ly;clear hx hy lx ly;go_wp2;go_quiet (fail);go_wp2
   ·have hd:(xs[k]?.getD 0 != ys[k]?.getD 0)=true:=(by assumption);go_ret;exact⟨bD (NS hd),_,World.drewN_drewN _ _ _⟩
   have hd:(xs[k]?.getD 0 != ys[k]?.getD 0)=false:=(by assumption);refine⟨⟨k+1,_,by omega,by go_num,rfl,Ga (by rw [LX.out];exact hlt) (by rw [LY.out];exact hlt) HE.out hd⟩,by simp [intOf];omega⟩
  obtain rfl:k=n:=(by omega);go_wp2;go_ret;exact⟨bD (JG lx ly HE.out),_,rfl⟩
 have hne:((n:Int) !=(m:Int))=true:=(by rw [bne_iff_ne];omega);go_enter Tryz.func10,Tryz.ntmps10;go_wp2;go_ret;refine⟨bD ?_,0,rfl⟩;symm;rw [beq_eq_false_iff_ne];intro e;rw [e]at lx;omega
end Go.Proofs.YtkggjgeihhialaaGreatDoor
