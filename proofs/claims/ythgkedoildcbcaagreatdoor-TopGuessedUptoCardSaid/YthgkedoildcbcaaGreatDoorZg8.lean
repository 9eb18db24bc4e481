/- Span + SetP + SetBuild + SetOps + SynP + SynMono + RunesText + ParseHex -/
import Derived.Test.YthgkedoildcbcaaGreatDoorZgH
import Derived.Test.YthgkedoildcbcaaGreatDoorZg3
import Derived.Test.YthgkedoildcbcaaGreatDoorRows
import Derived.Deep.QuietTactic
import Derived.BigQuiet
import Derived.Laws.Cover4
import Derived.Laws.Runes
import Derived.Lib.ConvBytes
import Derived.Lib.Strings
set_option maxHeartbeats 3200000
set_option maxRecDepth 100000
namespace Go.Proofs.YthgkedoildcbcaaGreatDoor
open Go.RowKit
abbrev af:=List (Int × Int)
def ak (l:af):List Value:=l.flatMap fun k=>[.int .i32 k.1,.int .i32 k.2]
theorem bC (l:af):(ak l).length=l.length*2:=by
 induction l with
 | nil=>rfl
 | cons x l ih=>simp only [ak,List.flatMap_cons]at ih ⊢;simp [ih];omega
theorem jQ (l:af) (k:Nat) (x y:Int) (hk:l[k]? = some (x,y)):(ak l)[k*2]? = some (.int .i32 x)∧(ak l)[k*2+1]? = some (.int .i32 y):=by
 induction l generalizing k with
 | nil=>simp at hk
 | cons z l ih=>
  cases k with
  | zero=>simp at hk;subst hk;simp [ak]
  | succ k=>
   have:=ih k (by simpa using hk);simp only [ak,List.flatMap_cons]at this ⊢;have e1:(k+1)*2=k*2+1+1:=(by omega);rw [e1];simpa using this
def jz (w:World) (B:Nat) (A:Option Addr) (n:Nat) (l:af):Prop:=Rd w B 2 A n (ak l)
theorem jz.len {w:World} {B n:Nat} {A:Option Addr} {l:af} (h:jz w B A n l):l.length=n:=by
 have:=h.1;rw [bC]at this;omega
theorem jz.at {w:World} {B n:Nat} {A:Option Addr} {l:af} (h:jz w B A n l) {k:Nat} {x y:Int} (hk:l[k]? = some (x,y)) :
    ∃ b off:Nat,A=some ⟨b,off,none⟩∧b<B∧w.cell? ⟨b,off+k*2,none⟩=some (.int .i32 x)∧w.cell? ⟨b,off+k*2+1,none⟩=some (.int .i32 y):=by
 have hl:k<l.length:=(List.getElem?_eq_some_iff.1 hk).1;have:=h.len;obtain⟨b,off,e,hb,hc⟩:=h.2 (by omega);obtain⟨h1,h2⟩:=jQ l k x y hk;exact⟨b,off,e,hb,hc _ _ h1,by rw [Nat.add_assoc];exact hc _ _ h2⟩
def uQ:Option Int→Int→Bool
  | none,_=>false
  | some h,a=>decide (a≤h+1)
def iD:Option Int→af→Int
  | _,[]=>0
  | prev,(a,b)::r=>if a<0∨1114111<b∨b<a then 3 else if uQ prev a=true then 2 else iD (some b) r
def bA (l:af):Int:=if 200<l.length then 5 else iD none l
def j6 (l:af):Nat→Option Int
  | 0=>none
  | k+1=>(l[k]?).map (·.2)
def L9 (w:World) (l:af) (n:Nat) (i:Value) (wr:World):Prop :=
  ∃ j:Nat,j≤n∧i=.int .i64 j∧iD none l=iD (j6 l j) (l.drop j)∧(∀ h,j6 l j=some h→h≤1114111∧0≤h)∧Below w.heap.size w wr
theorem cW {α:Type} {l:List α} {j:Nat} {x:α} (h:l[j]? = some x):l.drop j=x::l.drop (j+1):=by
 obtain⟨hj,rfl⟩:=List.getElem?_eq_some_iff.1 h;exact List.drop_eq_getElem_cons hj
theorem gR (A:Option Addr) (n c:Nat) (l:af) (w:World) (hn:n≤9223372036854775807) (hl:jz w w.heap.size A n l) :
    Calls Tryz.prog 70 #[.slice A n c] w fun e w'=>e=.returned (.int .i64 (bA l))∧Below w.heap.size w w':=by
 have aO:=qqh hl.len;have HL:=qqh hl;clear hl;by_cases h2:200<n
 ·have HP:=qqh (show bA l=5 by unfold bA;rw [if_pos (by rw [aO.out];exact h2)]);go_enter Tryz.func70,Tryz.ntmps70;go_wp2_with fail;go_ret;rw [HP.out];exact⟨rfl,Below.refl _ _⟩
 have HP:=qqh (show bA l=iD none l by unfold bA;rw [if_neg (by rw [aO.out];exact h2)]);go_enter Tryz.func70,Tryz.ntmps70;go_wp2_with fail;go_loopw [10] (L9 w l n) (fun i _=>n - (intOf i).toNat);(case atStart=>exact⟨0,Nat.zero_le _,rfl,rfl,by simp [j6],Below.refl _ _⟩);obtain⟨j,hj,rfl,aV,R4,hb⟩:=hrel;have hz:=hb.size;by_cases hlt:j<n
 ·obtain⟨⟨x,y⟩,hx⟩:∃ z,l[j]? = some z:=⟨_,List.getElem?_eq_getElem (by rw [aO.out];exact hlt)⟩;obtain⟨b,off,rfl,cC,c0,c1⟩:=HL.out.at hx;have d0:=(hb.cell (p:=⟨b,off+j*2,none⟩) cC).trans c0;have d1:=(hb.cell (p:=⟨b,off+j*2+1,none⟩) cC).trans c1;rw [cW hx,iD]at aV;by_cases hr:x<0∨1114111<y∨y<x
  ·rw [if_pos hr]at aV;have HG:=qqh aV;have HX:=qqh hx;clear aV hx c0 c1 R4;rcases (show x<0∨(0≤x∧1114111<y)∨(0≤x∧y≤1114111∧y<x) by omega)with h1 | ⟨h1,h2⟩ | ⟨h1,h2,h3⟩
   all_goals
     clear hr
     go_wp2_with fail
     go_ret
     rw [HP.out,HG.out]
     exact⟨rfl,hb.alloc hz _⟩
  rw [if_neg hr]at aV;have Np:0≤x:=(by omega);have iI:y≤1114111:=(by omega);have iY:x≤y:=(by omega);have EC:∀ h,j6 l (j+1)=some h→h≤1114111∧0≤h:=by
   intro h hh;simp only [j6,hx,Option.map_some,Option.some.injEq]at hh;omega
  have BF:j6 l (j+1)=some y:=(by simp [j6,hx]);clear hr;cases j with
  | zero=>
   rw [if_neg (by simp [j6,uQ])]at aV;rw [← BF]at aV;have HG:=qqh aV;have HX:=qqh hx;have Qs:=qqh EC;clear aV hx c0 c1 R4 EC BF;simp only [Nat.zero_mul,Nat.add_zero]at d0 d1;go_wp2_with fail;go_quiet (fail);go_wp2_with fail;exact⟨⟨1,by omega,by go_num,HG.out,Qs.out,below_drewN (hb.alloc hz _) _⟩,by simp [intOf];omega⟩
  | succ j=>
   obtain⟨⟨p,h⟩,hp⟩:∃ z,l[j]? = some z:=⟨_,List.getElem?_eq_getElem (by rw [aO.out];omega)⟩;have hh:j6 l (j+1)=some h:=(by simp [j6,hp]);obtain⟨Tn,Xf⟩:=R4 h hh;obtain⟨b2,off2,e2,_,_,c3⟩:=HL.out.at hp;cases e2;have d3:(wr.alloc (Obj.cells #[Value.int IntKind.i32 x,Value.int IntKind.i32 y] 77)).cell? ⟨b,off+j*2+1,none⟩=some (.int .i32 h):=((hb.alloc hz _).cell (p:=⟨b,off+j*2+1,none⟩) cC).trans c3;have hj0:decide ((0:Int)<(j:Int)+1)=true:=decide_eq_true (by omega);have hjn:j<n:=(by omega);have Oi:(j:Int)<(n:Int):=(by omega);have hjw:IntKind.i64.wrap (j:Int)=(j:Int):=IntWalk.i64_in _ (by omega);rw [hh]at aV;simp only [uQ,decide_eq_true_eq]at aV;by_cases ht:x≤h+1
   ·rw [if_pos ht]at aV;have HG:=qqh aV;have HX:=qqh hx;have xm:=qqh hp;clear aV hx c0 c1 c3 R4 EC BF hh hp;have ht2:decide (x≤h+1)=true:=(by simpa using ht);go_wp2_with fail;go_quiet (fail);go_wp2_with fail;go_ret;rw [HP.out,HG.out];exact⟨rfl,below_drewN (hb.alloc hz _) _⟩
   rw [if_neg ht,← BF]at aV;have HG:=qqh aV;have HX:=qqh hx;have xm:=qqh hp;have Qs:=qqh EC;clear aV hx c0 c1 c3 R4 EC BF hh hp;have ht2:decide (x≤h+1)=false:=(by simpa using ht);go_wp2_with fail;go_quiet (fail);go_wp2_with fail;exact⟨⟨j+1+1,by omega,by go_num,HG.out,Qs.out,below_drewN (hb.alloc hz _) _⟩,by simp [intOf];omega⟩
 obtain rfl:j=n:=(by omega);rw [List.drop_of_length_le (by rw [aO.out];omega)]at aV;have HG:=qqh (aV.trans (show iD (j6 l j) [] = 0 from rfl));clear aV R4;go_wp2_with fail;go_ret;rw [HP.out,HG.out];exact⟨rfl,hb⟩
def bt (s:af) (r:Int):Bool:=s.any fun x=>decide (x.1≤r) && decide (r≤x.2)
theorem xG (s:af):∀ prev:Option Int,iD prev s=0→(∀ h,prev=some h→∀ x∈s,h+1<x.1)∧(∀ x∈s,0≤x.1∧x.1≤x.2∧x.2≤1114111)∧s.Pairwise (fun a b=>a.2+1<b.1):=by
 induction s with
 | nil=>intro prev _;exact⟨by simp,by simp,List.Pairwise.nil⟩
 | cons z s ih=>
  obtain⟨a,b⟩:=z;intro prev h;rw [iD]at h;by_cases h1:a<0∨1114111<b∨b<a
  ·rw [if_pos h1]at h;cases h
  rw [if_neg h1]at h;by_cases h2:uQ prev a=true
  ·rw [if_pos h2]at h;cases h
  rw [if_neg h2]at h;obtain⟨g1,g2,g3⟩:=ih (some b) h;refine⟨fun q hq x hx=>?_,fun x hx=>?_,List.pairwise_cons.2 ⟨fun x hx=>g1 b rfl x hx,g3⟩⟩
  ·subst hq;simp only [uQ,decide_eq_true_eq]at h2;rcases List.mem_cons.1 hx with rfl | hx
   ·show q+1<a;omega
   have:=g1 b rfl x hx;have:=(g2 x hx).1;omega
  rcases List.mem_cons.1 hx with rfl | hx
  ·show 0≤a∧a≤b∧b≤1114111;omega
  exact g2 x hx
structure aE (s:af):Prop where
  size:s.length≤200
  each:∀ x∈s,0≤x.1∧x.1≤x.2∧x.2≤1114111
  me:s.Pairwise (fun a b=>a.2+1<b.1)
theorem iS {s:af} (h:bA s=0):aE s:=by
 unfold bA at h;by_cases h2:200<s.length
 ·rw [if_pos h2]at h;cases h
 rw [if_neg h2]at h;obtain⟨_,g2,g3⟩:=xG s none h;exact⟨by omega,g2,g3⟩
theorem aE.lt {s:af} (h:aE s) {i j:Nat} {x y:Int × Int} (hx:s[i]? = some x) (hy:s[j]? = some y) (hij:i<j):x.2+1<y.1:=by
 obtain⟨hi,rfl⟩:=List.getElem?_eq_some_iff.1 hx;obtain⟨hj,rfl⟩:=List.getElem?_eq_some_iff.1 hy;exact List.pairwise_iff_getElem.1 h.me i j hi hj hij
theorem M8 {s:af} (h:aE s) (r:Int) {k:Nat} (h1:∀ t x,t<k→s[t]? = some x→x.2<r) (h2:∀ t x,k≤t→s[t]? = some x→r≤x.2) :
    bt s r=match s[k]? with | some x=>decide (x.1≤r) | none=>false:=by
 have key:bt s r=true↔∃ x,s[k]? = some x∧x.1≤r:=by
  unfold bt;rw [List.any_eq_true];constructor
  ·rintro⟨x,hx,hp⟩;simp only [Bool.and_eq_true,decide_eq_true_eq]at hp;obtain⟨i,hi⟩:=List.mem_iff_getElem?.1 hx;have hki:k≤i:=by
    rcases Nat.lt_or_ge i k with hlt | hge
    ·have:=h1 i x hlt hi;omega
    exact hge
   rcases Nat.lt_or_ge k i with hlt | hge
   ·obtain⟨y,hy⟩:∃ y,s[k]? = some y:=⟨_,List.getElem?_eq_getElem (by have:=(List.getElem?_eq_some_iff.1 hi).1;omega)⟩;have:=h.lt hy hi hlt;have:=h2 k y (Nat.le_refl _) hy;omega
   obtain rfl:i=k:=(by omega);exact⟨x,hi,hp.1⟩
  rintro⟨x,hx,hr⟩;exact⟨x,List.mem_of_getElem? hx,by simp only [Bool.and_eq_true,decide_eq_true_eq];exact⟨hr,h2 k x (Nat.le_refl _) hx⟩⟩
 cases hk:s[k]? with
 | none=>
  rw [hk]at key;simpa using key
 | some x=>
  rw [hk]at key;rw [Bool.eq_iff_iff,key];simp
def eF (s:af):List Int:=s.flatMap fun x=>[x.1,x.2+1]
def oe (E:List Int) (r:Int):List Int :=
  if 1114111<r∨r∈E then E else E.takeWhile (fun x=>decide (x<r))++r::E.dropWhile (fun x=>decide (x<r))
theorem zf {E:List Int} (h:E.Pairwise (· < ·)) (r:Int):(∀ x∈E.takeWhile (fun x=>decide (x<r)),x<r)∧(∀ x∈E.dropWhile (fun x=>decide (x<r)),r≤x):=by
 induction E with
 | nil=>simp
 | cons a E ih=>
  rw [List.pairwise_cons]at h;obtain⟨g1,g2⟩:=ih h.2;by_cases ha:a<r
  ·simp only [List.takeWhile_cons,List.dropWhile_cons,ha,decide_true,if_true];exact⟨fun x hx=>by rcases List.mem_cons.1 hx with rfl | hx;exact ha;exact g1 x hx,g2⟩
  simp only [List.takeWhile_cons,List.dropWhile_cons,ha,decide_false,Bool.false_eq_true,if_false];refine⟨by simp,fun x hx=>?_⟩;rcases List.mem_cons.1 hx with rfl | hx;omega;have:=h.1 x hx;omega
theorem LF (E:List Int) (r x:Int):x∈oe E r↔x∈E∨(x=r∧r≤1114111):=by
 unfold oe;split
 ·rename_i h;constructor;exact .inl;rintro(h2 | ⟨rfl,h2⟩);exact h2;rcases h with h | h;omega;exact h
 rename_i h;rw [not_or]at h;have:x∈E↔x∈E.takeWhile (fun x=>decide (x<r))∨x∈E.dropWhile (fun x=>decide (x<r)):=by
  (conv=>lhs;rw [← List.takeWhile_append_dropWhile (p:=fun x=>decide (x<r)) (l:=E)]);rw [List.mem_append]
 rw [List.mem_append,List.mem_cons,this];constructor
 ·rintro(h1 | rfl | h1);exact .inl (.inl h1);exact .inr ⟨rfl,by omega⟩;exact .inl (.inr h1)
 rintro((h1 | h1) | ⟨rfl,_⟩);exact .inl h1;exact .inr (.inr h1);exact .inr (.inl rfl)
theorem IY {E:List Int} (h:E.Pairwise (· < ·)) (r:Int):(oe E r).Pairwise (· < ·):=by
 unfold oe;split;exact h;rename_i hn;rw [not_or]at hn;obtain⟨g1,g2⟩:=zf h r;have hs:=h;rw [← List.takeWhile_append_dropWhile (p:=fun x=>decide (x<r)) (l:=E),List.pairwise_append]at hs;rw [List.pairwise_append];refine⟨hs.1,List.pairwise_cons.2 ⟨fun x hx=>?_,hs.2.1⟩,fun a ha b hb=>?_⟩
 ·have:=g2 x hx;rcases Int.lt_or_eq_of_le this with h1 | rfl;exact h1;exact absurd ((List.dropWhile_sublist _).subset hx) hn.2
 rcases List.mem_cons.1 hb with rfl | hb;exact g1 a ha;exact hs.2.2 a ha b hb
theorem sF (xs:List Int):∀ (E:List Int) (x:Int),x∈xs.foldl oe E↔x∈E∨(x∈xs∧x≤1114111):=by
 induction xs with
 | nil=>intro E x;simp
 | cons a xs ih=>
  intro E x;rw [List.foldl_cons,ih,LF];constructor
  ·rintro((h | ⟨rfl,h⟩) | ⟨h,h2⟩);exact .inl h;exact .inr ⟨by simp,h⟩;exact .inr ⟨by simp [h],h2⟩
  rintro(h | ⟨h,h2⟩);exact .inl (.inl h);rcases List.mem_cons.1 h with rfl | h;exact .inl (.inr ⟨rfl,h2⟩);exact .inr ⟨h,h2⟩
theorem qx (xs:List Int):∀ (E:List Int),E.Pairwise (· < ·)→(xs.foldl oe E).Pairwise (· < ·):=by
 induction xs with
 | nil=>intro E h;exact h
 | cons a xs ih=>intro E h;rw [List.foldl_cons];exact ih _ (IY h a)
theorem Me (E:List Int) (r:Int):E.length≤(oe E r).length∧(oe E r).length≤E.length+1:=by
 unfold oe;split;omega;have:=congrArg List.length (List.takeWhile_append_dropWhile (p:=fun x=>decide (x<r)) (l:=E));rw [List.length_append]at this;rw [List.length_append,List.length_cons];omega
theorem CN (xs:List Int):∀ (E:List Int),E.length≤(xs.foldl oe E).length∧(xs.foldl oe E).length≤E.length+xs.length:=by
 induction xs with
 | nil=>intro E;simp
 | cons a xs ih=>intro E;rw [List.foldl_cons,List.length_cons];have:=ih (oe E a);have:=Me E a;omega
theorem Fm (s:af):(eF s).length=2*s.length:=by
 induction s with
 | nil=>rfl
 | cons x s ih=>unfold eF at ih ⊢;rw [List.flatMap_cons,List.length_append,ih,List.length_cons];simp;omega
def cZ (E:List Int) (j:Nat):Int:=match E[j+1]? with | some y=>y - 1 | none=>1114111
theorem wv {s:af} {a r:Int} (MF:a≤r) (h:∀ e∈eF s,¬(a<e∧e≤r)):bt s r=bt s a:=by
 unfold bt;induction s with
 | nil=>rfl
 | cons x s ih=>
  have h1:=h x.1 (by simp [eF]);have h2:=h (x.2+1) (by simp [eF]);have hs:=ih (fun e he=>h e (by unfold eF at he ⊢;rw [List.flatMap_cons];exact List.mem_append_right _ he));rw [List.any_cons,List.any_cons,hs];congr 1;rw [Bool.eq_iff_iff];simp only [Bool.and_eq_true,decide_eq_true_eq];omega
theorem jO {E:List Int} (h:E.Pairwise (· < ·)) {i j:Nat} {x y:Int} (hx:E[i]? = some x) (hy:E[j]? = some y) (hij:i<j):x<y:=by
 obtain⟨hi,rfl⟩:=List.getElem?_eq_some_iff.1 hx;obtain⟨hj,rfl⟩:=List.getElem?_eq_some_iff.1 hy;exact List.pairwise_iff_getElem.1 h i j hi hj hij
def fM (L:List af):List Int:=(L.flatMap eF).foldl oe [0]
structure Canon (s:af):Prop where
  each:∀ x∈s,0≤x.1∧x.1≤x.2∧x.2≤1114111
  me:s.Pairwise (fun a b=>a.2+1<b.1)
theorem aE.canon {s:af} (h:aE s):Canon s:=⟨h.each,h.me⟩
theorem Canon.right {s:af} (h:Canon s) (hl:s.length≤200):aE s:=⟨hl,h.each,h.me⟩
theorem Canon.nil:Canon []:=⟨by simp,List.Pairwise.nil⟩
theorem Canon.tail {x:Int × Int} {s:af} (h:Canon (x::s)):Canon s:=⟨fun y hy=>h.each y (List.mem_cons_of_mem _ hy),(List.pairwise_cons.1 h.me).2⟩
theorem Canon.low {x:Int × Int} {s:af} (h:Canon (x::s)):∀ y∈s,x.2+1<y.1:=(List.pairwise_cons.1 h.me).1
theorem bW (x:Int × Int) (s:af) (r:Int):bt (x::s) r=((decide (x.1≤r) && decide (r≤x.2)) || bt s r):=rfl
theorem dS (a b:af) (r:Int):bt (a++b) r=(bt a r || bt b r):=List.any_append
theorem mZ {s:af} {r:Int}:bt s r=true↔∃ x∈s,x.1≤r∧r≤x.2:=by
 unfold bt;rw [List.any_eq_true];constructor
 ·rintro⟨x,hx,h⟩;simp at h;exact⟨x,hx,h⟩
 rintro⟨x,hx,h1,h2⟩;exact⟨x,hx,by simp [h1,h2]⟩
theorem dZ {s:af} {m r:Int} (h:∀ y∈s,m<y.1) (hr:r≤m):bt s r=false:=by
 rw [Bool.eq_false_iff,ne_eq,mZ];rintro⟨x,hx,h1,_⟩;have:=h x hx;omega
theorem Hp {s:af} {m r:Int} (h:∀ y∈s,y.2<m) (hr:m≤r):bt s r=false:=by
 rw [Bool.eq_false_iff,ne_eq,mZ];rintro⟨x,hx,_,h1⟩;have:=h x hx;omega
theorem AP:∀ {a b:af},Canon a→Canon b→(∀ r,0≤r→r≤1114111→bt a r=bt b r)→a=b:=by
 intro a;induction a with
 | nil=>
  intro b _ hb h;cases b with
  | nil=>rfl
  | cons y b=>
   have hy:=hb.each y List.mem_cons_self;have:=h y.1 (by omega) (by omega);rw [bW]at this;simp [bt,hy.2.1]at this
 | cons x a ih=>
  intro b ha hb h;have hx:=ha.each x List.mem_cons_self;cases b with
  | nil=>
   have:=h x.1 (by omega) (by omega);rw [bW]at this;simp [bt,hx.2.1]at this
  | cons y b=>
   have hy:=hb.each y List.mem_cons_self;have la:=ha.low;have lb:=hb.low;have h1:¬ x.1<y.1:=fun hl=>by
    have:=h x.1 (by omega) (by omega);rw [bW,bW,dZ (s:=b) (m:=y.2+1) lb (by omega)]at this;simp [hx.2.1]at this;omega
   have h2:¬ y.1<x.1:=fun hl=>by
    have:=h y.1 (by omega) (by omega);rw [bW,bW,dZ (s:=a) (m:=x.2+1) la (by omega)]at this;simp [hy.2.1]at this;omega
   have h3:¬ x.2<y.2:=fun hl=>by
    have:=h (x.2+1) (by omega) (by omega);rw [bW,bW,dZ (s:=a) (m:=x.2+1) la (by omega),dZ (s:=b) (m:=y.2+1) lb (by omega),decide_eq_false (p:=x.2+1≤x.2) (by omega),decide_eq_true (p:=y.1≤x.2+1) (by omega),decide_eq_true (p:=x.2+1≤y.2) (by omega)]at this;simp at this
   have h4:¬ y.2<x.2:=fun hl=>by
    have:=h (y.2+1) (by omega) (by omega);rw [bW,bW,dZ (s:=b) (m:=y.2+1) lb (by omega),dZ (s:=a) (m:=x.2+1) la (by omega),decide_eq_false (p:=y.2+1≤y.2) (by omega),decide_eq_true (p:=x.1≤y.2+1) (by omega),decide_eq_true (p:=y.2+1≤x.2) (by omega)]at this;simp at this
   obtain⟨xl,xh⟩:=x;obtain⟨yl,yh⟩:=y;dsimp only at *;obtain rfl:xl=yl:=(by omega);obtain rfl:xh=yh:=(by omega);rw [ih ha.tail hb.tail fun r XH Np=>?_];by_cases hr:r≤xh
   ·rw [dZ (s:=a) (m:=xh+1) la (by omega),dZ (s:=b) (m:=xh+1) lb (by omega)]
   have:=h r XH Np;rw [bW,bW]at this;simpa [hr] using this
def sW (acc:af) (low high:Int):af :=
  match acc.getLast? with
  | some x=>if x.2+1=low then acc.dropLast++[(x.1,high)]else acc++[(low,high)]
  | none=>acc++[(low,high)]
theorem Gi (low high:Int):sW [] low high = [(low,high)]:=rfl
theorem DF (i:af) (x:Int × Int) (low high:Int):sW (i++[x]) low high=if x.2+1=low then i++[(x.1,high)]else i++[x]++[(low,high)]:=by
 unfold sW;simp
theorem mg {i:af} {x:Int × Int} (hi:Canon i) (hx:0≤x.1∧x.1≤x.2∧x.2≤1114111) (h:∀ y∈i,y.2+1<x.1):Canon (i++[x]):=by
 refine⟨fun y hy=>?_,?_⟩
 ·rcases List.mem_append.1 hy with hy | hy;exact hi.each y hy;rw [List.mem_singleton.1 hy];exact hx
 rw [List.pairwise_append];exact⟨hi.me,List.pairwise_singleton _ _,fun a ha b hb=>by rw [List.mem_singleton.1 hb];exact h a ha⟩
theorem vg {i:af} {x:Int × Int} (h:Canon (i++[x])):Canon i∧(0≤x.1∧x.1≤x.2∧x.2≤1114111)∧∀ y∈i,y.2+1<x.1:=by
 have hr:=List.pairwise_append.1 h.me;exact⟨⟨fun y hy=>h.each y (by simp [hy]),hr.1⟩,h.each x (by simp),fun y hy=>hr.2.2 y hy x (by simp)⟩
theorem DD {acc:af} {low high:Int} (h:Canon acc) (hl:∀ x∈acc,x.2<low) (h0:0≤low) (h1:low≤high) (h2:high≤1114111) :
    Canon (sW acc low high)∧(∀ x∈sW acc low high,x.2≤high)∧∀ r,bt (sW acc low high) r=(bt acc r || (decide (low≤r) && decide (r≤high))):=by
 rcases List.eq_nil_or_concat acc with rfl | ⟨i,x,rfl⟩
 ·rw [Gi];exact⟨⟨by simp;omega,List.pairwise_singleton _ _⟩,by simp,fun r=>by simp [bt]⟩
 rw [List.concat_eq_append]at h hl ⊢;obtain⟨hi,hx,Xo⟩:=vg h;have hxl:=hl x (by simp);rw [DF];by_cases he:x.2+1=low
 ·rw [if_pos he];refine⟨mg hi ⟨hx.1,by simp only;omega,h2⟩ Xo,fun y hy=>?_,fun r=>?_⟩
  ·rcases List.mem_append.1 hy with hy | hy
   ·have:=hl y (by simp [hy]);omega
   rw [List.mem_singleton.1 hy];exact Int.le_refl _
  rw [dS,dS,Bool.or_assoc];congr 1;simp only [bt,List.any_cons,List.any_nil,Bool.or_false];rw [Bool.eq_iff_iff];simp;omega
 rw [if_neg he];refine⟨mg h ⟨h0,h1,h2⟩ (fun y hy=>?_),fun y hy=>?_,fun r=>?_⟩
 ·simp only;rcases List.mem_append.1 hy with hy | hy
  ·have:=Xo y hy;omega
  rw [List.mem_singleton.1 hy];omega
 ·rcases List.mem_append.1 hy with hy | hy
  ·have:=hl y hy;omega
  rw [List.mem_singleton.1 hy];exact Int.le_refl _
 rw [dS];congr 1;simp [bt]
def cJ (E:List Int) (h:Int→Bool):Nat→af
  | 0=>[]
  | j+1=>match E[j]? with | none=>cJ E h j | some a=>if h a=true then sW (cJ E h j) a (cZ E j)else cJ E h j
theorem wG {E:List Int} {h:Int→Bool} {j:Nat} {a:Int} (ha:E[j]? = some a):cJ E h (j+1)=if h a=true then sW (cJ E h j) a (cZ E j)else cJ E h j:=by
 rw [cJ,ha]
def rM (E:List Int) (h:Int→Bool):af × Int:=if 200<(cJ E h E.length).length then ([],5)else (cJ E h E.length,0)
structure nS (E:List Int) (h:Int→Bool):Prop where
  me:E.Pairwise (· < ·)
  zero:E[0]? = some 0
  top:∀ x∈E,x≤1114111
  const:∀ j a r,E[j]? = some a→a≤r→r≤cZ E j→h r=h a
theorem P9 {E:List Int} {h:Int→Bool} (hE:nS E h) {j:Nat} {a:Int} (ha:E[j]? = some a):0≤a∧a≤cZ E j∧cZ E j≤1114111∧cZ E j+1=(E[j+1]?).getD 1114112:=by
 have h0:0≤a:=by
  rcases Nat.eq_zero_or_pos j with rfl | hj
  ·rw [hE.zero]at ha;obtain rfl:=Option.some.inj ha;exact Int.le_refl _
  have:=jO hE.me hE.zero ha hj;omega
 have ht:=hE.top a (List.mem_of_getElem? ha);unfold cZ;cases he:E[j+1]? with
 | none=>simp;omega
 | some y=>
  have h1:=jO hE.me ha he (Nat.lt_succ_self j);have h2:=hE.top y (List.mem_of_getElem? he);simp only [Option.getD_some];omega
theorem EV {E:List Int} {h:Int→Bool} (hE:nS E h):∀ j,j≤E.length →
    Canon (cJ E h j)∧(∀ x∈cJ E h j,x.2<(E[j]?).getD 1114112)∧∀ r,0≤r→r<(E[j]?).getD 1114112→bt (cJ E h j) r=h r:=by
 intro j;induction j with
 | zero=>exact fun _=>⟨Canon.nil,by simp [cJ],fun r h0 h1=>by rw [hE.zero]at h1;simp at h1;omega⟩
 | succ j ih=>
  intro hj;obtain⟨a,ha⟩:∃ a,E[j]? = some a:=⟨_,List.getElem?_eq_getElem (by omega)⟩;obtain⟨i1,i2,i3⟩:=ih (by omega);rw [ha,Option.getD_some]at i2 i3;obtain⟨g0,g1,g2,g3⟩:=P9 hE ha;rw [wG ha,← g3];by_cases hh:h a=true
  ·rw [if_pos hh];obtain⟨s1,s2,s3⟩:=DD i1 i2 g0 g1 g2;refine⟨s1,fun x hx=>by have:=s2 x hx;omega,fun r h0 h1=>?_⟩;rw [s3];by_cases hr:r<a
   ·rw [i3 r h0 hr];simp;omega
   rw [hE.const j a r ha (by omega) (by omega),hh];simp;right;omega
  rw [if_neg hh];refine⟨i1,fun x hx=>by have:=i2 x hx;omega,fun r h0 h1=>?_⟩;by_cases hr:r<a;exact i3 r h0 hr;rw [hE.const j a r ha (by omega) (by omega),Hp i2 (by omega)];simpa using hh
theorem yX {E:List Int} {h:Int→Bool} (hE:nS E h):Canon (cJ E h E.length)∧∀ r,0≤r→r≤1114111→bt (cJ E h E.length) r=h r:=by
 obtain⟨h1,_,h3⟩:=EV hE E.length (Nat.le_refl _);rw [List.getElem?_eq_none (Nat.le_refl _),Option.getD_none]at h3;exact⟨h1,fun r a b=>h3 r a (by omega)⟩
theorem C3 {E:List Int} {h:Int→Bool} (hE:nS E h) {s:af} (hs:Canon s) (hh:∀ r,0≤r→r≤1114111→bt s r=h r):rM E h=if 200<s.length then ([],5)else (s,0):=by
 obtain⟨b1,b2⟩:=yX hE;have:cJ E h E.length=s:=AP b1 hs fun r h0 h1=>(by rw [b2 r h0 h1,hh r h0 h1]);unfold rM;rw [this]
theorem iC (L:List af) (x:Int):x∈fM L↔x=0∨(x∈L.flatMap eF∧x≤1114111):=by
 unfold fM;rw [sF];simp
theorem lE (L:List af):(fM L).Pairwise (· < ·):=qx _ _ (by simp)
theorem AL {L:List af} {j:Nat} {a:Int} (hj:(fM L)[j]? = some a):∀ r,a≤r→r≤cZ (fM L) j→∀ e∈L.flatMap eF,¬(a<e∧e≤r):=by
 intro r h1 h2 e he ⟨h3,h4⟩;have Cb:=lE L;by_cases hm:e≤1114111
 ·obtain⟨k,hk⟩:=List.mem_iff_getElem?.1 ((iC L e).2 (.inr ⟨he,hm⟩));have hjk:j<k:=by
   rcases Nat.lt_or_ge j k with h | h;exact h;rcases Nat.lt_or_ge k j with h' | h'
   ·have:=jO Cb hk hj h';omega
   obtain rfl:j=k:=(by omega);rw [hk]at hj;injection hj;omega
  obtain⟨y,hy⟩:∃ y,(fM L)[j+1]? = some y:=⟨_,List.getElem?_eq_getElem (by have:=(List.getElem?_eq_some_iff.1 hk).1;omega)⟩;unfold cZ at h2;rw [hy]at h2;simp only at h2;rcases Nat.lt_or_ge (j+1) k with h | h
  ·have:=jO Cb hy hk h;omega
  obtain rfl:k=j+1:=(by omega);rw [hy]at hk;injection hk;omega
 unfold cZ at h2;split at h2
 ·rename_i y hy;have:=(iC L y).1 (List.mem_of_getElem? hy);omega
 omega
theorem xM {L:List af} (h:∀ s∈L,aE s):(fM L)[0]? = some 0:=by
 obtain⟨k,hk⟩:=List.mem_iff_getElem?.1 ((iC L 0).2 (.inl rfl));obtain⟨y,hy⟩:∃ y,(fM L)[0]? = some y:=⟨_,List.getElem?_eq_getElem (by have:=(List.getElem?_eq_some_iff.1 hk).1;omega)⟩;have h0:0≤y:=by
  rcases (iC L y).1 (List.mem_of_getElem? hy)with rfl | ⟨h1,_⟩;exact Int.le_refl _;obtain⟨s,hs,he⟩:=List.mem_flatMap.1 h1;unfold eF at he;obtain⟨x,hx,he⟩:=List.mem_flatMap.1 he;have:=(h s hs).each x hx;simp at he;omega
 rcases Nat.eq_zero_or_pos k with rfl | hk0;exact hk;have:=jO (lE L) hy hk hk0;omega
theorem qi {L:List af} (hL:∀ s∈L,aE s) {h:Int→Bool} (hc:∀ a r,(∀ s∈L,bt s r=bt s a)→h r=h a):nS (fM L) h where
  me:=lE L
  zero:=xM hL
  top:=fun x hx=>by rcases (iC L x).1 hx with rfl | ⟨_,h⟩ <;> omega
  const:=fun j a r hj h1 h2=>hc a r fun s hs=>wv h1 fun e he=>AL hj r h1 h2 e (List.mem_flatMap.2 ⟨s,hs,he⟩)
def mC (op:Int) (a b:af) (r:Int):Bool:=(decide (op=124) && (bt a r || bt b r)) || ((decide (op=38) && bt a r && bt b r) || (decide (op=45) && bt a r && !bt b r))
def mJ (op:Int) (a b:af):af × Int :=
  if bA a≠0 then ([],bA a)else if op=94 then rM (fM [a]) (fun r=>!bt a r)
  else if bA b≠0 then ([],bA b)else rM (fM [a,b]) (mC op a b)
theorem gH {s:af} (h:aE s):bA s=0:=by
 unfold bA;rw [if_neg (by have:=h.size;omega)];have:∀ (s:af) (prev:Option Int),Canon s→(∀ p,prev=some p→∀ x∈s,p+1<x.1)→iD prev s=0:=by
  intro s;induction s with
  | nil=>intro prev _ _;rfl
  | cons x s ih=>
   intro prev hc hp;obtain⟨a,b⟩:=x;have he:=hc.each (a,b) List.mem_cons_self;dsimp only at he;rw [iD,if_neg (by omega)];have ht:uQ prev a=false:=by
    cases prev with
    | none=>rfl
    | some p=>have:=hp p rfl (a,b) List.mem_cons_self;simp [uQ];omega
   rw [ht,if_neg (by decide)];exact ih _ hc.tail fun p hp' y hy=>by
    obtain rfl:=Option.some.inj hp';exact hc.low y hy
 exact this s none h.canon (fun p hp=>by cases hp)
theorem PJ {a s:af} (ha:aE a) (hs:Canon s) (hh:∀ r,0≤r→r≤1114111→bt s r = !bt a r) (b:af):mJ 94 a b=if 200<s.length then ([],5)else (s,0):=by
 unfold mJ;rw [if_neg (by rw [gH ha];decide),if_pos rfl];exact C3 (qi (by simpa using ha) (fun x r h=>by rw [h a (by simp)])) hs hh
theorem LH {op:Int} {a b s:af} (ni:op≠94) (ha:aE a) (hb:aE b) (hs:Canon s) (hh:∀ r,0≤r→r≤1114111→bt s r=mC op a b r):mJ op a b=if 200<s.length then ([],5)else (s,0):=by
 unfold mJ;rw [if_neg (by rw [gH ha];decide),if_neg ni,if_neg (by rw [gH hb];decide)];exact C3 (qi (by simpa using ⟨ha,hb⟩) (fun x r h=>by unfold mC;rw [h a (by simp),h b (by simp)])) hs hh
theorem sK (E:List Int) (h:Int→Bool) (hE:nS E h):aE (rM E h).1:=by
 unfold rM;by_cases hl:200<(cJ E h E.length).length
 ·rw [if_pos hl];exact⟨Nat.zero_le _,by simp,List.Pairwise.nil⟩
 rw [if_neg hl];exact(yX hE).1.right (by omega)
theorem jc (op:Int) {a b:af} (ha:aE a) (hb:aE b):aE (mJ op a b).1:=by
 unfold mJ;rw [if_neg (by rw [gH ha];decide)];by_cases ni:op=94
 ·rw [if_pos ni];exact sK _ _ (qi (by simpa using ha) (fun x r h=>by rw [h a (by simp)]))
 rw [if_neg ni,if_neg (by rw [gH hb];decide)];exact sK _ _ (qi (by simpa using ⟨ha,hb⟩) (fun x r h=>by unfold mC;rw [h a (by simp),h b (by simp)]))
def pk (L:List Int) (i:Nat):Int:=(L[i]?).getD (-1)
def pO (r:Int):Bool:=decide (r=32) || (decide (r=9) || decide (r=10))
def qg:List Int:=[91,93,38,45,94,92,58,36,40,41,123,125,60,62,124,59,35,39,34,61,44]
def cU (r:Int):Bool:=decide (0≤r) && (!pO r && !qg.contains r)
def eJ (r:Int):Bool:=(decide (48≤r) && decide (r≤57)) || ((decide (97≤r) && decide (r≤102)) || (decide (65≤r) && decide (r≤70)))
def pn (r:Int):Int:=if r≤57 then r - 48 else if 97≤r then r - 87 else r - 55
def EF (r:Int):Bool:=(decide (48≤r) && decide (r≤57)) || ((decide (97≤r) && decide (r≤122)) || (decide (65≤r) && decide (r≤90)))
def aB (p:Int→Bool) (L:List Int) (i:Nat):Nat:=i+((L.drop i).takeWhile p).length
def aN (L:List Int) (i:Nat):Nat:=aB pO L i
def aM (L:List Int) (i j:Nat):List Int:=(L.drop i).take (j - i)
abbrev jN (α:Type):=Except (Int × Nat) (α × Nat)
def aQ (L:List Int) (i:Nat) (r:Int):Except (Int × Nat) Nat:=if pk L i=r then .ok (i+1)else .error (2,i)
def dW (ds:List Int):Int:=ds.foldl (fun x d=>16*x+pn d) 0
def ki (L:List Int) (i:Nat):jN Int :=
  match aQ L (i+1) 123 with
  | .error e=>.error e
  | .ok a=>
    if aB eJ L a - a<1∨6<aB eJ L a - a then .error (2,a)
    else match aQ L (aB eJ L a) 125 with
      | .error e=>.error e
      | .ok j=>if 1114111<dW (aM L a (aB eJ L a))then .error (3,i)else .ok (dW (aM L a (aB eJ L a)),j)
def cQ (L:List Int) (i:Nat):jN Int :=
  if cU (pk L i)=true then .ok (pk L i,i+1)
  else if pk L i≠92 then .error (2,i)
  else if pk L (i+1)=110 then .ok (10,i+2)
  else if pk L (i+1)=116 then .ok (9,i+2)
  else if pk L (i+1)=117 then ki L (i+1)
  else if pk L (i+1)<0∨EF (pk L (i+1))=true then .error (2,i+1)
  else .ok (pk L (i+1),i+2)
def i6 (L:List Int) (i:Nat):jN (Int × Int) :=
  match cQ L i with
  | .error e=>.error e
  | .ok (low,j)=>
    if pk L j=45∧pk L (j+1)≠91 then
      match cQ L (j+1)with
      | .error e=>.error e
      | .ok (high,k)=>if high<low then .error (3,j+1)else .ok ((low,high),k)
    else .ok ((low,low),j)
def gz (n:List Int):Option af :=
  if n = [100,105,103,105,116]then some [(48,57)]
  else if n = [108,111,119,101,114]then some [(97,122),(223,246),(248,255)]
  else if n = [117,112,112,101,114]then some [(65,90),(192,214),(216,222)]
  else if n = [108,101,116,116,101,114]then some [(65,90),(97,122),(192,214),(216,246),(248,255)]
  else if n = [118,111,119,101,108]then some [(65,65),(69,69),(73,73),(79,79),(85,85),(97,97),(101,101),(105,105),(111,111),(117,117)]
  else if n = [103,114,101,101,107]then some [(880,1023)]
  else if n = [99,121,114,105,108,108,105,99]then some [(1024,1279)]
  else if n = [115,112,97,99,101]then some [(9,10),(32,32)]
  else if n = [97,110,121]then some [(0,1114111)]
  else none
def eE (L:List Int) (i:Nat):jN af :=
  match gz (aM L (i+2) (aB cU L (i+2)))with
  | none=>.error (7,i+2)
  | some s=>
    match aQ L (aB cU L (i+2)) 58 with
    | .error e=>.error e
    | .ok j=>match aQ L j 93 with
      | .error e=>.error e
      | .ok k=>.ok (s,k)
def tJ (r:Int):Int:=if r=38∨r=45 then r else 124
def dh (inner:Nat→jN af) (L:List Int) (i:Nat):jN af :=
  if pk L i=91∧pk L (i+1)=58 then eE L i
  else if pk L i=91 then inner i
  else if pk L i=38∨pk L i=45 then inner (aN L (i+1))
  else match i6 L i with
    | .error e=>.error e
    | .ok (x,j)=>.ok ([x],j)
def dL (inner:Nat→jN af) (L:List Int):Nat→Nat→af→jN af
  | 0,i,_=>.error (2,i)
  | f+1,i,cur=>
    if pk L (aN L i)=93 then .ok (cur,aN L i+1)
    else match dh inner L (aN L i)with
      | .error e=>.error e
      | .ok (s,j)=>
        if (mJ (tJ (pk L (aN L i))) cur s).2≠0 then .error ((mJ (tJ (pk L (aN L i))) cur s).2,j)
        else dL inner L f j (mJ (tJ (pk L (aN L i))) cur s).1
def bE (L:List Int):Nat→Nat→jN af
  | 0,i=>.error (if pk L i=91 then 4 else 2,i)
  | n+1,i=>
    match aQ L i 91 with
    | .error e=>.error e
    | .ok j=>
      match dL (bE L n) L (L.length+1) (if pk L j=94 then j+1 else j) []with
      | .error e=>.error e
      | .ok (cur,k)=>
        if pk L j=94 then (if (mJ 94 cur []).2≠0 then .error ((mJ 94 cur []).2,k)else .ok ((mJ 94 cur []).1,k))
        else .ok (cur,k)
theorem bB {L:List Int} {i:Nat} (h:pk L i ≠ -1):i<L.length:=by
 unfold pk at h;rcases Nat.lt_or_ge i L.length with hl | hl;exact hl;rw [List.getElem?_eq_none hl]at h;exact absurd rfl h
theorem F3 {L:List Int} {i:Nat} {r:Int} (h:L[i]? = some r):pk L i=r:=by unfold pk;rw [h];rfl
theorem pz {L:List Int} {i:Nat} (h:L.length≤i):pk L i = -1:=by unfold pk;rw [List.getElem?_eq_none h];rfl
theorem dK {p:Int→Bool} {L:List Int} {i:Nat} (h:i<L.length) (hp:p (pk L i)=true):aB p L i=aB p L (i+1):=by
 unfold aB;rw [List.drop_eq_getElem_cons h,List.takeWhile_cons];have:pk L i=L[i]:=F3 (List.getElem?_eq_getElem h);rw [this]at hp;rw [hp];simp;omega
theorem cI {p:Int→Bool} {L:List Int} {i:Nat} (h:i<L.length→p (pk L i)=false):aB p L i=i:=by
 unfold aB;rcases Nat.lt_or_ge i L.length with hl | hl
 ·rw [List.drop_eq_getElem_cons hl,List.takeWhile_cons];have:pk L i=L[i]:=F3 (List.getElem?_eq_getElem hl);have h2:=h hl;rw [this]at h2;rw [h2];simp
 rw [List.drop_of_length_le hl];simp
theorem gV {p:Int→Bool} {L:List Int} {i:Nat} (h:i≤L.length):i≤aB p L i∧aB p L i≤L.length:=by
 unfold aB;have:=(List.takeWhile_sublist p (l:=L.drop i)).length_le;rw [List.length_drop]at this;omega
theorem fF {L:List Int} {i j:Nat} {r:Int} (h:aQ L i r=.ok j):j=i+1∧pk L i=r:=by
 unfold aQ at h;split at h
 ·rename_i hp;injection h with h;exact⟨h.symm,hp⟩
 cases h
theorem JS {L:List Int} {i:Nat} {r:Int} (h:pk L i=r):aQ L i r=.ok (i+1):=by unfold aQ;rw [if_pos h]
theorem yN {L:List Int} {i:Nat} {r:Int} (h:pk L i≠r):aQ L i r=.error (2,i):=by unfold aQ;rw [if_neg h]
theorem eI (p:Int→Bool) (L:List Int) (i:Nat):i≤aB p L i:=by unfold aB;omega
theorem dY (L:List Int) (i:Nat):i≤aN L i:=eI _ _ _
def b8 (L:List Int):Prop:=∀ x∈L,0≤x∧x≤1114111
theorem vF {L:List Int} (h:b8 L) (i:Nat):pk L i = -1∨(0≤pk L i∧pk L i≤1114111):=by
 unfold pk;cases hi:L[i]? with
 | none=>exact .inl rfl
 | some x=>exact .inr (h x (List.mem_of_getElem? hi))
theorem Gj {L:List Int} (h:b8 L) {i:Nat} (h0:pk L i ≠ -1):0≤pk L i∧pk L i≤1114111:=by
 rcases vF h i with h1 | h1;exact absurd h1 h0;exact h1
theorem uM {d:Int} (h:eJ d=true):0≤pn d∧pn d≤15:=by
 unfold eJ at h;unfold pn;simp only [Bool.or_eq_true,Bool.and_eq_true,decide_eq_true_eq]at h;split;omega;split <;> omega
theorem oF (ds:List Int):∀ x:Int,0≤x→(∀ d∈ds,eJ d=true)→0≤ds.foldl (fun x d=>16*x+pn d) x∧ds.foldl (fun x d=>16*x+pn d) x<(x+1)*16 ^ ds.length:=by
 induction ds with
 | nil=>intro x h _;simp;omega
 | cons d ds ih=>
  intro x hx hd;have h1:=uM (hd d List.mem_cons_self);obtain⟨i1,i2⟩:=ih (16*x+pn d) (by omega) (fun y hy=>hd y (List.mem_cons_of_mem _ hy));rw [List.foldl_cons,List.length_cons];refine⟨i1,Int.lt_of_lt_of_le i2 ?_⟩;have e:(16:Int) ^ (ds.length+1)=16*16 ^ ds.length:=(by rw [Int.pow_succ,Int.mul_comm]);rw [e,← Int.mul_assoc];exact Int.mul_le_mul_of_nonneg_right (by omega) (Int.pow_nonneg (by decide))
theorem oK {p:Int→Bool} (l:List Int):∀ x∈l.takeWhile p,p x=true:=by
 induction l with
 | nil=>simp
 | cons a l ih=>
  intro x hx;rw [List.takeWhile_cons]at hx;split at hx
  ·rcases List.mem_cons.1 hx with rfl | hx;assumption;exact ih x hx
  simp at hx
theorem vE (p:Int→Bool) (L:List Int) (i:Nat):aM L i (aB p L i)=(L.drop i).takeWhile p:=by
 unfold aM aB;rw [Nat.add_sub_cancel_left];have h:=(List.takeWhile_prefix p (l:=L.drop i));exact(List.prefix_iff_eq_take.1 h).symm
theorem zP (L:List Int) (i:Nat) (h:aB eJ L i - i≤6):0≤dW (aM L i (aB eJ L i))∧dW (aM L i (aB eJ L i))<16777216:=by
 rw [vE];obtain⟨h1,h2⟩:=oF ((L.drop i).takeWhile eJ) 0 (Int.le_refl _) (oK _);refine⟨h1,Int.lt_of_lt_of_le h2 ?_⟩;have hl:((L.drop i).takeWhile eJ).length≤6:=(by unfold aB at h;omega);generalize ((L.drop i).takeWhile eJ).length=k at hl;have:k=0∨k=1∨k=2∨k=3∨k=4∨k=5∨k=6:=(by omega);rcases this with rfl | rfl | rfl | rfl | rfl | rfl | rfl <;> decide
theorem OB {L:List Int} {i j:Nat} {x:Int} (h:ki L i=.ok (x,j)):i<j∧0≤x∧x≤1114111:=by
 unfold ki at h;cases h1:aQ L (i+1) 123 with
 | error e=>rw [h1]at h;cases h
 | ok a=>
  rw [h1]at h;simp only at h;split at h
  ·cases h
  rename_i hn;rw [not_or]at hn;have ha:=(fF h1).1;cases h2:aQ L (aB eJ L a) 125 with
  | error e=>rw [h2]at h;cases h
  | ok b=>
   rw [h2]at h;simp only at h;have hb:=(fF h2).1;have:=eI eJ L a;have hr:=zP L a (by omega);split at h
   ·cases h
   injection h with h;injection h with h3 h4;omega
theorem mP {L:List Int} (hL:b8 L) {i j:Nat} {x:Int} (h:cQ L i=.ok (x,j)):i<j∧0≤x∧x≤1114111:=by
 unfold cQ at h;split at h
 ·rename_i hp;injection h with h;injection h with h1 h2;have:pk L i ≠ -1:=fun e=>(by rw [e]at hp;exact absurd hp (by decide));have:=Gj hL this;omega
 split at h
 ·cases h
 split at h
 ·injection h with h;injection h with h1 h2;omega
 split at h
 ·injection h with h;injection h with h1 h2;omega
 split at h
 ·have:=OB h;omega
 split at h
 ·cases h
 rename_i hn;rw [not_or]at hn;injection h with h;injection h with h1 h2;have:=vF hL (i+1);omega
theorem K2 {L:List Int} (hL:b8 L) {i j:Nat} {x:Int × Int} (h:i6 L i=.ok (x,j)):i<j∧0≤x.1∧x.1≤x.2∧x.2≤1114111:=by
 unfold i6 at h;cases h1:cQ L i with
 | error e=>rw [h1]at h;cases h
 | ok p=>
  obtain⟨low,a⟩:=p;rw [h1]at h;have ha:=mP hL h1;simp only at h;split at h
  ·cases h2:cQ L (a+1)with
   | error e=>rw [h2]at h;cases h
   | ok q=>
    obtain⟨high,b⟩:=q;rw [h2]at h;have hb:=mP hL h2;simp only at h;split at h
    ·cases h
    injection h with h;injection h with h3 h4;subst h3;simp only;omega
  injection h with h;injection h with h3 h4;subst h3;simp only;omega
theorem He {x:Int × Int} (h:0≤x.1∧x.1≤x.2∧x.2≤1114111):aE [x]:=⟨by simp,by simpa using h,List.pairwise_singleton _ _⟩
theorem nK:aE []:=⟨Nat.zero_le _,by simp,List.Pairwise.nil⟩
theorem BE {n:List Int} {s:af} (h:gz n=some s):aE s:=by
 have key:∀ s:af,bA s=0→aE s:=fun _=>iS;unfold gz at h;(repeat' (split at h));(all_goals first | (injection h with h;subst h;exact key _ (by decide)) | cases h)
theorem I3 {L:List Int} {i j:Nat} {s:af} (h:eE L i=.ok (s,j)):i<j∧aE s:=by
 unfold eE at h;cases h0:gz (aM L (i+2) (aB cU L (i+2)))with
 | none=>rw [h0]at h;cases h
 | some t=>
  rw [h0]at h;simp only at h;cases h1:aQ L (aB cU L (i+2)) 58 with
  | error e=>rw [h1]at h;cases h
  | ok a=>
   rw [h1]at h;simp only at h;cases h2:aQ L a 93 with
   | error e=>rw [h2]at h;cases h
   | ok b=>
    rw [h2]at h;simp only at h;injection h with h;injection h with h3 h4;subst h3;have:=eI cU L (i+2);have:=(fF h1).1;have:=(fF h2).1;exact⟨by omega,BE h0⟩
def zj (inner:Nat→jN af):Prop:=∀ i s j,inner i=.ok (s,j)→i<j∧aE s
theorem Bv {inner:Nat→jN af} (hi:zj inner) {L:List Int} (hL:b8 L) {i j:Nat} {s:af} (h:dh inner L i=.ok (s,j)):i<j∧aE s:=by
 unfold dh at h;split at h;exact I3 h;split at h;exact hi _ _ _ h;split at h
 ·have:=hi _ _ _ h;have h2:=dY L (i+1);exact⟨by omega,this.2⟩
 cases h1:i6 L i with
 | error e=>rw [h1]at h;cases h
 | ok p=>
  obtain⟨x,a⟩:=p;rw [h1]at h;simp only at h;injection h with h;injection h with h3 h4;subst h3;have:=K2 hL h1;exact⟨by omega,He this.2⟩
theorem GR {inner:Nat→jN af} (hi:zj inner) {L:List Int} (hL:b8 L):∀ (f i j:Nat) (cur s:af),aE cur→dL inner L f i cur=.ok (s,j)→i<j∧aE s:=by
 intro f;induction f with
 | zero=>intro i j cur s _ h;unfold dL at h;cases h
 | succ f ih=>
  intro i j cur s hc h;rw [dL]at h;have h0:=dY L i;split at h
  ·injection h with h;injection h with h3 h4;subst h3;exact⟨by omega,hc⟩
  cases h1:dh inner L (aN L i)with
  | error e=>rw [h1]at h;cases h
  | ok p=>
   obtain⟨t,a⟩:=p;rw [h1]at h;simp only at h;have hp:=Bv hi hL h1;split at h
   ·cases h
   have:=ih _ _ _ _ (jc _ hc hp.2) h;exact⟨by omega,this.2⟩
theorem kR {L:List Int} (hL:b8 L):∀ n,zj (bE L n):=by
 intro n;induction n with
 | zero=>intro i s j h;unfold bE at h;cases h
 | succ n ih=>
  intro i s j h;rw [bE]at h;cases h1:aQ L i 91 with
  | error e=>rw [h1]at h;cases h
  | ok a=>
   rw [h1]at h;simp only at h;have ha:=(fF h1).1;cases h2:dL (bE L n) L (L.length+1) (if pk L a=94 then a+1 else a) []with
   | error e=>rw [h2]at h;cases h
   | ok p=>
    obtain⟨cur,k⟩:=p;rw [h2]at h;simp only at h;obtain⟨g1,g2⟩:=GR ih hL _ _ _ _ _ nK h2;have hk:i<k:=(by split at g1 <;> omega);split at h
    ·split at h
     ·cases h
     injection h with h;injection h with h3 h4;subst h3 h4;exact⟨hk,jc _ g2 nK⟩
    injection h with h;injection h with h3 h4;subst h3 h4;exact⟨hk,g2⟩
theorem Fk {inner:Nat→jN af} {L:List Int} {f i:Nat} {cur:af} (h:pk L (aN L i)=93):dL inner L (f+1) i cur=.ok (cur,aN L i+1):=by rw [dL,if_pos h]
theorem ku {inner:Nat→jN af} {L:List Int} {f i:Nat} {cur:af} {e:Int × Nat} (h:pk L (aN L i)≠93) (he:dh inner L (aN L i)=.error e):dL inner L (f+1) i cur=.error e:=by rw [dL,if_neg h,he]
theorem jk {inner:Nat→jN af} {L:List Int} {f i j:Nat} {cur s:af} (h:pk L (aN L i)≠93) (he:dh inner L (aN L i)=.ok (s,j)) :
    dL inner L (f+1) i cur=if (mJ (tJ (pk L (aN L i))) cur s).2≠0 then .error ((mJ (tJ (pk L (aN L i))) cur s).2,j)else dL inner L f j (mJ (tJ (pk L (aN L i))) cur s).1:=by rw [dL,if_neg h,he]
def di (l:List Int):Prop:=∀ x∈l,0≤x∧x<128
def ng (l:List Int):List UInt8:=l.map fun x=>UInt8.ofNat x.toNat
theorem Fc {r:Int} (h0:0≤r) (h1:r<128):(Utf8.encode r).data.toList = [UInt8.ofNat r.toNat]:=by
 have hv:Utf8.valid r=true:=(by simp [Utf8.valid];omega);unfold Utf8.encode;simp only [hv,if_true];rw [if_pos (by omega)]
theorem Cf {r:Int} (h:¬(0≤r∧r<128)):∃ b∈(Utf8.encode r).data.toList,128≤b.toNat:=by
 cases hv:Utf8.valid r
 ·have:Utf8.encode r=Utf8.encode 65533:=by
   unfold Utf8.encode;simp only [hv,show Utf8.valid 65533=true from by decide];rfl
  rw [this];exact⟨239,by decide,by decide⟩
 have h128:128≤r:=by
  simp [Utf8.valid]at hv;omega
 obtain⟨h1,_,h3⟩:=encode_facts r hv h128;exact⟨_,Array.getElem_mem_toList (xs:=(Utf8.encode r).data) (by simpa using (show(Utf8.encode r).size - 1<(Utf8.encode r).size by omega)),h3 (by omega)⟩
theorem xg (l:List Int):∀ s:ByteArray,(l.foldl (fun r n=>r++Utf8.encode n) s).data.toList=s.data.toList++l.flatMap fun r=>(Utf8.encode r).data.toList:=by
 induction l with
 | nil=>intro s;simp
 | cons x l ih=>intro s;rw [List.foldl_cons,ih,List.flatMap_cons];simp
theorem mF (l:List Int):(runesBytes l).data.toList=l.flatMap fun r=>(Utf8.encode r).data.toList:=by
 rw [runesBytes,xg];rfl
theorem eU {l:List Int} (h:di l):(runesBytes l).data.toList=ng l:=by
 rw [mF];induction l with
 | nil=>rfl
 | cons x l ih=>
  have hx:=h x List.mem_cons_self;rw [List.flatMap_cons,Fc hx.1 hx.2,ih (fun y hy=>h y (List.mem_cons_of_mem _ hy))];rfl
theorem KE:∀ {a b:List Int},di a→di b→ng a=ng b→a=b:=by
 intro a;induction a with
 | nil=>intro b _ _ h;cases b with
   | nil=>rfl
   | cons y b=>cases h
 | cons x a ih=>
  intro b ha hb h;cases b with
  | nil=>cases h
  | cons y b=>
   unfold ng at h;rw [List.map_cons,List.map_cons]at h;injection h with h1 h2;have hx:=ha x List.mem_cons_self;have hy:=hb y List.mem_cons_self;have h3:=congrArg UInt8.toNat h1;simp at h3;obtain rfl:x=y:=(by omega);rw [ih (fun z hz=>ha z (List.mem_cons_of_mem _ hz)) (fun z hz=>hb z (List.mem_cons_of_mem _ hz)) h2]
theorem x7 {l m:List Int} (hm:di m) (h:runesBytes l=runesBytes m):l=m:=by
 have e:(runesBytes l).data.toList=ng m:=(by rw [h,eU hm]);have hl:di l:=by
  intro x hx;by_cases h1:0≤x∧x<128;exact h1;exfalso;obtain⟨b,hb,h2⟩:=Cf h1;have:b∈ng m:=(by rw [← e,mF];exact List.mem_flatMap.2 ⟨x,hx,hb⟩);unfold ng at this;obtain⟨y,hy,rfl⟩:=List.mem_map.1 this;have:=hm y hy;simp at h2;omega
 rw [eU hl]at e;exact KE hl hm e
theorem tD {l:List Int} (h:di l):(runesBytes l).size=l.length:=by
 have h2:=congrArg List.length (eU h);rw [ng,List.length_map,Array.length_toList]at h2;exact h2
theorem nU {l:List Int} (h:∀ d∈l,eJ d=true):di l:=by
 intro d hd;have:=h d hd;unfold eJ at this;simp only [Bool.or_eq_true,Bool.and_eq_true,decide_eq_true_eq]at this;omega
theorem Bg (l:List Int) (d:Int):dW (l++[d])=16*dW l+pn d:=by unfold dW;rw [List.foldl_append];rfl
theorem mq {l:List Int} (h:∀ d∈l,eJ d=true) (hl:l.length≤6):0≤dW l∧dW l<16777216:=by
 obtain⟨h1,h2⟩:=oF l 0 (Int.le_refl _) h;refine⟨h1,Int.lt_of_lt_of_le h2 ?_⟩;generalize l.length=k at hl;have:k=0∨k=1∨k=2∨k=3∨k=4∨k=5∨k=6:=(by omega);rcases this with rfl | rfl | rfl | rfl | rfl | rfl | rfl <;> decide
theorem Hf (c:Int) (w:World) (h:(65≤c∧c≤70)∨(97≤c∧c≤102)) :
    Calls Tryz.prog 185 #[.int .u8 c] w fun e w'=>e=.returned (.int .u8 (pn c+87))∧w'=w:=by
 have hc:c=65∨c=66∨c=67∨c=68∨c=69∨c=70∨c=97∨c=98∨c=99∨c=100∨c=101∨c=102:=(by omega);clear h;rcases hc with rfl | rfl | rfl | rfl | rfl | rfl | rfl | rfl | rfl | rfl | rfl | rfl
 all_goals
   go_enter Tryz.func185,Tryz.ntmps185
   go_wp2_with fail
   go_ret
   exact⟨rfl,rfl⟩
def Vi (W:World) (ds:List Int) (u n i:Value) (wr:World):Prop:=u=.bool false∧∃ j:Nat,j≤ds.length∧i=.int .i64 j∧n=.int .u64 (dW (ds.take j))∧wr=W
theorem E9 (s:ByteArray) (ds:List Int) (w:World) (hs:s.data.toList=ng ds) (hd:∀ d∈ds,eJ d=true) (h1:1≤ds.length) (h6:ds.length≤6) :
    Calls Tryz.prog 177 #[.string s,.int .i64 16,.int .i64 64] w fun e w'=>e=.returned (.tuple #[.int .u64 (dW ds),.nilIface])∧Below w.heap.size w w':=by
 have hsz:s.size=ds.length:=(by have h2:=congrArg List.length hs;rw [ng,List.length_map,Array.length_toList]at h2;exact h2);have q6:=Lib.run_convert_string_bytes (P:=Tryz.prog) w 9 260 5 s Tryz.underlying9 Tryz.underlying260 Tryz.underlying5;have hcell:∀ j d,ds[j]? = some d→(Lib.bytesWorld w 5 s).cell? ⟨w.heap.size,j,none⟩=some (.int .u8 d):=fun j d h=>by
  have hj:j<s.size:=(by rw [hsz];exact(List.getElem?_eq_some_iff.1 h).1);have:=Lib.bytesWorld_cell w 5 s j hj;rw [this,hs];have hb:=nU hd d (List.mem_of_getElem? h);have:(ng ds).getD j 0=UInt8.ofNat d.toNat:=(by simp [ng,List.getD_eq_getElem?_getD,h]);rw [this];congr 2;simp;omega
 have hB:Below w.heap.size w (Lib.bytesWorld w 5 s):=Lib.below_freeze (((Below.refl _ _).drew).alloc (Nat.le_refl _) _) (p:=⟨w.heap.size,_,none⟩) (Nat.le_refl _) _;have hne:(s.toList == [])=false:=by
  rw [beq_eq_false_iff_ne,Lib.toList_data];intro e;have:=congrArg List.length e;rw [Array.length_toList]at this;have h2:s.size=0:=this;omega
 rw [hsz]at q6;generalize Lib.bytesWorld w 5 s=W at *;generalize hk:ds.length=k at *;generalize Go.grownCap w k 0 5 = C at *;have HC:=qqh hcell;have HD:=qqh hd;clear hcell hd hs;go_enter Tryz.func177,Tryz.ntmps177;have hmx:IntKind.u64.wrap (IntKind.u64.wrap 18446744073709551616 - 1)=18446744073709551615:=(by decide);go_wp2_with fail;go_loopw [12,13,101] (Vi W ds) (fun _ _ i _=>k - (intOf i).toNat);(case atStart=>exact⟨rfl,0,Nat.zero_le _,rfl,rfl,rfl⟩);obtain⟨rfl,j,hj,rfl,rfl,rfl⟩:=hrel;rw [hk]at hj;by_cases hlt:j<k
 ·obtain⟨d,WL⟩:∃ z,ds[j]? = some z:=⟨_,List.getElem?_eq_getElem (by omega)⟩;have hh:=HD.out d (List.mem_of_getElem? WL);have d0:=HC.out j d WL;obtain⟨x0,x1⟩:=mq (l:=ds.take j) (fun y hy=>HD.out y (List.mem_of_mem_take hy)) (by rw [List.length_take];omega);have HS:=qqh (show dW (ds.take (j+1))=16*dW (ds.take j)+pn d by rw [List.take_add_one,WL];exact Bg _ _);have hv:=uM hh;have hr:(48≤d∧d≤57)∨(97≤d∧d≤102)∨(65≤d∧d≤70):=by
   unfold eJ at hh;simpa only [Bool.or_eq_true,Bool.and_eq_true,decide_eq_true_eq] using hh
  generalize dW (ds.take j)=X at *;clear WL hh;have Zi:(48≤d∧d≤57∧pn d=d - 48)∨(¬ d≤57∧65≤d∧d≤102∧((65≤d∧d≤70)∨(97≤d∧d≤102))):=by
   unfold pn;rcases hr with h | h | h
   ·left;rw [if_pos h.2];omega
   ·right;omega
   right;omega
  rcases Zi with ⟨q1,q2,q3⟩ | ⟨q1,q2,q3,q4⟩
  ·have HV:=qqh q3;clear hr q3;have sS:decide (48≤d)=true:=decide_eq_true q1;have oq:decide (d≤57)=true:=decide_eq_true q2;go_wp2_with fail;exact⟨⟨rfl,j+1,by omega,by go_num,by rw [HS.out,HV.out];congr 1;omega,rfl⟩,by simp [intOf];omega⟩
  have HL:=qqh (fun(W:World)=>Hf d W (by omega));have oq:decide (d≤57)=false:=decide_eq_false q1;have sS:decide (48≤d)=true:=decide_eq_true (by omega);have afn:10≤pn d:=(by unfold pn;rw [if_neg q1];split <;> omega);have Zs:(d == 95)=false:=(by simp;omega);generalize pn d=v at *;clear hr q4;go_wp2_with (go_at_call 185;refine(HL.out _).mono ?_;rintro e w1 ⟨rfl,rfl⟩);exact⟨⟨rfl,j+1,by omega,by go_num,by rw [HS.out];congr 1;omega,rfl⟩,by simp [intOf];omega⟩
 obtain rfl:j=k:=(by omega);rw [List.take_of_length_le (by omega)];go_wp2_with fail;go_ret2;exact⟨rfl,hB⟩
theorem zV (s:ByteArray) (ds:List Int) (w:World) (hs:s.data.toList=ng ds) (hd:∀ d∈ds,eJ d=true) (h1:1≤ds.length) (h6:ds.length≤6) :
    Calls Tryz.prog 166 #[.string s,.int .i64 16,.int .i64 64] w fun e w'=>e=.returned (.tuple #[.int .i64 (dW ds),.nilIface])∧Below w.heap.size w w':=by
 have HU:=qqh (E9 s ds w hs hd h1 h6);have hsz:s.size=ds.length:=(by have h2:=congrArg List.length hs;rw [ng,List.length_map,Array.length_toList]at h2;exact h2);have hne:(s.toList == [])=false:=by
  rw [beq_eq_false_iff_ne,Lib.toList_data];intro e;have:=congrArg List.length e;rw [Array.length_toList]at this;have h2:s.size=0:=this;omega
 obtain⟨d,PE⟩:∃ z,ds[0]? = some z:=⟨_,List.getElem?_eq_getElem (by omega)⟩;have hh:=hd d (List.mem_of_getElem? PE);have hr:(48≤d∧d≤57)∨(97≤d∧d≤102)∨(65≤d∧d≤70):=by
  unfold eJ at hh;simpa only [Bool.or_eq_true,Bool.and_eq_true,decide_eq_true_eq] using hh
 have Xo:∀ W:World,(Instr.index 9 (.string s) (.int .i64 0)).run Tryz.prog W=.ok (.int .u8 d) W:=fun W=>by
  rw [run_index_string W _ s _ _ Tryz.underlying9,dif_pos ⟨by omega,by omega⟩];have e:s.data.toList[0]? = some (UInt8.ofNat d.toNat):=(by rw [hs];simp [ng,PE]);have h3:s.data.toList[0]? = some (s[(0:Nat)]'(by omega)):=by
   rw [List.getElem?_eq_getElem (by rw [Array.length_toList];show 0<s.size;omega)];rfl
  rw [h3]at e;injection e with e;simp only [Int.toNat_zero];rw [e];congr 2;simp;omega
 have h43:(d == 43)=false:=(by simp;omega);have Qo:(d == 45)=false:=(by simp;omega);obtain⟨x0,x1⟩:=mq hd h6;have hmx:IntKind.u64.wrap 9223372036854775808=9223372036854775808:=(by decide);generalize dW ds=X at *;clear hs hd PE hh hr;go_enter Tryz.func166,Tryz.ntmps166;go_wp2_with fail;refine HU.out.mono ?_;rintro e w1 ⟨rfl,hb⟩;have HB:=qqh hb;clear hb;go_wp2_with fail;go_ret2;exact⟨rfl,HB.out⟩
theorem ID (s:ByteArray) (ds:List Int) (w:World) (hs:s.data.toList=ng ds) (hd:∀ d∈ds,eJ d=true) (h1:1≤ds.length) (h6:ds.length≤6) :
    Calls Tryz.prog 143 #[.string s,.int .i64 16,.int .i64 64] w fun e w'=>e=.returned (.tuple #[.int .i64 (dW ds),.nilIface])∧Below w.heap.size w w':=by
 have HI:=qqh (zV s ds w hs hd h1 h6);generalize dW ds=X at *;clear hs hd;go_enter Tryz.func143,Tryz.ntmps143;go_wp2_with fail;refine HI.out.mono ?_;rintro e w1 ⟨rfl,hb⟩;have HB:=qqh hb;clear hb;go_wp2_with fail;go_ret2;exact⟨rfl,HB.out⟩
end Go.Proofs.YthgkedoildcbcaaGreatDoor
