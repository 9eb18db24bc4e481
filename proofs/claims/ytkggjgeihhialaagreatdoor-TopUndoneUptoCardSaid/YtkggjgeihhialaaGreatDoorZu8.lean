/- Span + SetP + SetBuild + SetOps + SynP + SynMono + RunesText + ParseHex -/
import Derived.Test.YtkggjgeihhialaaGreatDoorZuH
import Derived.Test.YtkggjgeihhialaaGreatDoorZu3
import Derived.Test.YtkggjgeihhialaaGreatDoorRows
import Derived.Deep.QuietTactic
import Derived.BigQuiet
import Derived.Laws.Cover4
import Derived.Laws.Runes
import Derived.Lib.ConvBytes
import Derived.Lib.Strings
set_option maxHeartbeats 3200000
set_option maxRecDepth 100000
namespace Go.Proofs.YtkggjgeihhialaaGreatDoor
open Go.RowKit
abbrev af:=List (Int × Int)
def an (l:af):List Value:=l.flatMap fun k=>[.int .i32 k.1,.int .i32 k.2]
theorem bB (l:af):(an l).length=l.length*2:=by
 induction l with
 | nil=>rfl
 | cons x l ih=>simp only [an,List.flatMap_cons]at ih ⊢;simp [ih];omega
theorem jX (l:af) (k:Nat) (x y:Int) (hk:l[k]? = some (x,y)):(an l)[k*2]? = some (.int .i32 x)∧(an l)[k*2+1]? = some (.int .i32 y):=by
 induction l generalizing k with
 | nil=>simp at hk
 | cons z l ih=>
  cases k with
  | zero=>simp at hk;subst hk;simp [an]
  | succ k=>
   have:=ih k (by simpa using hk);simp only [an,List.flatMap_cons]at this ⊢;have e1:(k+1)*2=k*2+1+1:=(by omega);rw [e1];simpa using this
def jz (w:World) (B:Nat) (A:Option Addr) (n:Nat) (l:af):Prop:=Rd w B 2 A n (an l)
theorem jz.len {w:World} {B n:Nat} {A:Option Addr} {l:af} (h:jz w B A n l):l.length=n:=by
 have:=h.1;rw [bB]at this;omega
theorem jz.at {w:World} {B n:Nat} {A:Option Addr} {l:af} (h:jz w B A n l) {k:Nat} {x y:Int} (hk:l[k]? = some (x,y)) :
    ∃ b off:Nat,A=some ⟨b,off,none⟩∧b<B∧w.cell? ⟨b,off+k*2,none⟩=some (.int .i32 x)∧w.cell? ⟨b,off+k*2+1,none⟩=some (.int .i32 y):=by
 have hl:k<l.length:=(List.getElem?_eq_some_iff.1 hk).1;have:=h.len;obtain⟨b,off,e,hb,hc⟩:=h.2 (by omega);obtain⟨h1,h2⟩:=jX l k x y hk;exact⟨b,off,e,hb,hc _ _ h1,by rw [Nat.add_assoc];exact hc _ _ h2⟩
def vU:Option Int→Int→Bool
  | none,_=>false
  | some h,a=>decide (a≤h+1)
def iJ:Option Int→af→Int
  | _,[]=>0
  | prev,(a,b)::r=>if a<0∨1114111<b∨b<a then 3 else if vU prev a=true then 2 else iJ (some b) r
def bC (l:af):Int:=if 200<l.length then 5 else iJ none l
def kI (l:af):Nat→Option Int
  | 0=>none
  | k+1=>(l[k]?).map (·.2)
def L5 (w:World) (l:af) (n:Nat) (i:Value) (wr:World):Prop :=
  ∃ j:Nat,j≤n∧i=.int .i64 j∧iJ none l=iJ (kI l j) (l.drop j)∧(∀ h,kI l j=some h→h≤1114111∧0≤h)∧Below w.heap.size w wr
theorem cW {α:Type} {l:List α} {j:Nat} {x:α} (h:l[j]? = some x):l.drop j=x::l.drop (j+1):=by
 obtain⟨hj,rfl⟩:=List.getElem?_eq_some_iff.1 h;exact List.drop_eq_getElem_cons hj
theorem hJ (A:Option Addr) (n c:Nat) (l:af) (w:World) (hn:n≤9223372036854775807) (hl:jz w w.heap.size A n l) :
    Calls Tryz.prog 45 #[.slice A n c] w fun e w'=>e=.returned (.int .i64 (bC l))∧Below w.heap.size w w':=by
 have aQ:=qqh hl.len;have HL:=qqh hl;clear hl;by_cases h2:200<n
 ·have HP:=qqh (show bC l=5 by unfold bC;rw [if_pos (by rw [aQ.out];exact h2)]);go_enter Tryz.func45,Tryz.ntmps45;go_wp2_with fail;go_ret;rw [HP.out];exact⟨rfl,Below.refl _ _⟩
 have HP:=qqh (show bC l=iJ none l by unfold bC;rw [if_neg (by rw [aQ.out];exact h2)]);go_enter Tryz.func45,Tryz.ntmps45;go_wp2_with fail;go_loopw [10] (L5 w l n) (fun i _=>n - (intOf i).toNat);(case atStart=>exact⟨0,Nat.zero_le _,rfl,rfl,by simp [kI],Below.refl _ _⟩);obtain⟨j,hj,rfl,aV,TD,hb⟩:=hrel;have hz:=hb.size;by_cases hlt:j<n
 ·obtain⟨⟨x,y⟩,hx⟩:∃ z,l[j]? = some z:=⟨_,List.getElem?_eq_getElem (by rw [aQ.out];exact hlt)⟩;obtain⟨b,off,rfl,cH,c0,c1⟩:=HL.out.at hx;have d0:=(hb.cell (p:=⟨b,off+j*2,none⟩) cH).trans c0;have d1:=(hb.cell (p:=⟨b,off+j*2+1,none⟩) cH).trans c1;rw [cW hx,iJ]at aV;by_cases hr:x<0∨1114111<y∨y<x
  ·rw [if_pos hr]at aV;have HG:=qqh aV;have HX:=qqh hx;clear aV hx c0 c1 TD;rcases (show x<0∨(0≤x∧1114111<y)∨(0≤x∧y≤1114111∧y<x) by omega)with h1 | ⟨h1,h2⟩ | ⟨h1,h2,h3⟩
   all_goals
     clear hr
     go_wp2_with fail
     go_ret
     rw [HP.out,HG.out]
     exact⟨rfl,hb.alloc hz _⟩
  rw [if_neg hr]at aV;have Pd:0≤x:=(by omega);have iO:y≤1114111:=(by omega);have kH:x≤y:=(by omega);have Fi:∀ h,kI l (j+1)=some h→h≤1114111∧0≤h:=by
   intro h hh;simp only [kI,hx,Option.map_some,Option.some.injEq]at hh;omega
  have CD:kI l (j+1)=some y:=(by simp [kI,hx]);clear hr;cases j with
  | zero=>
   rw [if_neg (by simp [kI,vU])]at aV;rw [← CD]at aV;have HG:=qqh aV;have HX:=qqh hx;have RO:=qqh Fi;clear aV hx c0 c1 TD Fi CD;simp only [Nat.zero_mul,Nat.add_zero]at d0 d1;go_wp2_with fail;go_quiet (fail);go_wp2_with fail;exact⟨⟨1,by omega,by go_num,HG.out,RO.out,below_drewN (hb.alloc hz _) _⟩,by simp [intOf];omega⟩
  | succ j=>
   obtain⟨⟨p,h⟩,hp⟩:∃ z,l[j]? = some z:=⟨_,List.getElem?_eq_getElem (by rw [aQ.out];omega)⟩;have hh:kI l (j+1)=some h:=(by simp [kI,hp]);obtain⟨hh1,Yg⟩:=TD h hh;obtain⟨b2,off2,e2,_,_,c3⟩:=HL.out.at hp;cases e2;have d3:(wr.alloc (Obj.cells #[Value.int IntKind.i32 x,Value.int IntKind.i32 y] 82)).cell? ⟨b,off+j*2+1,none⟩=some (.int .i32 h):=((hb.alloc hz _).cell (p:=⟨b,off+j*2+1,none⟩) cH).trans c3;have hj0:decide ((0:Int)<(j:Int)+1)=true:=decide_eq_true (by omega);have hjn:j<n:=(by omega);have OG:(j:Int)<(n:Int):=(by omega);have hjw:IntKind.i64.wrap (j:Int)=(j:Int):=IntWalk.i64_in _ (by omega);rw [hh]at aV;simp only [vU,decide_eq_true_eq]at aV;by_cases ht:x≤h+1
   ·rw [if_pos ht]at aV;have HG:=qqh aV;have HX:=qqh hx;have yD:=qqh hp;clear aV hx c0 c1 c3 TD Fi CD hh hp;have ht2:decide (x≤h+1)=true:=(by simpa using ht);go_wp2_with fail;go_quiet (fail);go_wp2_with fail;go_ret;rw [HP.out,HG.out];exact⟨rfl,below_drewN (hb.alloc hz _) _⟩
   rw [if_neg ht,← CD]at aV;have HG:=qqh aV;have HX:=qqh hx;have yD:=qqh hp;have RO:=qqh Fi;clear aV hx c0 c1 c3 TD Fi CD hh hp;have ht2:decide (x≤h+1)=false:=(by simpa using ht);go_wp2_with fail;go_quiet (fail);go_wp2_with fail;exact⟨⟨j+1+1,by omega,by go_num,HG.out,RO.out,below_drewN (hb.alloc hz _) _⟩,by simp [intOf];omega⟩
 obtain rfl:j=n:=(by omega);rw [List.drop_of_length_le (by rw [aQ.out];omega)]at aV;have HG:=qqh (aV.trans (show iJ (kI l j) [] = 0 from rfl));clear aV TD;go_wp2_with fail;go_ret;rw [HP.out,HG.out];exact⟨rfl,hb⟩
def bf (s:af) (r:Int):Bool:=s.any fun x=>decide (x.1≤r) && decide (r≤x.2)
theorem x7 (s:af):∀ prev:Option Int,iJ prev s=0→(∀ h,prev=some h→∀ x∈s,h+1<x.1)∧(∀ x∈s,0≤x.1∧x.1≤x.2∧x.2≤1114111)∧s.Pairwise (fun a b=>a.2+1<b.1):=by
 induction s with
 | nil=>intro prev _;exact⟨by simp,by simp,List.Pairwise.nil⟩
 | cons z s ih=>
  obtain⟨a,b⟩:=z;intro prev h;rw [iJ]at h;by_cases h1:a<0∨1114111<b∨b<a
  ·rw [if_pos h1]at h;cases h
  rw [if_neg h1]at h;by_cases h2:vU prev a=true
  ·rw [if_pos h2]at h;cases h
  rw [if_neg h2]at h;obtain⟨g1,g2,g3⟩:=ih (some b) h;refine⟨fun q hq x hx=>?_,fun x hx=>?_,List.pairwise_cons.2 ⟨fun x hx=>g1 b rfl x hx,g3⟩⟩
  ·subst hq;simp only [vU,decide_eq_true_eq]at h2;rcases List.mem_cons.1 hx with rfl | hx
   ·show q+1<a;omega
   have:=g1 b rfl x hx;have:=(g2 x hx).1;omega
  rcases List.mem_cons.1 hx with rfl | hx
  ·show 0≤a∧a≤b∧b≤1114111;omega
  exact g2 x hx
structure aF (s:af):Prop where
  size:s.length≤200
  each:∀ x∈s,0≤x.1∧x.1≤x.2∧x.2≤1114111
  mV:s.Pairwise (fun a b=>a.2+1<b.1)
theorem i6 {s:af} (h:bC s=0):aF s:=by
 unfold bC at h;by_cases h2:200<s.length
 ·rw [if_pos h2]at h;cases h
 rw [if_neg h2]at h;obtain⟨_,g2,g3⟩:=x7 s none h;exact⟨by omega,g2,g3⟩
theorem aF.lt {s:af} (h:aF s) {i j:Nat} {x y:Int × Int} (hx:s[i]? = some x) (hy:s[j]? = some y) (hij:i<j):x.2+1<y.1:=by
 obtain⟨hi,rfl⟩:=List.getElem?_eq_some_iff.1 hx;obtain⟨hj,rfl⟩:=List.getElem?_eq_some_iff.1 hy;exact List.pairwise_iff_getElem.1 h.mV i j hi hj hij
theorem O0 {s:af} (h:aF s) (r:Int) {k:Nat} (h1:∀ t x,t<k→s[t]? = some x→x.2<r) (h2:∀ t x,k≤t→s[t]? = some x→r≤x.2) :
    bf s r=match s[k]? with | some x=>decide (x.1≤r) | none=>false:=by
 have key:bf s r=true↔∃ x,s[k]? = some x∧x.1≤r:=by
  unfold bf;rw [List.any_eq_true];constructor
  ·rintro⟨x,hx,hp⟩;simp only [Bool.and_eq_true,decide_eq_true_eq]at hp;obtain⟨i,hi⟩:=List.mem_iff_getElem?.1 hx;have hki:k≤i:=by
    rcases Nat.lt_or_ge i k with hlt | hge
    ·have:=h1 i x hlt hi;omega
    exact hge
   rcases Nat.lt_or_ge k i with hlt | hge
   ·obtain⟨y,hy⟩:∃ y,s[k]? = some y:=⟨_,List.getElem?_eq_getElem (by have:=(List.getElem?_eq_some_iff.1 hi).1;omega)⟩;have:=h.lt hy hi hlt;have:=h2 k y (Nat.le_refl _) hy;omega
   obtain rfl:i=k:=(by omega);exact⟨x,hi,hp.1⟩
  rintro⟨x,hx,hr⟩;exact⟨x,List.mem_of_getElem? hx,by simp only [Bool.and_eq_true,decide_eq_true_eq];exact⟨hr,h2 k x (Nat.le_refl _) hx⟩⟩
 cases hk:s[k]? with
 | none=>
  rw [hk]at key;simpa using key
 | some x=>
  rw [hk]at key;rw [Bool.eq_iff_iff,key];simp
def eS (s:af):List Int:=s.flatMap fun x=>[x.1,x.2+1]
def oE (E:List Int) (r:Int):List Int :=
  if 1114111<r∨r∈E then E else E.takeWhile (fun x=>decide (x<r))++r::E.dropWhile (fun x=>decide (x<r))
theorem By {E:List Int} (h:E.Pairwise (· < ·)) (r:Int):(∀ x∈E.takeWhile (fun x=>decide (x<r)),x<r)∧(∀ x∈E.dropWhile (fun x=>decide (x<r)),r≤x):=by
 induction E with
 | nil=>simp
 | cons a E ih=>
  rw [List.pairwise_cons]at h;obtain⟨g1,g2⟩:=ih h.2;by_cases ha:a<r
  ·simp only [List.takeWhile_cons,List.dropWhile_cons,ha,decide_true,if_true];exact⟨fun x hx=>by rcases List.mem_cons.1 hx with rfl | hx;exact ha;exact g1 x hx,g2⟩
  simp only [List.takeWhile_cons,List.dropWhile_cons,ha,decide_false,Bool.false_eq_true,if_false];refine⟨by simp,fun x hx=>?_⟩;rcases List.mem_cons.1 hx with rfl | hx;omega;have:=h.1 x hx;omega
theorem Nh (E:List Int) (r x:Int):x∈oE E r↔x∈E∨(x=r∧r≤1114111):=by
 unfold oE;split
 ·rename_i h;constructor;exact .inl;rintro(h2 | ⟨rfl,h2⟩);exact h2;rcases h with h | h;omega;exact h
 rename_i h;rw [not_or]at h;have:x∈E↔x∈E.takeWhile (fun x=>decide (x<r))∨x∈E.dropWhile (fun x=>decide (x<r)):=by
  (conv=>lhs;rw [← List.takeWhile_append_dropWhile (p:=fun x=>decide (x<r)) (l:=E)]);rw [List.mem_append]
 rw [List.mem_append,List.mem_cons,this];constructor
 ·rintro(h1 | rfl | h1);exact .inl (.inl h1);exact .inr ⟨rfl,by omega⟩;exact .inl (.inr h1)
 rintro((h1 | h1) | ⟨rfl,_⟩);exact .inl h1;exact .inr (.inr h1);exact .inr (.inl rfl)
theorem IU {E:List Int} (h:E.Pairwise (· < ·)) (r:Int):(oE E r).Pairwise (· < ·):=by
 unfold oE;split;exact h;rename_i hn;rw [not_or]at hn;obtain⟨g1,g2⟩:=By h r;have hs:=h;rw [← List.takeWhile_append_dropWhile (p:=fun x=>decide (x<r)) (l:=E),List.pairwise_append]at hs;rw [List.pairwise_append];refine⟨hs.1,List.pairwise_cons.2 ⟨fun x hx=>?_,hs.2.1⟩,fun a ha b hb=>?_⟩
 ·have:=g2 x hx;rcases Int.lt_or_eq_of_le this with h1 | rfl;exact h1;exact absurd ((List.dropWhile_sublist _).subset hx) hn.2
 rcases List.mem_cons.1 hb with rfl | hb;exact g1 a ha;exact hs.2.2 a ha b hb
theorem tT (xs:List Int):∀ (E:List Int) (x:Int),x∈xs.foldl oE E↔x∈E∨(x∈xs∧x≤1114111):=by
 induction xs with
 | nil=>intro E x;simp
 | cons a xs ih=>
  intro E x;rw [List.foldl_cons,ih,Nh];constructor
  ·rintro((h | ⟨rfl,h⟩) | ⟨h,h2⟩);exact .inl h;exact .inr ⟨by simp,h⟩;exact .inr ⟨by simp [h],h2⟩
  rintro(h | ⟨h,h2⟩);exact .inl (.inl h);rcases List.mem_cons.1 h with rfl | h;exact .inl (.inr ⟨rfl,h2⟩);exact .inr ⟨h,h2⟩
theorem qU (xs:List Int):∀ (E:List Int),E.Pairwise (· < ·)→(xs.foldl oE E).Pairwise (· < ·):=by
 induction xs with
 | nil=>intro E h;exact h
 | cons a xs ih=>intro E h;rw [List.foldl_cons];exact ih _ (IU h a)
theorem KT (E:List Int) (r:Int):E.length≤(oE E r).length∧(oE E r).length≤E.length+1:=by
 unfold oE;split;omega;have:=congrArg List.length (List.takeWhile_append_dropWhile (p:=fun x=>decide (x<r)) (l:=E));rw [List.length_append]at this;rw [List.length_append,List.length_cons];omega
theorem DC (xs:List Int):∀ (E:List Int),E.length≤(xs.foldl oE E).length∧(xs.foldl oE E).length≤E.length+xs.length:=by
 induction xs with
 | nil=>intro E;simp
 | cons a xs ih=>intro E;rw [List.foldl_cons,List.length_cons];have:=ih (oE E a);have:=KT E a;omega
theorem Ew (s:af):(eS s).length=2*s.length:=by
 induction s with
 | nil=>rfl
 | cons x s ih=>unfold eS at ih ⊢;rw [List.flatMap_cons,List.length_append,ih,List.length_cons];simp;omega
def dD (E:List Int) (j:Nat):Int:=match E[j+1]? with | some y=>y - 1 | none=>1114111
theorem wP {s:af} {a r:Int} (NA:a≤r) (h:∀ e∈eS s,¬(a<e∧e≤r)):bf s r=bf s a:=by
 unfold bf;induction s with
 | nil=>rfl
 | cons x s ih=>
  have h1:=h x.1 (by simp [eS]);have h2:=h (x.2+1) (by simp [eS]);have hs:=ih (fun e he=>h e (by unfold eS at he ⊢;rw [List.flatMap_cons];exact List.mem_append_right _ he));rw [List.any_cons,List.any_cons,hs];congr 1;rw [Bool.eq_iff_iff];simp only [Bool.and_eq_true,decide_eq_true_eq];omega
theorem jT {E:List Int} (h:E.Pairwise (· < ·)) {i j:Nat} {x y:Int} (hx:E[i]? = some x) (hy:E[j]? = some y) (hij:i<j):x<y:=by
 obtain⟨hi,rfl⟩:=List.getElem?_eq_some_iff.1 hx;obtain⟨hj,rfl⟩:=List.getElem?_eq_some_iff.1 hy;exact List.pairwise_iff_getElem.1 h i j hi hj hij
def fO (L:List af):List Int:=(L.flatMap eS).foldl oE [0]
structure Canon (s:af):Prop where
  each:∀ x∈s,0≤x.1∧x.1≤x.2∧x.2≤1114111
  mV:s.Pairwise (fun a b=>a.2+1<b.1)
theorem aF.canon {s:af} (h:aF s):Canon s:=⟨h.each,h.mV⟩
theorem Canon.right {s:af} (h:Canon s) (hl:s.length≤200):aF s:=⟨hl,h.each,h.mV⟩
theorem Canon.nil:Canon []:=⟨by simp,List.Pairwise.nil⟩
theorem Canon.tail {x:Int × Int} {s:af} (h:Canon (x::s)):Canon s:=⟨fun y hy=>h.each y (List.mem_cons_of_mem _ hy),(List.pairwise_cons.1 h.mV).2⟩
theorem Canon.low {x:Int × Int} {s:af} (h:Canon (x::s)):∀ y∈s,x.2+1<y.1:=(List.pairwise_cons.1 h.mV).1
theorem cj (x:Int × Int) (s:af) (r:Int):bf (x::s) r=((decide (x.1≤r) && decide (r≤x.2)) || bf s r):=rfl
theorem ee (a b:af) (r:Int):bf (a++b) r=(bf a r || bf b r):=List.any_append
theorem nC {s:af} {r:Int}:bf s r=true↔∃ x∈s,x.1≤r∧r≤x.2:=by
 unfold bf;rw [List.any_eq_true];constructor
 ·rintro⟨x,hx,h⟩;simp at h;exact⟨x,hx,h⟩
 rintro⟨x,hx,h1,h2⟩;exact⟨x,hx,by simp [h1,h2]⟩
theorem eu {s:af} {m r:Int} (h:∀ y∈s,m<y.1) (hr:r≤m):bf s r=false:=by
 rw [Bool.eq_false_iff,ne_eq,nC];rintro⟨x,hx,h1,_⟩;have:=h x hx;omega
theorem JR {s:af} {m r:Int} (h:∀ y∈s,y.2<m) (hr:m≤r):bf s r=false:=by
 rw [Bool.eq_false_iff,ne_eq,nC];rintro⟨x,hx,_,h1⟩;have:=h x hx;omega
theorem Bt:∀ {a b:af},Canon a→Canon b→(∀ r,0≤r→r≤1114111→bf a r=bf b r)→a=b:=by
 intro a;induction a with
 | nil=>
  intro b _ hb h;cases b with
  | nil=>rfl
  | cons y b=>
   have hy:=hb.each y List.mem_cons_self;have:=h y.1 (by omega) (by omega);rw [cj]at this;simp [bf,hy.2.1]at this
 | cons x a ih=>
  intro b ha hb h;have hx:=ha.each x List.mem_cons_self;cases b with
  | nil=>
   have:=h x.1 (by omega) (by omega);rw [cj]at this;simp [bf,hx.2.1]at this
  | cons y b=>
   have hy:=hb.each y List.mem_cons_self;have la:=ha.low;have lb:=hb.low;have h1:¬ x.1<y.1:=fun hl=>by
    have:=h x.1 (by omega) (by omega);rw [cj,cj,eu (s:=b) (m:=y.2+1) lb (by omega)]at this;simp [hx.2.1]at this;omega
   have h2:¬ y.1<x.1:=fun hl=>by
    have:=h y.1 (by omega) (by omega);rw [cj,cj,eu (s:=a) (m:=x.2+1) la (by omega)]at this;simp [hy.2.1]at this;omega
   have h3:¬ x.2<y.2:=fun hl=>by
    have:=h (x.2+1) (by omega) (by omega);rw [cj,cj,eu (s:=a) (m:=x.2+1) la (by omega),eu (s:=b) (m:=y.2+1) lb (by omega),decide_eq_false (p:=x.2+1≤x.2) (by omega),decide_eq_true (p:=y.1≤x.2+1) (by omega),decide_eq_true (p:=x.2+1≤y.2) (by omega)]at this;simp at this
   have h4:¬ y.2<x.2:=fun hl=>by
    have:=h (y.2+1) (by omega) (by omega);rw [cj,cj,eu (s:=b) (m:=y.2+1) lb (by omega),eu (s:=a) (m:=x.2+1) la (by omega),decide_eq_false (p:=y.2+1≤y.2) (by omega),decide_eq_true (p:=x.1≤y.2+1) (by omega),decide_eq_true (p:=y.2+1≤x.2) (by omega)]at this;simp at this
   obtain⟨xl,xh⟩:=x;obtain⟨yl,yh⟩:=y;dsimp only at *;obtain rfl:xl=yl:=(by omega);obtain rfl:xh=yh:=(by omega);rw [ih ha.tail hb.tail fun r hr0 Pd=>?_];by_cases hr:r≤xh
   ·rw [eu (s:=a) (m:=xh+1) la (by omega),eu (s:=b) (m:=xh+1) lb (by omega)]
   have:=h r hr0 Pd;rw [cj,cj]at this;simpa [hr] using this
def tD (acc:af) (low high:Int):af :=
  match acc.getLast? with
  | some x=>if x.2+1=low then acc.dropLast++[(x.1,high)]else acc++[(low,high)]
  | none=>acc++[(low,high)]
theorem Jw (low high:Int):tD [] low high = [(low,high)]:=rfl
theorem Fc (i:af) (x:Int × Int) (low high:Int):tD (i++[x]) low high=if x.2+1=low then i++[(x.1,high)]else i++[x]++[(low,high)]:=by
 unfold tD;simp
theorem mN {i:af} {x:Int × Int} (hi:Canon i) (hx:0≤x.1∧x.1≤x.2∧x.2≤1114111) (h:∀ y∈i,y.2+1<x.1):Canon (i++[x]):=by
 refine⟨fun y hy=>?_,?_⟩
 ·rcases List.mem_append.1 hy with hy | hy;exact hi.each y hy;rw [List.mem_singleton.1 hy];exact hx
 rw [List.pairwise_append];exact⟨hi.mV,List.pairwise_singleton _ _,fun a ha b hb=>by rw [List.mem_singleton.1 hb];exact h a ha⟩
theorem xg {i:af} {x:Int × Int} (h:Canon (i++[x])):Canon i∧(0≤x.1∧x.1≤x.2∧x.2≤1114111)∧∀ y∈i,y.2+1<x.1:=by
 have hr:=List.pairwise_append.1 h.mV;exact⟨⟨fun y hy=>h.each y (by simp [hy]),hr.1⟩,h.each x (by simp),fun y hy=>hr.2.2 y hy x (by simp)⟩
theorem ES {acc:af} {low high:Int} (h:Canon acc) (hl:∀ x∈acc,x.2<low) (h0:0≤low) (h1:low≤high) (h2:high≤1114111) :
    Canon (tD acc low high)∧(∀ x∈tD acc low high,x.2≤high)∧∀ r,bf (tD acc low high) r=(bf acc r || (decide (low≤r) && decide (r≤high))):=by
 rcases List.eq_nil_or_concat acc with rfl | ⟨i,x,rfl⟩
 ·rw [Jw];exact⟨⟨by simp;omega,List.pairwise_singleton _ _⟩,by simp,fun r=>by simp [bf]⟩
 rw [List.concat_eq_append]at h hl ⊢;obtain⟨hi,hx,Yn⟩:=xg h;have hxl:=hl x (by simp);rw [Fc];by_cases he:x.2+1=low
 ·rw [if_pos he];refine⟨mN hi ⟨hx.1,by simp only;omega,h2⟩ Yn,fun y hy=>?_,fun r=>?_⟩
  ·rcases List.mem_append.1 hy with hy | hy
   ·have:=hl y (by simp [hy]);omega
   rw [List.mem_singleton.1 hy];exact Int.le_refl _
  rw [ee,ee,Bool.or_assoc];congr 1;simp only [bf,List.any_cons,List.any_nil,Bool.or_false];rw [Bool.eq_iff_iff];simp;omega
 rw [if_neg he];refine⟨mN h ⟨h0,h1,h2⟩ (fun y hy=>?_),fun y hy=>?_,fun r=>?_⟩
 ·simp only;rcases List.mem_append.1 hy with hy | hy
  ·have:=Yn y hy;omega
  rw [List.mem_singleton.1 hy];omega
 ·rcases List.mem_append.1 hy with hy | hy
  ·have:=hl y hy;omega
  rw [List.mem_singleton.1 hy];exact Int.le_refl _
 rw [ee];congr 1;simp [bf]
def cU (E:List Int) (h:Int→Bool):Nat→af
  | 0=>[]
  | j+1=>match E[j]? with | none=>cU E h j | some a=>if h a=true then tD (cU E h j) a (dD E j)else cU E h j
theorem wC {E:List Int} {h:Int→Bool} {j:Nat} {a:Int} (ha:E[j]? = some a):cU E h (j+1)=if h a=true then tD (cU E h j) a (dD E j)else cU E h j:=by
 rw [cU,ha]
def sv (E:List Int) (h:Int→Bool):af × Int:=if 200<(cU E h E.length).length then ([],5)else (cU E h E.length,0)
structure oy (E:List Int) (h:Int→Bool):Prop where
  mV:E.Pairwise (· < ·)
  zero:E[0]? = some 0
  top:∀ x∈E,x≤1114111
  const:∀ j a r,E[j]? = some a→a≤r→r≤dD E j→h r=h a
theorem RW {E:List Int} {h:Int→Bool} (hE:oy E h) {j:Nat} {a:Int} (ha:E[j]? = some a):0≤a∧a≤dD E j∧dD E j≤1114111∧dD E j+1=(E[j+1]?).getD 1114112:=by
 have h0:0≤a:=by
  rcases Nat.eq_zero_or_pos j with rfl | hj
  ·rw [hE.zero]at ha;obtain rfl:=Option.some.inj ha;exact Int.le_refl _
  have:=jT hE.mV hE.zero ha hj;omega
 have ht:=hE.top a (List.mem_of_getElem? ha);unfold dD;cases he:E[j+1]? with
 | none=>simp;omega
 | some y=>
  have h1:=jT hE.mV ha he (Nat.lt_succ_self j);have h2:=hE.top y (List.mem_of_getElem? he);simp only [Option.getD_some];omega
theorem Ex {E:List Int} {h:Int→Bool} (hE:oy E h):∀ j,j≤E.length →
    Canon (cU E h j)∧(∀ x∈cU E h j,x.2<(E[j]?).getD 1114112)∧∀ r,0≤r→r<(E[j]?).getD 1114112→bf (cU E h j) r=h r:=by
 intro j;induction j with
 | zero=>exact fun _=>⟨Canon.nil,by simp [cU],fun r h0 h1=>by rw [hE.zero]at h1;simp at h1;omega⟩
 | succ j ih=>
  intro hj;obtain⟨a,ha⟩:∃ a,E[j]? = some a:=⟨_,List.getElem?_eq_getElem (by omega)⟩;obtain⟨i1,i2,i3⟩:=ih (by omega);rw [ha,Option.getD_some]at i2 i3;obtain⟨g0,g1,g2,g3⟩:=RW hE ha;rw [wC ha,← g3];by_cases hh:h a=true
  ·rw [if_pos hh];obtain⟨s1,s2,s3⟩:=ES i1 i2 g0 g1 g2;refine⟨s1,fun x hx=>by have:=s2 x hx;omega,fun r h0 h1=>?_⟩;rw [s3];by_cases hr:r<a
   ·rw [i3 r h0 hr];simp;omega
   rw [hE.const j a r ha (by omega) (by omega),hh];simp;right;omega
  rw [if_neg hh];refine⟨i1,fun x hx=>by have:=i2 x hx;omega,fun r h0 h1=>?_⟩;by_cases hr:r<a;exact i3 r h0 hr;rw [hE.const j a r ha (by omega) (by omega),JR i2 (by omega)];simpa using hh
theorem zq {E:List Int} {h:Int→Bool} (hE:oy E h):Canon (cU E h E.length)∧∀ r,0≤r→r≤1114111→bf (cU E h E.length) r=h r:=by
 obtain⟨h1,_,h3⟩:=Ex hE E.length (Nat.le_refl _);rw [List.getElem?_eq_none (Nat.le_refl _),Option.getD_none]at h3;exact⟨h1,fun r a b=>h3 r a (by omega)⟩
theorem DA {E:List Int} {h:Int→Bool} (hE:oy E h) {s:af} (hs:Canon s) (hh:∀ r,0≤r→r≤1114111→bf s r=h r):sv E h=if 200<s.length then ([],5)else (s,0):=by
 obtain⟨b1,b2⟩:=zq hE;have:cU E h E.length=s:=Bt b1 hs fun r h0 h1=>(by rw [b2 r h0 h1,hh r h0 h1]);unfold sv;rw [this]
theorem iF (L:List af) (x:Int):x∈fO L↔x=0∨(x∈L.flatMap eS∧x≤1114111):=by
 unfold fO;rw [tT];simp
theorem lP (L:List af):(fO L).Pairwise (· < ·):=qU _ _ (by simp)
theorem AS {L:List af} {j:Nat} {a:Int} (hj:(fO L)[j]? = some a):∀ r,a≤r→r≤dD (fO L) j→∀ e∈L.flatMap eS,¬(a<e∧e≤r):=by
 intro r h1 h2 e he ⟨h3,h4⟩;have Dn:=lP L;by_cases hm:e≤1114111
 ·obtain⟨k,hk⟩:=List.mem_iff_getElem?.1 ((iF L e).2 (.inr ⟨he,hm⟩));have hjk:j<k:=by
   rcases Nat.lt_or_ge j k with h | h;exact h;rcases Nat.lt_or_ge k j with h' | h'
   ·have:=jT Dn hk hj h';omega
   obtain rfl:j=k:=(by omega);rw [hk]at hj;injection hj;omega
  obtain⟨y,hy⟩:∃ y,(fO L)[j+1]? = some y:=⟨_,List.getElem?_eq_getElem (by have:=(List.getElem?_eq_some_iff.1 hk).1;omega)⟩;unfold dD at h2;rw [hy]at h2;simp only at h2;rcases Nat.lt_or_ge (j+1) k with h | h
  ·have:=jT Dn hy hk h;omega
  obtain rfl:k=j+1:=(by omega);rw [hy]at hk;injection hk;omega
 unfold dD at h2;split at h2
 ·rename_i y hy;have:=(iF L y).1 (List.mem_of_getElem? hy);omega
 omega
theorem yb {L:List af} (h:∀ s∈L,aF s):(fO L)[0]? = some 0:=by
 obtain⟨k,hk⟩:=List.mem_iff_getElem?.1 ((iF L 0).2 (.inl rfl));obtain⟨y,hy⟩:∃ y,(fO L)[0]? = some y:=⟨_,List.getElem?_eq_getElem (by have:=(List.getElem?_eq_some_iff.1 hk).1;omega)⟩;have h0:0≤y:=by
  rcases (iF L y).1 (List.mem_of_getElem? hy)with rfl | ⟨h1,_⟩;exact Int.le_refl _;obtain⟨s,hs,he⟩:=List.mem_flatMap.1 h1;unfold eS at he;obtain⟨x,hx,he⟩:=List.mem_flatMap.1 he;have:=(h s hs).each x hx;simp at he;omega
 rcases Nat.eq_zero_or_pos k with rfl | hk0;exact hk;have:=jT (lP L) hy hk hk0;omega
theorem qH {L:List af} (hL:∀ s∈L,aF s) {h:Int→Bool} (hc:∀ a r,(∀ s∈L,bf s r=bf s a)→h r=h a):oy (fO L) h where
  mV:=lP L
  zero:=yb hL
  top:=fun x hx=>by rcases (iF L x).1 hx with rfl | ⟨_,h⟩ <;> omega
  const:=fun j a r hj h1 h2=>hc a r fun s hs=>wP h1 fun e he=>AS hj r h1 h2 e (List.mem_flatMap.2 ⟨s,hs,he⟩)
def mH (op:Int) (a b:af) (r:Int):Bool:=(decide (op=124) && (bf a r || bf b r)) || ((decide (op=38) && bf a r && bf b r) || (decide (op=45) && bf a r && !bf b r))
def mz (op:Int) (a b:af):af × Int :=
  if bC a≠0 then ([],bC a)else if op=94 then sv (fO [a]) (fun r=>!bf a r)
  else if bC b≠0 then ([],bC b)else sv (fO [a,b]) (mH op a b)
theorem gP {s:af} (h:aF s):bC s=0:=by
 unfold bC;rw [if_neg (by have:=h.size;omega)];have:∀ (s:af) (prev:Option Int),Canon s→(∀ p,prev=some p→∀ x∈s,p+1<x.1)→iJ prev s=0:=by
  intro s;induction s with
  | nil=>intro prev _ _;rfl
  | cons x s ih=>
   intro prev hc hp;obtain⟨a,b⟩:=x;have he:=hc.each (a,b) List.mem_cons_self;dsimp only at he;rw [iJ,if_neg (by omega)];have ht:vU prev a=false:=by
    cases prev with
    | none=>rfl
    | some p=>have:=hp p rfl (a,b) List.mem_cons_self;simp [vU];omega
   rw [ht,if_neg (by decide)];exact ih _ hc.tail fun p hp' y hy=>by
    obtain rfl:=Option.some.inj hp';exact hc.low y hy
 exact this s none h.canon (fun p hp=>by cases hp)
theorem Rh {a s:af} (ha:aF a) (hs:Canon s) (hh:∀ r,0≤r→r≤1114111→bf s r = !bf a r) (b:af):mz 94 a b=if 200<s.length then ([],5)else (s,0):=by
 unfold mz;rw [if_neg (by rw [gP ha];decide),if_pos rfl];exact DA (qH (by simpa using ha) (fun x r h=>by rw [h a (by simp)])) hs hh
theorem Li {op:Int} {a b s:af} (nP:op≠94) (ha:aF a) (hb:aF b) (hs:Canon s) (hh:∀ r,0≤r→r≤1114111→bf s r=mH op a b r):mz op a b=if 200<s.length then ([],5)else (s,0):=by
 unfold mz;rw [if_neg (by rw [gP ha];decide),if_neg nP,if_neg (by rw [gP hb];decide)];exact DA (qH (by simpa using ⟨ha,hb⟩) (fun x r h=>by unfold mH;rw [h a (by simp),h b (by simp)])) hs hh
theorem tw (E:List Int) (h:Int→Bool) (hE:oy E h):aF (sv E h).1:=by
 unfold sv;by_cases hl:200<(cU E h E.length).length
 ·rw [if_pos hl];exact⟨Nat.zero_le _,by simp,List.Pairwise.nil⟩
 rw [if_neg hl];exact(zq hE).1.right (by omega)
theorem jl (op:Int) {a b:af} (ha:aF a) (hb:aF b):aF (mz op a b).1:=by
 unfold mz;rw [if_neg (by rw [gP ha];decide)];by_cases nP:op=94
 ·rw [if_pos nP];exact tw _ _ (qH (by simpa using ha) (fun x r h=>by rw [h a (by simp)]))
 rw [if_neg nP,if_neg (by rw [gP hb];decide)];exact tw _ _ (qH (by simpa using ⟨ha,hb⟩) (fun x r h=>by unfold mH;rw [h a (by simp),h b (by simp)]))
def pk (L:List Int) (i:Nat):Int:=(L[i]?).getD (-1)
def pz (r:Int):Bool:=decide (r=32) || (decide (r=9) || decide (r=10))
def qG:List Int:=[91,93,38,45,94,92,58,36,40,41,123,125,60,62,124,59,35,39,34,61,44]
def dh (r:Int):Bool:=decide (0≤r) && (!pz r && !qG.contains r)
def eT (r:Int):Bool:=(decide (48≤r) && decide (r≤57)) || ((decide (97≤r) && decide (r≤102)) || (decide (65≤r) && decide (r≤70)))
def pE (r:Int):Int:=if r≤57 then r - 48 else if 97≤r then r - 87 else r - 55
def FN (r:Int):Bool:=(decide (48≤r) && decide (r≤57)) || ((decide (97≤r) && decide (r≤122)) || (decide (65≤r) && decide (r≤90)))
def aB (p:Int→Bool) (L:List Int) (i:Nat):Nat:=i+((L.drop i).takeWhile p).length
def aP (L:List Int) (i:Nat):Nat:=aB pz L i
def aN (L:List Int) (i j:Nat):List Int:=(L.drop i).take (j - i)
abbrev jS (α:Type):=Except (Int × Nat) (α × Nat)
def aT (L:List Int) (i:Nat) (r:Int):Except (Int × Nat) Nat:=if pk L i=r then .ok (i+1)else .error (2,i)
def eo (ds:List Int):Int:=ds.foldl (fun x d=>16*x+pE d) 0
def kJ (L:List Int) (i:Nat):jS Int :=
  match aT L (i+1) 123 with
  | .error e=>.error e
  | .ok a=>
    if aB eT L a - a<1∨6<aB eT L a - a then .error (2,a)
    else match aT L (aB eT L a) 125 with
      | .error e=>.error e
      | .ok j=>if 1114111<eo (aN L a (aB eT L a))then .error (3,i)else .ok (eo (aN L a (aB eT L a)),j)
def dc (L:List Int) (i:Nat):jS Int :=
  if dh (pk L i)=true then .ok (pk L i,i+1)
  else if pk L i≠92 then .error (2,i)
  else if pk L (i+1)=110 then .ok (10,i+2)
  else if pk L (i+1)=116 then .ok (9,i+2)
  else if pk L (i+1)=117 then kJ L (i+1)
  else if pk L (i+1)<0∨FN (pk L (i+1))=true then .error (2,i+1)
  else .ok (pk L (i+1),i+2)
def jd (L:List Int) (i:Nat):jS (Int × Int) :=
  match dc L i with
  | .error e=>.error e
  | .ok (low,j)=>
    if pk L j=45∧pk L (j+1)≠91 then
      match dc L (j+1)with
      | .error e=>.error e
      | .ok (high,k)=>if high<low then .error (3,j+1)else .ok ((low,high),k)
    else .ok ((low,low),j)
def gz (n:List Int):Option af :=
  if n = [100,105,103,105,116]then some [(48,57)]
  else if n = [108,111,119,101,114]then some [(97,122),(223,246),(248,255)]
  else if n = [117,112,112,101,114]then some [(65,90),(192,214),(216,222)]
  else if n = [108,101,116,116,101,114]then some [(65,90),(97,122),(192,214),(216,246),(248,255)]
  else if n = [118,111,119,101,108]then some [(65,65),(69,69),(73,73),(79,79),(85,85),(97,97),(101,101),(105,105),(111,111),(117,117)]
  else if n = [103,114,101,101,107]then some [(880,1023)]
  else if n = [99,121,114,105,108,108,105,99]then some [(1024,1279)]
  else if n = [115,112,97,99,101]then some [(9,10),(32,32)]
  else if n = [97,110,121]then some [(0,1114111)]
  else none
def eJ (L:List Int) (i:Nat):jS af :=
  match gz (aN L (i+2) (aB dh L (i+2)))with
  | none=>.error (7,i+2)
  | some s=>
    match aT L (aB dh L (i+2)) 58 with
    | .error e=>.error e
    | .ok j=>match aT L j 93 with
      | .error e=>.error e
      | .ok k=>.ok (s,k)
def uy (r:Int):Int:=if r=38∨r=45 then r else 124
def dB (inner:Nat→jS af) (L:List Int) (i:Nat):jS af :=
  if pk L i=91∧pk L (i+1)=58 then eJ L i
  else if pk L i=91 then inner i
  else if pk L i=38∨pk L i=45 then inner (aP L (i+1))
  else match jd L i with
    | .error e=>.error e
    | .ok (x,j)=>.ok ([x],j)
def dQ (inner:Nat→jS af) (L:List Int):Nat→Nat→af→jS af
  | 0,i,_=>.error (2,i)
  | f+1,i,cur=>
    if pk L (aP L i)=93 then .ok (cur,aP L i+1)
    else match dB inner L (aP L i)with
      | .error e=>.error e
      | .ok (s,j)=>
        if (mz (uy (pk L (aP L i))) cur s).2≠0 then .error ((mz (uy (pk L (aP L i))) cur s).2,j)
        else dQ inner L f j (mz (uy (pk L (aP L i))) cur s).1
def bH (L:List Int):Nat→Nat→jS af
  | 0,i=>.error (if pk L i=91 then 4 else 2,i)
  | n+1,i=>
    match aT L i 91 with
    | .error e=>.error e
    | .ok j=>
      match dQ (bH L n) L (L.length+1) (if pk L j=94 then j+1 else j) []with
      | .error e=>.error e
      | .ok (cur,k)=>
        if pk L j=94 then (if (mz 94 cur []).2≠0 then .error ((mz 94 cur []).2,k)else .ok ((mz 94 cur []).1,k))
        else .ok (cur,k)
theorem bE {L:List Int} {i:Nat} (h:pk L i ≠ -1):i<L.length:=by
 unfold pk at h;rcases Nat.lt_or_ge i L.length with hl | hl;exact hl;rw [List.getElem?_eq_none hl]at h;exact absurd rfl h
theorem GH {L:List Int} {i:Nat} {r:Int} (h:L[i]? = some r):pk L i=r:=by unfold pk;rw [h];rfl
theorem pW {L:List Int} {i:Nat} (h:L.length≤i):pk L i = -1:=by unfold pk;rw [List.getElem?_eq_none h];rfl
theorem dR {p:Int→Bool} {L:List Int} {i:Nat} (h:i<L.length) (hp:p (pk L i)=true):aB p L i=aB p L (i+1):=by
 unfold aB;rw [List.drop_eq_getElem_cons h,List.takeWhile_cons];have:pk L i=L[i]:=GH (List.getElem?_eq_getElem h);rw [this]at hp;rw [hp];simp;omega
theorem cV {p:Int→Bool} {L:List Int} {i:Nat} (h:i<L.length→p (pk L i)=false):aB p L i=i:=by
 unfold aB;rcases Nat.lt_or_ge i L.length with hl | hl
 ·rw [List.drop_eq_getElem_cons hl,List.takeWhile_cons];have:pk L i=L[i]:=GH (List.getElem?_eq_getElem hl);have h2:=h hl;rw [this]at h2;rw [h2];simp
 rw [List.drop_of_length_le hl];simp
theorem gX {p:Int→Bool} {L:List Int} {i:Nat} (h:i≤L.length):i≤aB p L i∧aB p L i≤L.length:=by
 unfold aB;have:=(List.takeWhile_sublist p (l:=L.drop i)).length_le;rw [List.length_drop]at this;omega
theorem fQ {L:List Int} {i j:Nat} {r:Int} (h:aT L i r=.ok j):j=i+1∧pk L i=r:=by
 unfold aT at h;split at h
 ·rename_i hp;injection h with h;exact⟨h.symm,hp⟩
 cases h
theorem LH {L:List Int} {i:Nat} {r:Int} (h:pk L i=r):aT L i r=.ok (i+1):=by unfold aT;rw [if_pos h]
theorem zC {L:List Int} {i:Nat} {r:Int} (h:pk L i≠r):aT L i r=.error (2,i):=by unfold aT;rw [if_neg h]
theorem eO (p:Int→Bool) (L:List Int) (i:Nat):i≤aB p L i:=by unfold aB;omega
theorem ez (L:List Int) (i:Nat):i≤aP L i:=eO _ _ _
def cA (L:List Int):Prop:=∀ x∈L,0≤x∧x≤1114111
theorem wE {L:List Int} (h:cA L) (i:Nat):pk L i = -1∨(0≤pk L i∧pk L i≤1114111):=by
 unfold pk;cases hi:L[i]? with
 | none=>exact .inl rfl
 | some x=>exact .inr (h x (List.mem_of_getElem? hi))
theorem JF {L:List Int} (h:cA L) {i:Nat} (h0:pk L i ≠ -1):0≤pk L i∧pk L i≤1114111:=by
 rcases wE h i with h1 | h1;exact absurd h1 h0;exact h1
theorem wO {d:Int} (h:eT d=true):0≤pE d∧pE d≤15:=by
 unfold eT at h;unfold pE;simp only [Bool.or_eq_true,Bool.and_eq_true,decide_eq_true_eq]at h;split;omega;split <;> omega
theorem o7 (ds:List Int):∀ x:Int,0≤x→(∀ d∈ds,eT d=true)→0≤ds.foldl (fun x d=>16*x+pE d) x∧ds.foldl (fun x d=>16*x+pE d) x<(x+1)*16 ^ ds.length:=by
 induction ds with
 | nil=>intro x h _;simp;omega
 | cons d ds ih=>
  intro x hx hd;have h1:=wO (hd d List.mem_cons_self);obtain⟨i1,i2⟩:=ih (16*x+pE d) (by omega) (fun y hy=>hd y (List.mem_cons_of_mem _ hy));rw [List.foldl_cons,List.length_cons];refine⟨i1,Int.lt_of_lt_of_le i2 ?_⟩;have e:(16:Int) ^ (ds.length+1)=16*16 ^ ds.length:=(by rw [Int.pow_succ,Int.mul_comm]);rw [e,← Int.mul_assoc];exact Int.mul_le_mul_of_nonneg_right (by omega) (Int.pow_nonneg (by decide))
theorem oV {p:Int→Bool} (l:List Int):∀ x∈l.takeWhile p,p x=true:=by
 induction l with
 | nil=>simp
 | cons a l ih=>
  intro x hx;rw [List.takeWhile_cons]at hx;split at hx
  ·rcases List.mem_cons.1 hx with rfl | hx;assumption;exact ih x hx
  simp at hx
theorem vk (p:Int→Bool) (L:List Int) (i:Nat):aN L i (aB p L i)=(L.drop i).takeWhile p:=by
 unfold aN aB;rw [Nat.add_sub_cancel_left];have h:=(List.takeWhile_prefix p (l:=L.drop i));exact(List.prefix_iff_eq_take.1 h).symm
theorem Bd (L:List Int) (i:Nat) (h:aB eT L i - i≤6):0≤eo (aN L i (aB eT L i))∧eo (aN L i (aB eT L i))<16777216:=by
 rw [vk];obtain⟨h1,h2⟩:=o7 ((L.drop i).takeWhile eT) 0 (Int.le_refl _) (oV _);refine⟨h1,Int.lt_of_lt_of_le h2 ?_⟩;have hl:((L.drop i).takeWhile eT).length≤6:=(by unfold aB at h;omega);generalize ((L.drop i).takeWhile eT).length=k at hl;have:k=0∨k=1∨k=2∨k=3∨k=4∨k=5∨k=6:=(by omega);rcases this with rfl | rfl | rfl | rfl | rfl | rfl | rfl <;> decide
theorem PN {L:List Int} {i j:Nat} {x:Int} (h:kJ L i=.ok (x,j)):i<j∧0≤x∧x≤1114111:=by
 unfold kJ at h;cases h1:aT L (i+1) 123 with
 | error e=>rw [h1]at h;cases h
 | ok a=>
  rw [h1]at h;simp only at h;split at h
  ·cases h
  rename_i hn;rw [not_or]at hn;have ha:=(fQ h1).1;cases h2:aT L (aB eT L a) 125 with
  | error e=>rw [h2]at h;cases h
  | ok b=>
   rw [h2]at h;simp only at h;have hb:=(fQ h2).1;have:=eO eT L a;have hr:=Bd L a (by omega);split at h
   ·cases h
   injection h with h;injection h with h3 h4;omega
theorem nu {L:List Int} (hL:cA L) {i j:Nat} {x:Int} (h:dc L i=.ok (x,j)):i<j∧0≤x∧x≤1114111:=by
 unfold dc at h;split at h
 ·rename_i hp;injection h with h;injection h with h1 h2;have:pk L i ≠ -1:=fun e=>(by rw [e]at hp;exact absurd hp (by decide));have:=JF hL this;omega
 split at h
 ·cases h
 split at h
 ·injection h with h;injection h with h1 h2;omega
 split at h
 ·injection h with h;injection h with h1 h2;omega
 split at h
 ·have:=PN h;omega
 split at h
 ·cases h
 rename_i hn;rw [not_or]at hn;injection h with h;injection h with h1 h2;have:=wE hL (i+1);omega
theorem KL {L:List Int} (hL:cA L) {i j:Nat} {x:Int × Int} (h:jd L i=.ok (x,j)):i<j∧0≤x.1∧x.1≤x.2∧x.2≤1114111:=by
 unfold jd at h;cases h1:dc L i with
 | error e=>rw [h1]at h;cases h
 | ok p=>
  obtain⟨low,a⟩:=p;rw [h1]at h;have ha:=nu hL h1;simp only at h;split at h
  ·cases h2:dc L (a+1)with
   | error e=>rw [h2]at h;cases h
   | ok q=>
    obtain⟨high,b⟩:=q;rw [h2]at h;have hb:=nu hL h2;simp only at h;split at h
    ·cases h
    injection h with h;injection h with h3 h4;subst h3;simp only;omega
  injection h with h;injection h with h3 h4;subst h3;simp only;omega
theorem Hr {x:Int × Int} (h:0≤x.1∧x.1≤x.2∧x.2≤1114111):aF [x]:=⟨by simp,by simpa using h,List.pairwise_singleton _ _⟩
theorem nX:aF []:=⟨Nat.zero_le _,by simp,List.Pairwise.nil⟩
theorem Ds {n:List Int} {s:af} (h:gz n=some s):aF s:=by
 have key:∀ s:af,bC s=0→aF s:=fun _=>i6;unfold gz at h;(repeat' (split at h));(all_goals first | (injection h with h;subst h;exact key _ (by decide)) | cases h)
theorem Jy {L:List Int} {i j:Nat} {s:af} (h:eJ L i=.ok (s,j)):i<j∧aF s:=by
 unfold eJ at h;cases h0:gz (aN L (i+2) (aB dh L (i+2)))with
 | none=>rw [h0]at h;cases h
 | some t=>
  rw [h0]at h;simp only at h;cases h1:aT L (aB dh L (i+2)) 58 with
  | error e=>rw [h1]at h;cases h
  | ok a=>
   rw [h1]at h;simp only at h;cases h2:aT L a 93 with
   | error e=>rw [h2]at h;cases h
   | ok b=>
    rw [h2]at h;simp only at h;injection h with h;injection h with h3 h4;subst h3;have:=eO dh L (i+2);have:=(fQ h1).1;have:=(fQ h2).1;exact⟨by omega,Ds h0⟩
def Bi (inner:Nat→jS af):Prop:=∀ i s j,inner i=.ok (s,j)→i<j∧aF s
theorem Ce {inner:Nat→jS af} (hi:Bi inner) {L:List Int} (hL:cA L) {i j:Nat} {s:af} (h:dB inner L i=.ok (s,j)):i<j∧aF s:=by
 unfold dB at h;split at h;exact Jy h;split at h;exact hi _ _ _ h;split at h
 ·have:=hi _ _ _ h;have h2:=ez L (i+1);exact⟨by omega,this.2⟩
 cases h1:jd L i with
 | error e=>rw [h1]at h;cases h
 | ok p=>
  obtain⟨x,a⟩:=p;rw [h1]at h;simp only at h;injection h with h;injection h with h3 h4;subst h3;have:=KL hL h1;exact⟨by omega,Hr this.2⟩
theorem I4 {inner:Nat→jS af} (hi:Bi inner) {L:List Int} (hL:cA L):∀ (f i j:Nat) (cur s:af),aF cur→dQ inner L f i cur=.ok (s,j)→i<j∧aF s:=by
 intro f;induction f with
 | zero=>intro i j cur s _ h;unfold dQ at h;cases h
 | succ f ih=>
  intro i j cur s hc h;rw [dQ]at h;have h0:=ez L i;split at h
  ·injection h with h;injection h with h3 h4;subst h3;exact⟨by omega,hc⟩
  cases h1:dB inner L (aP L i)with
  | error e=>rw [h1]at h;cases h
  | ok p=>
   obtain⟨t,a⟩:=p;rw [h1]at h;simp only at h;have hp:=Ce hi hL h1;split at h
   ·cases h
   have:=ih _ _ _ _ (jl _ hc hp.2) h;exact⟨by omega,this.2⟩
theorem lE {L:List Int} (hL:cA L):∀ n,Bi (bH L n):=by
 intro n;induction n with
 | zero=>intro i s j h;unfold bH at h;cases h
 | succ n ih=>
  intro i s j h;rw [bH]at h;cases h1:aT L i 91 with
  | error e=>rw [h1]at h;cases h
  | ok a=>
   rw [h1]at h;simp only at h;have ha:=(fQ h1).1;cases h2:dQ (bH L n) L (L.length+1) (if pk L a=94 then a+1 else a) []with
   | error e=>rw [h2]at h;cases h
   | ok p=>
    obtain⟨cur,k⟩:=p;rw [h2]at h;simp only at h;obtain⟨g1,g2⟩:=I4 ih hL _ _ _ _ _ nX h2;have hk:i<k:=(by split at g1 <;> omega);split at h
    ·split at h
     ·cases h
     injection h with h;injection h with h3 h4;subst h3 h4;exact⟨hk,jl _ g2 nX⟩
    injection h with h;injection h with h3 h4;subst h3 h4;exact⟨hk,g2⟩
theorem EZ {inner:Nat→jS af} {L:List Int} {f i:Nat} {cur:af} (h:pk L (aP L i)=93):dQ inner L (f+1) i cur=.ok (cur,aP L i+1):=by rw [dQ,if_pos h]
theorem kL {inner:Nat→jS af} {L:List Int} {f i:Nat} {cur:af} {e:Int × Nat} (h:pk L (aP L i)≠93) (he:dB inner L (aP L i)=.error e):dQ inner L (f+1) i cur=.error e:=by rw [dQ,if_neg h,he]
theorem je {inner:Nat→jS af} {L:List Int} {f i j:Nat} {cur s:af} (h:pk L (aP L i)≠93) (he:dB inner L (aP L i)=.ok (s,j)) :
    dQ inner L (f+1) i cur=if (mz (uy (pk L (aP L i))) cur s).2≠0 then .error ((mz (uy (pk L (aP L i))) cur s).2,j)else dQ inner L f j (mz (uy (pk L (aP L i))) cur s).1:=by rw [dQ,if_neg h,he]
def dA (l:List Int):Prop:=∀ x∈l,0≤x∧x<128
def nG (l:List Int):List UInt8:=l.map fun x=>UInt8.ofNat x.toNat
theorem Gb {r:Int} (h0:0≤r) (h1:r<128):(Utf8.encode r).data.toList = [UInt8.ofNat r.toNat]:=by
 have hv:Utf8.valid r=true:=(by simp [Utf8.valid];omega);unfold Utf8.encode;simp only [hv,if_true];rw [if_pos (by omega)]
theorem BS {r:Int} (h:¬(0≤r∧r<128)):∃ b∈(Utf8.encode r).data.toList,128≤b.toNat:=by
 cases hv:Utf8.valid r
 ·have:Utf8.encode r=Utf8.encode 65533:=by
   unfold Utf8.encode;simp only [hv,show Utf8.valid 65533=true from by decide];rfl
  rw [this];exact⟨239,by decide,by decide⟩
 have h128:128≤r:=by
  simp [Utf8.valid]at hv;omega
 obtain⟨h1,_,h3⟩:=encode_facts r hv h128;exact⟨_,Array.getElem_mem_toList (xs:=(Utf8.encode r).data) (by simpa using (show(Utf8.encode r).size - 1<(Utf8.encode r).size by omega)),h3 (by omega)⟩
theorem xW (l:List Int):∀ s:ByteArray,(l.foldl (fun r n=>r++Utf8.encode n) s).data.toList=s.data.toList++l.flatMap fun r=>(Utf8.encode r).data.toList:=by
 induction l with
 | nil=>intro s;simp
 | cons x l ih=>intro s;rw [List.foldl_cons,ih,List.flatMap_cons];simp
theorem ng (l:List Int):(runesBytes l).data.toList=l.flatMap fun r=>(Utf8.encode r).data.toList:=by
 rw [runesBytes,xW];rfl
theorem eY {l:List Int} (h:dA l):(runesBytes l).data.toList=nG l:=by
 rw [ng];induction l with
 | nil=>rfl
 | cons x l ih=>
  have hx:=h x List.mem_cons_self;rw [List.flatMap_cons,Gb hx.1 hx.2,ih (fun y hy=>h y (List.mem_cons_of_mem _ hy))];rfl
theorem KQ:∀ {a b:List Int},dA a→dA b→nG a=nG b→a=b:=by
 intro a;induction a with
 | nil=>intro b _ _ h;cases b with
   | nil=>rfl
   | cons y b=>cases h
 | cons x a ih=>
  intro b ha hb h;cases b with
  | nil=>cases h
  | cons y b=>
   unfold nG at h;rw [List.map_cons,List.map_cons]at h;injection h with h1 h2;have hx:=ha x List.mem_cons_self;have hy:=hb y List.mem_cons_self;have h3:=congrArg UInt8.toNat h1;simp at h3;obtain rfl:x=y:=(by omega);rw [ih (fun z hz=>ha z (List.mem_cons_of_mem _ hz)) (fun z hz=>hb z (List.mem_cons_of_mem _ hz)) h2]
theorem x8 {l m:List Int} (hm:dA m) (h:runesBytes l=runesBytes m):l=m:=by
 have e:(runesBytes l).data.toList=nG m:=(by rw [h,eY hm]);have hl:dA l:=by
  intro x hx;by_cases h1:0≤x∧x<128;exact h1;exfalso;obtain⟨b,hb,h2⟩:=BS h1;have:b∈nG m:=(by rw [← e,ng];exact List.mem_flatMap.2 ⟨x,hx,hb⟩);unfold nG at this;obtain⟨y,hy,rfl⟩:=List.mem_map.1 this;have:=hm y hy;simp at h2;omega
 rw [eY hl]at e;exact KQ hl hm e
theorem tZ {l:List Int} (h:dA l):(runesBytes l).size=l.length:=by
 have h2:=congrArg List.length (eY h);rw [nG,List.length_map,Array.length_toList]at h2;exact h2
theorem ov {l:List Int} (h:∀ d∈l,eT d=true):dA l:=by
 intro d hd;have:=h d hd;unfold eT at this;simp only [Bool.or_eq_true,Bool.and_eq_true,decide_eq_true_eq]at this;omega
theorem Co (l:List Int) (d:Int):eo (l++[d])=16*eo l+pE d:=by unfold eo;rw [List.foldl_append];rfl
theorem mJ {l:List Int} (h:∀ d∈l,eT d=true) (hl:l.length≤6):0≤eo l∧eo l<16777216:=by
 obtain⟨h1,h2⟩:=o7 l 0 (Int.le_refl _) h;refine⟨h1,Int.lt_of_lt_of_le h2 ?_⟩;generalize l.length=k at hl;have:k=0∨k=1∨k=2∨k=3∨k=4∨k=5∨k=6:=(by omega);rcases this with rfl | rfl | rfl | rfl | rfl | rfl | rfl <;> decide
theorem J2 (c:Int) (w:World) (h:(65≤c∧c≤70)∨(97≤c∧c≤102)) :
    Calls Tryz.prog 193 #[.int .u8 c] w fun e w'=>e=.returned (.int .u8 (pE c+87))∧w'=w:=by
 have hc:c=65∨c=66∨c=67∨c=68∨c=69∨c=70∨c=97∨c=98∨c=99∨c=100∨c=101∨c=102:=(by omega);clear h;rcases hc with rfl | rfl | rfl | rfl | rfl | rfl | rfl | rfl | rfl | rfl | rfl | rfl
 all_goals
   go_enter Tryz.func193,Tryz.ntmps193
   go_wp2_with fail
   go_ret
   exact⟨rfl,rfl⟩
def WJ (W:World) (ds:List Int) (u n i:Value) (wr:World):Prop:=u=.bool false∧∃ j:Nat,j≤ds.length∧i=.int .i64 j∧n=.int .u64 (eo (ds.take j))∧wr=W
theorem Ey (s:ByteArray) (ds:List Int) (w:World) (hs:s.data.toList=nG ds) (hd:∀ d∈ds,eT d=true) (h1:1≤ds.length) (h6:ds.length≤6) :
    Calls Tryz.prog 183 #[.string s,.int .i64 16,.int .i64 64] w fun e w'=>e=.returned (.tuple #[.int .u64 (eo ds),.nilIface])∧Below w.heap.size w w':=by
 have hsz:s.size=ds.length:=(by have h2:=congrArg List.length hs;rw [nG,List.length_map,Array.length_toList]at h2;exact h2);have qu:=Lib.run_convert_string_bytes (P:=Tryz.prog) w 9 258 5 s Tryz.underlying9 Tryz.underlying258 Tryz.underlying5;have hcell:∀ j d,ds[j]? = some d→(Lib.bytesWorld w 5 s).cell? ⟨w.heap.size,j,none⟩=some (.int .u8 d):=fun j d h=>by
  have hj:j<s.size:=(by rw [hsz];exact(List.getElem?_eq_some_iff.1 h).1);have:=Lib.bytesWorld_cell w 5 s j hj;rw [this,hs];have hb:=ov hd d (List.mem_of_getElem? h);have:(nG ds).getD j 0=UInt8.ofNat d.toNat:=(by simp [nG,List.getD_eq_getElem?_getD,h]);rw [this];congr 2;simp;omega
 have hB:Below w.heap.size w (Lib.bytesWorld w 5 s):=Lib.below_freeze (((Below.refl _ _).drew).alloc (Nat.le_refl _) _) (p:=⟨w.heap.size,_,none⟩) (Nat.le_refl _) _;have hne:(s.toList == [])=false:=by
  rw [beq_eq_false_iff_ne,Lib.toList_data];intro e;have:=congrArg List.length e;rw [Array.length_toList]at this;have h2:s.size=0:=this;omega
 rw [hsz]at qu;generalize Lib.bytesWorld w 5 s=W at *;generalize hk:ds.length=k at *;generalize Go.grownCap w k 0 5 = C at *;have HC:=qqh hcell;have HD:=qqh hd;clear hcell hd hs;go_enter Tryz.func183,Tryz.ntmps183;have hmx:IntKind.u64.wrap (IntKind.u64.wrap 18446744073709551616 - 1)=18446744073709551615:=(by decide);go_wp2_with fail;go_loopw [12,13,101] (WJ W ds) (fun _ _ i _=>k - (intOf i).toNat);(case atStart=>exact⟨rfl,0,Nat.zero_le _,rfl,rfl,rfl⟩);obtain⟨rfl,j,hj,rfl,rfl,rfl⟩:=hrel;rw [hk]at hj;by_cases hlt:j<k
 ·obtain⟨d,Yx⟩:∃ z,ds[j]? = some z:=⟨_,List.getElem?_eq_getElem (by omega)⟩;have hh:=HD.out d (List.mem_of_getElem? Yx);have d0:=HC.out j d Yx;obtain⟨x0,x1⟩:=mJ (l:=ds.take j) (fun y hy=>HD.out y (List.mem_of_mem_take hy)) (by rw [List.length_take];omega);have HS:=qqh (show eo (ds.take (j+1))=16*eo (ds.take j)+pE d by rw [List.take_add_one,Yx];exact Co _ _);have hv:=wO hh;have hr:(48≤d∧d≤57)∨(97≤d∧d≤102)∨(65≤d∧d≤70):=by
   unfold eT at hh;simpa only [Bool.or_eq_true,Bool.and_eq_true,decide_eq_true_eq] using hh
  generalize eo (ds.take j)=X at *;clear Yx hh;have ZJ:(48≤d∧d≤57∧pE d=d - 48)∨(¬ d≤57∧65≤d∧d≤102∧((65≤d∧d≤70)∨(97≤d∧d≤102))):=by
   unfold pE;rcases hr with h | h | h
   ·left;rw [if_pos h.2];omega
   ·right;omega
   right;omega
  rcases ZJ with ⟨q1,q2,q3⟩ | ⟨q1,q2,q3,q4⟩
  ·have HV:=qqh q3;clear hr q3;have rL:decide (48≤d)=true:=decide_eq_true q1;have oI:decide (d≤57)=true:=decide_eq_true q2;go_wp2_with fail;exact⟨⟨rfl,j+1,by omega,by go_num,by rw [HS.out,HV.out];congr 1;omega,rfl⟩,by simp [intOf];omega⟩
  have HL:=qqh (fun(W:World)=>J2 d W (by omega));have oI:decide (d≤57)=false:=decide_eq_false q1;have rL:decide (48≤d)=true:=decide_eq_true (by omega);have ahK:10≤pE d:=(by unfold pE;rw [if_neg q1];split <;> omega);have h95:(d == 95)=false:=(by simp;omega);generalize pE d=v at *;clear hr q4;go_wp2_with (go_at_call 193;refine(HL.out _).mono ?_;rintro e w1 ⟨rfl,rfl⟩);exact⟨⟨rfl,j+1,by omega,by go_num,by rw [HS.out];congr 1;omega,rfl⟩,by simp [intOf];omega⟩
 obtain rfl:j=k:=(by omega);rw [List.take_of_length_le (by omega)];go_wp2_with fail;go_ret2;exact⟨rfl,hB⟩
theorem Bp (s:ByteArray) (ds:List Int) (w:World) (hs:s.data.toList=nG ds) (hd:∀ d∈ds,eT d=true) (h1:1≤ds.length) (h6:ds.length≤6) :
    Calls Tryz.prog 166 #[.string s,.int .i64 16,.int .i64 64] w fun e w'=>e=.returned (.tuple #[.int .i64 (eo ds),.nilIface])∧Below w.heap.size w w':=by
 have HU:=qqh (Ey s ds w hs hd h1 h6);have hsz:s.size=ds.length:=(by have h2:=congrArg List.length hs;rw [nG,List.length_map,Array.length_toList]at h2;exact h2);have hne:(s.toList == [])=false:=by
  rw [beq_eq_false_iff_ne,Lib.toList_data];intro e;have:=congrArg List.length e;rw [Array.length_toList]at this;have h2:s.size=0:=this;omega
 obtain⟨d,RS⟩:∃ z,ds[0]? = some z:=⟨_,List.getElem?_eq_getElem (by omega)⟩;have hh:=hd d (List.mem_of_getElem? RS);have hr:(48≤d∧d≤57)∨(97≤d∧d≤102)∨(65≤d∧d≤70):=by
  unfold eT at hh;simpa only [Bool.or_eq_true,Bool.and_eq_true,decide_eq_true_eq] using hh
 have Yn:∀ W:World,(Instr.index 9 (.string s) (.int .i64 0)).run Tryz.prog W=.ok (.int .u8 d) W:=fun W=>by
  rw [run_index_string W _ s _ _ Tryz.underlying9,dif_pos ⟨by omega,by omega⟩];have e:s.data.toList[0]? = some (UInt8.ofNat d.toNat):=(by rw [hs];simp [nG,RS]);have h3:s.data.toList[0]? = some (s[(0:Nat)]'(by omega)):=by
   rw [List.getElem?_eq_getElem (by rw [Array.length_toList];show 0<s.size;omega)];rfl
  rw [h3]at e;injection e with e;simp only [Int.toNat_zero];rw [e];congr 2;simp;omega
 have h43:(d == 43)=false:=(by simp;omega);have R9:(d == 45)=false:=(by simp;omega);obtain⟨x0,x1⟩:=mJ hd h6;have hmx:IntKind.u64.wrap 9223372036854775808=9223372036854775808:=(by decide);generalize eo ds=X at *;clear hs hd RS hh hr;go_enter Tryz.func166,Tryz.ntmps166;go_wp2_with fail;refine HU.out.mono ?_;rintro e w1 ⟨rfl,hb⟩;have HB:=qqh hb;clear hb;go_wp2_with fail;go_ret2;exact⟨rfl,HB.out⟩
theorem Jz (s:ByteArray) (ds:List Int) (w:World) (hs:s.data.toList=nG ds) (hd:∀ d∈ds,eT d=true) (h1:1≤ds.length) (h6:ds.length≤6) :
    Calls Tryz.prog 148 #[.string s,.int .i64 16,.int .i64 64] w fun e w'=>e=.returned (.tuple #[.int .i64 (eo ds),.nilIface])∧Below w.heap.size w w':=by
 have HI:=qqh (Bp s ds w hs hd h1 h6);generalize eo ds=X at *;clear hs hd;go_enter Tryz.func148,Tryz.ntmps148;go_wp2_with fail;refine HI.out.mono ?_;rintro e w1 ⟨rfl,hb⟩;have HB:=qqh hb;clear hb;go_wp2_with fail;go_ret2;exact⟨rfl,HB.out⟩
end Go.Proofs.YtkggjgeihhialaaGreatDoor
