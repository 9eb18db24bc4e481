/- Span + SetP + SetBuild + SetOps + SynP + SynMono + RunesText + ParseHex -/
import Derived.Test.YtblinekbpcdbfaaGreatDoorZvH
import Derived.Test.YtblinekbpcdbfaaGreatDoorZv4
import Derived.Test.YtblinekbpcdbfaaGreatDoorRows
import Derived.Deep.QuietTactic
import Derived.BigQuiet
import Derived.Laws.Cover4
import Derived.Laws.Runes
import Derived.Lib.ConvBytes
import Derived.Lib.Strings
set_option maxHeartbeats 3200000
set_option maxRecDepth 100000
namespace Go.Proofs.YtblinekbpcdbfaaGreatDoor
open Go.RowKit
abbrev aa:=List (Int × Int)
def an (l:aa):List Value:=l.flatMap fun k=>[.int .i32 k.1,.int .i32 k.2]
theorem bt (l:aa):(an l).length=l.length*2:=by
 induction l with
 | nil=>rfl
 | cons x l ih=>simp only [an,List.flatMap_cons]at ih ⊢;simp [ih];omega
theorem j9 (l:aa) (k:Nat) (x y:Int) (hk:l[k]? = some (x,y)):(an l)[k*2]? = some (.int .i32 x)∧(an l)[k*2+1]? = some (.int .i32 y):=by
 induction l generalizing k with
 | nil=>simp at hk
 | cons z l ih=>
  cases k with
  | zero=>simp at hk;subst hk;simp [an]
  | succ k=>
   have:=ih k (by simpa using hk);simp only [an,List.flatMap_cons]at this ⊢;have e1:(k+1)*2=k*2+1+1:=(by omega);rw [e1];simpa using this
def kM (w:World) (B:Nat) (A:Option Addr) (n:Nat) (l:aa):Prop:=Rd w B 2 A n (an l)
theorem kM.len {w:World} {B n:Nat} {A:Option Addr} {l:aa} (h:kM w B A n l):l.length=n:=by
 have:=h.1;rw [bt]at this;omega
theorem kM.at {w:World} {B n:Nat} {A:Option Addr} {l:aa} (h:kM w B A n l) {k:Nat} {x y:Int} (hk:l[k]? = some (x,y)) :
    ∃ b off:Nat,A=some ⟨b,off,none⟩∧b<B∧w.cell? ⟨b,off+k*2,none⟩=some (.int .i32 x)∧w.cell? ⟨b,off+k*2+1,none⟩=some (.int .i32 y):=by
 have hl:k<l.length:=(List.getElem?_eq_some_iff.1 hk).1;have:=h.len;obtain⟨b,off,e,hb,hc⟩:=h.2 (by omega);obtain⟨h1,h2⟩:=j9 l k x y hk;exact⟨b,off,e,hb,hc _ _ h1,by rw [Nat.add_assoc];exact hc _ _ h2⟩
def wN:Option Int→Int→Bool
  | none,_=>false
  | some h,a=>decide (a≤h+1)
def iJ:Option Int→aa→Int
  | _,[]=>0
  | prev,(a,b)::r=>if a<0∨1114111<b∨b<a then 3 else if wN prev a=true then 2 else iJ (some b) r
def bA (l:aa):Int:=if 200<l.length then 5 else iJ none l
def kE (l:aa):Nat→Option Int
  | 0=>none
  | k+1=>(l[k]?).map (·.2)
def LW (w:World) (l:aa) (n:Nat) (i:Value) (wr:World):Prop :=
  ∃ j:Nat,j≤n∧i=.int .i64 j∧iJ none l=iJ (kE l j) (l.drop j)∧(∀ h,kE l j=some h→h≤1114111∧0≤h)∧Below w.heap.size w wr
theorem cT {α:Type} {l:List α} {j:Nat} {x:α} (h:l[j]? = some x):l.drop j=x::l.drop (j+1):=by
 obtain⟨hj,rfl⟩:=List.getElem?_eq_some_iff.1 h;exact List.drop_eq_getElem_cons hj
theorem iy (A:Option Addr) (n c:Nat) (l:aa) (w:World) (hn:n≤9223372036854775807) (hl:kM w w.heap.size A n l) :
    Calls Tryz.prog 39 #[.slice A n c] w fun e w'=>e=.returned (.int .i64 (bA l))∧Below w.heap.size w w':=by
 have aW:=qqh hl.len;have HL:=qqh hl;clear hl;by_cases h2:200<n
 ·have HP:=qqh (show bA l=5 by unfold bA;rw [if_pos (by rw [aW.out];exact h2)]);go_enter Tryz.func39,Tryz.ntmps39;go_wp2_with fail;go_ret;rw [HP.out];exact⟨rfl,qqb⟩
 have HP:=qqh (show bA l=iJ none l by unfold bA;rw [if_neg (by rw [aW.out];exact h2)]);go_enter Tryz.func39,Tryz.ntmps39;go_wp2_with fail;go_loopw [10] (LW w l n) (fun i _=>n - (intOf i).toNat);(case atStart=>exact⟨0,Nat.zero_le _,rfl,rfl,by simp [kE],qqb⟩);obtain⟨j,hj,rfl,aZ,Ug,hb⟩:=hrel;have hz:=hb.size;by_cases hlt:j<n
 ·obtain⟨⟨x,y⟩,hx⟩:∃ z,l[j]? = some z:=⟨_,List.getElem?_eq_getElem (by rw [aW.out];exact hlt)⟩;obtain⟨b,off,rfl,ey,c0,c1⟩:=HL.out.at hx;have d0:=(hb.cell (p:=⟨b,off+j*2,none⟩) ey).trans c0;have d1:=(hb.cell (p:=⟨b,off+j*2+1,none⟩) ey).trans c1;rw [cT hx,iJ]at aZ;by_cases hr:x<0∨1114111<y∨y<x
  ·rw [if_pos hr]at aZ;have HG:=qqh aZ;have HX:=qqh hx;clear aZ hx c0 c1 Ug;rcases (show x<0∨(0≤x∧1114111<y)∨(0≤x∧y≤1114111∧y<x) by omega)with h1 | ⟨h1,h2⟩ | ⟨h1,h2,h3⟩
   all_goals
     clear hr
     go_wp2_with fail
     go_ret
     rw [HP.out,HG.out]
     exact⟨rfl,hb.alloc hz _⟩
  rw [if_neg hr]at aZ;have Qn:0≤x:=(by omega);have iW:y≤1114111:=(by omega);have lJ:x≤y:=(by omega);have FL:∀ h,kE l (j+1)=some h→h≤1114111∧0≤h:=by
   intro h hh;simp only [kE,hx,Option.map_some,Option.some.injEq]at hh;omega
  have BZ:kE l (j+1)=some y:=(by simp [kE,hx]);clear hr;cases j with
  | zero=>
   rw [if_neg (by simp [kE,wN])]at aZ;rw [← BZ]at aZ;have HG:=qqh aZ;have HX:=qqh hx;have SF:=qqh FL;clear aZ hx c0 c1 Ug FL BZ;simp only [Nat.zero_mul,Nat.add_zero]at d0 d1;go_wp2_with fail;go_quiet (fail);go_wp2_with fail;exact⟨⟨1,by omega,by go_num,HG.out,SF.out,below_drewN (hb.alloc hz _) _⟩,by simp [intOf];omega⟩
  | succ j=>
   obtain⟨⟨p,h⟩,hp⟩:∃ z,l[j]? = some z:=⟨_,List.getElem?_eq_getElem (by rw [aW.out];omega)⟩;have hh:kE l (j+1)=some h:=(by simp [kE,hp]);obtain⟨ZH,YI⟩:=Ug h hh;obtain⟨b2,off2,e2,_,_,c3⟩:=HL.out.at hp;cases e2;have d3:(wr.alloc (Obj.cells #[Value.int IntKind.i32 x,Value.int IntKind.i32 y] 134)).cell? ⟨b,off+j*2+1,none⟩=some (.int .i32 h):=((hb.alloc hz _).cell (p:=⟨b,off+j*2+1,none⟩) ey).trans c3;have hj0:decide ((0:Int)<(j:Int)+1)=true:=decide_eq_true (by omega);have hjn:j<n:=(by omega);have O7:(j:Int)<(n:Int):=(by omega);have hjw:IntKind.i64.wrap (j:Int)=(j:Int):=IntWalk.i64_in _ (by omega);rw [hh]at aZ;simp only [wN,decide_eq_true_eq]at aZ;by_cases ht:x≤h+1
   ·rw [if_pos ht]at aZ;have HG:=qqh aZ;have HX:=qqh hx;have yu:=qqh hp;clear aZ hx c0 c1 c3 Ug FL BZ hh hp;have ht2:decide (x≤h+1)=true:=(by simpa using ht);go_wp2_with fail;go_quiet (fail);go_wp2_with fail;go_ret;rw [HP.out,HG.out];exact⟨rfl,below_drewN (hb.alloc hz _) _⟩
   rw [if_neg ht,← BZ]at aZ;have HG:=qqh aZ;have HX:=qqh hx;have yu:=qqh hp;have SF:=qqh FL;clear aZ hx c0 c1 c3 Ug FL BZ hh hp;have ht2:decide (x≤h+1)=false:=(by simpa using ht);go_wp2_with fail;go_quiet (fail);go_wp2_with fail;exact⟨⟨j+1+1,by omega,by go_num,HG.out,SF.out,below_drewN (hb.alloc hz _) _⟩,by simp [intOf];omega⟩
 obtain rfl:j=n:=(by omega);rw [List.drop_of_length_le (by rw [aW.out];omega)]at aZ;have HG:=qqh (aZ.trans (show iJ (kE l j) [] = 0 from rfl));clear aZ Ug;go_wp2_with fail;go_ret;rw [HP.out,HG.out];exact⟨rfl,hb⟩
def aO (s:aa) (r:Int):Bool:=s.any fun x=>decide (x.1≤r) && decide (r≤x.2)
theorem yA (s:aa):∀ prev:Option Int,iJ prev s=0→(∀ h,prev=some h→∀ x∈s,h+1<x.1)∧(∀ x∈s,0≤x.1∧x.1≤x.2∧x.2≤1114111)∧s.Pairwise (fun a b=>a.2+1<b.1):=by
 induction s with
 | nil=>intro prev _;exact⟨by simp,by simp,List.Pairwise.nil⟩
 | cons z s ih=>
  obtain⟨a,b⟩:=z;intro prev h;rw [iJ]at h;by_cases h1:a<0∨1114111<b∨b<a
  ·rw [if_pos h1]at h;cases h
  rw [if_neg h1]at h;by_cases h2:wN prev a=true
  ·rw [if_pos h2]at h;cases h
  rw [if_neg h2]at h;obtain⟨g1,g2,g3⟩:=ih (some b) h;refine⟨fun q hq x hx=>?_,fun x hx=>?_,List.pairwise_cons.2 ⟨fun x hx=>g1 b rfl x hx,g3⟩⟩
  ·subst hq;simp only [wN,decide_eq_true_eq]at h2;rcases List.mem_cons.1 hx with rfl | hx
   ·show q+1<a;omega
   have:=g1 b rfl x hx;have:=(g2 x hx).1;omega
  rcases List.mem_cons.1 hx with rfl | hx
  ·show 0≤a∧a≤b∧b≤1114111;omega
  exact g2 x hx
structure aH (s:aa):Prop where
  size:s.length≤200
  each:∀ x∈s,0≤x.1∧x.1≤x.2∧x.2≤1114111
  mQ:s.Pairwise (fun a b=>a.2+1<b.1)
theorem mB {s:aa} (h:bA s=0):aH s:=by
 unfold bA at h;by_cases h2:200<s.length
 ·rw [if_pos h2]at h;cases h
 rw [if_neg h2]at h;obtain⟨_,g2,g3⟩:=yA s none h;exact⟨by omega,g2,g3⟩
theorem aH.lt {s:aa} (h:aH s) {i j:Nat} {x y:Int × Int} (hx:s[i]? = some x) (hy:s[j]? = some y) (hij:i<j):x.2+1<y.1:=by
 obtain⟨hi,rfl⟩:=List.getElem?_eq_some_iff.1 hx;obtain⟨hj,rfl⟩:=List.getElem?_eq_some_iff.1 hy;exact List.pairwise_iff_getElem.1 h.mQ i j hi hj hij
theorem P7 {s:aa} (h:aH s) (r:Int) {k:Nat} (h1:∀ t x,t<k→s[t]? = some x→x.2<r) (h2:∀ t x,k≤t→s[t]? = some x→r≤x.2) :
    aO s r=match s[k]? with | some x=>decide (x.1≤r) | none=>false:=by
 have key:aO s r=true↔∃ x,s[k]? = some x∧x.1≤r:=by
  unfold aO;rw [List.any_eq_true];constructor
  ·rintro⟨x,hx,hp⟩;simp only [Bool.and_eq_true,decide_eq_true_eq]at hp;obtain⟨i,hi⟩:=List.mem_iff_getElem?.1 hx;have hki:k≤i:=by
    rcases Nat.lt_or_ge i k with hlt | hge
    ·have:=h1 i x hlt hi;omega
    exact hge
   rcases Nat.lt_or_ge k i with hlt | hge
   ·obtain⟨y,hy⟩:∃ y,s[k]? = some y:=⟨_,List.getElem?_eq_getElem (by have:=(List.getElem?_eq_some_iff.1 hi).1;omega)⟩;have:=h.lt hy hi hlt;have:=h2 k y qql hy;omega
   obtain rfl:i=k:=(by omega);exact⟨x,hi,hp.1⟩
  rintro⟨x,hx,hr⟩;exact⟨x,List.mem_of_getElem? hx,by simp only [Bool.and_eq_true,decide_eq_true_eq];exact⟨hr,h2 k x qql hx⟩⟩
 cases hk:s[k]? with
 | none=>
  rw [hk]at key;simpa using key
 | some x=>
  rw [hk]at key;rw [Bool.eq_iff_iff,key];simp
def eT (s:aa):List Int:=s.flatMap fun x=>[x.1,x.2+1]
def oS (E:List Int) (r:Int):List Int :=
  if 1114111<r∨r∈E then E else E.takeWhile (fun x=>decide (x<r))++r::E.dropWhile (fun x=>decide (x<r))
theorem AM {E:List Int} (h:E.Pairwise (· < ·)) (r:Int):(∀ x∈E.takeWhile (fun x=>decide (x<r)),x<r)∧(∀ x∈E.dropWhile (fun x=>decide (x<r)),r≤x):=by
 induction E with
 | nil=>simp
 | cons a E ih=>
  rw [List.pairwise_cons]at h;obtain⟨g1,g2⟩:=ih h.2;by_cases ha:a<r
  ·simp only [List.takeWhile_cons,List.dropWhile_cons,ha,decide_true,if_true];exact⟨fun x hx=>by rcases List.mem_cons.1 hx with rfl | hx;exact ha;exact g1 x hx,g2⟩
  simp only [List.takeWhile_cons,List.dropWhile_cons,ha,decide_false,Bool.false_eq_true,if_false];refine⟨by simp,fun x hx=>?_⟩;rcases List.mem_cons.1 hx with rfl | hx;omega;have:=h.1 x hx;omega
theorem Lv (E:List Int) (r x:Int):x∈oS E r↔x∈E∨(x=r∧r≤1114111):=by
 unfold oS;split
 ·rename_i h;constructor;exact .inl;rintro(h2 | ⟨rfl,h2⟩);exact h2;rcases h with h | h;omega;exact h
 rename_i h;rw [not_or]at h;have:x∈E↔x∈E.takeWhile (fun x=>decide (x<r))∨x∈E.dropWhile (fun x=>decide (x<r)):=by
  (conv=>lhs;rw [← List.takeWhile_append_dropWhile (p:=fun x=>decide (x<r)) (l:=E)]);rw [List.mem_append]
 rw [List.mem_append,List.mem_cons,this];constructor
 ·rintro(h1 | rfl | h1);exact .inl (.inl h1);exact .inr ⟨rfl,by omega⟩;exact .inl (.inr h1)
 rintro((h1 | h1) | ⟨rfl,_⟩);exact .inl h1;exact .inr (.inr h1);exact .inr (.inl rfl)
theorem J' {E:List Int} (h:E.Pairwise (· < ·)) (r:Int):(oS E r).Pairwise (· < ·):=by
 unfold oS;split;exact h;rename_i hn;rw [not_or]at hn;obtain⟨g1,g2⟩:=AM h r;have hs:=h;rw [← List.takeWhile_append_dropWhile (p:=fun x=>decide (x<r)) (l:=E),List.pairwise_append]at hs;rw [List.pairwise_append];refine⟨hs.1,List.pairwise_cons.2 ⟨fun x hx=>?_,hs.2.1⟩,fun a ha b hb=>?_⟩
 ·have:=g2 x hx;rcases Int.lt_or_eq_of_le this with h1 | rfl;exact h1;exact absurd ((List.dropWhile_sublist _).subset hx) hn.2
 rcases List.mem_cons.1 hb with rfl | hb;exact g1 a ha;exact hs.2.2 a ha b hb
theorem tf (xs:List Int):∀ (E:List Int) (x:Int),x∈xs.foldl oS E↔x∈E∨(x∈xs∧x≤1114111):=by
 induction xs with
 | nil=>intro E x;simp
 | cons a xs ih=>
  intro E x;rw [List.foldl_cons,ih,Lv];constructor
  ·rintro((h | ⟨rfl,h⟩) | ⟨h,h2⟩);exact .inl h;exact .inr ⟨by simp,h⟩;exact .inr ⟨by simp [h],h2⟩
  rintro(h | ⟨h,h2⟩);exact .inl (.inl h);rcases List.mem_cons.1 h with rfl | h;exact .inl (.inr ⟨rfl,h2⟩);exact .inr ⟨h,h2⟩
theorem qX (xs:List Int):∀ (E:List Int),E.Pairwise (· < ·)→(xs.foldl oS E).Pairwise (· < ·):=by
 induction xs with
 | nil=>intro E h;exact h
 | cons a xs ih=>intro E h;rw [List.foldl_cons];exact ih _ (J' h a)
theorem Nf (E:List Int) (r:Int):E.length≤(oS E r).length∧(oS E r).length≤E.length+1:=by
 unfold oS;split;omega;have:=congrArg List.length (List.takeWhile_append_dropWhile (p:=fun x=>decide (x<r)) (l:=E));rw [List.length_append]at this;rw [List.length_append,List.length_cons];omega
theorem BY (xs:List Int):∀ (E:List Int),E.length≤(xs.foldl oS E).length∧(xs.foldl oS E).length≤E.length+xs.length:=by
 induction xs with
 | nil=>intro E;simp
 | cons a xs ih=>intro E;rw [List.foldl_cons,List.length_cons];have:=ih (oS E a);have:=Nf E a;omega
theorem FP (s:aa):(eT s).length=2*s.length:=by
 induction s with
 | nil=>rfl
 | cons x s ih=>unfold eT at ih ⊢;rw [List.flatMap_cons,List.length_append,ih,List.length_cons];simp;omega
def dh (E:List Int) (j:Nat):Int:=match E[j+1]? with | some y=>y - 1 | none=>1114111
theorem wV {s:aa} {a r:Int} (On:a≤r) (h:∀ e∈eT s,¬(a<e∧e≤r)):aO s r=aO s a:=by
 unfold aO;induction s with
 | nil=>rfl
 | cons x s ih=>
  have h1:=h x.1 (by simp [eT]);have h2:=h (x.2+1) (by simp [eT]);have hs:=ih (fun e he=>h e (by unfold eT at he ⊢;rw [List.flatMap_cons];exact List.mem_append_right _ he));rw [List.any_cons,List.any_cons,hs];congr 1;rw [Bool.eq_iff_iff];simp only [Bool.and_eq_true,decide_eq_true_eq];omega
theorem j5 {E:List Int} (h:E.Pairwise (· < ·)) {i j:Nat} {x y:Int} (hx:E[i]? = some x) (hy:E[j]? = some y) (hij:i<j):x<y:=by
 obtain⟨hi,rfl⟩:=List.getElem?_eq_some_iff.1 hx;obtain⟨hj,rfl⟩:=List.getElem?_eq_some_iff.1 hy;exact List.pairwise_iff_getElem.1 h i j hi hj hij
def fJ (L:List aa):List Int:=(L.flatMap eT).foldl oS [0]
structure Canon (s:aa):Prop where
  each:∀ x∈s,0≤x.1∧x.1≤x.2∧x.2≤1114111
  mQ:s.Pairwise (fun a b=>a.2+1<b.1)
theorem aH.canon {s:aa} (h:aH s):Canon s:=⟨h.each,h.mQ⟩
theorem Canon.right {s:aa} (h:Canon s) (hl:s.length≤200):aH s:=⟨hl,h.each,h.mQ⟩
theorem Canon.nil:Canon []:=⟨by simp,List.Pairwise.nil⟩
theorem Canon.tail {x:Int × Int} {s:aa} (h:Canon (x::s)):Canon s:=⟨fun y hy=>h.each y (List.mem_cons_of_mem _ hy),(List.pairwise_cons.1 h.mQ).2⟩
theorem Canon.low {x:Int × Int} {s:aa} (h:Canon (x::s)):∀ y∈s,x.2+1<y.1:=(List.pairwise_cons.1 h.mQ).1
theorem bX (x:Int × Int) (s:aa) (r:Int):aO (x::s) r=((decide (x.1≤r) && decide (r≤x.2)) || aO s r):=rfl
theorem dW (a b:aa) (r:Int):aO (a++b) r=(aO a r || aO b r):=List.any_append
theorem rR {s:aa} {r:Int}:aO s r=true↔∃ x∈s,x.1≤r∧r≤x.2:=by
 unfold aO;rw [List.any_eq_true];constructor
 ·rintro⟨x,hx,h⟩;simp at h;exact⟨x,hx,h⟩
 rintro⟨x,hx,h1,h2⟩;exact⟨x,hx,by simp [h1,h2]⟩
theorem dZ {s:aa} {m r:Int} (h:∀ y∈s,m<y.1) (hr:r≤m):aO s r=false:=by
 rw [Bool.eq_false_iff,ne_eq,rR];rintro⟨x,hx,h1,_⟩;have:=h x hx;omega
theorem KE {s:aa} {m r:Int} (h:∀ y∈s,y.2<m) (hr:m≤r):aO s r=false:=by
 rw [Bool.eq_false_iff,ne_eq,rR];rintro⟨x,hx,_,h1⟩;have:=h x hx;omega
theorem BO:∀ {a b:aa},Canon a→Canon b→(∀ r,0≤r→r≤1114111→aO a r=aO b r)→a=b:=by
 intro a;induction a with
 | nil=>
  intro b _ hb h;cases b with
  | nil=>rfl
  | cons y b=>
   have hy:=hb.each y List.mem_cons_self;have:=h y.1 (by omega) (by omega);rw [bX]at this;simp [aO,hy.2.1]at this
 | cons x a ih=>
  intro b ha hb h;have hx:=ha.each x List.mem_cons_self;cases b with
  | nil=>
   have:=h x.1 (by omega) (by omega);rw [bX]at this;simp [aO,hx.2.1]at this
  | cons y b=>
   have hy:=hb.each y List.mem_cons_self;have la:=ha.low;have lb:=hb.low;have h1:¬ x.1<y.1:=fun hl=>by
    have:=h x.1 (by omega) (by omega);rw [bX,bX,dZ (s:=b) (m:=y.2+1) lb (by omega)]at this;simp [hx.2.1]at this;omega
   have h2:¬ y.1<x.1:=fun hl=>by
    have:=h y.1 (by omega) (by omega);rw [bX,bX,dZ (s:=a) (m:=x.2+1) la (by omega)]at this;simp [hy.2.1]at this;omega
   have h3:¬ x.2<y.2:=fun hl=>by
    have:=h (x.2+1) (by omega) (by omega);rw [bX,bX,dZ (s:=a) (m:=x.2+1) la (by omega),dZ (s:=b) (m:=y.2+1) lb (by omega),decide_eq_false (p:=x.2+1≤x.2) (by omega),decide_eq_true (p:=y.1≤x.2+1) (by omega),decide_eq_true (p:=x.2+1≤y.2) (by omega)]at this;simp at this
   have h4:¬ y.2<x.2:=fun hl=>by
    have:=h (y.2+1) (by omega) (by omega);rw [bX,bX,dZ (s:=b) (m:=y.2+1) lb (by omega),dZ (s:=a) (m:=x.2+1) la (by omega),decide_eq_false (p:=y.2+1≤y.2) (by omega),decide_eq_true (p:=x.1≤y.2+1) (by omega),decide_eq_true (p:=y.2+1≤x.2) (by omega)]at this;simp at this
   obtain⟨xl,xh⟩:=x;obtain⟨yl,yh⟩:=y;dsimp only at *;obtain rfl:xl=yl:=(by omega);obtain rfl:xh=yh:=(by omega);rw [ih ha.tail hb.tail fun r Ql Qn=>?_];by_cases hr:r≤xh
   ·rw [dZ (s:=a) (m:=xh+1) la (by omega),dZ (s:=b) (m:=xh+1) lb (by omega)]
   have:=h r Ql Qn;rw [bX,bX]at this;simpa [hr] using this
def tC (acc:aa) (low high:Int):aa :=
  match acc.getLast? with
  | some x=>if x.2+1=low then acc.dropLast++[(x.1,high)]else acc++[(low,high)]
  | none=>acc++[(low,high)]
theorem KD (low high:Int):tC [] low high = [(low,high)]:=rfl
theorem Ev (i:aa) (x:Int × Int) (low high:Int):tC (i++[x]) low high=if x.2+1=low then i++[(x.1,high)]else i++[x]++[(low,high)]:=by
 unfold tC;simp
theorem ni {i:aa} {x:Int × Int} (hi:Canon i) (hx:0≤x.1∧x.1≤x.2∧x.2≤1114111) (h:∀ y∈i,y.2+1<x.1):Canon (i++[x]):=by
 refine⟨fun y hy=>?_,?_⟩
 ·rcases List.mem_append.1 hy with hy | hy;exact hi.each y hy;rw [List.mem_singleton.1 hy];exact hx
 rw [List.pairwise_append];exact⟨hi.mQ,List.pairwise_singleton _ _,fun a ha b hb=>by rw [List.mem_singleton.1 hb];exact h a ha⟩
theorem vF {i:aa} {x:Int × Int} (h:Canon (i++[x])):Canon i∧(0≤x.1∧x.1≤x.2∧x.2≤1114111)∧∀ y∈i,y.2+1<x.1:=by
 have hr:=List.pairwise_append.1 h.mQ;exact⟨⟨fun y hy=>h.each y (by simp [hy]),hr.1⟩,h.each x (by simp),fun y hy=>hr.2.2 y hy x (by simp)⟩
theorem Fu {acc:aa} {low high:Int} (h:Canon acc) (hl:∀ x∈acc,x.2<low) (h0:0≤low) (h1:low≤high) (h2:high≤1114111) :
    Canon (tC acc low high)∧(∀ x∈tC acc low high,x.2≤high)∧∀ r,aO (tC acc low high) r=(aO acc r || (decide (low≤r) && decide (r≤high))):=by
 rcases List.eq_nil_or_concat acc with rfl | ⟨i,x,rfl⟩
 ·rw [KD];exact⟨⟨by simp;omega,List.pairwise_singleton _ _⟩,by simp,fun r=>by simp [aO]⟩
 rw [List.concat_eq_append]at h hl ⊢;obtain⟨hi,hx,Y0⟩:=vF h;have hxl:=hl x (by simp);rw [Ev];by_cases he:x.2+1=low
 ·rw [if_pos he];refine⟨ni hi ⟨hx.1,by simp only;omega,h2⟩ Y0,fun y hy=>?_,fun r=>?_⟩
  ·rcases List.mem_append.1 hy with hy | hy
   ·have:=hl y (by simp [hy]);omega
   rw [List.mem_singleton.1 hy];exact Int.le_refl _
  rw [dW,dW,Bool.or_assoc];congr 1;simp only [aO,List.any_cons,List.any_nil,Bool.or_false];rw [Bool.eq_iff_iff];simp;omega
 rw [if_neg he];refine⟨ni h ⟨h0,h1,h2⟩ (fun y hy=>?_),fun y hy=>?_,fun r=>?_⟩
 ·simp only;rcases List.mem_append.1 hy with hy | hy
  ·have:=Y0 y hy;omega
  rw [List.mem_singleton.1 hy];omega
 ·rcases List.mem_append.1 hy with hy | hy
  ·have:=hl y hy;omega
  rw [List.mem_singleton.1 hy];exact Int.le_refl _
 rw [dW];congr 1;simp [aO]
def cH (E:List Int) (h:Int→Bool):Nat→aa
  | 0=>[]
  | j+1=>match E[j]? with | none=>cH E h j | some a=>if h a=true then tC (cH E h j) a (dh E j)else cH E h j
theorem xu {E:List Int} {h:Int→Bool} {j:Nat} {a:Int} (ha:E[j]? = some a):cH E h (j+1)=if h a=true then tC (cH E h j) a (dh E j)else cH E h j:=by
 rw [cH,ha]
def sH (E:List Int) (h:Int→Bool):aa × Int:=if 200<(cH E h E.length).length then ([],5)else (cH E h E.length,0)
structure oO (E:List Int) (h:Int→Bool):Prop where
  mQ:E.Pairwise (· < ·)
  zero:E[0]? = some 0
  top:∀ x∈E,x≤1114111
  const:∀ j a r,E[j]? = some a→a≤r→r≤dh E j→h r=h a
theorem SS {E:List Int} {h:Int→Bool} (hE:oO E h) {j:Nat} {a:Int} (ha:E[j]? = some a):0≤a∧a≤dh E j∧dh E j≤1114111∧dh E j+1=(E[j+1]?).getD 1114112:=by
 have h0:0≤a:=by
  rcases Nat.eq_zero_or_pos j with rfl | hj
  ·rw [hE.zero]at ha;obtain rfl:=Option.some.inj ha;exact Int.le_refl _
  have:=j5 hE.mQ hE.zero ha hj;omega
 have ht:=hE.top a (List.mem_of_getElem? ha);unfold dh;cases he:E[j+1]? with
 | none=>simp;omega
 | some y=>
  have h1:=j5 hE.mQ ha he (Nat.lt_succ_self j);have h2:=hE.top y (List.mem_of_getElem? he);simp only [Option.getD_some];omega
theorem Gm {E:List Int} {h:Int→Bool} (hE:oO E h):∀ j,j≤E.length →
    Canon (cH E h j)∧(∀ x∈cH E h j,x.2<(E[j]?).getD 1114112)∧∀ r,0≤r→r<(E[j]?).getD 1114112→aO (cH E h j) r=h r:=by
 intro j;induction j with
 | zero=>exact fun _=>⟨Canon.nil,by simp [cH],fun r h0 h1=>by rw [hE.zero]at h1;simp at h1;omega⟩
 | succ j ih=>
  intro hj;obtain⟨a,ha⟩:∃ a,E[j]? = some a:=⟨_,List.getElem?_eq_getElem (by omega)⟩;obtain⟨i1,i2,i3⟩:=ih (by omega);rw [ha,Option.getD_some]at i2 i3;obtain⟨g0,g1,g2,g3⟩:=SS hE ha;rw [xu ha,← g3];by_cases hh:h a=true
  ·rw [if_pos hh];obtain⟨s1,s2,s3⟩:=Fu i1 i2 g0 g1 g2;refine⟨s1,fun x hx=>by have:=s2 x hx;omega,fun r h0 h1=>?_⟩;rw [s3];by_cases hr:r<a
   ·rw [i3 r h0 hr];simp;omega
   rw [hE.const j a r ha (by omega) (by omega),hh];simp;right;omega
  rw [if_neg hh];refine⟨i1,fun x hx=>by have:=i2 x hx;omega,fun r h0 h1=>?_⟩;by_cases hr:r<a;exact i3 r h0 hr;rw [hE.const j a r ha (by omega) (by omega),KE i2 (by omega)];simpa using hh
theorem zQ {E:List Int} {h:Int→Bool} (hE:oO E h):Canon (cH E h E.length)∧∀ r,0≤r→r≤1114111→aO (cH E h E.length) r=h r:=by
 obtain⟨h1,_,h3⟩:=Gm hE E.length qql;rw [List.getElem?_eq_none qql,Option.getD_none]at h3;exact⟨h1,fun r a b=>h3 r a (by omega)⟩
theorem Cc {E:List Int} {h:Int→Bool} (hE:oO E h) {s:aa} (hs:Canon s) (hh:∀ r,0≤r→r≤1114111→aO s r=h r):sH E h=if 200<s.length then ([],5)else (s,0):=by
 obtain⟨b1,b2⟩:=zQ hE;have:cH E h E.length=s:=BO b1 hs fun r h0 h1=>(by rw [b2 r h0 h1,hh r h0 h1]);unfold sH;rw [this]
theorem iO (L:List aa) (x:Int):x∈fJ L↔x=0∨(x∈L.flatMap eT∧x≤1114111):=by
 unfold fJ;rw [tf];simp
theorem lU (L:List aa):(fJ L).Pairwise (· < ·):=qX _ _ (by simp)
theorem Bh {L:List aa} {j:Nat} {a:Int} (hj:(fJ L)[j]? = some a):∀ r,a≤r→r≤dh (fJ L) j→∀ e∈L.flatMap eT,¬(a<e∧e≤r):=by
 intro r h1 h2 e he ⟨h3,h4⟩;have Dk:=lU L;by_cases hm:e≤1114111
 ·obtain⟨k,hk⟩:=List.mem_iff_getElem?.1 ((iO L e).2 (.inr ⟨he,hm⟩));have hjk:j<k:=by
   rcases Nat.lt_or_ge j k with h | h;exact h;rcases Nat.lt_or_ge k j with h' | h'
   ·have:=j5 Dk hk hj h';omega
   obtain rfl:j=k:=(by omega);rw [hk]at hj;injection hj;omega
  obtain⟨y,hy⟩:∃ y,(fJ L)[j+1]? = some y:=⟨_,List.getElem?_eq_getElem (by have:=(List.getElem?_eq_some_iff.1 hk).1;omega)⟩;unfold dh at h2;rw [hy]at h2;simp only at h2;rcases Nat.lt_or_ge (j+1) k with h | h
  ·have:=j5 Dk hy hk h;omega
  obtain rfl:k=j+1:=(by omega);rw [hy]at hk;injection hk;omega
 unfold dh at h2;split at h2
 ·rename_i y hy;have:=(iO L y).1 (List.mem_of_getElem? hy);omega
 omega
theorem yD {L:List aa} (h:∀ s∈L,aH s):(fJ L)[0]? = some 0:=by
 obtain⟨k,hk⟩:=List.mem_iff_getElem?.1 ((iO L 0).2 (.inl rfl));obtain⟨y,hy⟩:∃ y,(fJ L)[0]? = some y:=⟨_,List.getElem?_eq_getElem (by have:=(List.getElem?_eq_some_iff.1 hk).1;omega)⟩;have h0:0≤y:=by
  rcases (iO L y).1 (List.mem_of_getElem? hy)with rfl | ⟨h1,_⟩;exact Int.le_refl _;obtain⟨s,hs,he⟩:=List.mem_flatMap.1 h1;unfold eT at he;obtain⟨x,hx,he⟩:=List.mem_flatMap.1 he;have:=(h s hs).each x hx;simp at he;omega
 rcases Nat.eq_zero_or_pos k with rfl | hk0;exact hk;have:=j5 (lU L) hy hk hk0;omega
theorem rj {L:List aa} (hL:∀ s∈L,aH s) {h:Int→Bool} (hc:∀ a r,(∀ s∈L,aO s r=aO s a)→h r=h a):oO (fJ L) h where
  mQ:=lU L
  zero:=yD hL
  top:=fun x hx=>by rcases (iO L x).1 hx with rfl | ⟨_,h⟩ <;> omega
  const:=fun j a r hj h1 h2=>hc a r fun s hs=>wV h1 fun e he=>Bh hj r h1 h2 e (List.mem_flatMap.2 ⟨s,hs,he⟩)
def mS (op:Int) (a b:aa) (r:Int):Bool:=(decide (op=124) && (aO a r || aO b r)) || ((decide (op=38) && aO a r && aO b r) || (decide (op=45) && aO a r && !aO b r))
def nC (op:Int) (a b:aa):aa × Int :=
  if bA a≠0 then ([],bA a)else if op=94 then sH (fJ [a]) (fun r=>!aO a r)
  else if bA b≠0 then ([],bA b)else sH (fJ [a,b]) (mS op a b)
theorem me {s:aa} (h:aH s):bA s=0:=by
 unfold bA;rw [if_neg (by have:=h.size;omega)];have:∀ (s:aa) (prev:Option Int),Canon s→(∀ p,prev=some p→∀ x∈s,p+1<x.1)→iJ prev s=0:=by
  intro s;induction s with
  | nil=>intro prev _ _;rfl
  | cons x s ih=>
   intro prev hc hp;obtain⟨a,b⟩:=x;have he:=hc.each (a,b) List.mem_cons_self;dsimp only at he;rw [iJ,if_neg (by omega)];have ht:wN prev a=false:=by
    cases prev with
    | none=>rfl
    | some p=>have:=hp p rfl (a,b) List.mem_cons_self;simp [wN];omega
   rw [ht,if_neg (by decide)];exact ih _ hc.tail fun p hp' y hy=>by
    obtain rfl:=Option.some.inj hp';exact hc.low y hy
 exact this s none h.canon (fun p hp=>by cases hp)
theorem Ts {a s:aa} (ha:aH a) (hs:Canon s) (hh:∀ r,0≤r→r≤1114111→aO s r = !aO a r) (b:aa):nC 94 a b=if 200<s.length then ([],5)else (s,0):=by
 unfold nC;rw [if_neg (by rw [me ha];decide),if_pos rfl];exact Cc (rj (by simpa using ha) (fun x r h=>by rw [h a (by simp)])) hs hh
theorem M3 {op:Int} {a b s:aa} (nT:op≠94) (ha:aH a) (hb:aH b) (hs:Canon s) (hh:∀ r,0≤r→r≤1114111→aO s r=mS op a b r):nC op a b=if 200<s.length then ([],5)else (s,0):=by
 unfold nC;rw [if_neg (by rw [me ha];decide),if_neg nT,if_neg (by rw [me hb];decide)];exact Cc (rj (by simpa using ⟨ha,hb⟩) (fun x r h=>by unfold mS;rw [h a (by simp),h b (by simp)])) hs hh
theorem sY (E:List Int) (h:Int→Bool) (hE:oO E h):aH (sH E h).1:=by
 unfold sH;by_cases hl:200<(cH E h E.length).length
 ·rw [if_pos hl];exact⟨Nat.zero_le _,by simp,List.Pairwise.nil⟩
 rw [if_neg hl];exact(zQ hE).1.right (by omega)
theorem jj (op:Int) {a b:aa} (ha:aH a) (hb:aH b):aH (nC op a b).1:=by
 unfold nC;rw [if_neg (by rw [me ha];decide)];by_cases nT:op=94
 ·rw [if_pos nT];exact sY _ _ (rj (by simpa using ha) (fun x r h=>by rw [h a (by simp)]))
 rw [if_neg nT,if_neg (by rw [me hb];decide)];exact sY _ _ (rj (by simpa using ⟨ha,hb⟩) (fun x r h=>by unfold mS;rw [h a (by simp),h b (by simp)]))
def pk (L:List Int) (i:Nat):Int:=(L[i]?).getD (-1)
def pX (r:Int):Bool:=decide (r=32) || (decide (r=9) || decide (r=10))
def rS:List Int:=[91,93,38,45,94,92,58,36,40,41,123,125,60,62,124,59,35,39,34,61,44]
def cQ (r:Int):Bool:=decide (0≤r) && (!pX r && !rS.contains r)
def eV (r:Int):Bool:=(decide (48≤r) && decide (r≤57)) || ((decide (97≤r) && decide (r≤102)) || (decide (65≤r) && decide (r≤70)))
def pW (r:Int):Int:=if r≤57 then r - 48 else if 97≤r then r - 87 else r - 55
def Gt (r:Int):Bool:=(decide (48≤r) && decide (r≤57)) || ((decide (97≤r) && decide (r≤122)) || (decide (65≤r) && decide (r≤90)))
def az (p:Int→Bool) (L:List Int) (i:Nat):Nat:=i+((L.drop i).takeWhile p).length
def aN (L:List Int) (i:Nat):Nat:=az pX L i
def aM (L:List Int) (i j:Nat):List Int:=(L.drop i).take (j - i)
abbrev jY (α:Type):=Except (Int × Nat) (α × Nat)
def aQ (L:List Int) (i:Nat) (r:Int):Except (Int × Nat) Nat:=if pk L i=r then .ok (i+1)else .error (2,i)
def dY (ds:List Int):Int:=ds.foldl (fun x d=>16*x+pW d) 0
def kU (L:List Int) (i:Nat):jY Int :=
  match aQ L (i+1) 123 with
  | .error e=>.error e
  | .ok a=>
    if az eV L a - a<1∨6<az eV L a - a then .error (2,a)
    else match aQ L (az eV L a) 125 with
      | .error e=>.error e
      | .ok j=>if 1114111<dY (aM L a (az eV L a))then .error (3,i)else .ok (dY (aM L a (az eV L a)),j)
def cL (L:List Int) (i:Nat):jY Int :=
  if cQ (pk L i)=true then .ok (pk L i,i+1)
  else if pk L i≠92 then .error (2,i)
  else if pk L (i+1)=110 then .ok (10,i+2)
  else if pk L (i+1)=116 then .ok (9,i+2)
  else if pk L (i+1)=117 then kU L (i+1)
  else if pk L (i+1)<0∨Gt (pk L (i+1))=true then .error (2,i+1)
  else .ok (pk L (i+1),i+2)
def js (L:List Int) (i:Nat):jY (Int × Int) :=
  match cL L i with
  | .error e=>.error e
  | .ok (low,j)=>
    if pk L j=45∧pk L (j+1)≠91 then
      match cL L (j+1)with
      | .error e=>.error e
      | .ok (high,k)=>if high<low then .error (3,j+1)else .ok ((low,high),k)
    else .ok ((low,low),j)
def gE (n:List Int):Option aa :=
  if n = [100,105,103,105,116]then some [(48,57)]
  else if n = [108,111,119,101,114]then some [(97,122),(223,246),(248,255)]
  else if n = [117,112,112,101,114]then some [(65,90),(192,214),(216,222)]
  else if n = [108,101,116,116,101,114]then some [(65,90),(97,122),(192,214),(216,246),(248,255)]
  else if n = [118,111,119,101,108]then some [(65,65),(69,69),(73,73),(79,79),(85,85),(97,97),(101,101),(105,105),(111,111),(117,117)]
  else if n = [103,114,101,101,107]then some [(880,1023)]
  else if n = [99,121,114,105,108,108,105,99]then some [(1024,1279)]
  else if n = [115,112,97,99,101]then some [(9,10),(32,32)]
  else if n = [97,110,121]then some [(0,1114111)]
  else none
def eN (L:List Int) (i:Nat):jY aa :=
  match gE (aM L (i+2) (az cQ L (i+2)))with
  | none=>.error (7,i+2)
  | some s=>
    match aQ L (az cQ L (i+2)) 58 with
    | .error e=>.error e
    | .ok j=>match aQ L j 93 with
      | .error e=>.error e
      | .ok k=>.ok (s,k)
def uA (r:Int):Int:=if r=38∨r=45 then r else 124
def dc (inner:Nat→jY aa) (L:List Int) (i:Nat):jY aa :=
  if pk L i=91∧pk L (i+1)=58 then eN L i
  else if pk L i=91 then inner i
  else if pk L i=38∨pk L i=45 then inner (aN L (i+1))
  else match js L i with
    | .error e=>.error e
    | .ok (x,j)=>.ok ([x],j)
def dM (inner:Nat→jY aa) (L:List Int):Nat→Nat→aa→jY aa
  | 0,i,_=>.error (2,i)
  | f+1,i,cur=>
    if pk L (aN L i)=93 then .ok (cur,aN L i+1)
    else match dc inner L (aN L i)with
      | .error e=>.error e
      | .ok (s,j)=>
        if (nC (uA (pk L (aN L i))) cur s).2≠0 then .error ((nC (uA (pk L (aN L i))) cur s).2,j)
        else dM inner L f j (nC (uA (pk L (aN L i))) cur s).1
def bw (L:List Int):Nat→Nat→jY aa
  | 0,i=>.error (if pk L i=91 then 4 else 2,i)
  | n+1,i=>
    match aQ L i 91 with
    | .error e=>.error e
    | .ok j=>
      match dM (bw L n) L (L.length+1) (if pk L j=94 then j+1 else j) []with
      | .error e=>.error e
      | .ok (cur,k)=>
        if pk L j=94 then (if (nC 94 cur []).2≠0 then .error ((nC 94 cur []).2,k)else .ok ((nC 94 cur []).1,k))
        else .ok (cur,k)
theorem bl {L:List Int} {i:Nat} (h:pk L i ≠ -1):i<L.length:=by
 unfold pk at h;rcases Nat.lt_or_ge i L.length with hl | hl;exact hl;rw [List.getElem?_eq_none hl]at h;exact absurd rfl h
theorem GH {L:List Int} {i:Nat} {r:Int} (h:L[i]? = some r):pk L i=r:=by unfold pk;rw [h];rfl
theorem pV {L:List Int} {i:Nat} (h:L.length≤i):pk L i = -1:=by unfold pk;rw [List.getElem?_eq_none h];rfl
theorem dL {p:Int→Bool} {L:List Int} {i:Nat} (h:i<L.length) (hp:p (pk L i)=true):az p L i=az p L (i+1):=by
 unfold az;rw [List.drop_eq_getElem_cons h,List.takeWhile_cons];have:pk L i=L[i]:=GH (List.getElem?_eq_getElem h);rw [this]at hp;rw [hp];simp;omega
theorem cF {p:Int→Bool} {L:List Int} {i:Nat} (h:i<L.length→p (pk L i)=false):az p L i=i:=by
 unfold az;rcases Nat.lt_or_ge i L.length with hl | hl
 ·rw [List.drop_eq_getElem_cons hl,List.takeWhile_cons];have:pk L i=L[i]:=GH (List.getElem?_eq_getElem hl);have h2:=h hl;rw [this]at h2;rw [h2];simp
 rw [List.drop_of_length_le hl];simp
theorem iq {p:Int→Bool} {L:List Int} {i:Nat} (h:i≤L.length):i≤az p L i∧az p L i≤L.length:=by
 unfold az;have:=(List.takeWhile_sublist p (l:=L.drop i)).length_le;rw [List.length_drop]at this;omega
theorem fH {L:List Int} {i j:Nat} {r:Int} (h:aQ L i r=.ok j):j=i+1∧pk L i=r:=by
 unfold aQ at h;split at h
 ·rename_i hp;injection h with h;exact⟨h.symm,hp⟩
 cases h
theorem MZ {L:List Int} {i:Nat} {r:Int} (h:pk L i=r):aQ L i r=.ok (i+1):=by unfold aQ;rw [if_pos h]
theorem zJ {L:List Int} {i:Nat} {r:Int} (h:pk L i≠r):aQ L i r=.error (2,i):=by unfold aQ;rw [if_neg h]
theorem eK (p:Int→Bool) (L:List Int) (i:Nat):i≤az p L i:=by unfold az;omega
theorem ee (L:List Int) (i:Nat):i≤aN L i:=eK _ _ _
def cR (L:List Int):Prop:=∀ x∈L,0≤x∧x≤1114111
theorem xe {L:List Int} (h:cR L) (i:Nat):pk L i = -1∨(0≤pk L i∧pk L i≤1114111):=by
 unfold pk;cases hi:L[i]? with
 | none=>exact .inl rfl
 | some x=>exact .inr (h x (List.mem_of_getElem? hi))
theorem I7 {L:List Int} (h:cR L) {i:Nat} (h0:pk L i ≠ -1):0≤pk L i∧pk L i≤1114111:=by
 rcases xe h i with h1 | h1;exact absurd h1 h0;exact h1
theorem xD {d:Int} (h:eV d=true):0≤pW d∧pW d≤15:=by
 unfold eV at h;unfold pW;simp only [Bool.or_eq_true,Bool.and_eq_true,decide_eq_true_eq]at h;split;omega;split <;> omega
theorem pF (ds:List Int):∀ x:Int,0≤x→(∀ d∈ds,eV d=true)→0≤ds.foldl (fun x d=>16*x+pW d) x∧ds.foldl (fun x d=>16*x+pW d) x<(x+1)*16 ^ ds.length:=by
 induction ds with
 | nil=>intro x h _;simp;omega
 | cons d ds ih=>
  intro x hx hd;have h1:=xD (hd d List.mem_cons_self);obtain⟨i1,i2⟩:=ih (16*x+pW d) (by omega) (fun y hy=>hd y (List.mem_cons_of_mem _ hy));rw [List.foldl_cons,List.length_cons];refine⟨i1,Int.lt_of_lt_of_le i2 ?_⟩;have e:(16:Int) ^ (ds.length+1)=16*16 ^ ds.length:=(by rw [Int.pow_succ,Int.mul_comm]);rw [e,← Int.mul_assoc];exact Int.mul_le_mul_of_nonneg_right (by omega) (Int.pow_nonneg (by decide))
theorem pK {p:Int→Bool} (l:List Int):∀ x∈l.takeWhile p,p x=true:=by
 induction l with
 | nil=>simp
 | cons a l ih=>
  intro x hx;rw [List.takeWhile_cons]at hx;split at hx
  ·rcases List.mem_cons.1 hx with rfl | hx;assumption;exact ih x hx
  simp at hx
theorem xH (p:Int→Bool) (L:List Int) (i:Nat):aM L i (az p L i)=(L.drop i).takeWhile p:=by
 unfold aM az;rw [Nat.add_sub_cancel_left];have h:=(List.takeWhile_prefix p (l:=L.drop i));exact(List.prefix_iff_eq_take.1 h).symm
theorem AX (L:List Int) (i:Nat) (h:az eV L i - i≤6):0≤dY (aM L i (az eV L i))∧dY (aM L i (az eV L i))<16777216:=by
 rw [xH];obtain⟨h1,h2⟩:=pF ((L.drop i).takeWhile eV) 0 (Int.le_refl _) (pK _);refine⟨h1,Int.lt_of_lt_of_le h2 ?_⟩;have hl:((L.drop i).takeWhile eV).length≤6:=(by unfold az at h;omega);generalize ((L.drop i).takeWhile eV).length=k at hl;have:k=0∨k=1∨k=2∨k=3∨k=4∨k=5∨k=6:=(by omega);rcases this with rfl | rfl | rfl | rfl | rfl | rfl | rfl <;> decide
theorem Px {L:List Int} {i j:Nat} {x:Int} (h:kU L i=.ok (x,j)):i<j∧0≤x∧x≤1114111:=by
 unfold kU at h;cases h1:aQ L (i+1) 123 with
 | error e=>rw [h1]at h;cases h
 | ok a=>
  rw [h1]at h;simp only at h;split at h
  ·cases h
  rename_i hn;rw [not_or]at hn;have ha:=(fH h1).1;cases h2:aQ L (az eV L a) 125 with
  | error e=>rw [h2]at h;cases h
  | ok b=>
   rw [h2]at h;simp only at h;have hb:=(fH h2).1;have:=eK eV L a;have hr:=AX L a (by omega);split at h
   ·cases h
   injection h with h;injection h with h3 h4;omega
theorem nZ {L:List Int} (hL:cR L) {i j:Nat} {x:Int} (h:cL L i=.ok (x,j)):i<j∧0≤x∧x≤1114111:=by
 unfold cL at h;split at h
 ·rename_i hp;injection h with h;injection h with h1 h2;have:pk L i ≠ -1:=fun e=>(by rw [e]at hp;exact absurd hp (by decide));have:=I7 hL this;omega
 split at h
 ·cases h
 split at h
 ·injection h with h;injection h with h1 h2;omega
 split at h
 ·injection h with h;injection h with h1 h2;omega
 split at h
 ·have:=Px h;omega
 split at h
 ·cases h
 rename_i hn;rw [not_or]at hn;injection h with h;injection h with h1 h2;have:=xe hL (i+1);omega
theorem My {L:List Int} (hL:cR L) {i j:Nat} {x:Int × Int} (h:js L i=.ok (x,j)):i<j∧0≤x.1∧x.1≤x.2∧x.2≤1114111:=by
 unfold js at h;cases h1:cL L i with
 | error e=>rw [h1]at h;cases h
 | ok p=>
  obtain⟨low,a⟩:=p;rw [h1]at h;have ha:=nZ hL h1;simp only at h;split at h
  ·cases h2:cL L (a+1)with
   | error e=>rw [h2]at h;cases h
   | ok q=>
    obtain⟨high,b⟩:=q;rw [h2]at h;have hb:=nZ hL h2;simp only at h;split at h
    ·cases h
    injection h with h;injection h with h3 h4;subst h3;simp only;omega
  injection h with h;injection h with h3 h4;subst h3;simp only;omega
theorem Jb {x:Int × Int} (h:0≤x.1∧x.1≤x.2∧x.2≤1114111):aH [x]:=⟨by simp,by simpa using h,List.pairwise_singleton _ _⟩
theorem oN:aH []:=⟨Nat.zero_le _,by simp,List.Pairwise.nil⟩
theorem Cn {n:List Int} {s:aa} (h:gE n=some s):aH s:=by
 have key:∀ s:aa,bA s=0→aH s:=fun _=>mB;unfold gE at h;(repeat' (split at h));(all_goals first | (injection h with h;subst h;exact key _ (by decide)) | cases h)
theorem Iy {L:List Int} {i j:Nat} {s:aa} (h:eN L i=.ok (s,j)):i<j∧aH s:=by
 unfold eN at h;cases h0:gE (aM L (i+2) (az cQ L (i+2)))with
 | none=>rw [h0]at h;cases h
 | some t=>
  rw [h0]at h;simp only at h;cases h1:aQ L (az cQ L (i+2)) 58 with
  | error e=>rw [h1]at h;cases h
  | ok a=>
   rw [h1]at h;simp only at h;cases h2:aQ L a 93 with
   | error e=>rw [h2]at h;cases h
   | ok b=>
    rw [h2]at h;simp only at h;injection h with h;injection h with h3 h4;subst h3;have:=eK cQ L (i+2);have:=(fH h1).1;have:=(fH h2).1;exact⟨by omega,Cn h0⟩
def Bw (inner:Nat→jY aa):Prop:=∀ i s j,inner i=.ok (s,j)→i<j∧aH s
theorem CG {inner:Nat→jY aa} (hi:Bw inner) {L:List Int} (hL:cR L) {i j:Nat} {s:aa} (h:dc inner L i=.ok (s,j)):i<j∧aH s:=by
 unfold dc at h;split at h;exact Iy h;split at h;exact hi _ _ _ h;split at h
 ·have:=hi _ _ _ h;have h2:=ee L (i+1);exact⟨by omega,this.2⟩
 cases h1:js L i with
 | error e=>rw [h1]at h;cases h
 | ok p=>
  obtain⟨x,a⟩:=p;rw [h1]at h;simp only at h;injection h with h;injection h with h3 h4;subst h3;have:=My hL h1;exact⟨by omega,Jb this.2⟩
theorem JJ {inner:Nat→jY aa} (hi:Bw inner) {L:List Int} (hL:cR L):∀ (f i j:Nat) (cur s:aa),aH cur→dM inner L f i cur=.ok (s,j)→i<j∧aH s:=by
 intro f;induction f with
 | zero=>intro i j cur s _ h;unfold dM at h;cases h
 | succ f ih=>
  intro i j cur s hc h;rw [dM]at h;have h0:=ee L i;split at h
  ·injection h with h;injection h with h3 h4;subst h3;exact⟨by omega,hc⟩
  cases h1:dc inner L (aN L i)with
  | error e=>rw [h1]at h;cases h
  | ok p=>
   obtain⟨t,a⟩:=p;rw [h1]at h;simp only at h;have hp:=CG hi hL h1;split at h
   ·cases h
   have:=ih _ _ _ _ (jj _ hc hp.2) h;exact⟨by omega,this.2⟩
theorem ov {L:List Int} (hL:cR L):∀ n,Bw (bw L n):=by
 intro n;induction n with
 | zero=>intro i s j h;unfold bw at h;cases h
 | succ n ih=>
  intro i s j h;rw [bw]at h;cases h1:aQ L i 91 with
  | error e=>rw [h1]at h;cases h
  | ok a=>
   rw [h1]at h;simp only at h;have ha:=(fH h1).1;cases h2:dM (bw L n) L (L.length+1) (if pk L a=94 then a+1 else a) []with
   | error e=>rw [h2]at h;cases h
   | ok p=>
    obtain⟨cur,k⟩:=p;rw [h2]at h;simp only at h;obtain⟨g1,g2⟩:=JJ ih hL _ _ _ _ _ oN h2;have hk:i<k:=(by split at g1 <;> omega);split at h
    ·split at h
     ·cases h
     injection h with h;injection h with h3 h4;subst h3 h4;exact⟨hk,jj _ g2 oN⟩
    injection h with h;injection h with h3 h4;subst h3 h4;exact⟨hk,g2⟩
theorem EO {inner:Nat→jY aa} {L:List Int} {f i:Nat} {cur:aa} (h:pk L (aN L i)=93):dM inner L (f+1) i cur=.ok (cur,aN L i+1):=by rw [dM,if_pos h]
theorem kD {inner:Nat→jY aa} {L:List Int} {f i:Nat} {cur:aa} {e:Int × Nat} (h:pk L (aN L i)≠93) (he:dc inner L (aN L i)=.error e):dM inner L (f+1) i cur=.error e:=by rw [dM,if_neg h,he]
theorem jE {inner:Nat→jY aa} {L:List Int} {f i j:Nat} {cur s:aa} (h:pk L (aN L i)≠93) (he:dc inner L (aN L i)=.ok (s,j)) :
    dM inner L (f+1) i cur=if (nC (uA (pk L (aN L i))) cur s).2≠0 then .error ((nC (uA (pk L (aN L i))) cur s).2,j)else dM inner L f j (nC (uA (pk L (aN L i))) cur s).1:=by rw [dM,if_neg h,he]
def cW (l:List Int):Prop:=∀ x∈l,0≤x∧x<128
def nL (l:List Int):List UInt8:=l.map fun x=>UInt8.ofNat x.toNat
theorem FH {r:Int} (h0:0≤r) (h1:r<128):(Utf8.encode r).data.toList = [UInt8.ofNat r.toNat]:=by
 have hv:Utf8.valid r=true:=(by simp [Utf8.valid];omega);unfold Utf8.encode;simp only [hv,if_true];rw [if_pos (by omega)]
theorem DK {r:Int} (h:¬(0≤r∧r<128)):∃ b∈(Utf8.encode r).data.toList,128≤b.toNat:=by
 cases hv:Utf8.valid r
 ·have:Utf8.encode r=Utf8.encode 65533:=by
   unfold Utf8.encode;simp only [hv,show Utf8.valid 65533=true from by decide];rfl
  rw [this];exact⟨239,by decide,by decide⟩
 have h128:128≤r:=by
  simp [Utf8.valid]at hv;omega
 obtain⟨h1,_,h3⟩:=encode_facts r hv h128;exact⟨_,Array.getElem_mem_toList (xs:=(Utf8.encode r).data) (by simpa using (show(Utf8.encode r).size - 1<(Utf8.encode r).size by omega)),h3 (by omega)⟩
theorem yN (l:List Int):∀ s:ByteArray,(l.foldl (fun r n=>r++Utf8.encode n) s).data.toList=s.data.toList++l.flatMap fun r=>(Utf8.encode r).data.toList:=by
 induction l with
 | nil=>intro s;simp
 | cons x l ih=>intro s;rw [List.foldl_cons,ih,List.flatMap_cons];simp
theorem ny (l:List Int):(runesBytes l).data.toList=l.flatMap fun r=>(Utf8.encode r).data.toList:=by
 rw [runesBytes,yN];rfl
theorem fl {l:List Int} (h:cW l):(runesBytes l).data.toList=nL l:=by
 rw [ny];induction l with
 | nil=>rfl
 | cons x l ih=>
  have hx:=h x List.mem_cons_self;rw [List.flatMap_cons,FH hx.1 hx.2,ih (fun y hy=>h y (List.mem_cons_of_mem _ hy))];rfl
theorem MG:∀ {a b:List Int},cW a→cW b→nL a=nL b→a=b:=by
 intro a;induction a with
 | nil=>intro b _ _ h;cases b with
   | nil=>rfl
   | cons y b=>cases h
 | cons x a ih=>
  intro b ha hb h;cases b with
  | nil=>cases h
  | cons y b=>
   unfold nL at h;rw [List.map_cons,List.map_cons]at h;injection h with h1 h2;have hx:=ha x List.mem_cons_self;have hy:=hb y List.mem_cons_self;have h3:=congrArg UInt8.toNat h1;simp at h3;obtain rfl:x=y:=(by omega);rw [ih (fun z hz=>ha z (List.mem_cons_of_mem _ hz)) (fun z hz=>hb z (List.mem_cons_of_mem _ hz)) h2]
theorem yY {l m:List Int} (hm:cW m) (h:runesBytes l=runesBytes m):l=m:=by
 have e:(runesBytes l).data.toList=nL m:=(by rw [h,fl hm]);have hl:cW l:=by
  intro x hx;by_cases h1:0≤x∧x<128;exact h1;exfalso;obtain⟨b,hb,h2⟩:=DK h1;have:b∈nL m:=(by rw [← e,ny];exact List.mem_flatMap.2 ⟨x,hx,hb⟩);unfold nL at this;obtain⟨y,hy,rfl⟩:=List.mem_map.1 this;have:=hm y hy;simp at h2;omega
 rw [fl hl]at e;exact MG hl hm e
theorem uF {l:List Int} (h:cW l):(runesBytes l).size=l.length:=by
 have h2:=congrArg List.length (fl h);rw [nL,List.length_map,Array.length_toList]at h2;exact h2
theorem oJ {l:List Int} (h:∀ d∈l,eV d=true):cW l:=by
 intro d hd;have:=h d hd;unfold eV at this;simp only [Bool.or_eq_true,Bool.and_eq_true,decide_eq_true_eq]at this;omega
theorem Dw (l:List Int) (d:Int):dY (l++[d])=16*dY l+pW d:=by unfold dY;rw [List.foldl_append];rfl
theorem mY {l:List Int} (h:∀ d∈l,eV d=true) (hl:l.length≤6):0≤dY l∧dY l<16777216:=by
 obtain⟨h1,h2⟩:=pF l 0 (Int.le_refl _) h;refine⟨h1,Int.lt_of_lt_of_le h2 ?_⟩;generalize l.length=k at hl;have:k=0∨k=1∨k=2∨k=3∨k=4∨k=5∨k=6:=(by omega);rcases this with rfl | rfl | rfl | rfl | rfl | rfl | rfl <;> decide
theorem Kw (c:Int) (w:World) (h:(65≤c∧c≤70)∨(97≤c∧c≤102)) :
    Calls Tryz.prog 191 #[.int .u8 c] w fun e w'=>e=.returned (.int .u8 (pW c+87))∧w'=w:=by
 have hc:c=65∨c=66∨c=67∨c=68∨c=69∨c=70∨c=97∨c=98∨c=99∨c=100∨c=101∨c=102:=(by omega);clear h;rcases hc with rfl | rfl | rfl | rfl | rfl | rfl | rfl | rfl | rfl | rfl | rfl | rfl
 all_goals
   go_enter Tryz.func191,Tryz.ntmps191
   go_wp2_with fail
   go_ret
   exact⟨rfl,rfl⟩
def Wf (W:World) (ds:List Int) (u n i:Value) (wr:World):Prop:=u=.bool false∧∃ j:Nat,j≤ds.length∧i=.int .i64 j∧n=.int .u64 (dY (ds.take j))∧wr=W
theorem Fp (s:ByteArray) (ds:List Int) (w:World) (hs:s.data.toList=nL ds) (hd:∀ d∈ds,eV d=true) (h1:1≤ds.length) (h6:ds.length≤6) :
    Calls Tryz.prog 174 #[.string s,.int .i64 16,.int .i64 64] w fun e w'=>e=.returned (.tuple #[.int .u64 (dY ds),.nilIface])∧Below w.heap.size w w':=by
 have hsz:s.size=ds.length:=(by have h2:=congrArg List.length hs;rw [nL,List.length_map,Array.length_toList]at h2;exact h2);have sZ:=Lib.run_convert_string_bytes (P:=Tryz.prog) w 9 267 5 s Tryz.underlying9 Tryz.underlying267 Tryz.underlying5;have hcell:∀ j d,ds[j]? = some d→(Lib.bytesWorld w 5 s).cell? ⟨w.heap.size,j,none⟩=some (.int .u8 d):=fun j d h=>by
  have hj:j<s.size:=(by rw [hsz];exact(List.getElem?_eq_some_iff.1 h).1);have:=Lib.bytesWorld_cell w 5 s j hj;rw [this,hs];have hb:=oJ hd d (List.mem_of_getElem? h);have:(nL ds).getD j 0=UInt8.ofNat d.toNat:=(by simp [nL,List.getD_eq_getElem?_getD,h]);rw [this];congr 2;simp;omega
 have hB:Below w.heap.size w (Lib.bytesWorld w 5 s):=Lib.below_freeze ((qqb.drew).alloc qql _) (p:=⟨w.heap.size,_,none⟩) qql _;have hne:(s.toList == [])=false:=by
  rw [beq_eq_false_iff_ne,Lib.toList_data];intro e;have:=congrArg List.length e;rw [Array.length_toList]at this;have h2:s.size=0:=this;omega
 rw [hsz]at sZ;generalize Lib.bytesWorld w 5 s=W at *;generalize hk:ds.length=k at *;generalize Go.grownCap w k 0 5 = C at *;have HC:=qqh hcell;have HD:=qqh hd;clear hcell hd hs;go_enter Tryz.func174,Tryz.ntmps174;have hmx:IntKind.u64.wrap (IntKind.u64.wrap 18446744073709551616 - 1)=18446744073709551615:=(by decide);go_wp2_with fail;go_loopw [12,13,101] (Wf W ds) (fun _ _ i _=>k - (intOf i).toNat);(case atStart=>exact⟨rfl,0,Nat.zero_le _,rfl,rfl,rfl⟩);obtain⟨rfl,j,hj,rfl,rfl,rfl⟩:=hrel;rw [hk]at hj;by_cases hlt:j<k
 ·obtain⟨d,XX⟩:∃ z,ds[j]? = some z:=⟨_,List.getElem?_eq_getElem (by omega)⟩;have hh:=HD.out d (List.mem_of_getElem? XX);have d0:=HC.out j d XX;obtain⟨x0,x1⟩:=mY (l:=ds.take j) (fun y hy=>HD.out y (List.mem_of_mem_take hy)) (by rw [List.length_take];omega);have HS:=qqh (show dY (ds.take (j+1))=16*dY (ds.take j)+pW d by rw [List.take_add_one,XX];exact Dw _ _);have hv:=xD hh;have hr:(48≤d∧d≤57)∨(97≤d∧d≤102)∨(65≤d∧d≤70):=by
   unfold eV at hh;simpa only [Bool.or_eq_true,Bool.and_eq_true,decide_eq_true_eq] using hh
  generalize dY (ds.take j)=X at *;clear XX hh;have Zs:(48≤d∧d≤57∧pW d=d - 48)∨(¬ d≤57∧65≤d∧d≤102∧((65≤d∧d≤70)∨(97≤d∧d≤102))):=by
   unfold pW;rcases hr with h | h | h
   ·left;rw [if_pos h.2];omega
   ·right;omega
   right;omega
  rcases Zs with ⟨q1,q2,q3⟩ | ⟨q1,q2,q3,q4⟩
  ·have HV:=qqh q3;clear hr q3;have qC:decide (48≤d)=true:=decide_eq_true q1;have mI:decide (d≤57)=true:=decide_eq_true q2;go_wp2_with fail;exact⟨⟨rfl,j+1,by omega,by go_num,by rw [HS.out,HV.out];congr 1;omega,rfl⟩,by simp [intOf];omega⟩
  have HL:=qqh (fun(W:World)=>Kw d W (by omega));have mI:decide (d≤57)=false:=decide_eq_false q1;have qC:decide (48≤d)=true:=decide_eq_true (by omega);have ae3:10≤pW d:=(by unfold pW;rw [if_neg q1];split <;> omega);have h95:(d == 95)=false:=(by simp;omega);generalize pW d=v at *;clear hr q4;go_wp2_with (go_at_call 191;refine(HL.out _).mono ?_;rintro e w1 ⟨rfl,rfl⟩);exact⟨⟨rfl,j+1,by omega,by go_num,by rw [HS.out];congr 1;omega,rfl⟩,by simp [intOf];omega⟩
 obtain rfl:j=k:=(by omega);rw [List.take_of_length_le (by omega)];go_wp2_with fail;go_ret2;exact⟨rfl,hB⟩
theorem BG (s:ByteArray) (ds:List Int) (w:World) (hs:s.data.toList=nL ds) (hd:∀ d∈ds,eV d=true) (h1:1≤ds.length) (h6:ds.length≤6) :
    Calls Tryz.prog 161 #[.string s,.int .i64 16,.int .i64 64] w fun e w'=>e=.returned (.tuple #[.int .i64 (dY ds),.nilIface])∧Below w.heap.size w w':=by
 have HU:=qqh (Fp s ds w hs hd h1 h6);have hsz:s.size=ds.length:=(by have h2:=congrArg List.length hs;rw [nL,List.length_map,Array.length_toList]at h2;exact h2);have hne:(s.toList == [])=false:=by
  rw [beq_eq_false_iff_ne,Lib.toList_data];intro e;have:=congrArg List.length e;rw [Array.length_toList]at this;have h2:s.size=0:=this;omega
 obtain⟨d,YL⟩:∃ z,ds[0]? = some z:=⟨_,List.getElem?_eq_getElem (by omega)⟩;have hh:=hd d (List.mem_of_getElem? YL);have hr:(48≤d∧d≤57)∨(97≤d∧d≤102)∨(65≤d∧d≤70):=by
  unfold eV at hh;simpa only [Bool.or_eq_true,Bool.and_eq_true,decide_eq_true_eq] using hh
 have Y0:∀ W:World,(Instr.index 9 (.string s) (.int .i64 0)).run Tryz.prog W=.ok (.int .u8 d) W:=fun W=>by
  rw [run_index_string W _ s _ _ Tryz.underlying9,dif_pos ⟨by omega,by omega⟩];have e:s.data.toList[0]? = some (UInt8.ofNat d.toNat):=(by rw [hs];simp [nL,YL]);have h3:s.data.toList[0]? = some (s[(0:Nat)]'(by omega)):=by
   rw [List.getElem?_eq_getElem (by rw [Array.length_toList];show 0<s.size;omega)];rfl
  rw [h3]at e;injection e with e;simp only [Int.toNat_zero];rw [e];congr 2;simp;omega
 have h43:(d == 43)=false:=(by simp;omega);have TD:(d == 45)=false:=(by simp;omega);obtain⟨x0,x1⟩:=mY hd h6;have hmx:IntKind.u64.wrap 9223372036854775808=9223372036854775808:=(by decide);generalize dY ds=X at *;clear hs hd YL hh hr;go_enter Tryz.func161,Tryz.ntmps161;go_wp2_with fail;refine HU.out.mono ?_;rintro e w1 ⟨rfl,hb⟩;have HB:=qqh hb;clear hb;go_wp2_with fail;go_ret2;exact⟨rfl,HB.out⟩
theorem Ki (s:ByteArray) (ds:List Int) (w:World) (hs:s.data.toList=nL ds) (hd:∀ d∈ds,eV d=true) (h1:1≤ds.length) (h6:ds.length≤6) :
    Calls Tryz.prog 140 #[.string s,.int .i64 16,.int .i64 64] w fun e w'=>e=.returned (.tuple #[.int .i64 (dY ds),.nilIface])∧Below w.heap.size w w':=by
 have HI:=qqh (BG s ds w hs hd h1 h6);generalize dY ds=X at *;clear hs hd;go_enter Tryz.func140,Tryz.ntmps140;go_wp2_with fail;refine HI.out.mono ?_;rintro e w1 ⟨rfl,hb⟩;have HB:=qqh hb;clear hb;go_wp2_with fail;go_ret2;exact⟨rfl,HB.out⟩
end Go.Proofs.YtblinekbpcdbfaaGreatDoor
