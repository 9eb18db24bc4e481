/- Span + SpanInfo + SetP + SetBuild + SetOps + SynP + SynMono + RunesText + One -/
import Derived.Test.YtapechjebkjidaaGreatDoorZs2
import Derived.Test.YtapechjebkjidaaGreatDoorRows
import Derived.Deep.QuietTactic
import Derived.BigQuiet
import Derived.Laws.Cover4
import Derived.Laws.Runes
import Derived.Test.YtapechjebkjidaaGreatDoorZs5
set_option maxHeartbeats 1600000
set_option maxRecDepth 100000
namespace Go.Proofs.YtapechjebkjidaaGreatDoor
open Go.RowKit
abbrev af:=List (Int × Int)
def aj (l:af):List Value:=l.flatMap fun k=>[.int .i32 k.1,.int .i32 k.2]
theorem bB (l:af):(aj l).length=l.length*2:=by
 induction l with
 | nil=>rfl
 | cons x l ih=>simp only [aj,List.flatMap_cons]at ih ⊢;simp [ih];omega
theorem kz (l:af) (k:Nat) (x y:Int) (hk:l[k]? = some (x,y)):(aj l)[k*2]? = some (.int .i32 x)∧(aj l)[k*2+1]? = some (.int .i32 y):=by
 induction l generalizing k with
 | nil=>simp at hk
 | cons z l ih=>
  cases k with
  | zero=>simp at hk;subst hk;simp [aj]
  | succ k=>
   have:=ih k (by simpa using hk);simp only [aj,List.flatMap_cons]at this ⊢;have e1:(k+1)*2=k*2+1+1:=(by omega);rw [e1];simpa using this
def mX (w:World) (B:Nat) (A:Option Addr) (n:Nat) (l:af):Prop:=Rd w B 2 A n (aj l)
theorem mX.len {w:World} {B n:Nat} {A:Option Addr} {l:af} (h:mX w B A n l):l.length=n:=by
 have:=h.1;rw [bB]at this;omega
theorem mX.at {w:World} {B n:Nat} {A:Option Addr} {l:af} (h:mX w B A n l) {k:Nat} {x y:Int} (hk:l[k]? = some (x,y)) :
    ∃ b off:Nat,A=some ⟨b,off,none⟩∧b<B∧w.cell? ⟨b,off+k*2,none⟩=some (.int .i32 x)∧w.cell? ⟨b,off+k*2+1,none⟩=some (.int .i32 y):=by
 have hl:k<l.length:=(List.getElem?_eq_some_iff.1 hk).1;have:=h.len;obtain⟨b,off,e,hb,hc⟩:=h.2 (by omega);obtain⟨h1,h2⟩:=kz l k x y hk;exact⟨b,off,e,hb,hc _ _ h1,by rw [Nat.add_assoc];exact hc _ _ h2⟩
def yC:Option Int→Int→Bool
  | none,_=>false
  | some h,a=>decide (a≤h+1)
def iX:Option Int→af→Int
  | _,[]=>0
  | prev,(a,b)::r=>if a<0∨1114111<b∨b<a then 3 else if yC prev a=true then 2 else iX (some b) r
def bV (l:af):Int:=if 200<l.length then 5 else iX none l
def kU (l:af):Nat→Option Int
  | 0=>none
  | k+1=>(l[k]?).map (·.2)
def Mr (w:World) (l:af) (n:Nat) (i:Value) (wr:World):Prop :=
  ∃ j:Nat,j≤n∧i=.int .i64 j∧iX none l=iX (kU l j) (l.drop j)∧(∀ h,kU l j=some h→h≤1114111∧0≤h)∧Below w.heap.size w wr
theorem dN {α:Type} {l:List α} {j:Nat} {x:α} (h:l[j]? = some x):l.drop j=x::l.drop (j+1):=by
 obtain⟨hj,rfl⟩:=List.getElem?_eq_some_iff.1 h;exact List.drop_eq_getElem_cons hj
theorem jk (A:Option Addr) (n c:Nat) (l:af) (w:World) (hn:n≤9223372036854775807) (hl:mX w w.heap.size A n l) :
    Calls Tryz.prog 62 #[.slice A n c] w fun e w'=>e=.returned (.int .i64 (bV l))∧Below w.heap.size w w':=by
 have aY:=Lib.hid hl.len;have HL:=Lib.hid hl;clear hl;by_cases h2:200<n
 ·have HP:=Lib.hid (show bV l=5 by unfold bV;rw [if_pos (by rw [aY.out];exact h2)]);go_enter Tryz.func62,Tryz.ntmps62;go_wp2_with fail;go_ret;rw [HP.out];exact⟨rfl,Below.refl _ _⟩
 have HP:=Lib.hid (show bV l=iX none l by unfold bV;rw [if_neg (by rw [aY.out];exact h2)]);go_enter Tryz.func62,Tryz.ntmps62;go_wp2_with fail;go_loopw [10] (Mr w l n) (fun i _=>n - (intOf i).toNat);(case atStart=>exact⟨0,Nat.zero_le _,rfl,rfl,by simp [kU],Below.refl _ _⟩);obtain⟨j,hj,rfl,bf,OA,hb⟩:=hrel;have hz:=hb.size;by_cases hlt:j<n
 ·obtain⟨⟨x,y⟩,hx⟩:∃ z,l[j]? = some z:=⟨_,List.getElem?_eq_getElem (by rw [aY.out];exact hlt)⟩;obtain⟨b,off,rfl,dL,c0,c1⟩:=HL.out.at hx;have d0:=(hb.cell (p:=⟨b,off+j*2,none⟩) dL).trans c0;have d1:=(hb.cell (p:=⟨b,off+j*2+1,none⟩) dL).trans c1;rw [dN hx,iX]at bf;by_cases hr:x<0∨1114111<y∨y<x
  ·rw [if_pos hr]at bf;have HG:=Lib.hid bf;have HX:=Lib.hid hx;clear bf hx c0 c1 OA;rcases (show x<0∨(0≤x∧1114111<y)∨(0≤x∧y≤1114111∧y<x) by omega)with h1 | ⟨h1,h2⟩ | ⟨h1,h2,h3⟩
   all_goals
     clear hr
     go_wp2_with fail
     go_ret
     rw [HP.out,HG.out]
     exact⟨rfl,hb.alloc hz _⟩
  rw [if_neg hr]at bf;have Lr:0≤x:=(by omega);have jb:y≤1114111:=(by omega);have mG:x≤y:=(by omega);have Fx:∀ h,kU l (j+1)=some h→h≤1114111∧0≤h:=by
   intro h hh;simp only [kU,hx,Option.map_some,Option.some.injEq]at hh;omega
  have E6:kU l (j+1)=some y:=(by simp [kU,hx]);clear hr;cases j with
  | zero=>
   rw [if_neg (by simp [kU,yC])]at bf;rw [← E6]at bf;have HG:=Lib.hid bf;have HX:=Lib.hid hx;have Sz:=Lib.hid Fx;clear bf hx c0 c1 OA Fx E6;simp only [Nat.zero_mul,Nat.add_zero]at d0 d1;go_wp2_with fail;go_quiet (fail);go_wp2_with fail;exact⟨⟨1,by omega,by go_num,HG.out,Sz.out,below_drewN (hb.alloc hz _) _⟩,by simp [intOf];omega⟩
  | succ j=>
   obtain⟨⟨p,h⟩,hp⟩:∃ z,l[j]? = some z:=⟨_,List.getElem?_eq_getElem (by rw [aY.out];omega)⟩;have hh:kU l (j+1)=some h:=(by simp [kU,hp]);obtain⟨hh1,Yz⟩:=OA h hh;obtain⟨b2,off2,e2,_,_,c3⟩:=HL.out.at hp;cases e2;have d3:(wr.alloc (Obj.cells #[Value.int IntKind.i32 x,Value.int IntKind.i32 y] 112)).cell? ⟨b,off+j*2+1,none⟩=some (.int .i32 h):=((hb.alloc hz _).cell (p:=⟨b,off+j*2+1,none⟩) dL).trans c3;have hj0:decide ((0:Int)<(j:Int)+1)=true:=decide_eq_true (by omega);have hjn:j<n:=(by omega);have Qf:(j:Int)<(n:Int):=(by omega);have hjw:IntKind.i64.wrap (j:Int)=(j:Int):=IntWalk.i64_in _ (by omega);rw [hh]at bf;simp only [yC,decide_eq_true_eq]at bf;by_cases ht:x≤h+1
   ·rw [if_pos ht]at bf;have HG:=Lib.hid bf;have HX:=Lib.hid hx;have zA:=Lib.hid hp;clear bf hx c0 c1 c3 OA Fx E6 hh hp;have ht2:decide (x≤h+1)=true:=(by simpa using ht);go_wp2_with fail;go_quiet (fail);go_wp2_with fail;go_ret;rw [HP.out,HG.out];exact⟨rfl,below_drewN (hb.alloc hz _) _⟩
   rw [if_neg ht,← E6]at bf;have HG:=Lib.hid bf;have HX:=Lib.hid hx;have zA:=Lib.hid hp;have Sz:=Lib.hid Fx;clear bf hx c0 c1 c3 OA Fx E6 hh hp;have ht2:decide (x≤h+1)=false:=(by simpa using ht);go_wp2_with fail;go_quiet (fail);go_wp2_with fail;exact⟨⟨j+1+1,by omega,by go_num,HG.out,Sz.out,below_drewN (hb.alloc hz _) _⟩,by simp [intOf];omega⟩
 obtain rfl:j=n:=(by omega);rw [List.drop_of_length_le (by rw [aY.out];omega)]at bf;have HG:=Lib.hid (bf.trans (show iX (kU l j) [] = 0 from rfl));clear bf OA;go_wp2_with fail;go_ret;rw [HP.out,HG.out];exact⟨rfl,hb⟩
theorem jB:(Tryz.prog.info? 112).map (fun i=>(i.zero,i.size,i.bytes))=some (some (.agg #[.int .i32 0,.int .i32 0]),2,8):=by kernel_rfl
theorem mw (x y:Int):∀ u ∈ [Value.int .i32 x,.int .i32 y],u.oneCell'=true:=by
 intro u hu;simp at hu;rcases hu with rfl | rfl <;> rfl
theorem gK (l:af) (x y:Int):aj (l++[(x,y)])=aj l++[.int .i32 x,.int .i32 y]:=by simp [aj]
theorem lZ (l:af):∀ u∈aj l,u.oneCell'=true:=by
 intro u hu;simp only [aj,List.mem_flatMap]at hu;obtain⟨x,_,hu⟩:=hu;simp at hu;rcases hu with rfl | rfl <;> rfl
theorem xM (a b:af):aj (a++b)=aj a++aj b:=by simp [aj]
theorem mK (a b:af):aj (a++b)=aj a++aj b:=by simp [aj]
def bk (s:af) (r:Int):Bool:=s.any fun x=>decide (x.1≤r) && decide (r≤x.2)
theorem zk (s:af):∀ prev:Option Int,iX prev s=0→(∀ h,prev=some h→∀ x∈s,h+1<x.1)∧(∀ x∈s,0≤x.1∧x.1≤x.2∧x.2≤1114111)∧s.Pairwise (fun a b=>a.2+1<b.1):=by
 induction s with
 | nil=>intro prev _;exact⟨by simp,by simp,List.Pairwise.nil⟩
 | cons z s ih=>
  obtain⟨a,b⟩:=z;intro prev h;rw [iX]at h;by_cases h1:a<0∨1114111<b∨b<a
  ·rw [if_pos h1]at h;cases h
  rw [if_neg h1]at h;by_cases h2:yC prev a=true
  ·rw [if_pos h2]at h;cases h
  rw [if_neg h2]at h;obtain⟨g1,g2,g3⟩:=ih (some b) h;refine⟨fun q hq x hx=>?_,fun x hx=>?_,List.pairwise_cons.2 ⟨fun x hx=>g1 b rfl x hx,g3⟩⟩
  ·subst hq;simp only [yC,decide_eq_true_eq]at h2;rcases List.mem_cons.1 hx with rfl | hx
   ·show q+1<a;omega
   have:=g1 b rfl x hx;have:=(g2 x hx).1;omega
  rcases List.mem_cons.1 hx with rfl | hx
  ·show 0≤a∧a≤b∧b≤1114111;omega
  exact g2 x hx
structure aJ (s:af):Prop where
  size:s.length≤200
  each:∀ x∈s,0≤x.1∧x.1≤x.2∧x.2≤1114111
  nK:s.Pairwise (fun a b=>a.2+1<b.1)
theorem oZ {s:af} (h:bV s=0):aJ s:=by
 unfold bV at h;by_cases h2:200<s.length
 ·rw [if_pos h2]at h;cases h
 rw [if_neg h2]at h;obtain⟨_,g2,g3⟩:=zk s none h;exact⟨by omega,g2,g3⟩
theorem aJ.lt {s:af} (h:aJ s) {i j:Nat} {x y:Int × Int} (hx:s[i]? = some x) (hy:s[j]? = some y) (hij:i<j):x.2+1<y.1:=by
 obtain⟨hi,rfl⟩:=List.getElem?_eq_some_iff.1 hx;obtain⟨hj,rfl⟩:=List.getElem?_eq_some_iff.1 hy;exact List.pairwise_iff_getElem.1 h.nK i j hi hj hij
theorem QD {s:af} (h:aJ s) (r:Int) {k:Nat} (h1:∀ t x,t<k→s[t]? = some x→x.2<r) (h2:∀ t x,k≤t→s[t]? = some x→r≤x.2) :
    bk s r=match s[k]? with | some x=>decide (x.1≤r) | none=>false:=by
 have key:bk s r=true↔∃ x,s[k]? = some x∧x.1≤r:=by
  unfold bk;rw [List.any_eq_true];constructor
  ·rintro⟨x,hx,hp⟩;simp only [Bool.and_eq_true,decide_eq_true_eq]at hp;obtain⟨i,hi⟩:=List.mem_iff_getElem?.1 hx;have hki:k≤i:=by
    rcases Nat.lt_or_ge i k with hlt | hge
    ·have:=h1 i x hlt hi;omega
    exact hge
   rcases Nat.lt_or_ge k i with hlt | hge
   ·obtain⟨y,hy⟩:∃ y,s[k]? = some y:=⟨_,List.getElem?_eq_getElem (by have:=(List.getElem?_eq_some_iff.1 hi).1;omega)⟩;have:=h.lt hy hi hlt;have:=h2 k y (Nat.le_refl _) hy;omega
   obtain rfl:i=k:=(by omega);exact⟨x,hi,hp.1⟩
  rintro⟨x,hx,hr⟩;exact⟨x,List.mem_of_getElem? hx,by simp only [Bool.and_eq_true,decide_eq_true_eq];exact⟨hr,h2 k x (Nat.le_refl _) hx⟩⟩
 cases hk:s[k]? with
 | none=>
  rw [hk]at key;simpa using key
 | some x=>
  rw [hk]at key;rw [Bool.eq_iff_iff,key];simp
def eT (s:af):List Int:=s.flatMap fun x=>[x.1,x.2+1]
def pP (E:List Int) (r:Int):List Int :=
  if 1114111<r∨r∈E then E else E.takeWhile (fun x=>decide (x<r))++r::E.dropWhile (fun x=>decide (x<r))
theorem Bz {E:List Int} (h:E.Pairwise (· < ·)) (r:Int):(∀ x∈E.takeWhile (fun x=>decide (x<r)),x<r)∧(∀ x∈E.dropWhile (fun x=>decide (x<r)),r≤x):=by
 induction E with
 | nil=>simp
 | cons a E ih=>
  rw [List.pairwise_cons]at h;obtain⟨g1,g2⟩:=ih h.2;by_cases ha:a<r
  ·simp only [List.takeWhile_cons,List.dropWhile_cons,ha,decide_true,if_true];exact⟨fun x hx=>by rcases List.mem_cons.1 hx with rfl | hx;exact ha;exact g1 x hx,g2⟩
  simp only [List.takeWhile_cons,List.dropWhile_cons,ha,decide_false,Bool.false_eq_true,if_false];refine⟨by simp,fun x hx=>?_⟩;rcases List.mem_cons.1 hx with rfl | hx;omega;have:=h.1 x hx;omega
theorem Mf (E:List Int) (r x:Int):x∈pP E r↔x∈E∨(x=r∧r≤1114111):=by
 unfold pP;split
 ·rename_i h;constructor;exact .inl;rintro(h2 | ⟨rfl,h2⟩);exact h2;rcases h with h | h;omega;exact h
 rename_i h;rw [not_or]at h;have:x∈E↔x∈E.takeWhile (fun x=>decide (x<r))∨x∈E.dropWhile (fun x=>decide (x<r)):=by
  (conv=>lhs;rw [← List.takeWhile_append_dropWhile (p:=fun x=>decide (x<r)) (l:=E)]);rw [List.mem_append]
 rw [List.mem_append,List.mem_cons,this];constructor
 ·rintro(h1 | rfl | h1);exact .inl (.inl h1);exact .inr ⟨rfl,by omega⟩;exact .inl (.inr h1)
 rintro((h1 | h1) | ⟨rfl,_⟩);exact .inl h1;exact .inr (.inr h1);exact .inr (.inl rfl)
theorem JF {E:List Int} (h:E.Pairwise (· < ·)) (r:Int):(pP E r).Pairwise (· < ·):=by
 unfold pP;split;exact h;rename_i hn;rw [not_or]at hn;obtain⟨g1,g2⟩:=Bz h r;have hs:=h;rw [← List.takeWhile_append_dropWhile (p:=fun x=>decide (x<r)) (l:=E),List.pairwise_append]at hs;rw [List.pairwise_append];refine⟨hs.1,List.pairwise_cons.2 ⟨fun x hx=>?_,hs.2.1⟩,fun a ha b hb=>?_⟩
 ·have:=g2 x hx;rcases Int.lt_or_eq_of_le this with h1 | rfl;exact h1;exact absurd ((List.dropWhile_sublist _).subset hx) hn.2
 rcases List.mem_cons.1 hb with rfl | hb;exact g1 a ha;exact hs.2.2 a ha b hb
theorem uE (xs:List Int):∀ (E:List Int) (x:Int),x∈xs.foldl pP E↔x∈E∨(x∈xs∧x≤1114111):=by
 induction xs with
 | nil=>intro E x;simp
 | cons a xs ih=>
  intro E x;rw [List.foldl_cons,ih,Mf];constructor
  ·rintro((h | ⟨rfl,h⟩) | ⟨h,h2⟩);exact .inl h;exact .inr ⟨by simp,h⟩;exact .inr ⟨by simp [h],h2⟩
  rintro(h | ⟨h,h2⟩);exact .inl (.inl h);rcases List.mem_cons.1 h with rfl | h;exact .inl (.inr ⟨rfl,h2⟩);exact .inr ⟨h,h2⟩
theorem rG (xs:List Int):∀ (E:List Int),E.Pairwise (· < ·)→(xs.foldl pP E).Pairwise (· < ·):=by
 induction xs with
 | nil=>intro E h;exact h
 | cons a xs ih=>intro E h;rw [List.foldl_cons];exact ih _ (JF h a)
theorem OG (E:List Int) (r:Int):E.length≤(pP E r).length∧(pP E r).length≤E.length+1:=by
 unfold pP;split;omega;have:=congrArg List.length (List.takeWhile_append_dropWhile (p:=fun x=>decide (x<r)) (l:=E));rw [List.length_append]at this;rw [List.length_append,List.length_cons];omega
theorem C' (xs:List Int):∀ (E:List Int),E.length≤(xs.foldl pP E).length∧(xs.foldl pP E).length≤E.length+xs.length:=by
 induction xs with
 | nil=>intro E;simp
 | cons a xs ih=>intro E;rw [List.foldl_cons,List.length_cons];have:=ih (pP E a);have:=OG E a;omega
theorem Gq (s:af):(eT s).length=2*s.length:=by
 induction s with
 | nil=>rfl
 | cons x s ih=>unfold eT at ih ⊢;rw [List.flatMap_cons,List.length_append,ih,List.length_cons];simp;omega
def dr (E:List Int) (j:Nat):Int:=match E[j+1]? with | some y=>y - 1 | none=>1114111
theorem yx {s:af} {a r:Int} (O0:a≤r) (h:∀ e∈eT s,¬(a<e∧e≤r)):bk s r=bk s a:=by
 unfold bk;induction s with
 | nil=>rfl
 | cons x s ih=>
  have h1:=h x.1 (by simp [eT]);have h2:=h (x.2+1) (by simp [eT]);have hs:=ih (fun e he=>h e (by unfold eT at he ⊢;rw [List.flatMap_cons];exact List.mem_append_right _ he));rw [List.any_cons,List.any_cons,hs];congr 1;rw [Bool.eq_iff_iff];simp only [Bool.and_eq_true,decide_eq_true_eq];omega
theorem ku {E:List Int} (h:E.Pairwise (· < ·)) {i j:Nat} {x y:Int} (hx:E[i]? = some x) (hy:E[j]? = some y) (hij:i<j):x<y:=by
 obtain⟨hi,rfl⟩:=List.getElem?_eq_some_iff.1 hx;obtain⟨hj,rfl⟩:=List.getElem?_eq_some_iff.1 hy;exact List.pairwise_iff_getElem.1 h i j hi hj hij
def fC (L:List af):List Int:=(L.flatMap eT).foldl pP [0]
structure Canon (s:af):Prop where
  each:∀ x∈s,0≤x.1∧x.1≤x.2∧x.2≤1114111
  nK:s.Pairwise (fun a b=>a.2+1<b.1)
theorem aJ.canon {s:af} (h:aJ s):Canon s:=⟨h.each,h.nK⟩
theorem Canon.right {s:af} (h:Canon s) (hl:s.length≤200):aJ s:=⟨hl,h.each,h.nK⟩
theorem Canon.nil:Canon []:=⟨by simp,List.Pairwise.nil⟩
theorem Canon.tail {x:Int × Int} {s:af} (h:Canon (x::s)):Canon s:=⟨fun y hy=>h.each y (List.mem_cons_of_mem _ hy),(List.pairwise_cons.1 h.nK).2⟩
theorem Canon.low {x:Int × Int} {s:af} (h:Canon (x::s)):∀ y∈s,x.2+1<y.1:=(List.pairwise_cons.1 h.nK).1
theorem cz (x:Int × Int) (s:af) (r:Int):bk (x::s) r=((decide (x.1≤r) && decide (r≤x.2)) || bk s r):=rfl
theorem ei (a b:af) (r:Int):bk (a++b) r=(bk a r || bk b r):=List.any_append
theorem rI {s:af} {r:Int}:bk s r=true↔∃ x∈s,x.1≤r∧r≤x.2:=by
 unfold bk;rw [List.any_eq_true];constructor
 ·rintro⟨x,hx,h⟩;simp at h;exact⟨x,hx,h⟩
 rintro⟨x,hx,h1,h2⟩;exact⟨x,hx,by simp [h1,h2]⟩
theorem eo {s:af} {m r:Int} (h:∀ y∈s,m<y.1) (hr:r≤m):bk s r=false:=by
 rw [Bool.eq_false_iff,ne_eq,rI];rintro⟨x,hx,h1,_⟩;have:=h x hx;omega
theorem J8 {s:af} {m r:Int} (h:∀ y∈s,y.2<m) (hr:m≤r):bk s r=false:=by
 rw [Bool.eq_false_iff,ne_eq,rI];rintro⟨x,hx,_,h1⟩;have:=h x hx;omega
theorem CA:∀ {a b:af},Canon a→Canon b→(∀ r,0≤r→r≤1114111→bk a r=bk b r)→a=b:=by
 intro a;induction a with
 | nil=>
  intro b _ hb h;cases b with
  | nil=>rfl
  | cons y b=>
   have hy:=hb.each y List.mem_cons_self;have:=h y.1 (by omega) (by omega);rw [cz]at this;simp [bk,hy.2.1]at this
 | cons x a ih=>
  intro b ha hb h;have hx:=ha.each x List.mem_cons_self;cases b with
  | nil=>
   have:=h x.1 (by omega) (by omega);rw [cz]at this;simp [bk,hx.2.1]at this
  | cons y b=>
   have hy:=hb.each y List.mem_cons_self;have la:=ha.low;have lb:=hb.low;have h1:¬ x.1<y.1:=fun hl=>by
    have:=h x.1 (by omega) (by omega);rw [cz,cz,eo (s:=b) (m:=y.2+1) lb (by omega)]at this;simp [hx.2.1]at this;omega
   have h2:¬ y.1<x.1:=fun hl=>by
    have:=h y.1 (by omega) (by omega);rw [cz,cz,eo (s:=a) (m:=x.2+1) la (by omega)]at this;simp [hy.2.1]at this;omega
   have h3:¬ x.2<y.2:=fun hl=>by
    have:=h (x.2+1) (by omega) (by omega);rw [cz,cz,eo (s:=a) (m:=x.2+1) la (by omega),eo (s:=b) (m:=y.2+1) lb (by omega),decide_eq_false (p:=x.2+1≤x.2) (by omega),decide_eq_true (p:=y.1≤x.2+1) (by omega),decide_eq_true (p:=x.2+1≤y.2) (by omega)]at this;simp at this
   have h4:¬ y.2<x.2:=fun hl=>by
    have:=h (y.2+1) (by omega) (by omega);rw [cz,cz,eo (s:=b) (m:=y.2+1) lb (by omega),eo (s:=a) (m:=x.2+1) la (by omega),decide_eq_false (p:=y.2+1≤y.2) (by omega),decide_eq_true (p:=x.1≤y.2+1) (by omega),decide_eq_true (p:=y.2+1≤x.2) (by omega)]at this;simp at this
   obtain⟨xl,xh⟩:=x;obtain⟨yl,yh⟩:=y;dsimp only at *;obtain rfl:xl=yl:=(by omega);obtain rfl:xh=yh:=(by omega);rw [ih ha.tail hb.tail fun r Up Lr=>?_];by_cases hr:r≤xh
   ·rw [eo (s:=a) (m:=xh+1) la (by omega),eo (s:=b) (m:=xh+1) lb (by omega)]
   have:=h r Up Lr;rw [cz,cz]at this;simpa [hr] using this
def uA (acc:af) (low high:Int):af :=
  match acc.getLast? with
  | some x=>if x.2+1=low then acc.dropLast++[(x.1,high)]else acc++[(low,high)]
  | none=>acc++[(low,high)]
theorem Kc (low high:Int):uA [] low high = [(low,high)]:=rfl
theorem Gz (i:af) (x:Int × Int) (low high:Int):uA (i++[x]) low high=if x.2+1=low then i++[(x.1,high)]else i++[x]++[(low,high)]:=by
 unfold uA;simp
theorem nc {i:af} {x:Int × Int} (hi:Canon i) (hx:0≤x.1∧x.1≤x.2∧x.2≤1114111) (h:∀ y∈i,y.2+1<x.1):Canon (i++[x]):=by
 refine⟨fun y hy=>?_,?_⟩
 ·rcases List.mem_append.1 hy with hy | hy;exact hi.each y hy;rw [List.mem_singleton.1 hy];exact hx
 rw [List.pairwise_append];exact⟨hi.nK,List.pairwise_singleton _ _,fun a ha b hb=>by rw [List.mem_singleton.1 hb];exact h a ha⟩
theorem xd {i:af} {x:Int × Int} (h:Canon (i++[x])):Canon i∧(0≤x.1∧x.1≤x.2∧x.2≤1114111)∧∀ y∈i,y.2+1<x.1:=by
 have hr:=List.pairwise_append.1 h.nK;exact⟨⟨fun y hy=>h.each y (by simp [hy]),hr.1⟩,h.each x (by simp),fun y hy=>hr.2.2 y hy x (by simp)⟩
theorem GK {acc:af} {low high:Int} (h:Canon acc) (hl:∀ x∈acc,x.2<low) (h0:0≤low) (h1:low≤high) (h2:high≤1114111) :
    Canon (uA acc low high)∧(∀ x∈uA acc low high,x.2≤high)∧∀ r,bk (uA acc low high) r=(bk acc r || (decide (low≤r) && decide (r≤high))):=by
 rcases List.eq_nil_or_concat acc with rfl | ⟨i,x,rfl⟩
 ·rw [Kc];exact⟨⟨by simp;omega,List.pairwise_singleton _ _⟩,by simp,fun r=>by simp [bk]⟩
 rw [List.concat_eq_append]at h hl ⊢;obtain⟨hi,hx,Yy⟩:=xd h;have hxl:=hl x (by simp);rw [Gz];by_cases he:x.2+1=low
 ·rw [if_pos he];refine⟨nc hi ⟨hx.1,by simp only;omega,h2⟩ Yy,fun y hy=>?_,fun r=>?_⟩
  ·rcases List.mem_append.1 hy with hy | hy
   ·have:=hl y (by simp [hy]);omega
   rw [List.mem_singleton.1 hy];exact Int.le_refl _
  rw [ei,ei,Bool.or_assoc];congr 1;simp only [bk,List.any_cons,List.any_nil,Bool.or_false];rw [Bool.eq_iff_iff];simp;omega
 rw [if_neg he];refine⟨nc h ⟨h0,h1,h2⟩ (fun y hy=>?_),fun y hy=>?_,fun r=>?_⟩
 ·simp only;rcases List.mem_append.1 hy with hy | hy
  ·have:=Yy y hy;omega
  rw [List.mem_singleton.1 hy];omega
 ·rcases List.mem_append.1 hy with hy | hy
  ·have:=hl y hy;omega
  rw [List.mem_singleton.1 hy];exact Int.le_refl _
 rw [ei];congr 1;simp [bk]
def cN (E:List Int) (h:Int→Bool):Nat→af
  | 0=>[]
  | j+1=>match E[j]? with | none=>cN E h j | some a=>if h a=true then uA (cN E h j) a (dr E j)else cN E h j
theorem xT {E:List Int} {h:Int→Bool} {j:Nat} {a:Int} (ha:E[j]? = some a):cN E h (j+1)=if h a=true then uA (cN E h j) a (dr E j)else cN E h j:=by
 rw [cN,ha]
def tv (E:List Int) (h:Int→Bool):af × Int:=if 200<(cN E h E.length).length then ([],5)else (cN E h E.length,0)
structure oQ (E:List Int) (h:Int→Bool):Prop where
  nK:E.Pairwise (· < ·)
  zero:E[0]? = some 0
  top:∀ x∈E,x≤1114111
  const:∀ j a r,E[j]? = some a→a≤r→r≤dr E j→h r=h a
theorem Sk {E:List Int} {h:Int→Bool} (hE:oQ E h) {j:Nat} {a:Int} (ha:E[j]? = some a):0≤a∧a≤dr E j∧dr E j≤1114111∧dr E j+1=(E[j+1]?).getD 1114112:=by
 have h0:0≤a:=by
  rcases Nat.eq_zero_or_pos j with rfl | hj
  ·rw [hE.zero]at ha;obtain rfl:=Option.some.inj ha;exact Int.le_refl _
  have:=ku hE.nK hE.zero ha hj;omega
 have ht:=hE.top a (List.mem_of_getElem? ha);unfold dr;cases he:E[j+1]? with
 | none=>simp;omega
 | some y=>
  have h1:=ku hE.nK ha he (Nat.lt_succ_self j);have h2:=hE.top y (List.mem_of_getElem? he);simp only [Option.getD_some];omega
theorem G8 {E:List Int} {h:Int→Bool} (hE:oQ E h):∀ j,j≤E.length →
    Canon (cN E h j)∧(∀ x∈cN E h j,x.2<(E[j]?).getD 1114112)∧∀ r,0≤r→r<(E[j]?).getD 1114112→bk (cN E h j) r=h r:=by
 intro j;induction j with
 | zero=>exact fun _=>⟨Canon.nil,by simp [cN],fun r h0 h1=>by rw [hE.zero]at h1;simp at h1;omega⟩
 | succ j ih=>
  intro hj;obtain⟨a,ha⟩:∃ a,E[j]? = some a:=⟨_,List.getElem?_eq_getElem (by omega)⟩;obtain⟨i1,i2,i3⟩:=ih (by omega);rw [ha,Option.getD_some]at i2 i3;obtain⟨g0,g1,g2,g3⟩:=Sk hE ha;rw [xT ha,← g3];by_cases hh:h a=true
  ·rw [if_pos hh];obtain⟨s1,s2,s3⟩:=GK i1 i2 g0 g1 g2;refine⟨s1,fun x hx=>by have:=s2 x hx;omega,fun r h0 h1=>?_⟩;rw [s3];by_cases hr:r<a
   ·rw [i3 r h0 hr];simp;omega
   rw [hE.const j a r ha (by omega) (by omega),hh];simp;right;omega
  rw [if_neg hh];refine⟨i1,fun x hx=>by have:=i2 x hx;omega,fun r h0 h1=>?_⟩;by_cases hr:r<a;exact i3 r h0 hr;rw [hE.const j a r ha (by omega) (by omega),J8 i2 (by omega)];simpa using hh
theorem AP {E:List Int} {h:Int→Bool} (hE:oQ E h):Canon (cN E h E.length)∧∀ r,0≤r→r≤1114111→bk (cN E h E.length) r=h r:=by
 obtain⟨h1,_,h3⟩:=G8 hE E.length (Nat.le_refl _);rw [List.getElem?_eq_none (Nat.le_refl _),Option.getD_none]at h3;exact⟨h1,fun r a b=>h3 r a (by omega)⟩
theorem C5 {E:List Int} {h:Int→Bool} (hE:oQ E h) {s:af} (hs:Canon s) (hh:∀ r,0≤r→r≤1114111→bk s r=h r):tv E h=if 200<s.length then ([],5)else (s,0):=by
 obtain⟨b1,b2⟩:=AP hE;have:cN E h E.length=s:=CA b1 hs fun r h0 h1=>(by rw [b2 r h0 h1,hh r h0 h1]);unfold tv;rw [this]
theorem iY (L:List af) (x:Int):x∈fC L↔x=0∨(x∈L.flatMap eT∧x≤1114111):=by
 unfold fC;rw [uE];simp
theorem me (L:List af):(fC L).Pairwise (· < ·):=rG _ _ (by simp)
theorem BJ {L:List af} {j:Nat} {a:Int} (hj:(fC L)[j]? = some a):∀ r,a≤r→r≤dr (fC L) j→∀ e∈L.flatMap eT,¬(a<e∧e≤r):=by
 intro r h1 h2 e he ⟨h3,h4⟩;have Db:=me L;by_cases hm:e≤1114111
 ·obtain⟨k,hk⟩:=List.mem_iff_getElem?.1 ((iY L e).2 (.inr ⟨he,hm⟩));have hjk:j<k:=by
   rcases Nat.lt_or_ge j k with h | h;exact h;rcases Nat.lt_or_ge k j with h' | h'
   ·have:=ku Db hk hj h';omega
   obtain rfl:j=k:=(by omega);rw [hk]at hj;injection hj;omega
  obtain⟨y,hy⟩:∃ y,(fC L)[j+1]? = some y:=⟨_,List.getElem?_eq_getElem (by have:=(List.getElem?_eq_some_iff.1 hk).1;omega)⟩;unfold dr at h2;rw [hy]at h2;simp only at h2;rcases Nat.lt_or_ge (j+1) k with h | h
  ·have:=ku Db hy hk h;omega
  obtain rfl:k=j+1:=(by omega);rw [hy]at hk;injection hk;omega
 unfold dr at h2;split at h2
 ·rename_i y hy;have:=(iY L y).1 (List.mem_of_getElem? hy);omega
 omega
theorem zl {L:List af} (h:∀ s∈L,aJ s):(fC L)[0]? = some 0:=by
 obtain⟨k,hk⟩:=List.mem_iff_getElem?.1 ((iY L 0).2 (.inl rfl));obtain⟨y,hy⟩:∃ y,(fC L)[0]? = some y:=⟨_,List.getElem?_eq_getElem (by have:=(List.getElem?_eq_some_iff.1 hk).1;omega)⟩;have h0:0≤y:=by
  rcases (iY L y).1 (List.mem_of_getElem? hy)with rfl | ⟨h1,_⟩;exact Int.le_refl _;obtain⟨s,hs,he⟩:=List.mem_flatMap.1 h1;unfold eT at he;obtain⟨x,hx,he⟩:=List.mem_flatMap.1 he;have:=(h s hs).each x hx;simp at he;omega
 rcases Nat.eq_zero_or_pos k with rfl | hk0;exact hk;have:=ku (me L) hy hk hk0;omega
theorem sj {L:List af} (hL:∀ s∈L,aJ s) {h:Int→Bool} (hc:∀ a r,(∀ s∈L,bk s r=bk s a)→h r=h a):oQ (fC L) h where
  nK:=me L
  zero:=zl hL
  top:=fun x hx=>by rcases (iY L x).1 hx with rfl | ⟨_,h⟩ <;> omega
  const:=fun j a r hj h1 h2=>hc a r fun s hs=>yx h1 fun e he=>BJ hj r h1 h2 e (List.mem_flatMap.2 ⟨s,hs,he⟩)
def nx (op:Int) (a b:af) (r:Int):Bool:=(decide (op=124) && (bk a r || bk b r)) || ((decide (op=38) && bk a r && bk b r) || (decide (op=45) && bk a r && !bk b r))
def nR (op:Int) (a b:af):af × Int :=
  if bV a≠0 then ([],bV a)else if op=94 then tv (fC [a]) (fun r=>!bk a r)
  else if bV b≠0 then ([],bV b)else tv (fC [a,b]) (nx op a b)
theorem mA {s:af} (h:aJ s):bV s=0:=by
 unfold bV;rw [if_neg (by have:=h.size;omega)];have:∀ (s:af) (prev:Option Int),Canon s→(∀ p,prev=some p→∀ x∈s,p+1<x.1)→iX prev s=0:=by
  intro s;induction s with
  | nil=>intro prev _ _;rfl
  | cons x s ih=>
   intro prev hc hp;obtain⟨a,b⟩:=x;have he:=hc.each (a,b) List.mem_cons_self;dsimp only at he;rw [iX,if_neg (by omega)];have ht:yC prev a=false:=by
    cases prev with
    | none=>rfl
    | some p=>have:=hp p rfl (a,b) List.mem_cons_self;simp [yC];omega
   rw [ht,if_neg (by decide)];exact ih _ hc.tail fun p hp' y hy=>by
    obtain rfl:=Option.some.inj hp';exact hc.low y hy
 exact this s none h.canon (fun p hp=>by cases hp)
theorem TQ {a s:af} (ha:aJ a) (hs:Canon s) (hh:∀ r,0≤r→r≤1114111→bk s r = !bk a r) (b:af):nR 94 a b=if 200<s.length then ([],5)else (s,0):=by
 unfold nR;rw [if_neg (by rw [mA ha];decide),if_pos rfl];exact C5 (sj (by simpa using ha) (fun x r h=>by rw [h a (by simp)])) hs hh
theorem MR {op:Int} {a b s:af} (oe:op≠94) (ha:aJ a) (hb:aJ b) (hs:Canon s) (hh:∀ r,0≤r→r≤1114111→bk s r=nx op a b r):nR op a b=if 200<s.length then ([],5)else (s,0):=by
 unfold nR;rw [if_neg (by rw [mA ha];decide),if_neg oe,if_neg (by rw [mA hb];decide)];exact C5 (sj (by simpa using ⟨ha,hb⟩) (fun x r h=>by unfold nx;rw [h a (by simp),h b (by simp)])) hs hh
theorem uC (E:List Int) (h:Int→Bool) (hE:oQ E h):aJ (tv E h).1:=by
 unfold tv;by_cases hl:200<(cN E h E.length).length
 ·rw [if_pos hl];exact⟨Nat.zero_le _,by simp,List.Pairwise.nil⟩
 rw [if_neg hl];exact(AP hE).1.right (by omega)
theorem jI (op:Int) {a b:af} (ha:aJ a) (hb:aJ b):aJ (nR op a b).1:=by
 unfold nR;rw [if_neg (by rw [mA ha];decide)];by_cases oe:op=94
 ·rw [if_pos oe];exact uC _ _ (sj (by simpa using ha) (fun x r h=>by rw [h a (by simp)]))
 rw [if_neg oe,if_neg (by rw [mA hb];decide)];exact uC _ _ (sj (by simpa using ⟨ha,hb⟩) (fun x r h=>by unfold nx;rw [h a (by simp),h b (by simp)]))
def pk (L:List Int) (i:Nat):Int:=(L[i]?).getD (-1)
def qO (r:Int):Bool:=decide (r=32) || (decide (r=9) || decide (r=10))
def rR:List Int:=[91,93,38,45,94,92,58,36,40,41,123,125,60,62,124,59,35,39,34,61,44]
def cY (r:Int):Bool:=decide (0≤r) && (!qO r && !rR.contains r)
def eV (r:Int):Bool:=(decide (48≤r) && decide (r≤57)) || ((decide (97≤r) && decide (r≤102)) || (decide (65≤r) && decide (r≤70)))
def ri (r:Int):Int:=if r≤57 then r - 48 else if 97≤r then r - 87 else r - 55
def GO (r:Int):Bool:=(decide (48≤r) && decide (r≤57)) || ((decide (97≤r) && decide (r≤122)) || (decide (65≤r) && decide (r≤90)))
def aA (p:Int→Bool) (L:List Int) (i:Nat):Nat:=i+((L.drop i).takeWhile p).length
def aQ (L:List Int) (i:Nat):Nat:=aA qO L i
def aO (L:List Int) (i j:Nat):List Int:=(L.drop i).take (j - i)
abbrev kf (α:Type):=Except (Int × Nat) (α × Nat)
def aU (L:List Int) (i:Nat) (r:Int):Except (Int × Nat) Nat:=if pk L i=r then .ok (i+1)else .error (2,i)
def ew (ds:List Int):Int:=ds.foldl (fun x d=>16*x+ri d) 0
def kO (L:List Int) (i:Nat):kf Int :=
  match aU L (i+1) 123 with
  | .error e=>.error e
  | .ok a=>
    if aA eV L a - a<1∨6<aA eV L a - a then .error (2,a)
    else match aU L (aA eV L a) 125 with
      | .error e=>.error e
      | .ok j=>if 1114111<ew (aO L a (aA eV L a))then .error (3,i)else .ok (ew (aO L a (aA eV L a)),j)
def cX (L:List Int) (i:Nat):kf Int :=
  if cY (pk L i)=true then .ok (pk L i,i+1)
  else if pk L i≠92 then .error (2,i)
  else if pk L (i+1)=110 then .ok (10,i+2)
  else if pk L (i+1)=116 then .ok (9,i+2)
  else if pk L (i+1)=117 then kO L (i+1)
  else if pk L (i+1)<0∨GO (pk L (i+1))=true then .error (2,i+1)
  else .ok (pk L (i+1),i+2)
def jz (L:List Int) (i:Nat):kf (Int × Int) :=
  match cX L i with
  | .error e=>.error e
  | .ok (low,j)=>
    if pk L j=45∧pk L (j+1)≠91 then
      match cX L (j+1)with
      | .error e=>.error e
      | .ok (high,k)=>if high<low then .error (3,j+1)else .ok ((low,high),k)
    else .ok ((low,low),j)
def gT (n:List Int):Option af :=
  if n = [100,105,103,105,116]then some [(48,57)]
  else if n = [108,111,119,101,114]then some [(97,122),(223,246),(248,255)]
  else if n = [117,112,112,101,114]then some [(65,90),(192,214),(216,222)]
  else if n = [108,101,116,116,101,114]then some [(65,90),(97,122),(192,214),(216,246),(248,255)]
  else if n = [118,111,119,101,108]then some [(65,65),(69,69),(73,73),(79,79),(85,85),(97,97),(101,101),(105,105),(111,111),(117,117)]
  else if n = [103,114,101,101,107]then some [(880,1023)]
  else if n = [99,121,114,105,108,108,105,99]then some [(1024,1279)]
  else if n = [115,112,97,99,101]then some [(9,10),(32,32)]
  else if n = [97,110,121]then some [(0,1114111)]
  else none
def eS (L:List Int) (i:Nat):kf af :=
  match gT (aO L (i+2) (aA cY L (i+2)))with
  | none=>.error (7,i+2)
  | some s=>
    match aU L (aA cY L (i+2)) 58 with
    | .error e=>.error e
    | .ok j=>match aU L j 93 with
      | .error e=>.error e
      | .ok k=>.ok (s,k)
def vJ (r:Int):Int:=if r=38∨r=45 then r else 124
def dw (inner:Nat→kf af) (L:List Int) (i:Nat):kf af :=
  if pk L i=91∧pk L (i+1)=58 then eS L i
  else if pk L i=91 then inner i
  else if pk L i=38∨pk L i=45 then inner (aQ L (i+1))
  else match jz L i with
    | .error e=>.error e
    | .ok (x,j)=>.ok ([x],j)
def dV (inner:Nat→kf af) (L:List Int):Nat→Nat→af→kf af
  | 0,i,_=>.error (2,i)
  | f+1,i,cur=>
    if pk L (aQ L i)=93 then .ok (cur,aQ L i+1)
    else match dw inner L (aQ L i)with
      | .error e=>.error e
      | .ok (s,j)=>
        if (nR (vJ (pk L (aQ L i))) cur s).2≠0 then .error ((nR (vJ (pk L (aQ L i))) cur s).2,j)
        else dV inner L f j (nR (vJ (pk L (aQ L i))) cur s).1
def bD (L:List Int):Nat→Nat→kf af
  | 0,i=>.error (if pk L i=91 then 4 else 2,i)
  | n+1,i=>
    match aU L i 91 with
    | .error e=>.error e
    | .ok j=>
      match dV (bD L n) L (L.length+1) (if pk L j=94 then j+1 else j) []with
      | .error e=>.error e
      | .ok (cur,k)=>
        if pk L j=94 then (if (nR 94 cur []).2≠0 then .error ((nR 94 cur []).2,k)else .ok ((nR 94 cur []).1,k))
        else .ok (cur,k)
theorem bw {L:List Int} {i:Nat} (h:pk L i ≠ -1):i<L.length:=by
 unfold pk at h;rcases Nat.lt_or_ge i L.length with hl | hl;exact hl;rw [List.getElem?_eq_none hl]at h;exact absurd rfl h
theorem Ix {L:List Int} {i:Nat} {r:Int} (h:L[i]? = some r):pk L i=r:=by unfold pk;rw [h];rfl
theorem qw {L:List Int} {i:Nat} (h:L.length≤i):pk L i = -1:=by unfold pk;rw [List.getElem?_eq_none h];rfl
theorem dU {p:Int→Bool} {L:List Int} {i:Nat} (h:i<L.length) (hp:p (pk L i)=true):aA p L i=aA p L (i+1):=by
 unfold aA;rw [List.drop_eq_getElem_cons h,List.takeWhile_cons];have:pk L i=L[i]:=Ix (List.getElem?_eq_getElem h);rw [this]at hp;rw [hp];simp;omega
theorem cQ {p:Int→Bool} {L:List Int} {i:Nat} (h:i<L.length→p (pk L i)=false):aA p L i=i:=by
 unfold aA;rcases Nat.lt_or_ge i L.length with hl | hl
 ·rw [List.drop_eq_getElem_cons hl,List.takeWhile_cons];have:pk L i=L[i]:=Ix (List.getElem?_eq_getElem hl);have h2:=h hl;rw [this]at h2;rw [h2];simp
 rw [List.drop_of_length_le hl];simp
theorem iD {p:Int→Bool} {L:List Int} {i:Nat} (h:i≤L.length):i≤aA p L i∧aA p L i≤L.length:=by
 unfold aA;have:=(List.takeWhile_sublist p (l:=L.drop i)).length_le;rw [List.length_drop]at this;omega
theorem fZ {L:List Int} {i j:Nat} {r:Int} (h:aU L i r=.ok j):j=i+1∧pk L i=r:=by
 unfold aU at h;split at h
 ·rename_i hp;injection h with h;exact⟨h.symm,hp⟩
 cases h
theorem L6 {L:List Int} {i:Nat} {r:Int} (h:pk L i=r):aU L i r=.ok (i+1):=by unfold aU;rw [if_pos h]
theorem Ad {L:List Int} {i:Nat} {r:Int} (h:pk L i≠r):aU L i r=.error (2,i):=by unfold aU;rw [if_neg h]
theorem eP (p:Int→Bool) (L:List Int) (i:Nat):i≤aA p L i:=by unfold aA;omega
theorem ey (L:List Int) (i:Nat):i≤aQ L i:=eP _ _ _
def dc (L:List Int):Prop:=∀ x∈L,0≤x∧x≤1114111
theorem xP {L:List Int} (h:dc L) (i:Nat):pk L i = -1∨(0≤pk L i∧pk L i≤1114111):=by
 unfold pk;cases hi:L[i]? with
 | none=>exact .inl rfl
 | some x=>exact .inr (h x (List.mem_of_getElem? hi))
theorem JH {L:List Int} (h:dc L) {i:Nat} (h0:pk L i ≠ -1):0≤pk L i∧pk L i≤1114111:=by
 rcases xP h i with h1 | h1;exact absurd h1 h0;exact h1
theorem xN {d:Int} (h:eV d=true):0≤ri d∧ri d≤15:=by
 unfold eV at h;unfold ri;simp only [Bool.or_eq_true,Bool.and_eq_true,decide_eq_true_eq]at h;split;omega;split <;> omega
theorem pZ (ds:List Int):∀ x:Int,0≤x→(∀ d∈ds,eV d=true)→0≤ds.foldl (fun x d=>16*x+ri d) x∧ds.foldl (fun x d=>16*x+ri d) x<(x+1)*16 ^ ds.length:=by
 induction ds with
 | nil=>intro x h _;simp;omega
 | cons d ds ih=>
  intro x hx hd;have h1:=xN (hd d List.mem_cons_self);obtain⟨i1,i2⟩:=ih (16*x+ri d) (by omega) (fun y hy=>hd y (List.mem_cons_of_mem _ hy));rw [List.foldl_cons,List.length_cons];refine⟨i1,Int.lt_of_lt_of_le i2 ?_⟩;have e:(16:Int) ^ (ds.length+1)=16*16 ^ ds.length:=(by rw [Int.pow_succ,Int.mul_comm]);rw [e,← Int.mul_assoc];exact Int.mul_le_mul_of_nonneg_right (by omega) (Int.pow_nonneg (by decide))
theorem qd {p:Int→Bool} (l:List Int):∀ x∈l.takeWhile p,p x=true:=by
 induction l with
 | nil=>simp
 | cons a l ih=>
  intro x hx;rw [List.takeWhile_cons]at hx;split at hx
  ·rcases List.mem_cons.1 hx with rfl | hx;assumption;exact ih x hx
  simp at hx
theorem xE (p:Int→Bool) (L:List Int) (i:Nat):aO L i (aA p L i)=(L.drop i).takeWhile p:=by
 unfold aO aA;rw [Nat.add_sub_cancel_left];have h:=(List.takeWhile_prefix p (l:=L.drop i));exact(List.prefix_iff_eq_take.1 h).symm
theorem BQ (L:List Int) (i:Nat) (h:aA eV L i - i≤6):0≤ew (aO L i (aA eV L i))∧ew (aO L i (aA eV L i))<16777216:=by
 rw [xE];obtain⟨h1,h2⟩:=pZ ((L.drop i).takeWhile eV) 0 (Int.le_refl _) (qd _);refine⟨h1,Int.lt_of_lt_of_le h2 ?_⟩;have hl:((L.drop i).takeWhile eV).length≤6:=(by unfold aA at h;omega);generalize ((L.drop i).takeWhile eV).length=k at hl;have:k=0∨k=1∨k=2∨k=3∨k=4∨k=5∨k=6:=(by omega);rcases this with rfl | rfl | rfl | rfl | rfl | rfl | rfl <;> decide
theorem QW {L:List Int} {i j:Nat} {x:Int} (h:kO L i=.ok (x,j)):i<j∧0≤x∧x≤1114111:=by
 unfold kO at h;cases h1:aU L (i+1) 123 with
 | error e=>rw [h1]at h;cases h
 | ok a=>
  rw [h1]at h;simp only at h;split at h
  ·cases h
  rename_i hn;rw [not_or]at hn;have ha:=(fZ h1).1;cases h2:aU L (aA eV L a) 125 with
  | error e=>rw [h2]at h;cases h
  | ok b=>
   rw [h2]at h;simp only at h;have hb:=(fZ h2).1;have:=eP eV L a;have hr:=BQ L a (by omega);split at h
   ·cases h
   injection h with h;injection h with h3 h4;omega
theorem oz {L:List Int} (hL:dc L) {i j:Nat} {x:Int} (h:cX L i=.ok (x,j)):i<j∧0≤x∧x≤1114111:=by
 unfold cX at h;split at h
 ·rename_i hp;injection h with h;injection h with h1 h2;have:pk L i ≠ -1:=fun e=>(by rw [e]at hp;exact absurd hp (by decide));have:=JH hL this;omega
 split at h
 ·cases h
 split at h
 ·injection h with h;injection h with h1 h2;omega
 split at h
 ·injection h with h;injection h with h1 h2;omega
 split at h
 ·have:=QW h;omega
 split at h
 ·cases h
 rename_i hn;rw [not_or]at hn;injection h with h;injection h with h1 h2;have:=xP hL (i+1);omega
theorem N5 {L:List Int} (hL:dc L) {i j:Nat} {x:Int × Int} (h:jz L i=.ok (x,j)):i<j∧0≤x.1∧x.1≤x.2∧x.2≤1114111:=by
 unfold jz at h;cases h1:cX L i with
 | error e=>rw [h1]at h;cases h
 | ok p=>
  obtain⟨low,a⟩:=p;rw [h1]at h;have ha:=oz hL h1;simp only at h;split at h
  ·cases h2:cX L (a+1)with
   | error e=>rw [h2]at h;cases h
   | ok q=>
    obtain⟨high,b⟩:=q;rw [h2]at h;have hb:=oz hL h2;simp only at h;split at h
    ·cases h
    injection h with h;injection h with h3 h4;subst h3;simp only;omega
  injection h with h;injection h with h3 h4;subst h3;simp only;omega
theorem Lp {x:Int × Int} (h:0≤x.1∧x.1≤x.2∧x.2≤1114111):aJ [x]:=⟨by simp,by simpa using h,List.pairwise_singleton _ _⟩
theorem o7:aJ []:=⟨Nat.zero_le _,by simp,List.Pairwise.nil⟩
theorem EV {n:List Int} {s:af} (h:gT n=some s):aJ s:=by
 have key:∀ s:af,bV s=0→aJ s:=fun _=>oZ;unfold gT at h;(repeat' (split at h));(all_goals first | (injection h with h;subst h;exact key _ (by decide)) | cases h)
theorem Kl {L:List Int} {i j:Nat} {s:af} (h:eS L i=.ok (s,j)):i<j∧aJ s:=by
 unfold eS at h;cases h0:gT (aO L (i+2) (aA cY L (i+2)))with
 | none=>rw [h0]at h;cases h
 | some t=>
  rw [h0]at h;simp only at h;cases h1:aU L (aA cY L (i+2)) 58 with
  | error e=>rw [h1]at h;cases h
  | ok a=>
   rw [h1]at h;simp only at h;cases h2:aU L a 93 with
   | error e=>rw [h2]at h;cases h
   | ok b=>
    rw [h2]at h;simp only at h;injection h with h;injection h with h3 h4;subst h3;have:=eP cY L (i+2);have:=(fZ h1).1;have:=(fZ h2).1;exact⟨by omega,EV h0⟩
def Bm (inner:Nat→kf af):Prop:=∀ i s j,inner i=.ok (s,j)→i<j∧aJ s
theorem DY {inner:Nat→kf af} (hi:Bm inner) {L:List Int} (hL:dc L) {i j:Nat} {s:af} (h:dw inner L i=.ok (s,j)):i<j∧aJ s:=by
 unfold dw at h;split at h;exact Kl h;split at h;exact hi _ _ _ h;split at h
 ·have:=hi _ _ _ h;have h2:=ey L (i+1);exact⟨by omega,this.2⟩
 cases h1:jz L i with
 | error e=>rw [h1]at h;cases h
 | ok p=>
  obtain⟨x,a⟩:=p;rw [h1]at h;simp only at h;injection h with h;injection h with h3 h4;subst h3;have:=N5 hL h1;exact⟨by omega,Lp this.2⟩
theorem J0 {inner:Nat→kf af} (hi:Bm inner) {L:List Int} (hL:dc L):∀ (f i j:Nat) (cur s:af),aJ cur→dV inner L f i cur=.ok (s,j)→i<j∧aJ s:=by
 intro f;induction f with
 | zero=>intro i j cur s _ h;unfold dV at h;cases h
 | succ f ih=>
  intro i j cur s hc h;rw [dV]at h;have h0:=ey L i;split at h
  ·injection h with h;injection h with h3 h4;subst h3;exact⟨by omega,hc⟩
  cases h1:dw inner L (aQ L i)with
  | error e=>rw [h1]at h;cases h
  | ok p=>
   obtain⟨t,a⟩:=p;rw [h1]at h;simp only at h;have hp:=DY hi hL h1;split at h
   ·cases h
   have:=ih _ _ _ _ (jI _ hc hp.2) h;exact⟨by omega,this.2⟩
theorem oL {L:List Int} (hL:dc L):∀ n,Bm (bD L n):=by
 intro n;induction n with
 | zero=>intro i s j h;unfold bD at h;cases h
 | succ n ih=>
  intro i s j h;rw [bD]at h;cases h1:aU L i 91 with
  | error e=>rw [h1]at h;cases h
  | ok a=>
   rw [h1]at h;simp only at h;have ha:=(fZ h1).1;cases h2:dV (bD L n) L (L.length+1) (if pk L a=94 then a+1 else a) []with
   | error e=>rw [h2]at h;cases h
   | ok p=>
    obtain⟨cur,k⟩:=p;rw [h2]at h;simp only at h;obtain⟨g1,g2⟩:=J0 ih hL _ _ _ _ _ o7 h2;have hk:i<k:=(by split at g1 <;> omega);split at h
    ·split at h
     ·cases h
     injection h with h;injection h with h3 h4;subst h3 h4;exact⟨hk,jI _ g2 o7⟩
    injection h with h;injection h with h3 h4;subst h3 h4;exact⟨hk,g2⟩
theorem GG {inner:Nat→kf af} {L:List Int} {f i:Nat} {cur:af} (h:pk L (aQ L i)=93):dV inner L (f+1) i cur=.ok (cur,aQ L i+1):=by rw [dV,if_pos h]
theorem kH {inner:Nat→kf af} {L:List Int} {f i:Nat} {cur:af} {e:Int × Nat} (h:pk L (aQ L i)≠93) (he:dw inner L (aQ L i)=.error e):dV inner L (f+1) i cur=.error e:=by rw [dV,if_neg h,he]
theorem jK {inner:Nat→kf af} {L:List Int} {f i j:Nat} {cur s:af} (h:pk L (aQ L i)≠93) (he:dw inner L (aQ L i)=.ok (s,j)) :
    dV inner L (f+1) i cur=if (nR (vJ (pk L (aQ L i))) cur s).2≠0 then .error ((nR (vJ (pk L (aQ L i))) cur s).2,j)else dV inner L f j (nR (vJ (pk L (aQ L i))) cur s).1:=by rw [dV,if_neg h,he]
def dn (l:List Int):Prop:=∀ x∈l,0≤x∧x<128
def oE (l:List Int):List UInt8:=l.map fun x=>UInt8.ofNat x.toNat
theorem G9 {r:Int} (h0:0≤r) (h1:r<128):(Utf8.encode r).data.toList = [UInt8.ofNat r.toNat]:=by
 have hv:Utf8.valid r=true:=(by simp [Utf8.valid];omega);unfold Utf8.encode;simp only [hv,if_true];rw [if_pos (by omega)]
theorem Ej {r:Int} (h:¬(0≤r∧r<128)):∃ b∈(Utf8.encode r).data.toList,128≤b.toNat:=by
 cases hv:Utf8.valid r
 ·have:Utf8.encode r=Utf8.encode 65533:=by
   unfold Utf8.encode;simp only [hv,show Utf8.valid 65533=true from by decide];rfl
  rw [this];exact⟨239,by decide,by decide⟩
 have h128:128≤r:=by
  simp [Utf8.valid]at hv;omega
 obtain⟨h1,_,h3⟩:=encode_facts r hv h128;exact⟨_,Array.getElem_mem_toList (xs:=(Utf8.encode r).data) (by simpa using (show(Utf8.encode r).size - 1<(Utf8.encode r).size by omega)),h3 (by omega)⟩
theorem zH (l:List Int):∀ s:ByteArray,(l.foldl (fun r n=>r++Utf8.encode n) s).data.toList=s.data.toList++l.flatMap fun r=>(Utf8.encode r).data.toList:=by
 induction l with
 | nil=>intro s;simp
 | cons x l ih=>intro s;rw [List.foldl_cons,ih,List.flatMap_cons];simp
theorem nP (l:List Int):(runesBytes l).data.toList=l.flatMap fun r=>(Utf8.encode r).data.toList:=by
 rw [runesBytes,zH];rfl
theorem fB {l:List Int} (h:dn l):(runesBytes l).data.toList=oE l:=by
 rw [nP];induction l with
 | nil=>rfl
 | cons x l ih=>
  have hx:=h x List.mem_cons_self;rw [List.flatMap_cons,G9 hx.1 hx.2,ih (fun y hy=>h y (List.mem_cons_of_mem _ hy))];rfl
theorem Nj:∀ {a b:List Int},dn a→dn b→oE a=oE b→a=b:=by
 intro a;induction a with
 | nil=>intro b _ _ h;cases b with
   | nil=>rfl
   | cons y b=>cases h
 | cons x a ih=>
  intro b ha hb h;cases b with
  | nil=>cases h
  | cons y b=>
   unfold oE at h;rw [List.map_cons,List.map_cons]at h;injection h with h1 h2;have hx:=ha x List.mem_cons_self;have hy:=hb y List.mem_cons_self;have h3:=congrArg UInt8.toNat h1;simp at h3;obtain rfl:x=y:=(by omega);rw [ih (fun z hz=>ha z (List.mem_cons_of_mem _ hz)) (fun z hz=>hb z (List.mem_cons_of_mem _ hz)) h2]
theorem yQ {l m:List Int} (hm:dn m) (h:runesBytes l=runesBytes m):l=m:=by
 have e:(runesBytes l).data.toList=oE m:=(by rw [h,fB hm]);have hl:dn l:=by
  intro x hx;by_cases h1:0≤x∧x<128;exact h1;exfalso;obtain⟨b,hb,h2⟩:=Ej h1;have:b∈oE m:=(by rw [← e,nP];exact List.mem_flatMap.2 ⟨x,hx,hb⟩);unfold oE at this;obtain⟨y,hy,rfl⟩:=List.mem_map.1 this;have:=hm y hy;simp at h2;omega
 rw [fB hl]at e;exact Nj hl hm e
theorem vQ {l:List Int} (h:dn l):(runesBytes l).size=l.length:=by
 have h2:=congrArg List.length (fB h);rw [oE,List.length_map,Array.length_toList]at h2;exact h2
theorem pK {l:List Int} (h:∀ d∈l,eV d=true):dn l:=by
 intro d hd;have:=h d hd;unfold eV at this;simp only [Bool.or_eq_true,Bool.and_eq_true,decide_eq_true_eq]at this;omega
theorem Eo (l:List Int) (d:Int):ew (l++[d])=16*ew l+ri d:=by unfold ew;rw [List.foldl_append];rfl
theorem nA {l:List Int} (h:∀ d∈l,eV d=true) (hl:l.length≤6):0≤ew l∧ew l<16777216:=by
 obtain⟨h1,h2⟩:=pZ l 0 (Int.le_refl _) h;refine⟨h1,Int.lt_of_lt_of_le h2 ?_⟩;generalize l.length=k at hl;have:k=0∨k=1∨k=2∨k=3∨k=4∨k=5∨k=6:=(by omega);rcases this with rfl | rfl | rfl | rfl | rfl | rfl | rfl <;> decide
def og:Array Value:=#[.int .i64 192,.int .i64 224,.int .i64 2,.int .i64 128,.int .i64 224,.int .i64 240,.int .i64 3,.int .i64 2048,.int .i64 240,.int .i64 248,.int .i64 4,.int .i64 65536]
theorem DV (j:Nat) (hj:j<3):og[j*4]? = some (.int .i64 (ef j))∧og[j*4+1]? = some (.int .i64 (vS j))∧og[j*4+2]? = some (.int .i64 (lu j))∧og[j*4+3]? = some (.int .i64 (xu j)):=by
 match j,hj with
 | 0,_=>exact⟨rfl,rfl,rfl,rfl⟩
 | 1,_=>exact⟨rfl,rfl,rfl,rfl⟩
 | 2,_=>exact⟨rfl,rfl,rfl,rfl⟩
def Sj (w:World) (s:ByteArray) (p:Nat) (i:Value) (wr:World):Prop :=
  ∃ j:Nat,j≤3∧i=.int .i64 j∧(∀ q,q<j→ju q (aR s p)=true→¬ p+lu q≤s.size)∧ak wr w.heap.size 76 og∧Below w.heap.size w wr
def Wc (w0:World) (s:ByteArray) (p:Nat) (x0:Int) (n:Nat) (x i:Value) (wr:World):Prop :=
  ∃ k:Nat,1≤k∧k≤n∧i=.int .i64 k∧x=.int .i64 (part s p x0 (k - 1))∧(∀ q:Nat,1≤q→q<k→aR s (p+q) / 64=2)∧wr=w0
def Qv (w:World) (p:Int × Int) (e:Ending) (w':World):Prop:=e=.returned (.tuple #[.int .i32 p.1,.int .i64 p.2])∧Below w.heap.size w w'
theorem It (s:ByteArray) (p:Nat) (w:World) (hs:s.size≤1099511627776) (hp:p<s.size) :
    Calls Tryz.prog 38 #[.string s,.int .i64 p] w (Qv w (zg s p)):=by
 have Xe:=kF s p hp;have hb0:=mT s p;have ha:=Lc s p;have hno:=LS s p;have hcut:=P5 s p;have th:=I8 s p;generalize Iz:aR s p=c at *;have Xz:=Lib.hid Iz;clear Iz;by_cases hc:c<128
 ·have HA:=Lib.hid (ha hc);clear ha hno hcut th;go_enter Tryz.func38,Tryz.ntmps38;go_wp2;go_ret2;rw [HA.out];exact⟨rfl,Below.refl _ _⟩
 have HNO:=Lib.hid (hno (by omega));have WC:=Lib.hid hcut;have HWH:=Lib.hid th;clear ha hno hcut th;go_enter Tryz.func38,Tryz.ntmps38;go_wp2;go_loopw [25] (Sj w s p) (fun i _=>3 - (intOf i).toNat);(case atStart=>exact⟨0,by omega,rfl,by omega,ak.new _ _ _,(Below.refl _ _).alloc (Nat.le_refl _) _⟩);obtain⟨j,hj,rfl,tL,mB,hb⟩:=hrel;rw [Xz.out]at tL;have hz:=mB.lt;by_cases hlt:j<3
 ·obtain⟨k0,k1,k2,k3⟩:=DV j hlt;have r0:=(mB.cell (j*4)).trans k0;have r1:=(mB.cell (j*4+1)).trans k1;have r2:=(mB.cell (j*4+2)).trans k2;have r3:=(mB.cell (j*4+3)).trans k3;have RL:=Nz j hlt c hb0.1 hb0.2;have hcut:=WC.out j;have th:=HWH.out j hlt;have hj3:decide ((j:Int)<3)=true:=(by simp;omega);have IZ:2≤lu j∧lu j≤4:=by
   unfold lu;split;omega;split <;> omega
  have hx0:ju j c=true→0≤c - ef j∧c - ef j<32:=by
   unfold ju;intro h;simp only [Bool.and_eq_true,decide_eq_true_eq]at h;split at h;omega;split at h <;> omega
  have ad1:0≤ef j∧ef j≤240:=by
   unfold ef;split;omega;split <;> omega
  have hsj:=tL;generalize hN:lu j=n at *;generalize ef j=hd at *;generalize vS j=mk at *;generalize xu j=ls at *;have HN:=Lib.hid hN;have HSK:=Lib.hid tL;have Q9:=Lib.hid hcut;have WN:=Lib.hid th;have Wd:=Lib.hid mB;clear hN tL hsj hcut th mB k0 k1 k2 k3;by_cases hm:ju j c=true
  ·obtain⟨hx1,hx2⟩:=hx0 hm;rw [hm]at RL;by_cases hps:p+n≤s.size
   ·have HW1:=Lib.hid (WN.out hm hps);have jE:=Lib.hid (fun i=>Q9.out i hlt hm);clear WN Q9 HSK HN HNO WC HWH;go_wp2_with fail;have TC:Below w.heap.size w (wr.alloc (.cells #[.int .i64 hd,.int .i64 mk,.int .i64 n,.int .i64 ls] 76)):=hb.alloc (by omega) _;obtain⟨wo,rfl⟩:∃ wo:World,wo=wr:=⟨_,rfl⟩;go_loopw [9,10] (Wc (wo.alloc (.cells #[.int .i64 hd,.int .i64 mk,.int .i64 n,.int .i64 ls] 76)) s p (c - hd) n) (fun _ i _=>n - (intOf i).toNat);(case atStart=>exact⟨1,by omega,by omega,rfl,rfl,fun q h1 h2=>by omega,rfl⟩);obtain⟨k,hk1,hkn,rfl,rfl,hok,rfl⟩:=hrel;have hpb:=Qi s p (c - hd) hx1 hx2 (k - 1) (by omega);have Nu:=Lib.hid hok;clear hok;by_cases LA:k<n
    ·have hbk:=kF s (p+k) (by omega);have hdb:=mT s (p+k);have hstep:part s p (c - hd) (k+1 - 1)=part s p (c - hd) (k - 1)*64+aR s (p+k) % 64:=by
      obtain⟨k',rfl⟩:∃ k',k=k' + 1:=⟨k - 1,by omega⟩;rfl
     have l8:aR s (p+k) / 64≠2→zg s p=(0,0):=fun h=>jE.out k hk1 LA h;have U4:aR s (p+k) / 64=2→∀ q,1≤q→q<k+1→aR s (p+q) / 64=2:=fun h q h1 h2=>by
      by_cases hq:q=k
      ·rw [hq];exact h
      exact Nu.out q h1 (by omega)
     have HS:=Lib.hid hstep;have HB:=Lib.hid l8;have YJ:=Lib.hid U4;clear hstep l8 U4;generalize aR s (p+k)=d at *;generalize part s p (c - hd) (k - 1)=X at *;have hpk:p+k<s.size:=(by omega);by_cases mY:d / 64=2
     ·have hdt:(d / 64 != 2)=false:=(by rw [bne_eq_false_iff_eq];exact mY);have HD:=Lib.hid mY;clear mY;go_wp2_with fail;exact⟨⟨k+1,by omega,by omega,by go_num,by rw [HS.out],YJ.out HD.out,rfl⟩,by simp [intOf];omega⟩
     have hdt:(d / 64 != 2)=true:=(by rw [bne_iff_ne];exact mY);have HD:=Lib.hid (HB.out mY);clear mY;go_wp2_with fail;go_ret2;rw [HD.out];exact⟨rfl,TC⟩
    obtain rfl:k=n:=(by omega);have rL:=HW1.out Nu.out;generalize part s p (c - hd) (k - 1)=X at *;have agD:X≤2147483647:=(by omega);cases hls:decide (ls≤X)
    ·rw [hls,if_neg (by simp)]at rL;have HF:=Lib.hid rL;clear rL;go_wp2_with fail;go_ret2;rw [HF.out];exact⟨rfl,TC⟩
    cases O2:aK X
    ·rw [hls,O2,if_neg (by simp)]at rL;have HF:=Lib.hid rL;clear rL;go_wp2_with (go_at_call 33;refine(pg _ _).mono ?_;rintro e w' ⟨rfl,rfl⟩);go_ret2;rw [HF.out];exact⟨rfl,TC⟩
    rw [hls,O2,if_pos (by simp)]at rL;have HF:=Lib.hid rL;clear rL;go_wp2_with (go_at_call 33;refine(pg _ _).mono ?_;rintro e w' ⟨rfl,rfl⟩);go_quiet (fail);go_wp2;go_ret2;rw [HF.out];exact⟨rfl,below_drewN TC _⟩
   have afx:s.size<p+n:=(by omega);have NZ:∀ q,q<j+1→ju q c=true→¬ p+lu q≤s.size:=fun q hq h=>by
    by_cases hqj:q=j
    ·subst hqj;rw [HN.out];omega
    exact HSK.out q (by omega) h
   have TZ:=Lib.hid NZ;clear NZ;go_wp2_with fail;exact⟨⟨j+1,by omega,by go_num,by rw [Xz.out];exact TZ.out,Wd.out.alloc _,hb.alloc (by omega) _⟩,by simp [intOf];omega⟩
  have UE:ju j c=false:=(by simpa using hm);rw [UE]at RL;have NZ:∀ q,q<j+1→ju q c=true→¬ p+lu q≤s.size:=fun q hq h=>by
   by_cases hqj:q=j
   ·subst hqj;rw [h]at UE;cases UE
   exact HSK.out q (by omega) h
  have TZ:=Lib.hid NZ;clear NZ;go_wp2_with fail;exact⟨⟨j+1,by omega,by go_num,by rw [Xz.out];exact TZ.out,Wd.out.alloc _,hb.alloc (by omega) _⟩,by simp [intOf];omega⟩
 obtain rfl:j=3:=(by omega);have HF:=Lib.hid (HNO.out tL);clear tL;go_wp2_with fail;go_ret2;rw [HF.out];exact⟨rfl,hb⟩
end Go.Proofs.YtapechjebkjidaaGreatDoor
