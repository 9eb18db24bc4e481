/- Span + SpanRef + SpanInfo + Same + SetP + RefHas + SetBuild + SetOps + SynP + SynMono + RunesText + ParseHex -/
import Derived.Test.YtamkjeipdjbemaaGreatDoorZpH
import Derived.Test.YtamkjeipdjbemaaGreatDoorZp3
import Derived.Test.YtamkjeipdjbemaaGreatDoorRows
import Derived.Deep.QuietTactic
import Derived.BigQuiet
import Derived.Laws.Cover4
import Derived.Laws.Runes
import Derived.Lib.ConvBytes
import Derived.Lib.Strings
set_option maxHeartbeats 3200000
set_option maxRecDepth 100000
namespace Go.Proofs.YtamkjeipdjbemaaGreatDoor
open Go.RowKit
abbrev ag:=List (Int × Int)
def au (l:ag):List Value:=l.flatMap fun k=>[.int .i32 k.1,.int .i32 k.2]
theorem bP (l:ag):(au l).length=l.length*2:=by
 induction l with
 | nil=>rfl
 | cons x l ih=>simp only [au,List.flatMap_cons]at ih ⊢;simp [ih];omega
theorem kD (l:ag) (k:Nat) (x y:Int) (hk:l[k]? = some (x,y)):(au l)[k*2]? = some (.int .i32 x)∧(au l)[k*2+1]? = some (.int .i32 y):=by
 induction l generalizing k with
 | nil=>simp at hk
 | cons z l ih=>
  cases k with
  | zero=>simp at hk;subst hk;simp [au]
  | succ k=>
   have:=ih k (by simpa using hk);simp only [au,List.flatMap_cons]at this ⊢;have e1:(k+1)*2=k*2+1+1:=(by omega);rw [e1];simpa using this
def mA (w:World) (B:Nat) (A:Option Addr) (n:Nat) (l:ag):Prop:=Rd w B 2 A n (au l)
theorem mA.len {w:World} {B n:Nat} {A:Option Addr} {l:ag} (h:mA w B A n l):l.length=n:=by
 have:=h.1;rw [bP]at this;omega
theorem mA.at {w:World} {B n:Nat} {A:Option Addr} {l:ag} (h:mA w B A n l) {k:Nat} {x y:Int} (hk:l[k]? = some (x,y)) :
    ∃ b off:Nat,A=some ⟨b,off,none⟩∧b<B∧w.cell? ⟨b,off+k*2,none⟩=some (.int .i32 x)∧w.cell? ⟨b,off+k*2+1,none⟩=some (.int .i32 y):=by
 have hl:k<l.length:=(List.getElem?_eq_some_iff.1 hk).1;have:=h.len;obtain⟨b,off,e,hb,hc⟩:=h.2 (by omega);obtain⟨h1,h2⟩:=kD l k x y hk;exact⟨b,off,e,hb,hc _ _ h1,by rw [Nat.add_assoc];exact hc _ _ h2⟩
def rG:Option Int→Int→Bool
  | none,_=>false
  | some h,a=>decide (a≤h+1)
def gG:Option Int→ag→Int
  | _,[]=>0
  | prev,(a,b)::r=>if a<0∨1114111<b∨b<a then 3 else if rG prev a=true then 2 else gG (some b) r
def bD (l:ag):Int:=if 200<l.length then 5 else gG none l
def fP (l:ag):Nat→Option Int
  | 0=>none
  | k+1=>(l[k]?).map (·.2)
def DE (w:World) (l:ag) (n:Nat) (i:Value) (wr:World):Prop :=
  ∃ j:Nat,j≤n∧i=.int .i64 j∧gG none l=gG (fP l j) (l.drop j)∧(∀ h,fP l j=some h→h≤1114111∧0≤h)∧Below w.heap.size w wr
theorem bR {α:Type} {l:List α} {j:Nat} {x:α} (h:l[j]? = some x):l.drop j=x::l.drop (j+1):=by
 obtain⟨hj,rfl⟩:=List.getElem?_eq_some_iff.1 h;exact List.drop_eq_getElem_cons hj
theorem jx (A:Option Addr) (n c:Nat) (l:ag) (w:World) (hn:n≤9223372036854775807) (hl:mA w w.heap.size A n l) :
    Calls Tryz.prog 39 #[.slice A n c] w fun e w'=>e=.returned (.int .i64 (bD l))∧Below w.heap.size w w':=by
 have aM:=qqh hl.len;have HL:=qqh hl;clear hl;by_cases h2:200<n
 ·have HP:=qqh (show bD l=5 by unfold bD;rw [if_pos (by rw [aM.out];exact h2)]);go_enter Tryz.func39,Tryz.ntmps39;go_wp2_with fail;go_ret;rw [HP.out];exact⟨rfl,qqb⟩
 have HP:=qqh (show bD l=gG none l by unfold bD;rw [if_neg (by rw [aM.out];exact h2)]);go_enter Tryz.func39,Tryz.ntmps39;go_wp2_with fail;go_loopw [10] (DE w l n) (fun i _=>n - (intOf i).toNat);(case atStart=>exact⟨0,Nat.zero_le _,rfl,rfl,by simp [fP],qqb⟩);obtain⟨j,hj,rfl,aN,Kt,hb⟩:=hrel;have hz:=hb.size;by_cases hlt:j<n
 ·obtain⟨⟨x,y⟩,hx⟩:∃ z,l[j]? = some z:=⟨_,List.getElem?_eq_getElem (by rw [aM.out];exact hlt)⟩;obtain⟨b,off,rfl,cK,c0,c1⟩:=HL.out.at hx;have d0:=(hb.cell (p:=⟨b,off+j*2,none⟩) cK).trans c0;have d1:=(hb.cell (p:=⟨b,off+j*2+1,none⟩) cK).trans c1;rw [bR hx,gG]at aN;by_cases hr:x<0∨1114111<y∨y<x
  ·rw [if_pos hr]at aN;have HG:=qqh aN;have HX:=qqh hx;clear aN hx c0 c1 Kt;rcases (show x<0∨(0≤x∧1114111<y)∨(0≤x∧y≤1114111∧y<x) by omega)with h1 | ⟨h1,h2⟩ | ⟨h1,h2,h3⟩
   all_goals
     clear hr
     go_wp2_with fail
     go_ret
     rw [HP.out,HG.out]
     exact⟨rfl,hb.alloc hz _⟩
  rw [if_neg hr]at aN;have Bw:0≤x:=(by omega);have i4:y≤1114111:=(by omega);have lH:x≤y:=(by omega);have tv:∀ h,fP l (j+1)=some h→h≤1114111∧0≤h:=by
   intro h hh;simp only [fP,hx,Option.map_some,Option.some.injEq]at hh;omega
  have ov:fP l (j+1)=some y:=(by simp [fP,hx]);clear hr;cases j with
  | zero=>
   rw [if_neg (by simp [fP,rG])]at aN;rw [← ov]at aN;have HG:=qqh aN;have HX:=qqh hx;have Mb:=qqh tv;clear aN hx c0 c1 Kt tv ov;simp only [Nat.zero_mul,Nat.add_zero]at d0 d1;go_wp2_with fail;go_quiet (fail);go_wp2_with fail;exact⟨⟨1,by omega,by go_num,HG.out,Mb.out,below_drewN (hb.alloc hz _) _⟩,by simp [intOf];omega⟩
  | succ j=>
   obtain⟨⟨p,h⟩,hp⟩:∃ z,l[j]? = some z:=⟨_,List.getElem?_eq_getElem (by rw [aM.out];omega)⟩;have hh:fP l (j+1)=some h:=(by simp [fP,hp]);obtain⟨hh1,Vl⟩:=Kt h hh;obtain⟨b2,off2,e2,_,_,c3⟩:=HL.out.at hp;cases e2;have d3:(wr.alloc (Obj.cells #[Value.int IntKind.i32 x,Value.int IntKind.i32 y] 95)).cell? ⟨b,off+j*2+1,none⟩=some (.int .i32 h):=((hb.alloc hz _).cell (p:=⟨b,off+j*2+1,none⟩) cK).trans c3;have hj0:decide ((0:Int)<(j:Int)+1)=true:=decide_eq_true (by omega);have hjn:j<n:=(by omega);have Lf:(j:Int)<(n:Int):=(by omega);have hjw:IntKind.i64.wrap (j:Int)=(j:Int):=IntWalk.i64_in _ (by omega);rw [hh]at aN;simp only [rG,decide_eq_true_eq]at aN;by_cases ht:x≤h+1
   ·rw [if_pos ht]at aN;have HG:=qqh aN;have HX:=qqh hx;have wX:=qqh hp;clear aN hx c0 c1 c3 Kt tv ov hh hp;have ht2:decide (x≤h+1)=true:=(by simpa using ht);go_wp2_with fail;go_quiet (fail);go_wp2_with fail;go_ret;rw [HP.out,HG.out];exact⟨rfl,below_drewN (hb.alloc hz _) _⟩
   rw [if_neg ht,← ov]at aN;have HG:=qqh aN;have HX:=qqh hx;have wX:=qqh hp;have Mb:=qqh tv;clear aN hx c0 c1 c3 Kt tv ov hh hp;have ht2:decide (x≤h+1)=false:=(by simpa using ht);go_wp2_with fail;go_quiet (fail);go_wp2_with fail;exact⟨⟨j+1+1,by omega,by go_num,HG.out,Mb.out,below_drewN (hb.alloc hz _) _⟩,by simp [intOf];omega⟩
 obtain rfl:j=n:=(by omega);rw [List.drop_of_length_le (by rw [aM.out];omega)]at aN;have HG:=qqh (aN.trans (show gG (fP l j) [] = 0 from rfl));clear aN Kt;go_wp2_with fail;go_ret;rw [HP.out,HG.out];exact⟨rfl,hb⟩
theorem xj (A:Option Addr) (n c:Nat) (l:ag) (w:World) (hn:n≤9223372036854775807) (hl:mA w w.heap.size A n l) :
    Calls Tryz.prog 49 #[.slice A n c] w fun e w'=>e=.returned (.int .i64 (bD l))∧Below w.heap.size w w':=by
 have aM:=qqh hl.len;have HL:=qqh hl;clear hl;by_cases h2:200<n
 ·have HP:=qqh (show bD l=5 by unfold bD;rw [if_pos (by rw [aM.out];exact h2)]);go_enter Tryz.func49,Tryz.ntmps49;go_wp2_with fail;go_ret;rw [HP.out];exact⟨rfl,qqb⟩
 have HP:=qqh (show bD l=gG none l by unfold bD;rw [if_neg (by rw [aM.out];exact h2)]);go_enter Tryz.func49,Tryz.ntmps49;go_wp2_with fail;go_loopw [10] (DE w l n) (fun i _=>n - (intOf i).toNat);(case atStart=>exact⟨0,Nat.zero_le _,rfl,rfl,by simp [fP],qqb⟩);obtain⟨j,hj,rfl,aN,Kt,hb⟩:=hrel;have hz:=hb.size;by_cases hlt:j<n
 ·obtain⟨⟨x,y⟩,hx⟩:∃ z,l[j]? = some z:=⟨_,List.getElem?_eq_getElem (by rw [aM.out];exact hlt)⟩;obtain⟨b,off,rfl,cK,c0,c1⟩:=HL.out.at hx;have d0:=(hb.cell (p:=⟨b,off+j*2,none⟩) cK).trans c0;have d1:=(hb.cell (p:=⟨b,off+j*2+1,none⟩) cK).trans c1;rw [bR hx,gG]at aN;by_cases hr:x<0∨1114111<y∨y<x
  ·rw [if_pos hr]at aN;have HG:=qqh aN;have HX:=qqh hx;clear aN hx c0 c1 Kt;rcases (show x<0∨(0≤x∧y<x)∨(0≤x∧x≤y∧1114111<y) by omega)with h1 | ⟨h1,h2⟩ | ⟨h1,h2,h3⟩
   all_goals
     clear hr
     go_wp2_with fail
     go_ret
     rw [HP.out,HG.out]
     exact⟨rfl,hb.alloc hz _⟩
  rw [if_neg hr]at aN;have Bw:0≤x:=(by omega);have i4:y≤1114111:=(by omega);have lH:x≤y:=(by omega);have tv:∀ h,fP l (j+1)=some h→h≤1114111∧0≤h:=by
   intro h hh;simp only [fP,hx,Option.map_some,Option.some.injEq]at hh;omega
  have ov:fP l (j+1)=some y:=(by simp [fP,hx]);clear hr;cases j with
  | zero=>
   rw [if_neg (by simp [fP,rG])]at aN;rw [← ov]at aN;have HG:=qqh aN;have HX:=qqh hx;have Mb:=qqh tv;clear aN hx c0 c1 Kt tv ov;simp only [Nat.zero_mul,Nat.add_zero]at d0 d1;go_wp2_with fail;go_quiet (fail);go_wp2_with fail;exact⟨⟨1,by omega,by go_num,HG.out,Mb.out,below_drewN (hb.alloc hz _) _⟩,by simp [intOf];omega⟩
  | succ j=>
   obtain⟨⟨p,h⟩,hp⟩:∃ z,l[j]? = some z:=⟨_,List.getElem?_eq_getElem (by rw [aM.out];omega)⟩;have hh:fP l (j+1)=some h:=(by simp [fP,hp]);obtain⟨hh1,Vl⟩:=Kt h hh;obtain⟨b2,off2,e2,_,_,c3⟩:=HL.out.at hp;cases e2;have d3:(wr.alloc (Obj.cells #[Value.int IntKind.i32 x,Value.int IntKind.i32 y] 95)).cell? ⟨b,off+j*2+1,none⟩=some (.int .i32 h):=((hb.alloc hz _).cell (p:=⟨b,off+j*2+1,none⟩) cK).trans c3;have hj0:decide ((0:Int)<(j:Int)+1)=true:=decide_eq_true (by omega);have hjn:j<n:=(by omega);have Lf:(j:Int)<(n:Int):=(by omega);have hjw:IntKind.i64.wrap (j:Int)=(j:Int):=IntWalk.i64_in _ (by omega);rw [hh]at aN;simp only [rG,decide_eq_true_eq]at aN;by_cases ht:x≤h+1
   ·rw [if_pos ht]at aN;have HG:=qqh aN;have HX:=qqh hx;have wX:=qqh hp;clear aN hx c0 c1 c3 Kt tv ov hh hp;have ht2:decide (x - h<2)=true:=decide_eq_true (by omega);go_wp2_with fail;go_quiet (fail);go_wp2_with fail;go_ret;rw [HP.out,HG.out];exact⟨rfl,below_drewN (hb.alloc hz _) _⟩
   rw [if_neg ht,← ov]at aN;have HG:=qqh aN;have HX:=qqh hx;have wX:=qqh hp;have Mb:=qqh tv;clear aN hx c0 c1 c3 Kt tv ov hh hp;have ht2:decide (x - h<2)=false:=decide_eq_false (by omega);go_wp2_with fail;go_quiet (fail);go_wp2_with fail;exact⟨⟨j+1+1,by omega,by go_num,HG.out,Mb.out,below_drewN (hb.alloc hz _) _⟩,by simp [intOf];omega⟩
 obtain rfl:j=n:=(by omega);rw [List.drop_of_length_le (by rw [aM.out];omega)]at aN;have HG:=qqh (aN.trans (show gG (fP l j) [] = 0 from rfl));clear aN Kt;go_wp2_with fail;go_ret;rw [HP.out,HG.out];exact⟨rfl,hb⟩
theorem jY:(Tryz.prog.info? 95).map (fun i=>(i.zero,i.size,i.bytes))=some (some (.agg #[.int .i32 0,.int .i32 0]),2,8):=by kernel_rfl
theorem mM (x y:Int):∀ u ∈ [Value.int .i32 x,.int .i32 y],u.oneCell'=true:=by
 intro u hu;simp at hu;rcases hu with rfl | rfl <;> rfl
theorem hJ (l:ag) (x y:Int):au (l++[(x,y)])=au l++[.int .i32 x,.int .i32 y]:=by simp [au]
theorem mc (l:ag):∀ u∈au l,u.oneCell'=true:=by
 intro u hu;simp only [au,List.mem_flatMap]at hu;obtain⟨x,_,hu⟩:=hu;simp at hu;rcases hu with rfl | rfl <;> rfl
theorem xK (a b:ag):au (a++b)=au a++au b:=by simp [au]
theorem mJ (a b:ag):au (a++b)=au a++au b:=by simp [au]
theorem OE {xs ys:List Int} {k:Nat} (h:(xs[k]?.getD 0 != ys[k]?.getD 0)=true):false=(xs == ys):=by
 symm;rw [beq_eq_false_iff_ne];rintro rfl;simp at h
theorem Jv {xs ys:List Int} {k:Nat} (hx:k<xs.length) (hy:k<ys.length) (he:xs.take k=ys.take k) (h:(xs[k]?.getD 0 != ys[k]?.getD 0)=false):xs.take (k+1)=ys.take (k+1):=by
 rw [List.take_succ_eq_append_getElem hx,List.take_succ_eq_append_getElem hy,he];simp [List.getElem?_eq_getElem hx,List.getElem?_eq_getElem hy]at h;rw [h]
theorem NG {xs ys:List Int} {n:Nat} (hx:xs.length=n) (hy:ys.length=n) (he:xs.take n=ys.take n):true=(xs == ys):=by
 rw [List.take_of_length_le (by omega),List.take_of_length_le (by omega)]at he;simp [he]
theorem L9 (A C:Option Addr) (n m c d:Nat) (xs ys:List Int) (w:World) (hn:n≤9223372036854775807)
    (hx:mg w w.heap.size A n xs) (hy:mg w w.heap.size C m ys) :
    Calls Tryz.prog 9 #[.slice A n c,.slice C m d] w fun e w'=>e=.returned (.bool (xs == ys))∧∃ k,w'=w.drewN k:=by
 have lx:=hx.len;have ly:=hy.len;by_cases hnm:n=m
 ·subst hnm;go_enter Tryz.func9,Tryz.ntmps9;go_wp2;go_loopw [13] (fun i wr=>∃ k q:Nat,k≤n∧i=.int .i64 k∧wr=w.drewN q∧xs.take k=ys.take k) (fun i _=>n - (intOf i).toNat);(case atStart=>exact⟨0,0,Nat.zero_le _,rfl,rfl,rfl⟩);obtain⟨k,q,hk,rfl,rfl,heq⟩:=hrel;have HE:=qqh heq;clear heq;by_cases hlt:k<n
  ·obtain⟨b1,o1,rfl,aP,hc1⟩:=hx.at hlt;obtain⟨b2,o2,rfl,aX,hc2⟩:=hy.at hlt;have HX:=qqh hx;have HY:=qqh hy;have LX:=qqh lx;have LY:=qqh ly;clear hx hy lx ly;go_wp2;go_quiet (fail);go_wp2
   ·have hd:(xs[k]?.getD 0 != ys[k]?.getD 0)=true:=(by assumption);go_ret;exact⟨aV (OE hd),_,World.drewN_drewN _ _ _⟩
   have hd:(xs[k]?.getD 0 != ys[k]?.getD 0)=false:=(by assumption);refine⟨⟨k+1,_,by omega,by go_num,rfl,Jv (by rw [LX.out];exact hlt) (by rw [LY.out];exact hlt) HE.out hd⟩,by simp [intOf];omega⟩
  obtain rfl:k=n:=(by omega);go_wp2;go_ret;exact⟨aV (NG lx ly HE.out),_,rfl⟩
 have hne:((n:Int) !=(m:Int))=true:=(by rw [bne_iff_ne];omega);go_enter Tryz.func9,Tryz.ntmps9;go_wp2;go_ret;refine⟨aV ?_,0,rfl⟩;symm;rw [beq_eq_false_iff_ne];intro e;rw [e]at lx;omega
def bB (s:ag) (r:Int):Bool:=s.any fun x=>decide (x.1≤r) && decide (r≤x.2)
theorem zj (s:ag):∀ prev:Option Int,gG prev s=0→(∀ h,prev=some h→∀ x∈s,h+1<x.1)∧(∀ x∈s,0≤x.1∧x.1≤x.2∧x.2≤1114111)∧s.Pairwise (fun a b=>a.2+1<b.1):=by
 induction s with
 | nil=>intro prev _;exact⟨by simp,by simp,List.Pairwise.nil⟩
 | cons z s ih=>
  obtain⟨a,b⟩:=z;intro prev h;rw [gG]at h;by_cases h1:a<0∨1114111<b∨b<a
  ·rw [if_pos h1]at h;cases h
  rw [if_neg h1]at h;by_cases h2:rG prev a=true
  ·rw [if_pos h2]at h;cases h
  rw [if_neg h2]at h;obtain⟨g1,g2,g3⟩:=ih (some b) h;refine⟨fun q hq x hx=>?_,fun x hx=>?_,List.pairwise_cons.2 ⟨fun x hx=>g1 b rfl x hx,g3⟩⟩
  ·subst hq;simp only [rG,decide_eq_true_eq]at h2;rcases List.mem_cons.1 hx with rfl | hx
   ·show q+1<a;omega
   have:=g1 b rfl x hx;have:=(g2 x hx).1;omega
  rcases List.mem_cons.1 hx with rfl | hx
  ·show 0≤a∧a≤b∧b≤1114111;omega
  exact g2 x hx
structure aJ (s:ag):Prop where
  size:s.length≤200
  each:∀ x∈s,0≤x.1∧x.1≤x.2∧x.2≤1114111
  nD:s.Pairwise (fun a b=>a.2+1<b.1)
theorem oU {s:ag} (h:bD s=0):aJ s:=by
 unfold bD at h;by_cases h2:200<s.length
 ·rw [if_pos h2]at h;cases h
 rw [if_neg h2]at h;obtain⟨_,g2,g3⟩:=zj s none h;exact⟨by omega,g2,g3⟩
theorem aJ.lt {s:ag} (h:aJ s) {i j:Nat} {x y:Int × Int} (hx:s[i]? = some x) (hy:s[j]? = some y) (hij:i<j):x.2+1<y.1:=by
 obtain⟨hi,rfl⟩:=List.getElem?_eq_some_iff.1 hx;obtain⟨hj,rfl⟩:=List.getElem?_eq_some_iff.1 hy;exact List.pairwise_iff_getElem.1 h.nD i j hi hj hij
theorem OF {s:ag} (h:aJ s) (r:Int) {k:Nat} (h1:∀ t x,t<k→s[t]? = some x→x.2<r) (h2:∀ t x,k≤t→s[t]? = some x→r≤x.2) :
    bB s r=match s[k]? with | some x=>decide (x.1≤r) | none=>false:=by
 have key:bB s r=true↔∃ x,s[k]? = some x∧x.1≤r:=by
  unfold bB;rw [List.any_eq_true];constructor
  ·rintro⟨x,hx,hp⟩;simp only [Bool.and_eq_true,decide_eq_true_eq]at hp;obtain⟨i,hi⟩:=List.mem_iff_getElem?.1 hx;have hki:k≤i:=by
    rcases Nat.lt_or_ge i k with hlt | hge
    ·have:=h1 i x hlt hi;omega
    exact hge
   rcases Nat.lt_or_ge k i with hlt | hge
   ·obtain⟨y,hy⟩:∃ y,s[k]? = some y:=⟨_,List.getElem?_eq_getElem (by have:=(List.getElem?_eq_some_iff.1 hi).1;omega)⟩;have:=h.lt hy hi hlt;have:=h2 k y qql hy;omega
   obtain rfl:i=k:=(by omega);exact⟨x,hi,hp.1⟩
  rintro⟨x,hx,hr⟩;exact⟨x,List.mem_of_getElem? hx,by simp only [Bool.and_eq_true,decide_eq_true_eq];exact⟨hr,h2 k x qql hx⟩⟩
 cases hk:s[k]? with
 | none=>
  rw [hk]at key;simpa using key
 | some x=>
  rw [hk]at key;rw [Bool.eq_iff_iff,key];simp
def cT (s:ag):List Int:=s.flatMap fun x=>[x.1,x.2+1]
def jC (E:List Int) (r:Int):List Int :=
  if 1114111<r∨r∈E then E else E.takeWhile (fun x=>decide (x<r))++r::E.dropWhile (fun x=>decide (x<r))
theorem Bm {E:List Int} (h:E.Pairwise (· < ·)) (r:Int):(∀ x∈E.takeWhile (fun x=>decide (x<r)),x<r)∧(∀ x∈E.dropWhile (fun x=>decide (x<r)),r≤x):=by
 induction E with
 | nil=>simp
 | cons a E ih=>
  rw [List.pairwise_cons]at h;obtain⟨g1,g2⟩:=ih h.2;by_cases ha:a<r
  ·simp only [List.takeWhile_cons,List.dropWhile_cons,ha,decide_true,if_true];exact⟨fun x hx=>by rcases List.mem_cons.1 hx with rfl | hx;exact ha;exact g1 x hx,g2⟩
  simp only [List.takeWhile_cons,List.dropWhile_cons,ha,decide_false,Bool.false_eq_true,if_false];refine⟨by simp,fun x hx=>?_⟩;rcases List.mem_cons.1 hx with rfl | hx;omega;have:=h.1 x hx;omega
theorem LO (E:List Int) (r x:Int):x∈jC E r↔x∈E∨(x=r∧r≤1114111):=by
 unfold jC;split
 ·rename_i h;constructor;exact .inl;rintro(h2 | ⟨rfl,h2⟩);exact h2;rcases h with h | h;omega;exact h
 rename_i h;rw [not_or]at h;have:x∈E↔x∈E.takeWhile (fun x=>decide (x<r))∨x∈E.dropWhile (fun x=>decide (x<r)):=by
  (conv=>lhs;rw [← List.takeWhile_append_dropWhile (p:=fun x=>decide (x<r)) (l:=E)]);rw [List.mem_append]
 rw [List.mem_append,List.mem_cons,this];constructor
 ·rintro(h1 | rfl | h1);exact .inl (.inl h1);exact .inr ⟨rfl,by omega⟩;exact .inl (.inr h1)
 rintro((h1 | h1) | ⟨rfl,_⟩);exact .inl h1;exact .inr (.inr h1);exact .inr (.inl rfl)
theorem zB {E:List Int} (h:E.Pairwise (· < ·)) (r:Int):(jC E r).Pairwise (· < ·):=by
 unfold jC;split;exact h;rename_i hn;rw [not_or]at hn;obtain⟨g1,g2⟩:=Bm h r;have hs:=h;rw [← List.takeWhile_append_dropWhile (p:=fun x=>decide (x<r)) (l:=E),List.pairwise_append]at hs;rw [List.pairwise_append];refine⟨hs.1,List.pairwise_cons.2 ⟨fun x hx=>?_,hs.2.1⟩,fun a ha b hb=>?_⟩
 ·have:=g2 x hx;rcases Int.lt_or_eq_of_le this with h1 | rfl;exact h1;exact absurd ((List.dropWhile_sublist _).subset hx) hn.2
 rcases List.mem_cons.1 hb with rfl | hb;exact g1 a ha;exact hs.2.2 a ha b hb
theorem tV (xs:List Int):∀ (E:List Int) (x:Int),x∈xs.foldl jC E↔x∈E∨(x∈xs∧x≤1114111):=by
 induction xs with
 | nil=>intro E x;simp
 | cons a xs ih=>
  intro E x;rw [List.foldl_cons,ih,LO];constructor
  ·rintro((h | ⟨rfl,h⟩) | ⟨h,h2⟩);exact .inl h;exact .inr ⟨by simp,h⟩;exact .inr ⟨by simp [h],h2⟩
  rintro(h | ⟨h,h2⟩);exact .inl (.inl h);rcases List.mem_cons.1 h with rfl | h;exact .inl (.inr ⟨rfl,h2⟩);exact .inr ⟨h,h2⟩
theorem rT (xs:List Int):∀ (E:List Int),E.Pairwise (· < ·)→(xs.foldl jC E).Pairwise (· < ·):=by
 induction xs with
 | nil=>intro E h;exact h
 | cons a xs ih=>intro E h;rw [List.foldl_cons];exact ih _ (zB h a)
theorem wG (E:List Int) (r:Int):E.length≤(jC E r).length∧(jC E r).length≤E.length+1:=by
 unfold jC;split;omega;have:=congrArg List.length (List.takeWhile_append_dropWhile (p:=fun x=>decide (x<r)) (l:=E));rw [List.length_append]at this;rw [List.length_append,List.length_cons];omega
theorem ug (xs:List Int):∀ (E:List Int),E.length≤(xs.foldl jC E).length∧(xs.foldl jC E).length≤E.length+xs.length:=by
 induction xs with
 | nil=>intro E;simp
 | cons a xs ih=>intro E;rw [List.foldl_cons,List.length_cons];have:=ih (jC E a);have:=wG E a;omega
theorem G0 (s:ag):(cT s).length=2*s.length:=by
 induction s with
 | nil=>rfl
 | cons x s ih=>unfold cT at ih ⊢;rw [List.flatMap_cons,List.length_append,ih,List.length_cons];simp;omega
def cZ (E:List Int) (j:Nat):Int:=match E[j+1]? with | some y=>y - 1 | none=>1114111
theorem xH {s:ag} {a r:Int} (Ob:a≤r) (h:∀ e∈cT s,¬(a<e∧e≤r)):bB s r=bB s a:=by
 unfold bB;induction s with
 | nil=>rfl
 | cons x s ih=>
  have h1:=h x.1 (by simp [cT]);have h2:=h (x.2+1) (by simp [cT]);have hs:=ih (fun e he=>h e (by unfold cT at he ⊢;rw [List.flatMap_cons];exact List.mem_append_right _ he));rw [List.any_cons,List.any_cons,hs];congr 1;rw [Bool.eq_iff_iff];simp only [Bool.and_eq_true,decide_eq_true_eq];omega
theorem jD {E:List Int} (h:E.Pairwise (· < ·)) {i j:Nat} {x y:Int} (hx:E[i]? = some x) (hy:E[j]? = some y) (hij:i<j):x<y:=by
 obtain⟨hi,rfl⟩:=List.getElem?_eq_some_iff.1 hx;obtain⟨hj,rfl⟩:=List.getElem?_eq_some_iff.1 hy;exact List.pairwise_iff_getElem.1 h i j hi hj hij
def ez (L:List ag):List Int:=(L.flatMap cT).foldl jC [0]
def Xa (w:World) (s:ag) (r:Int) (n:Nat) (i:Value) (wr:World):Prop :=
  ∃ j:Nat,j≤n∧i=.int .i64 j∧bB s r=bB (s.drop j) r∧Below w.heap.size w wr
theorem vQ (A:Option Addr) (n c:Nat) (s:ag) (r:Int) (w:World) (hn:n≤9223372036854775807) (hl:mA w w.heap.size A n s) :
    Calls Tryz.prog 53 #[.slice A n c,.int .i32 r] w fun e w'=>e=.returned (.bool (bB s r))∧Below w.heap.size w w':=by
 have aM:=qqh hl.len;have HL:=qqh hl;clear hl;go_enter Tryz.func53,Tryz.ntmps53;go_wp2_with fail;go_loopw [9] (Xa w s r n) (fun i _=>n - (intOf i).toNat);(case atStart=>exact⟨0,Nat.zero_le _,rfl,rfl,qqb⟩);obtain⟨j,hj,rfl,aN,hb⟩:=hrel;have hz:=hb.size;by_cases hlt:j<n
 ·obtain⟨⟨x,y⟩,hx⟩:∃ z,s[j]? = some z:=⟨_,List.getElem?_eq_getElem (by rw [aM.out];exact hlt)⟩;obtain⟨b,off,rfl,cK,c0,c1⟩:=HL.out.at hx;have d0:=(hb.cell (p:=⟨b,off+j*2,none⟩) cK).trans c0;have d1:=(hb.cell (p:=⟨b,off+j*2+1,none⟩) cK).trans c1;rw [bR hx,show bB ((x,y)::s.drop (j+1)) r=((decide (x≤r) && decide (r≤y)) || bB (s.drop (j+1)) r) from rfl]at aN;have HG:=qqh aN;have HX:=qqh hx;have HB:=qqh (hb.alloc hz (.cells #[.int .i32 x,.int .i32 y] 95));clear aN hx c0 c1;by_cases h1:x≤r
  ·by_cases h2:r≤y
   ·have HE:=qqh (show bB s r=true by rw [HG.out,decide_eq_true h1,decide_eq_true h2];rfl);go_wp2_with fail;go_ret;rw [HE.out];exact⟨rfl,HB.out⟩
   have HE:=qqh (show bB s r=bB (s.drop (j+1)) r by rw [HG.out,decide_eq_false h2,Bool.and_false,Bool.false_or]);go_wp2_with fail;exact⟨⟨j+1,by omega,by go_num,HE.out,HB.out⟩,by simp [intOf];omega⟩
  have HE:=qqh (show bB s r=bB (s.drop (j+1)) r by rw [HG.out,decide_eq_false h1,Bool.false_and,Bool.false_or]);have hd:decide (x≤r)=false:=decide_eq_false h1;go_wp2_with fail;exact⟨⟨j+1,by omega,by go_num,HE.out,HB.out⟩,by simp [intOf];omega⟩
 obtain rfl:j=n:=(by omega);rw [List.drop_of_length_le (by rw [aM.out];omega)]at aN;have HG:=qqh (aN.trans (show bB [] r=false from rfl));clear aN;go_wp2_with fail;go_ret;rw [HG.out];exact⟨rfl,hb⟩
structure Canon (s:ag):Prop where
  each:∀ x∈s,0≤x.1∧x.1≤x.2∧x.2≤1114111
  nD:s.Pairwise (fun a b=>a.2+1<b.1)
theorem aJ.canon {s:ag} (h:aJ s):Canon s:=⟨h.each,h.nD⟩
theorem Canon.right {s:ag} (h:Canon s) (hl:s.length≤200):aJ s:=⟨hl,h.each,h.nD⟩
theorem Canon.nil:Canon []:=⟨by simp,List.Pairwise.nil⟩
theorem Canon.tail {x:Int × Int} {s:ag} (h:Canon (x::s)):Canon s:=⟨fun y hy=>h.each y (List.mem_cons_of_mem _ hy),(List.pairwise_cons.1 h.nD).2⟩
theorem Canon.low {x:Int × Int} {s:ag} (h:Canon (x::s)):∀ y∈s,x.2+1<y.1:=(List.pairwise_cons.1 h.nD).1
theorem cH (x:Int × Int) (s:ag) (r:Int):bB (x::s) r=((decide (x.1≤r) && decide (r≤x.2)) || bB s r):=rfl
theorem eE (a b:ag) (r:Int):bB (a++b) r=(bB a r || bB b r):=List.any_append
theorem rE {s:ag} {r:Int}:bB s r=true↔∃ x∈s,x.1≤r∧r≤x.2:=by
 unfold bB;rw [List.any_eq_true];constructor
 ·rintro⟨x,hx,h⟩;simp at h;exact⟨x,hx,h⟩
 rintro⟨x,hx,h1,h2⟩;exact⟨x,hx,by simp [h1,h2]⟩
theorem eI {s:ag} {m r:Int} (h:∀ y∈s,m<y.1) (hr:r≤m):bB s r=false:=by
 rw [Bool.eq_false_iff,ne_eq,rE];rintro⟨x,hx,h1,_⟩;have:=h x hx;omega
theorem Jn {s:ag} {m r:Int} (h:∀ y∈s,y.2<m) (hr:m≤r):bB s r=false:=by
 rw [Bool.eq_false_iff,ne_eq,rE];rintro⟨x,hx,_,h1⟩;have:=h x hx;omega
theorem AA:∀ {a b:ag},Canon a→Canon b→(∀ r,0≤r→r≤1114111→bB a r=bB b r)→a=b:=by
 intro a;induction a with
 | nil=>
  intro b _ hb h;cases b with
  | nil=>rfl
  | cons y b=>
   have hy:=hb.each y List.mem_cons_self;have:=h y.1 (by omega) (by omega);rw [cH]at this;simp [bB,hy.2.1]at this
 | cons x a ih=>
  intro b ha hb h;have hx:=ha.each x List.mem_cons_self;cases b with
  | nil=>
   have:=h x.1 (by omega) (by omega);rw [cH]at this;simp [bB,hx.2.1]at this
  | cons y b=>
   have hy:=hb.each y List.mem_cons_self;have la:=ha.low;have lb:=hb.low;have h1:¬ x.1<y.1:=fun hl=>by
    have:=h x.1 (by omega) (by omega);rw [cH,cH,eI (s:=b) (m:=y.2+1) lb (by omega)]at this;simp [hx.2.1]at this;omega
   have h2:¬ y.1<x.1:=fun hl=>by
    have:=h y.1 (by omega) (by omega);rw [cH,cH,eI (s:=a) (m:=x.2+1) la (by omega)]at this;simp [hy.2.1]at this;omega
   have h3:¬ x.2<y.2:=fun hl=>by
    have:=h (x.2+1) (by omega) (by omega);rw [cH,cH,eI (s:=a) (m:=x.2+1) la (by omega),eI (s:=b) (m:=y.2+1) lb (by omega),decide_eq_false (p:=x.2+1≤x.2) (by omega),decide_eq_true (p:=y.1≤x.2+1) (by omega),decide_eq_true (p:=x.2+1≤y.2) (by omega)]at this;simp at this
   have h4:¬ y.2<x.2:=fun hl=>by
    have:=h (y.2+1) (by omega) (by omega);rw [cH,cH,eI (s:=b) (m:=y.2+1) lb (by omega),eI (s:=a) (m:=x.2+1) la (by omega),decide_eq_false (p:=y.2+1≤y.2) (by omega),decide_eq_true (p:=x.1≤y.2+1) (by omega),decide_eq_true (p:=y.2+1≤x.2) (by omega)]at this;simp at this
   obtain⟨xl,xh⟩:=x;obtain⟨yl,yh⟩:=y;dsimp only at *;obtain rfl:xl=yl:=(by omega);obtain rfl:xh=yh:=(by omega);rw [ih ha.tail hb.tail fun r Mh Bw=>?_];by_cases hr:r≤xh
   ·rw [eI (s:=a) (m:=xh+1) la (by omega),eI (s:=b) (m:=xh+1) lb (by omega)]
   have:=h r Mh Bw;rw [cH,cH]at this;simpa [hr] using this
def uf (acc:ag) (low high:Int):ag :=
  match acc.getLast? with
  | some x=>if x.2+1=low then acc.dropLast++[(x.1,high)]else acc++[(low,high)]
  | none=>acc++[(low,high)]
theorem J9 (low high:Int):uf [] low high = [(low,high)]:=rfl
theorem GH (i:ag) (x:Int × Int) (low high:Int):uf (i++[x]) low high=if x.2+1=low then i++[(x.1,high)]else i++[x]++[(low,high)]:=by
 unfold uf;simp
theorem nk {i:ag} {x:Int × Int} (hi:Canon i) (hx:0≤x.1∧x.1≤x.2∧x.2≤1114111) (h:∀ y∈i,y.2+1<x.1):Canon (i++[x]):=by
 refine⟨fun y hy=>?_,?_⟩
 ·rcases List.mem_append.1 hy with hy | hy;exact hi.each y hy;rw [List.mem_singleton.1 hy];exact hx
 rw [List.pairwise_append];exact⟨hi.nD,List.pairwise_singleton _ _,fun a ha b hb=>by rw [List.mem_singleton.1 hb];exact h a ha⟩
theorem xW {i:ag} {x:Int × Int} (h:Canon (i++[x])):Canon i∧(0≤x.1∧x.1≤x.2∧x.2≤1114111)∧∀ y∈i,y.2+1<x.1:=by
 have hr:=List.pairwise_append.1 h.nD;exact⟨⟨fun y hy=>h.each y (by simp [hy]),hr.1⟩,h.each x (by simp),fun y hy=>hr.2.2 y hy x (by simp)⟩
theorem FU {acc:ag} {low high:Int} (h:Canon acc) (hl:∀ x∈acc,x.2<low) (h0:0≤low) (h1:low≤high) (h2:high≤1114111) :
    Canon (uf acc low high)∧(∀ x∈uf acc low high,x.2≤high)∧∀ r,bB (uf acc low high) r=(bB acc r || (decide (low≤r) && decide (r≤high))):=by
 rcases List.eq_nil_or_concat acc with rfl | ⟨i,x,rfl⟩
 ·rw [J9];exact⟨⟨by simp;omega,List.pairwise_singleton _ _⟩,by simp,fun r=>by simp [bB]⟩
 rw [List.concat_eq_append]at h hl ⊢;obtain⟨hi,hx,Ym⟩:=xW h;have hxl:=hl x (by simp);rw [GH];by_cases he:x.2+1=low
 ·rw [if_pos he];refine⟨nk hi ⟨hx.1,by simp only;omega,h2⟩ Ym,fun y hy=>?_,fun r=>?_⟩
  ·rcases List.mem_append.1 hy with hy | hy
   ·have:=hl y (by simp [hy]);omega
   rw [List.mem_singleton.1 hy];exact Int.le_refl _
  rw [eE,eE,Bool.or_assoc];congr 1;simp only [bB,List.any_cons,List.any_nil,Bool.or_false];rw [Bool.eq_iff_iff];simp;omega
 rw [if_neg he];refine⟨nk h ⟨h0,h1,h2⟩ (fun y hy=>?_),fun y hy=>?_,fun r=>?_⟩
 ·simp only;rcases List.mem_append.1 hy with hy | hy
  ·have:=Ym y hy;omega
  rw [List.mem_singleton.1 hy];omega
 ·rcases List.mem_append.1 hy with hy | hy
  ·have:=hl y hy;omega
  rw [List.mem_singleton.1 hy];exact Int.le_refl _
 rw [eE];congr 1;simp [bB]
def dm (E:List Int) (h:Int→Bool):Nat→ag
  | 0=>[]
  | j+1=>match E[j]? with | none=>dm E h j | some a=>if h a=true then uf (dm E h j) a (cZ E j)else dm E h j
theorem xm {E:List Int} {h:Int→Bool} {j:Nat} {a:Int} (ha:E[j]? = some a):dm E h (j+1)=if h a=true then uf (dm E h j) a (cZ E j)else dm E h j:=by
 rw [dm,ha]
def tK (E:List Int) (h:Int→Bool):ag × Int:=if 200<(dm E h E.length).length then ([],5)else (dm E h E.length,0)
structure oZ (E:List Int) (h:Int→Bool):Prop where
  nD:E.Pairwise (· < ·)
  zero:E[0]? = some 0
  top:∀ x∈E,x≤1114111
  const:∀ j a r,E[j]? = some a→a≤r→r≤cZ E j→h r=h a
theorem Ss {E:List Int} {h:Int→Bool} (hE:oZ E h) {j:Nat} {a:Int} (ha:E[j]? = some a):0≤a∧a≤cZ E j∧cZ E j≤1114111∧cZ E j+1=(E[j+1]?).getD 1114112:=by
 have h0:0≤a:=by
  rcases Nat.eq_zero_or_pos j with rfl | hj
  ·rw [hE.zero]at ha;obtain rfl:=Option.some.inj ha;exact Int.le_refl _
  have:=jD hE.nD hE.zero ha hj;omega
 have ht:=hE.top a (List.mem_of_getElem? ha);unfold cZ;cases he:E[j+1]? with
 | none=>simp;omega
 | some y=>
  have h1:=jD hE.nD ha he (Nat.lt_succ_self j);have h2:=hE.top y (List.mem_of_getElem? he);simp only [Option.getD_some];omega
theorem E9 {E:List Int} {h:Int→Bool} (hE:oZ E h):∀ j,j≤E.length →
    Canon (dm E h j)∧(∀ x∈dm E h j,x.2<(E[j]?).getD 1114112)∧∀ r,0≤r→r<(E[j]?).getD 1114112→bB (dm E h j) r=h r:=by
 intro j;induction j with
 | zero=>exact fun _=>⟨Canon.nil,by simp [dm],fun r h0 h1=>by rw [hE.zero]at h1;simp at h1;omega⟩
 | succ j ih=>
  intro hj;obtain⟨a,ha⟩:∃ a,E[j]? = some a:=⟨_,List.getElem?_eq_getElem (by omega)⟩;obtain⟨i1,i2,i3⟩:=ih (by omega);rw [ha,Option.getD_some]at i2 i3;obtain⟨g0,g1,g2,g3⟩:=Ss hE ha;rw [xm ha,← g3];by_cases hh:h a=true
  ·rw [if_pos hh];obtain⟨s1,s2,s3⟩:=FU i1 i2 g0 g1 g2;refine⟨s1,fun x hx=>by have:=s2 x hx;omega,fun r h0 h1=>?_⟩;rw [s3];by_cases hr:r<a
   ·rw [i3 r h0 hr];simp;omega
   rw [hE.const j a r ha (by omega) (by omega),hh];simp;right;omega
  rw [if_neg hh];refine⟨i1,fun x hx=>by have:=i2 x hx;omega,fun r h0 h1=>?_⟩;by_cases hr:r<a;exact i3 r h0 hr;rw [hE.const j a r ha (by omega) (by omega),Jn i2 (by omega)];simpa using hh
theorem zY {E:List Int} {h:Int→Bool} (hE:oZ E h):Canon (dm E h E.length)∧∀ r,0≤r→r≤1114111→bB (dm E h E.length) r=h r:=by
 obtain⟨h1,_,h3⟩:=E9 hE E.length qql;rw [List.getElem?_eq_none qql,Option.getD_none]at h3;exact⟨h1,fun r a b=>h3 r a (by omega)⟩
theorem Dz {E:List Int} {h:Int→Bool} (hE:oZ E h) {s:ag} (hs:Canon s) (hh:∀ r,0≤r→r≤1114111→bB s r=h r):tK E h=if 200<s.length then ([],5)else (s,0):=by
 obtain⟨b1,b2⟩:=zY hE;have:dm E h E.length=s:=AA b1 hs fun r h0 h1=>(by rw [b2 r h0 h1,hh r h0 h1]);unfold tK;rw [this]
theorem jl (L:List ag) (x:Int):x∈ez L↔x=0∨(x∈L.flatMap cT∧x≤1114111):=by
 unfold ez;rw [tV];simp
theorem me (L:List ag):(ez L).Pairwise (· < ·):=rT _ _ (by simp)
theorem Bc {L:List ag} {j:Nat} {a:Int} (hj:(ez L)[j]? = some a):∀ r,a≤r→r≤cZ (ez L) j→∀ e∈L.flatMap cT,¬(a<e∧e≤r):=by
 intro r h1 h2 e he ⟨h3,h4⟩;have Eh:=me L;by_cases hm:e≤1114111
 ·obtain⟨k,hk⟩:=List.mem_iff_getElem?.1 ((jl L e).2 (.inr ⟨he,hm⟩));have hjk:j<k:=by
   rcases Nat.lt_or_ge j k with h | h;exact h;rcases Nat.lt_or_ge k j with h' | h'
   ·have:=jD Eh hk hj h';omega
   obtain rfl:j=k:=(by omega);rw [hk]at hj;injection hj;omega
  obtain⟨y,hy⟩:∃ y,(ez L)[j+1]? = some y:=⟨_,List.getElem?_eq_getElem (by have:=(List.getElem?_eq_some_iff.1 hk).1;omega)⟩;unfold cZ at h2;rw [hy]at h2;simp only at h2;rcases Nat.lt_or_ge (j+1) k with h | h
  ·have:=jD Eh hy hk h;omega
  obtain rfl:k=j+1:=(by omega);rw [hy]at hk;injection hk;omega
 unfold cZ at h2;split at h2
 ·rename_i y hy;have:=(jl L y).1 (List.mem_of_getElem? hy);omega
 omega
theorem yU {L:List ag} (h:∀ s∈L,aJ s):(ez L)[0]? = some 0:=by
 obtain⟨k,hk⟩:=List.mem_iff_getElem?.1 ((jl L 0).2 (.inl rfl));obtain⟨y,hy⟩:∃ y,(ez L)[0]? = some y:=⟨_,List.getElem?_eq_getElem (by have:=(List.getElem?_eq_some_iff.1 hk).1;omega)⟩;have h0:0≤y:=by
  rcases (jl L y).1 (List.mem_of_getElem? hy)with rfl | ⟨h1,_⟩;exact Int.le_refl _;obtain⟨s,hs,he⟩:=List.mem_flatMap.1 h1;unfold cT at he;obtain⟨x,hx,he⟩:=List.mem_flatMap.1 he;have:=(h s hs).each x hx;simp at he;omega
 rcases Nat.eq_zero_or_pos k with rfl | hk0;exact hk;have:=jD (me L) hy hk hk0;omega
theorem sG {L:List ag} (hL:∀ s∈L,aJ s) {h:Int→Bool} (hc:∀ a r,(∀ s∈L,bB s r=bB s a)→h r=h a):oZ (ez L) h where
  nD:=me L
  zero:=yU hL
  top:=fun x hx=>by rcases (jl L x).1 hx with rfl | ⟨_,h⟩ <;> omega
  const:=fun j a r hj h1 h2=>hc a r fun s hs=>xH h1 fun e he=>Bc hj r h1 h2 e (List.mem_flatMap.2 ⟨s,hs,he⟩)
def nx (op:Int) (a b:ag) (r:Int):Bool:=(decide (op=124) && (bB a r || bB b r)) || ((decide (op=38) && bB a r && bB b r) || (decide (op=45) && bB a r && !bB b r))
def nS (op:Int) (a b:ag):ag × Int :=
  if bD a≠0 then ([],bD a)else if op=94 then tK (ez [a]) (fun r=>!bB a r)
  else if bD b≠0 then ([],bD b)else tK (ez [a,b]) (nx op a b)
theorem mK {s:ag} (h:aJ s):bD s=0:=by
 unfold bD;rw [if_neg (by have:=h.size;omega)];have:∀ (s:ag) (prev:Option Int),Canon s→(∀ p,prev=some p→∀ x∈s,p+1<x.1)→gG prev s=0:=by
  intro s;induction s with
  | nil=>intro prev _ _;rfl
  | cons x s ih=>
   intro prev hc hp;obtain⟨a,b⟩:=x;have he:=hc.each (a,b) List.mem_cons_self;dsimp only at he;rw [gG,if_neg (by omega)];have ht:rG prev a=false:=by
    cases prev with
    | none=>rfl
    | some p=>have:=hp p rfl (a,b) List.mem_cons_self;simp [rG];omega
   rw [ht,if_neg (by decide)];exact ih _ hc.tail fun p Wx y hy=>by
    obtain rfl:=Option.some.inj Wx;exact hc.low y hy
 exact this s none h.canon (fun p hp=>by cases hp)
theorem SW {a s:ag} (ha:aJ a) (hs:Canon s) (hh:∀ r,0≤r→r≤1114111→bB s r = !bB a r) (b:ag):nS 94 a b=if 200<s.length then ([],5)else (s,0):=by
 unfold nS;rw [if_neg (by rw [mK ha];decide),if_pos rfl];exact Dz (sG (by simpa using ha) (fun x r h=>by rw [h a (by simp)])) hs hh
theorem MA {op:Int} {a b s:ag} (om:op≠94) (ha:aJ a) (hb:aJ b) (hs:Canon s) (hh:∀ r,0≤r→r≤1114111→bB s r=nx op a b r):nS op a b=if 200<s.length then ([],5)else (s,0):=by
 unfold nS;rw [if_neg (by rw [mK ha];decide),if_neg om,if_neg (by rw [mK hb];decide)];exact Dz (sG (by simpa using ⟨ha,hb⟩) (fun x r h=>by unfold nx;rw [h a (by simp),h b (by simp)])) hs hh
theorem uh (E:List Int) (h:Int→Bool) (hE:oZ E h):aJ (tK E h).1:=by
 unfold tK;by_cases hl:200<(dm E h E.length).length
 ·rw [if_pos hl];exact⟨Nat.zero_le _,by simp,List.Pairwise.nil⟩
 rw [if_neg hl];exact(zY hE).1.right (by omega)
theorem jS (op:Int) {a b:ag} (ha:aJ a) (hb:aJ b):aJ (nS op a b).1:=by
 unfold nS;rw [if_neg (by rw [mK ha];decide)];by_cases om:op=94
 ·rw [if_pos om];exact uh _ _ (sG (by simpa using ha) (fun x r h=>by rw [h a (by simp)]))
 rw [if_neg om,if_neg (by rw [mK hb];decide)];exact uh _ _ (sG (by simpa using ⟨ha,hb⟩) (fun x r h=>by unfold nx;rw [h a (by simp),h b (by simp)]))
def pk (L:List Int) (i:Nat):Int:=(L[i]?).getD (-1)
def qB (r:Int):Bool:=decide (r=32) || (decide (r=9) || decide (r=10))
def sF:List Int:=[91,93,38,45,94,92,58,36,40,41,123,125,60,62,124,59,35,39,34,61,44]
def dG (r:Int):Bool:=decide (0≤r) && (!qB r && !sF.contains r)
def fD (r:Int):Bool:=(decide (48≤r) && decide (r≤57)) || ((decide (97≤r) && decide (r≤102)) || (decide (65≤r) && decide (r≤70)))
def qO (r:Int):Int:=if r≤57 then r - 48 else if 97≤r then r - 87 else r - 55
def Gu (r:Int):Bool:=(decide (48≤r) && decide (r≤57)) || ((decide (97≤r) && decide (r≤122)) || (decide (65≤r) && decide (r≤90)))
def aF (p:Int→Bool) (L:List Int) (i:Nat):Nat:=i+((L.drop i).takeWhile p).length
def aW (L:List Int) (i:Nat):Nat:=aF qB L i
def aT (L:List Int) (i j:Nat):List Int:=(L.drop i).take (j - i)
abbrev kG (α:Type):=Except (Int × Nat) (α × Nat)
def bw (L:List Int) (i:Nat) (r:Int):Except (Int × Nat) Nat:=if pk L i=r then .ok (i+1)else .error (2,i)
def eJ (ds:List Int):Int:=ds.foldl (fun x d=>16*x+qO d) 0
def kR (L:List Int) (i:Nat):kG Int :=
  match bw L (i+1) 123 with
  | .error e=>.error e
  | .ok a=>
    if aF fD L a - a<1∨6<aF fD L a - a then .error (2,a)
    else match bw L (aF fD L a) 125 with
      | .error e=>.error e
      | .ok j=>if 1114111<eJ (aT L a (aF fD L a))then .error (3,i)else .ok (eJ (aT L a (aF fD L a)),j)
def dz (L:List Int) (i:Nat):kG Int :=
  if dG (pk L i)=true then .ok (pk L i,i+1)
  else if pk L i≠92 then .error (2,i)
  else if pk L (i+1)=110 then .ok (10,i+2)
  else if pk L (i+1)=116 then .ok (9,i+2)
  else if pk L (i+1)=117 then kR L (i+1)
  else if pk L (i+1)<0∨Gu (pk L (i+1))=true then .error (2,i+1)
  else .ok (pk L (i+1),i+2)
def jP (L:List Int) (i:Nat):kG (Int × Int) :=
  match dz L i with
  | .error e=>.error e
  | .ok (low,j)=>
    if pk L j=45∧pk L (j+1)≠91 then
      match dz L (j+1)with
      | .error e=>.error e
      | .ok (high,k)=>if high<low then .error (3,j+1)else .ok ((low,high),k)
    else .ok ((low,low),j)
def iy (n:List Int):Option ag :=
  if n = [100,105,103,105,116]then some [(48,57)]
  else if n = [108,111,119,101,114]then some [(97,122),(223,246),(248,255)]
  else if n = [117,112,112,101,114]then some [(65,90),(192,214),(216,222)]
  else if n = [108,101,116,116,101,114]then some [(65,90),(97,122),(192,214),(216,246),(248,255)]
  else if n = [118,111,119,101,108]then some [(65,65),(69,69),(73,73),(79,79),(85,85),(97,97),(101,101),(105,105),(111,111),(117,117)]
  else if n = [103,114,101,101,107]then some [(880,1023)]
  else if n = [99,121,114,105,108,108,105,99]then some [(1024,1279)]
  else if n = [115,112,97,99,101]then some [(9,10),(32,32)]
  else if n = [97,110,121]then some [(0,1114111)]
  else none
def fy (L:List Int) (i:Nat):kG ag :=
  match iy (aT L (i+2) (aF dG L (i+2)))with
  | none=>.error (7,i+2)
  | some s=>
    match bw L (aF dG L (i+2)) 58 with
    | .error e=>.error e
    | .ok j=>match bw L j 93 with
      | .error e=>.error e
      | .ok k=>.ok (s,k)
def uS (r:Int):Int:=if r=38∨r=45 then r else 124
def dJ (inner:Nat→kG ag) (L:List Int) (i:Nat):kG ag :=
  if pk L i=91∧pk L (i+1)=58 then fy L i
  else if pk L i=91 then inner i
  else if pk L i=38∨pk L i=45 then inner (aW L (i+1))
  else match jP L i with
    | .error e=>.error e
    | .ok (x,j)=>.ok ([x],j)
def ew (inner:Nat→kG ag) (L:List Int):Nat→Nat→ag→kG ag
  | 0,i,_=>.error (2,i)
  | f+1,i,cur=>
    if pk L (aW L i)=93 then .ok (cur,aW L i+1)
    else match dJ inner L (aW L i)with
      | .error e=>.error e
      | .ok (s,j)=>
        if (nS (uS (pk L (aW L i))) cur s).2≠0 then .error ((nS (uS (pk L (aW L i))) cur s).2,j)
        else ew inner L f j (nS (uS (pk L (aW L i))) cur s).1
def bT (L:List Int):Nat→Nat→kG ag
  | 0,i=>.error (if pk L i=91 then 4 else 2,i)
  | n+1,i=>
    match bw L i 91 with
    | .error e=>.error e
    | .ok j=>
      match ew (bT L n) L (L.length+1) (if pk L j=94 then j+1 else j) []with
      | .error e=>.error e
      | .ok (cur,k)=>
        if pk L j=94 then (if (nS 94 cur []).2≠0 then .error ((nS 94 cur []).2,k)else .ok ((nS 94 cur []).1,k))
        else .ok (cur,k)
theorem bO {L:List Int} {i:Nat} (h:pk L i ≠ -1):i<L.length:=by
 unfold pk at h;rcases Nat.lt_or_ge i L.length with hl | hl;exact hl;rw [List.getElem?_eq_none hl]at h;exact absurd rfl h
theorem Ib {L:List Int} {i:Nat} {r:Int} (h:L[i]? = some r):pk L i=r:=by unfold pk;rw [h];rfl
theorem qS {L:List Int} {i:Nat} (h:L.length≤i):pk L i = -1:=by unfold pk;rw [List.getElem?_eq_none h];rfl
theorem ey {p:Int→Bool} {L:List Int} {i:Nat} (h:i<L.length) (hp:p (pk L i)=true):aF p L i=aF p L (i+1):=by
 unfold aF;rw [List.drop_eq_getElem_cons h,List.takeWhile_cons];have:pk L i=L[i]:=Ib (List.getElem?_eq_getElem h);rw [this]at hp;rw [hp];simp;omega
theorem di {p:Int→Bool} {L:List Int} {i:Nat} (h:i<L.length→p (pk L i)=false):aF p L i=i:=by
 unfold aF;rcases Nat.lt_or_ge i L.length with hl | hl
 ·rw [List.drop_eq_getElem_cons hl,List.takeWhile_cons];have:pk L i=L[i]:=Ib (List.getElem?_eq_getElem hl);have h2:=h hl;rw [this]at h2;rw [h2];simp
 rw [List.drop_of_length_le hl];simp
theorem iU {p:Int→Bool} {L:List Int} {i:Nat} (h:i≤L.length):i≤aF p L i∧aF p L i≤L.length:=by
 unfold aF;have:=(List.takeWhile_sublist p (l:=L.drop i)).length_le;rw [List.length_drop]at this;omega
theorem gE {L:List Int} {i j:Nat} {r:Int} (h:bw L i r=.ok j):j=i+1∧pk L i=r:=by
 unfold bw at h;split at h
 ·rename_i hp;injection h with h;exact⟨h.symm,hp⟩
 cases h
theorem Nc {L:List Int} {i:Nat} {r:Int} (h:pk L i=r):bw L i r=.ok (i+1):=by unfold bw;rw [if_pos h]
theorem zu {L:List Int} {i:Nat} {r:Int} (h:pk L i≠r):bw L i r=.error (2,i):=by unfold bw;rw [if_neg h]
theorem fm (p:Int→Bool) (L:List Int) (i:Nat):i≤aF p L i:=by unfold aF;omega
theorem eG (L:List Int) (i:Nat):i≤aW L i:=fm _ _ _
def dF (L:List Int):Prop:=∀ x∈L,0≤x∧x≤1114111
theorem wC {L:List Int} (h:dF L) (i:Nat):pk L i = -1∨(0≤pk L i∧pk L i≤1114111):=by
 unfold pk;cases hi:L[i]? with
 | none=>exact .inl rfl
 | some x=>exact .inr (h x (List.mem_of_getElem? hi))
theorem Kc {L:List Int} (h:dF L) {i:Nat} (h0:pk L i ≠ -1):0≤pk L i∧pk L i≤1114111:=by
 rcases wC h i with h1 | h1;exact absurd h1 h0;exact h1
theorem wR {d:Int} (h:fD d=true):0≤qO d∧qO d≤15:=by
 unfold fD at h;unfold qO;simp only [Bool.or_eq_true,Bool.and_eq_true,decide_eq_true_eq]at h;split;omega;split <;> omega
theorem qd (ds:List Int):∀ x:Int,0≤x→(∀ d∈ds,fD d=true)→0≤ds.foldl (fun x d=>16*x+qO d) x∧ds.foldl (fun x d=>16*x+qO d) x<(x+1)*16 ^ ds.length:=by
 induction ds with
 | nil=>intro x h _;simp;omega
 | cons d ds ih=>
  intro x hx hd;have h1:=wR (hd d List.mem_cons_self);obtain⟨i1,i2⟩:=ih (16*x+qO d) (by omega) (fun y hy=>hd y (List.mem_cons_of_mem _ hy));rw [List.foldl_cons,List.length_cons];refine⟨i1,Int.lt_of_lt_of_le i2 ?_⟩;have e:(16:Int) ^ (ds.length+1)=16*16 ^ ds.length:=(by rw [Int.pow_succ,Int.mul_comm]);rw [e,← Int.mul_assoc];exact Int.mul_le_mul_of_nonneg_right (by omega) (Int.pow_nonneg (by decide))
theorem qb {p:Int→Bool} (l:List Int):∀ x∈l.takeWhile p,p x=true:=by
 induction l with
 | nil=>simp
 | cons a l ih=>
  intro x hx;rw [List.takeWhile_cons]at hx;split at hx
  ·rcases List.mem_cons.1 hx with rfl | hx;assumption;exact ih x hx
  simp at hx
theorem wo (p:Int→Bool) (L:List Int) (i:Nat):aT L i (aF p L i)=(L.drop i).takeWhile p:=by
 unfold aT aF;rw [Nat.add_sub_cancel_left];have h:=(List.takeWhile_prefix p (l:=L.drop i));exact(List.prefix_iff_eq_take.1 h).symm
theorem Bs (L:List Int) (i:Nat) (h:aF fD L i - i≤6):0≤eJ (aT L i (aF fD L i))∧eJ (aT L i (aF fD L i))<16777216:=by
 rw [wo];obtain⟨h1,h2⟩:=qd ((L.drop i).takeWhile fD) 0 (Int.le_refl _) (qb _);refine⟨h1,Int.lt_of_lt_of_le h2 ?_⟩;have hl:((L.drop i).takeWhile fD).length≤6:=(by unfold aF at h;omega);generalize ((L.drop i).takeWhile fD).length=k at hl;have:k=0∨k=1∨k=2∨k=3∨k=4∨k=5∨k=6:=(by omega);rcases this with rfl | rfl | rfl | rfl | rfl | rfl | rfl <;> decide
theorem Qn {L:List Int} {i j:Nat} {x:Int} (h:kR L i=.ok (x,j)):i<j∧0≤x∧x≤1114111:=by
 unfold kR at h;cases h1:bw L (i+1) 123 with
 | error e=>rw [h1]at h;cases h
 | ok a=>
  rw [h1]at h;simp only at h;split at h
  ·cases h
  rename_i hn;rw [not_or]at hn;have ha:=(gE h1).1;cases h2:bw L (aF fD L a) 125 with
  | error e=>rw [h2]at h;cases h
  | ok b=>
   rw [h2]at h;simp only at h;have hb:=(gE h2).1;have:=fm fD L a;have hr:=Bs L a (by omega);split at h
   ·cases h
   injection h with h;injection h with h3 h4;omega
theorem oG {L:List Int} (hL:dF L) {i j:Nat} {x:Int} (h:dz L i=.ok (x,j)):i<j∧0≤x∧x≤1114111:=by
 unfold dz at h;split at h
 ·rename_i hp;injection h with h;injection h with h1 h2;have:pk L i ≠ -1:=fun e=>(by rw [e]at hp;exact absurd hp (by decide));have:=Kc hL this;omega
 split at h
 ·cases h
 split at h
 ·injection h with h;injection h with h1 h2;omega
 split at h
 ·injection h with h;injection h with h1 h2;omega
 split at h
 ·have:=Qn h;omega
 split at h
 ·cases h
 rename_i hn;rw [not_or]at hn;injection h with h;injection h with h1 h2;have:=wC hL (i+1);omega
theorem Ml {L:List Int} (hL:dF L) {i j:Nat} {x:Int × Int} (h:jP L i=.ok (x,j)):i<j∧0≤x.1∧x.1≤x.2∧x.2≤1114111:=by
 unfold jP at h;cases h1:dz L i with
 | error e=>rw [h1]at h;cases h
 | ok p=>
  obtain⟨low,a⟩:=p;rw [h1]at h;have ha:=oG hL h1;simp only at h;split at h
  ·cases h2:dz L (a+1)with
   | error e=>rw [h2]at h;cases h
   | ok q=>
    obtain⟨high,b⟩:=q;rw [h2]at h;have hb:=oG hL h2;simp only at h;split at h
    ·cases h
    injection h with h;injection h with h3 h4;subst h3;simp only;omega
  injection h with h;injection h with h3 h4;subst h3;simp only;omega
theorem JP {x:Int × Int} (h:0≤x.1∧x.1≤x.2∧x.2≤1114111):aJ [x]:=⟨by simp,by simpa using h,List.pairwise_singleton _ _⟩
theorem oX:aJ []:=⟨Nat.zero_le _,by simp,List.Pairwise.nil⟩
theorem CD {n:List Int} {s:ag} (h:iy n=some s):aJ s:=by
 have key:∀ s:ag,bD s=0→aJ s:=fun _=>oU;unfold iy at h;(repeat' (split at h));(all_goals first | (injection h with h;subst h;exact key _ (by decide)) | cases h)
theorem JG {L:List Int} {i j:Nat} {s:ag} (h:fy L i=.ok (s,j)):i<j∧aJ s:=by
 unfold fy at h;cases h0:iy (aT L (i+2) (aF dG L (i+2)))with
 | none=>rw [h0]at h;cases h
 | some t=>
  rw [h0]at h;simp only at h;cases h1:bw L (aF dG L (i+2)) 58 with
  | error e=>rw [h1]at h;cases h
  | ok a=>
   rw [h1]at h;simp only at h;cases h2:bw L a 93 with
   | error e=>rw [h2]at h;cases h
   | ok b=>
    rw [h2]at h;simp only at h;injection h with h;injection h with h3 h4;subst h3;have:=fm dG L (i+2);have:=(gE h1).1;have:=(gE h2).1;exact⟨by omega,CD h0⟩
def AW (inner:Nat→kG ag):Prop:=∀ i s j,inner i=.ok (s,j)→i<j∧aJ s
theorem C1 {inner:Nat→kG ag} (hi:AW inner) {L:List Int} (hL:dF L) {i j:Nat} {s:ag} (h:dJ inner L i=.ok (s,j)):i<j∧aJ s:=by
 unfold dJ at h;split at h;exact JG h;split at h;exact hi _ _ _ h;split at h
 ·have:=hi _ _ _ h;have h2:=eG L (i+1);exact⟨by omega,this.2⟩
 cases h1:jP L i with
 | error e=>rw [h1]at h;cases h
 | ok p=>
  obtain⟨x,a⟩:=p;rw [h1]at h;simp only at h;injection h with h;injection h with h3 h4;subst h3;have:=Ml hL h1;exact⟨by omega,JP this.2⟩
theorem JV {inner:Nat→kG ag} (hi:AW inner) {L:List Int} (hL:dF L):∀ (f i j:Nat) (cur s:ag),aJ cur→ew inner L f i cur=.ok (s,j)→i<j∧aJ s:=by
 intro f;induction f with
 | zero=>intro i j cur s _ h;unfold ew at h;cases h
 | succ f ih=>
  intro i j cur s hc h;rw [ew]at h;have h0:=eG L i;split at h
  ·injection h with h;injection h with h3 h4;subst h3;exact⟨by omega,hc⟩
  cases h1:dJ inner L (aW L i)with
  | error e=>rw [h1]at h;cases h
  | ok p=>
   obtain⟨t,a⟩:=p;rw [h1]at h;simp only at h;have hp:=C1 hi hL h1;split at h
   ·cases h
   have:=ih _ _ _ _ (jS _ hc hp.2) h;exact⟨by omega,this.2⟩
theorem oK {L:List Int} (hL:dF L):∀ n,AW (bT L n):=by
 intro n;induction n with
 | zero=>intro i s j h;unfold bT at h;cases h
 | succ n ih=>
  intro i s j h;rw [bT]at h;cases h1:bw L i 91 with
  | error e=>rw [h1]at h;cases h
  | ok a=>
   rw [h1]at h;simp only at h;have ha:=(gE h1).1;cases h2:ew (bT L n) L (L.length+1) (if pk L a=94 then a+1 else a) []with
   | error e=>rw [h2]at h;cases h
   | ok p=>
    obtain⟨cur,k⟩:=p;rw [h2]at h;simp only at h;obtain⟨g1,g2⟩:=JV ih hL _ _ _ _ _ oX h2;have hk:i<k:=(by split at g1 <;> omega);split at h
    ·split at h
     ·cases h
     injection h with h;injection h with h3 h4;subst h3 h4;exact⟨hk,jS _ g2 oX⟩
    injection h with h;injection h with h3 h4;subst h3 h4;exact⟨hk,g2⟩
theorem E2 {inner:Nat→kG ag} {L:List Int} {f i:Nat} {cur:ag} (h:pk L (aW L i)=93):ew inner L (f+1) i cur=.ok (cur,aW L i+1):=by rw [ew,if_pos h]
theorem lB {inner:Nat→kG ag} {L:List Int} {f i:Nat} {cur:ag} {e:Int × Nat} (h:pk L (aW L i)≠93) (he:dJ inner L (aW L i)=.error e):ew inner L (f+1) i cur=.error e:=by rw [ew,if_neg h,he]
theorem jT {inner:Nat→kG ag} {L:List Int} {f i j:Nat} {cur s:ag} (h:pk L (aW L i)≠93) (he:dJ inner L (aW L i)=.ok (s,j)) :
    ew inner L (f+1) i cur=if (nS (uS (pk L (aW L i))) cur s).2≠0 then .error ((nS (uS (pk L (aW L i))) cur s).2,j)else ew inner L f j (nS (uS (pk L (aW L i))) cur s).1:=by rw [ew,if_neg h,he]
def dQ (l:List Int):Prop:=∀ x∈l,0≤x∧x<128
def od (l:List Int):List UInt8:=l.map fun x=>UInt8.ofNat x.toNat
theorem GO {r:Int} (h0:0≤r) (h1:r<128):(Utf8.encode r).data.toList = [UInt8.ofNat r.toNat]:=by
 have hv:Utf8.valid r=true:=(by simp [Utf8.valid];omega);unfold Utf8.encode;simp only [hv,if_true];rw [if_pos (by omega)]
theorem CO {r:Int} (h:¬(0≤r∧r<128)):∃ b∈(Utf8.encode r).data.toList,128≤b.toNat:=by
 cases hv:Utf8.valid r
 ·have:Utf8.encode r=Utf8.encode 65533:=by
   unfold Utf8.encode;simp only [hv,show Utf8.valid 65533=true from by decide];rfl
  rw [this];exact⟨239,by decide,by decide⟩
 have h128:128≤r:=by
  simp [Utf8.valid]at hv;omega
 obtain⟨h1,_,h3⟩:=encode_facts r hv h128;exact⟨_,Array.getElem_mem_toList (xs:=(Utf8.encode r).data) (by simpa using (show(Utf8.encode r).size - 1<(Utf8.encode r).size by omega)),h3 (by omega)⟩
theorem zl (l:List Int):∀ s:ByteArray,(l.foldl (fun r n=>r++Utf8.encode n) s).data.toList=s.data.toList++l.flatMap fun r=>(Utf8.encode r).data.toList:=by
 induction l with
 | nil=>intro s;simp
 | cons x l ih=>intro s;rw [List.foldl_cons,ih,List.flatMap_cons];simp
theorem nN (l:List Int):(runesBytes l).data.toList=l.flatMap fun r=>(Utf8.encode r).data.toList:=by
 rw [runesBytes,zl];rfl
theorem fI {l:List Int} (h:dQ l):(runesBytes l).data.toList=od l:=by
 rw [nN];induction l with
 | nil=>rfl
 | cons x l ih=>
  have hx:=h x List.mem_cons_self;rw [List.flatMap_cons,GO hx.1 hx.2,ih (fun y hy=>h y (List.mem_cons_of_mem _ hy))];rfl
theorem MN:∀ {a b:List Int},dQ a→dQ b→od a=od b→a=b:=by
 intro a;induction a with
 | nil=>intro b _ _ h;cases b with
   | nil=>rfl
   | cons y b=>cases h
 | cons x a ih=>
  intro b ha hb h;cases b with
  | nil=>cases h
  | cons y b=>
   unfold od at h;rw [List.map_cons,List.map_cons]at h;injection h with h1 h2;have hx:=ha x List.mem_cons_self;have hy:=hb y List.mem_cons_self;have h3:=congrArg UInt8.toNat h1;simp at h3;obtain rfl:x=y:=(by omega);rw [ih (fun z hz=>ha z (List.mem_cons_of_mem _ hz)) (fun z hz=>hb z (List.mem_cons_of_mem _ hz)) h2]
theorem yN {l m:List Int} (hm:dQ m) (h:runesBytes l=runesBytes m):l=m:=by
 have e:(runesBytes l).data.toList=od m:=(by rw [h,fI hm]);have hl:dQ l:=by
  intro x hx;by_cases h1:0≤x∧x<128;exact h1;exfalso;obtain⟨b,hb,h2⟩:=CO h1;have:b∈od m:=(by rw [← e,nN];exact List.mem_flatMap.2 ⟨x,hx,hb⟩);unfold od at this;obtain⟨y,hy,rfl⟩:=List.mem_map.1 this;have:=hm y hy;simp at h2;omega
 rw [fI hl]at e;exact MN hl hm e
theorem uI {l:List Int} (h:dQ l):(runesBytes l).size=l.length:=by
 have h2:=congrArg List.length (fI h);rw [od,List.length_map,Array.length_toList]at h2;exact h2
theorem oJ {l:List Int} (h:∀ d∈l,fD d=true):dQ l:=by
 intro d hd;have:=h d hd;unfold fD at this;simp only [Bool.or_eq_true,Bool.and_eq_true,decide_eq_true_eq]at this;omega
theorem Ez (l:List Int) (d:Int):eJ (l++[d])=16*eJ l+qO d:=by unfold eJ;rw [List.foldl_append];rfl
theorem nL {l:List Int} (h:∀ d∈l,fD d=true) (hl:l.length≤6):0≤eJ l∧eJ l<16777216:=by
 obtain⟨h1,h2⟩:=qd l 0 (Int.le_refl _) h;refine⟨h1,Int.lt_of_lt_of_le h2 ?_⟩;generalize l.length=k at hl;have:k=0∨k=1∨k=2∨k=3∨k=4∨k=5∨k=6:=(by omega);rcases this with rfl | rfl | rfl | rfl | rfl | rfl | rfl <;> decide
theorem Jw (c:Int) (w:World) (h:(65≤c∧c≤70)∨(97≤c∧c≤102)) :
    Calls Tryz.prog 203 #[.int .u8 c] w fun e w'=>e=.returned (.int .u8 (qO c+87))∧w'=w:=by
 have hc:c=65∨c=66∨c=67∨c=68∨c=69∨c=70∨c=97∨c=98∨c=99∨c=100∨c=101∨c=102:=(by omega);clear h;rcases hc with rfl | rfl | rfl | rfl | rfl | rfl | rfl | rfl | rfl | rfl | rfl | rfl
 all_goals
   go_enter Tryz.func203,Tryz.ntmps203
   go_wp2_with fail
   go_ret
   exact⟨rfl,rfl⟩
def Wv (W:World) (ds:List Int) (u n i:Value) (wr:World):Prop:=u=.bool false∧∃ j:Nat,j≤ds.length∧i=.int .i64 j∧n=.int .u64 (eJ (ds.take j))∧wr=W
theorem GU (s:ByteArray) (ds:List Int) (w:World) (hs:s.data.toList=od ds) (hd:∀ d∈ds,fD d=true) (h1:1≤ds.length) (h6:ds.length≤6) :
    Calls Tryz.prog 193 #[.string s,.int .i64 16,.int .i64 64] w fun e w'=>e=.returned (.tuple #[.int .u64 (eJ ds),.nilIface])∧Below w.heap.size w w':=by
 have hsz:s.size=ds.length:=(by have h2:=congrArg List.length hs;rw [od,List.length_map,Array.length_toList]at h2;exact h2);have sP:=Lib.run_convert_string_bytes (P:=Tryz.prog) w 9 108 5 s Tryz.underlying9 Tryz.underlying108 Tryz.underlying5;have hcell:∀ j d,ds[j]? = some d→(Lib.bytesWorld w 5 s).cell? ⟨w.heap.size,j,none⟩=some (.int .u8 d):=fun j d h=>by
  have hj:j<s.size:=(by rw [hsz];exact(List.getElem?_eq_some_iff.1 h).1);have:=Lib.bytesWorld_cell w 5 s j hj;rw [this,hs];have hb:=oJ hd d (List.mem_of_getElem? h);have:(od ds).getD j 0=UInt8.ofNat d.toNat:=(by simp [od,List.getD_eq_getElem?_getD,h]);rw [this];congr 2;simp;omega
 have hB:Below w.heap.size w (Lib.bytesWorld w 5 s):=Lib.below_freeze ((qqb.drew).alloc qql _) (p:=⟨w.heap.size,_,none⟩) qql _;have hne:(s.toList == [])=false:=by
  rw [beq_eq_false_iff_ne,Lib.toList_data];intro e;have:=congrArg List.length e;rw [Array.length_toList]at this;have h2:s.size=0:=this;omega
 rw [hsz]at sP;generalize Lib.bytesWorld w 5 s=W at *;generalize hk:ds.length=k at *;generalize Go.grownCap w k 0 5 = C at *;have HC:=qqh hcell;have HD:=qqh hd;clear hcell hd hs;go_enter Tryz.func193,Tryz.ntmps193;have T2:IntKind.u64.wrap (IntKind.u64.wrap 18446744073709551616 - 1)=18446744073709551615:=(by decide);go_wp2_with fail;go_loopw [12,13,101] (Wv W ds) (fun _ _ i _=>k - (intOf i).toNat);(case atStart=>exact⟨rfl,0,Nat.zero_le _,rfl,rfl,rfl⟩);obtain⟨rfl,j,hj,rfl,rfl,rfl⟩:=hrel;rw [hk]at hj;by_cases hlt:j<k
 ·obtain⟨d,Y5⟩:∃ z,ds[j]? = some z:=⟨_,List.getElem?_eq_getElem (by omega)⟩;have hh:=HD.out d (List.mem_of_getElem? Y5);have d0:=HC.out j d Y5;obtain⟨x0,x1⟩:=nL (l:=ds.take j) (fun y hy=>HD.out y (List.mem_of_mem_take hy)) (by rw [List.length_take];omega);have HS:=qqh (show eJ (ds.take (j+1))=16*eJ (ds.take j)+qO d by rw [List.take_add_one,Y5];exact Ez _ _);have hv:=wR hh;have hr:(48≤d∧d≤57)∨(97≤d∧d≤102)∨(65≤d∧d≤70):=by
   unfold fD at hh;simpa only [Bool.or_eq_true,Bool.and_eq_true,decide_eq_true_eq] using hh
  generalize eJ (ds.take j)=X at *;clear Y5 hh;have acf:(48≤d∧d≤57∧qO d=d - 48)∨(¬ d≤57∧65≤d∧d≤102∧((65≤d∧d≤70)∨(97≤d∧d≤102))):=by
   unfold qO;rcases hr with h | h | h
   ·left;rw [if_pos h.2];omega
   ·right;omega
   right;omega
  rcases acf with ⟨q1,q2,q3⟩ | ⟨q1,q2,q3,q4⟩
  ·have HV:=qqh q3;clear hr q3;have tY:decide (48≤d)=true:=decide_eq_true q1;have pW:decide (d≤57)=true:=decide_eq_true q2;go_wp2_with fail;exact⟨⟨rfl,j+1,by omega,by go_num,by rw [HS.out,HV.out];congr 1;omega,rfl⟩,by simp [intOf];omega⟩
  have HL:=qqh (fun(W:World)=>Jw d W (by omega));have pW:decide (d≤57)=false:=decide_eq_false q1;have tY:decide (48≤d)=true:=decide_eq_true (by omega);have ag0:10≤qO d:=(by unfold qO;rw [if_neg q1];split <;> omega);have h95:(d == 95)=false:=(by simp;omega);generalize qO d=v at *;clear hr q4;go_wp2_with (go_at_call 203;refine(HL.out _).mono ?_;rintro e w1 ⟨rfl,rfl⟩);exact⟨⟨rfl,j+1,by omega,by go_num,by rw [HS.out];congr 1;omega,rfl⟩,by simp [intOf];omega⟩
 obtain rfl:j=k:=(by omega);rw [List.take_of_length_le (by omega)];go_wp2_with fail;go_ret2;exact⟨rfl,hB⟩
theorem BZ (s:ByteArray) (ds:List Int) (w:World) (hs:s.data.toList=od ds) (hd:∀ d∈ds,fD d=true) (h1:1≤ds.length) (h6:ds.length≤6) :
    Calls Tryz.prog 175 #[.string s,.int .i64 16,.int .i64 64] w fun e w'=>e=.returned (.tuple #[.int .i64 (eJ ds),.nilIface])∧Below w.heap.size w w':=by
 have HU:=qqh (GU s ds w hs hd h1 h6);have hsz:s.size=ds.length:=(by have h2:=congrArg List.length hs;rw [od,List.length_map,Array.length_toList]at h2;exact h2);have hne:(s.toList == [])=false:=by
  rw [beq_eq_false_iff_ne,Lib.toList_data];intro e;have:=congrArg List.length e;rw [Array.length_toList]at this;have h2:s.size=0:=this;omega
 obtain⟨d,R5⟩:∃ z,ds[0]? = some z:=⟨_,List.getElem?_eq_getElem (by omega)⟩;have hh:=hd d (List.mem_of_getElem? R5);have hr:(48≤d∧d≤57)∨(97≤d∧d≤102)∨(65≤d∧d≤70):=by
  unfold fD at hh;simpa only [Bool.or_eq_true,Bool.and_eq_true,decide_eq_true_eq] using hh
 have Ym:∀ W:World,(Instr.index 9 (.string s) (.int .i64 0)).run Tryz.prog W=.ok (.int .u8 d) W:=fun W=>by
  rw [run_index_string W _ s _ _ Tryz.underlying9,dif_pos ⟨by omega,by omega⟩];have e:s.data.toList[0]? = some (UInt8.ofNat d.toNat):=(by rw [hs];simp [od,R5]);have h3:s.data.toList[0]? = some (s[(0:Nat)]'(by omega)):=by
   rw [List.getElem?_eq_getElem (by rw [Array.length_toList];show 0<s.size;omega)];rfl
  rw [h3]at e;injection e with e;simp only [Int.toNat_zero];rw [e];congr 2;simp;omega
 have h43:(d == 43)=false:=(by simp;omega);have S6:(d == 45)=false:=(by simp;omega);obtain⟨x0,x1⟩:=nL hd h6;have T2:IntKind.u64.wrap 9223372036854775808=9223372036854775808:=(by decide);generalize eJ ds=X at *;clear hs hd R5 hh hr;go_enter Tryz.func175,Tryz.ntmps175;go_wp2_with fail;refine HU.out.mono ?_;rintro e w1 ⟨rfl,hb⟩;have HB:=qqh hb;clear hb;go_wp2_with fail;go_ret2;exact⟨rfl,HB.out⟩
theorem IW (s:ByteArray) (ds:List Int) (w:World) (hs:s.data.toList=od ds) (hd:∀ d∈ds,fD d=true) (h1:1≤ds.length) (h6:ds.length≤6) :
    Calls Tryz.prog 156 #[.string s,.int .i64 16,.int .i64 64] w fun e w'=>e=.returned (.tuple #[.int .i64 (eJ ds),.nilIface])∧Below w.heap.size w w':=by
 have HI:=qqh (BZ s ds w hs hd h1 h6);generalize eJ ds=X at *;clear hs hd;go_enter Tryz.func156,Tryz.ntmps156;go_wp2_with fail;refine HI.out.mono ?_;rintro e w1 ⟨rfl,hb⟩;have HB:=qqh hb;clear hb;go_wp2_with fail;go_ret2;exact⟨rfl,HB.out⟩
end Go.Proofs.YtamkjeipdjbemaaGreatDoor
