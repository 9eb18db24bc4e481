/- ClassSpan + SameScript + ReadyP + ReadySt + Close + Fail + Reverse + Ready + ReadyArm -/
import Derived.Test.YtblinekbpcdbfaaGreatDoorZv12
import Derived.Test.YtblinekbpcdbfaaGreatDoorZv2
import Derived.Deep.DeepCutAuto
import Derived.Test.YtblinekbpcdbfaaGreatDoorZv15
import Derived.Test.YtblinekbpcdbfaaGreatDoorRows
import Derived.Test.YtblinekbpcdbfaaGreatDoorZv4
import Derived.Deep.QuietTactic
import Derived.BigQuiet
import Derived.Test.YtblinekbpcdbfaaGreatDoorZv9
import Derived.Deep.RegionHeldLaw
import Derived.BigRegion
import Derived.Laws.OwnMore
import Derived.Test.YtblinekbpcdbfaaGreatDoorZv13
set_option maxHeartbeats 3200000
set_option maxRecDepth 100000
namespace Go.Proofs.YtblinekbpcdbfaaGreatDoor
open Go.RowKit
def Sy (w:World) (s:aa) (out i:Value) (wr:World):Prop :=
  ∃ j:Nat,j≤s.length∧i=.int .i64 ((2*j:Nat):Int)∧wr.ownsRow w.heap.size 134 2 out j (an (s.take j))∧Below w.heap.size w wr
theorem Gu (b off c:Nat) (s:aa) (N:Nat) (w:World) (hN:N=2*s.length) (hn:N≤1000) (hb:b<w.heap.size) (hr:∀ j u,(an s)[j]? = some u→w.cell? ⟨b,off+j,none⟩=some u) :
    Calls Tryz.prog 125 #[.slice (some ⟨b,off,none⟩) N c] w (dn w s 1000):=by
 obtain⟨i0,hi,y0,y1,y2⟩:=info_parts jk;have HR:=qqh hr;have XW:=qqh hN;clear hr hN;go_enter Tryz.func125,Tryz.ntmps125;go_wp2_with fail;go_loopw [3,4] (Sy w s) (fun _ i _=>N - (intOf i).toNat);(case atStart=>exact⟨0,Nat.zero_le _,rfl,World.ownsRow_nil _ _ _ _,qqb⟩);obtain⟨j,hj,rfl,hown,fq⟩:=hrel;have hz:=fq.size;obtain⟨Av,cv,rfl,sZ⟩:=aJ hown;by_cases hlt:j<s.length
 ·have agq:2*j+1<N:=(by have:=XW.out;omega);have aan:j+1≤1000:=(by have:=XW.out;omega);obtain⟨⟨x,y⟩,hx⟩:∃ z,s[j]? = some z:=⟨_,List.getElem?_eq_getElem hlt⟩;obtain⟨q0,q1⟩:=j9 s j x y hx;rw [Nat.mul_comm j 2]at q0 q1;have d0:=(fq.cell (p:=⟨b,off+2*j,none⟩) hb).trans (HR.out _ _ q0);have d1:=(fq.cell (p:=⟨b,off+(2*j+1),none⟩) hb).trans (HR.out _ _ q1);have HT:=qqh (show s.take (j+1)=s.take j++[(x,y)] by rw [List.take_add_one,hx];rfl);have sJ:=qqh (World.ownsRow.alloc hown (.cells #[.int .i32 x,.int .i32 y] 134));have bJ:=qqh (fq.alloc hz (.cells #[.int .i32 x,.int .i32 y] 134));have HN:=qqh (Rd.new wr 134 2 1 [.int .i32 x,.int .i32 y] rfl);generalize hm:2*j=m at *;have HM:=qqh hm;clear hx q0 q1 hown fq hm;have hg:decide ((m:Int)<(N:Int))=true:=decide_eq_true (by omega);have hw1:IntKind.i64.wrap ((m:Int)+1)=((m+1:Nat):Int):=(by rw [wrap_small _ (by omega) (by omega)];omega);have k0:(0:Int)≤(m:Int):=(by omega);have k1:(m:Int)<(N:Int):=(by omega);have k2:(0:Int)≤(m:Int)+1:=(by omega);have k3:(m:Int)+1<(N:Int):=(by omega);go_upto_region 5 with fail;refine ay (S:=(fun w'=>w'.cell? ⟨b,off+m,none⟩=some (.int .i32 x)∧w'.cell? ⟨b,off+(m+1),none⟩=some (.int .i32 y))) [4,9] (by kernel_rfl) ⟨d0,d1⟩ (fun aU=>?_);refine tq 0 11 ?_;(try simp only [zp,za,z0,zs]);refine tq 1 12 ?_;(try simp only [zp,za,z0,zs]);refine tq 2 13 ?_;(try simp only [zp,za,z0,zs]);refine tq 3 14 ?_;(try simp only [zp,za,z0,zs]);refine tu 4 15 ?_;(try simp only [zp,za,z0,zs]);refine tq 5 16 ?_;(try simp only [zp,za,z0,zs]);refine tq 6 17 ?_;(try simp only [zp,za,z0,zs]);refine tq 7 18 ?_;(try simp only [zp,za,z0,zs]);refine tq 8 19 ?_;(try simp only [zp,za,z0,zs])
  refine tu 9 20 ?_;(try simp only [zp,za,z0,zs]);refine tq 10 21 ?_;(try simp only [zp,za,z0,zs]);refine aC (i:=11) (o:=⟨some 22,_,_,_,_,_⟩) (by kernel_rfl) rfl (by kernel_rfl) (fun K hK=>?_);go_simp;(try dsimp only);refine hK.out _ _ ?_;clear hK K;(try simp only [zp,za,z0,zs]);refine aC (i:=12) (o:=⟨some 23,_,_,_,_,_⟩) (by kernel_rfl) rfl (by kernel_rfl) (fun K hK=>?_);refine bD _ rfl (.tmp 11) (.tmp 22) 22 rfl w.heap.size 134 i0 _ 2 8 Tryz.underlying22 hi y0 y1 y2 rfl (by decide) _ _ _ rfl sJ.out (wr.heap.size+1) (some ⟨wr.heap.size,0,none⟩) 1 1 [.int .i32 x,.int .i32 y] rfl HN.out (lZ _ _) (by simp only [maxLen];omega) (by omega) bJ.out.size ?_;intro v' w9 ak;(try dsimp only);refine hK.out _ _ ?_;clear hK K;have eF:=qqh ((aE bJ.out).trans (ak.below (aE bJ.out).size sJ.out));have ir:=qqh (show w9.ownsRow w.heap.size 134 2 v' (j+1) (an (s.take (j+1))) by rw [HT.out,gi];exact ak.own);clear ak;(try simp only [zp,za,z0,zs]);refine tq 13 3 ?_;(try simp only [zp,za,z0,zs]);refine aK (by kernel_rfl) ?_ _;go_simp;go_wp2_with fail;exact⟨⟨j+1,by omega,by rw [show((2*(j+1):Nat):Int)=(m:Int)+2 by have:=HM.out;omega],ir.out,eF.out⟩,by simp [intOf];omega⟩
 obtain rfl:j=s.length:=(by omega);have HF:=qqh (show wr.ownsRow w.heap.size 134 2 (.slice Av s.length cv) s.length (an s) by have:=hown;rwa [List.take_of_length_le qql]at this);generalize hm:2*s.length=m at *;have hg:decide (m<N)=false:=decide_eq_false (by have:=XW.out;omega);have OH:s.length≤1000:=(by have:=XW.out;omega);generalize s.length=k at *;clear hown hm;go_wp2_with fail;go_ret;exact⟨Av,_,cv,rfl,cV.cC HF.out (fun b hb=>(bk HF.out hb).1),OH,sZ,fq⟩
def OI (w:World) (cs ds:Array Value) (wx:World):Prop:=aj wx w.heap.size 47 cs∧aj wx (w.heap.size+1) 47 ds∧Below w.heap.size w wx
theorem OI.below {w wx w2:World} {cs ds:Array Value} (h:OI w cs ds wx) (hb:Below wx.heap.size wx w2):OI w cs ds w2 :=
  ⟨aj.below h.1 hb h.1.lt,aj.below h.2.1 hb h.2.1.lt,h.2.2.trans (hb.mono h.2.2.size)⟩
def RQ (w:World) (cs ds:Array Value) (g h:Nat) (a b:Array Value) (wx:World):Prop:=OI w cs ds wx∧aj wx g 129 a∧aj wx h 129 b
theorem RQ.below {w wx w2:World} {cs ds a b:Array Value} {g h:Nat} (q:RQ w cs ds g h a b wx) (hb:Below wx.heap.size wx w2):RQ w cs ds g h a b w2 :=
  ⟨q.1.below hb,aj.below q.2.1 hb q.2.1.lt,aj.below q.2.2 hb q.2.2.lt⟩
structure QT where
  some? : Bool
  only:aa
  ps:List cA
  a:List aB
def gA:List aB→List cA
  | []=>[]
  | x::r=>[⟨⟨#[]⟩,x::r⟩]
def dO (s:ByteArray):ByteArray:=if s=fB then fE else if s=fE then fB else kI
def i9 (back:Bool) (l:List aG) (i:Nat) (p:aG) (s:QT):Except (Int × Int) QT :=
  if p.kind=1 then (match fK (l.take i) p.name with
    | some _=>.error (7,i)
    | none=>.ok s)
  else if p.kind=3 then (if s.some? = true then .error (5,i)else .ok ⟨true,p.set,s.ps,s.a⟩)
  else if p.kind=4 then .ok ⟨s.some?,s.only,s.ps++gA s.a++[⟨if back=true then dO p.name else p.name,[]⟩],[]⟩
  else match eS (l.take i) p.left p.right,eS (l.take i) p.right p.left with
    | some x,some y=>.ok (if (back=true∧p.dir=1)∨(back=false∧p.dir=2)then s else ⟨s.some?,s.only,s.ps,s.a++[if back=true then y else x]⟩)
    | _,_=>.error (7,i)
def dA (back:Bool) (l:List aG):Nat→Except (Int × Int) QT
  | 0=>.ok ⟨false,[],[],[]⟩
  | k+1=>match dA back l k with
    | .error e=>.error e
    | .ok s=>match l[k]? with
      | some p=>i9 back l k p s
      | none=>.ok s
def nH:bS:=⟨false,[],[]⟩
def dQ (back:Bool) (l:List aG):bS × (Int × Int) :=
  if (fu l).1≠0 then (nH,fu l)else match dA back l l.length with
    | .error e=>(nH,e)
    | .ok s=>(⟨s.some?,s.only,if back=true then (s.ps++gA s.a).reverse else s.ps++gA s.a⟩,(0,0))
theorem kV {back:Bool} {l:List aG} {k:Nat} {p:aG} {s:QT} (h:dA back l k=.ok s) (hp:l[k]? = some p):dA back l (k+1)=i9 back l k p s:=by
 rw [dA,h];simp only [hp]
theorem Cv {back:Bool} {l:List aG} {k:Nat} {e:Int × Int} (h:dA back l k=.error e):∀ m,k≤m→dA back l m=.error e:=by
 intro m hm;induction m with
 | zero=>
  obtain rfl:k=0:=(by omega);exact h
 | succ m ih=>
  rcases Nat.lt_or_ge m k with h1 | h1
  ·obtain rfl:k=m+1:=(by omega);exact h
  rw [dA,ih h1]
theorem jZ {back:Bool} {l:List aG} (h:(fu l).1≠0):dQ back l=(nH,fu l):=by
 unfold dQ;rw [if_pos h]
theorem jU {back:Bool} {l:List aG} {k:Nat} {e:Int × Int} (h:(fu l).1=0) (hk:k≤l.length) (h1:dA back l k=.error e):dQ back l=(nH,e):=by
 unfold dQ;rw [if_neg (by simp [h]),Cv h1 _ hk]
theorem oo {back:Bool} {l:List aG} {s:QT} (h:(fu l).1=0) (h1:dA back l l.length=.ok s):dQ back l=(⟨s.some?,s.only,if back=true then (s.ps++gA s.a).reverse else s.ps++gA s.a⟩,(0,0)):=by
 unfold dQ;rw [if_neg (by simp [h]),h1]
theorem zX (l:List aG):∀ k,(∃ s t,dA false l k=.ok s∧dA true l k=.ok t∧s.some? = t.some?∧s.only=t.only)∨(∃ e,dA false l k=.error e∧dA true l k=.error e):=by
 intro k;induction k with
 | zero=>exact .inl ⟨_,_,rfl,rfl,rfl,rfl⟩
 | succ k ih=>
  rcases ih with ⟨s,t,h1,h2,h3,h4⟩ | ⟨e,h1,h2⟩
  ·cases hp:l[k]? with
   | none=>exact .inl ⟨s,t,by rw [dA,h1];simp only [hp],by rw [dA,h2];simp only [hp],h3,h4⟩
   | some p=>
    rw [kV h1 hp,kV h2 hp];unfold i9;by_cases k1:p.kind=1
    ·rw [if_pos k1,if_pos k1];cases fK (l.take k) p.name with
     | none=>exact .inl ⟨s,t,rfl,rfl,h3,h4⟩
     | some x=>exact .inr ⟨_,rfl,rfl⟩
    rw [if_neg k1,if_neg k1];by_cases k3:p.kind=3
    ·rw [if_pos k3,if_pos k3,h3];by_cases ht:t.some? = true
     ·rw [if_pos ht,if_pos ht];exact .inr ⟨_,rfl,rfl⟩
     rw [if_neg ht,if_neg ht];exact .inl ⟨_,_,rfl,rfl,rfl,rfl⟩
    rw [if_neg k3,if_neg k3];by_cases k4:p.kind=4
    ·rw [if_pos k4,if_pos k4];exact .inl ⟨_,_,rfl,rfl,h3,h4⟩
    rw [if_neg k4,if_neg k4];cases eS (l.take k) p.left p.right with
    | none=>exact .inr ⟨_,rfl,rfl⟩
    | some x=>
     cases eS (l.take k) p.right p.left with
     | none=>exact .inr ⟨_,rfl,rfl⟩
     | some y=>
      refine .inl ⟨_,_,rfl,rfl,?_,?_⟩
      ·by_cases d1:p.dir=1 <;> by_cases d2:p.dir=2 <;> simp [d1,d2,h3]
      by_cases d1:p.dir=1 <;> by_cases d2:p.dir=2 <;> simp [d1,d2,h4]
  exact .inr ⟨e,by rw [dA,h1],by rw [dA,h2]⟩
theorem DN (s:ByteArray) (w:World):Calls Tryz.prog 65 #[.string s] w fun e w'=>e=.returned (.string (dO s))∧w=w':=by
 have e1:fB.toList = [117,112,112,101,114]:=(by rw [Lib.toList_data];rfl);have e2:fE.toList = [108,111,119,101,114]:=(by rw [Lib.toList_data];rfl);have q1:(s.toList == [117,112,112,101,114])=decide (s=fB):=(by rw [← e1,MM]);have q2:(s.toList == [108,111,119,101,114])=decide (s=fE):=(by rw [← e2,MM]);clear e1 e2;by_cases h1:s=fB
 ·have p1:(s.toList == [117,112,112,101,114])=true:=(by rw [q1];simpa using h1);have HI:=qqh (show dO s=⟨#[108,111,119,101,114]⟩ by unfold dO;rw [if_pos h1];rfl);clear h1 q1 q2;go_enter Tryz.func65,Tryz.ntmps65;go_wp2;go_ret;rw [HI.out];exact⟨rfl,rfl⟩
 have p1:(s.toList == [117,112,112,101,114])=false:=(by rw [q1];simpa using h1);by_cases h2:s=fE
 ·have p2:(s.toList == [108,111,119,101,114])=true:=(by rw [q2];simpa using h2);have HI:=qqh (show dO s=⟨#[117,112,112,101,114]⟩ by unfold dO;rw [if_neg h1,if_pos h2];rfl);clear h1 h2 q1 q2;go_enter Tryz.func65,Tryz.ntmps65;go_wp2;go_ret;rw [HI.out];exact⟨rfl,rfl⟩
 have p2:(s.toList == [108,111,119,101,114])=false:=(by rw [q2];simpa using h2);have HI:=qqh (show dO s=⟨#[110,117,108,108]⟩ by unfold dO;rw [if_neg h1,if_neg h2];rfl);clear h1 h2 q1 q2;go_enter Tryz.func65,Tryz.ntmps65;go_wp2;go_ret;rw [HI.out];exact⟨rfl,rfl⟩
def bg (B lo:Nat) (va vb vp vq:Value) (b:Nat):Prop:=b<B∨(lo≤b∧va.ownBlock≠some b∧vb.ownBlock≠some b∧vp.ownBlock≠some b∧vq.ownBlock≠some b)
def cM (B lo:Nat) (A A2:List aB) (P P2:List cA) (va vb vp vq:Value) (wx:World):Prop :=
  dy (bC wx (bg B lo va vb vp vq)) 138 7 wx lo va A∧dy (bC wx (bg B lo va vb vp vq)) 138 7 wx lo vb A2 ∧
  dy (cU wx (bg B lo va vb vp vq)) 129 2 wx lo vp P∧dy (cU wx (bg B lo va vb vp vq)) 129 2 wx lo vq P2 ∧
  (∀ b,va.ownBlock=some b→vb.ownBlock≠some b)∧(∀ b,vp.ownBlock=some b→vq.ownBlock≠some b)
section
variable {B lo : Nat} {A A2 : List aB} {P P2 : List cA} {va vb vp vq v' : Value} {wx w2 : World}
theorem bg.wE {b:Nat} (h:bg B lo va vb vp vq b):bg B lo vb va vp vq b:=h.imp id (fun⟨h1,h2,h3,h4⟩=>⟨h1,h3,h2,h4⟩)
theorem bg.tU {b:Nat} (h:bg B lo va vb vp vq b):bg B lo va vb vq vp b:=h.imp id (fun⟨h1,h2,h3,h4,h5⟩=>⟨h1,h2,h3,h5,h4⟩)
theorem cM.nil (B lo:Nat) (w:World):cM B lo [] [] [] [] (.slice none 0 0) (.slice none 0 0) (.slice none 0 0) (.slice none 0 0) w :=
  ⟨dy.nil _ _,dy.nil _ _,dy.nil _ _,dy.nil _ _,fun b h=>by simp [Value.ownBlock]at h,fun b h=>by simp [Value.ownBlock]at h⟩
theorem cM.kept (hk:ag wx (bg B lo va vb vp vq) w2 (bg B lo va vb vp vq)) (ho:∀ (e:TypeId) (sz n:Nat) (v:Value) (xs:List Value),wx.ownsRow lo e sz v n xs→w2.ownsRow lo e sz v n xs)
    (h:cM B lo A A2 P P2 va vb vp vq wx):cM B lo A A2 P P2 va vb vp vq w2:=by
 obtain⟨h1,h2,h3,h4,h5,h6⟩:=h;exact⟨h1.kept (ho _ _ · _ ·) (fun _ _=>bC.keep hk),h2.kept (ho _ _ · _ ·) (fun _ _=>bC.keep hk),h3.kept (ho _ _ · _ ·) (fun _ _=>cU.keep hk),h4.kept (ho _ _ · _ ·) (fun _ _=>cU.keep hk),h5,h6⟩
theorem cM.below (h:cM B lo A A2 P P2 va vb vp vq wx) (hb:Below wx.heap.size wx w2):cM B lo A A2 P P2 va vb vp vq w2 :=
  cM.kept (ag.below hb (fun _ h _=>h)) (fun _ _ _ _ _ h=>dF h hb) h
theorem cM.wE (h:cM B lo A A2 P P2 va vb vp vq wx):cM B lo A2 A P P2 vb va vp vq wx:=by
 obtain⟨h1,h2,h3,h4,h5,h6⟩:=h;have hk:ag wx (bg B lo va vb vp vq) wx (bg B lo vb va vp vq):=ag.refl (fun _ h=>h.wE);exact⟨h2.weak (fun _ _=>bC.keep hk),h1.weak (fun _ _=>bC.keep hk),h3.weak (fun _ _=>cU.keep hk),h4.weak (fun _ _=>cU.keep hk),fun b hb hc=>h5 b hc hb,h6⟩
theorem cM.tU (h:cM B lo A A2 P P2 va vb vp vq wx):cM B lo A A2 P2 P va vb vq vp wx:=by
 obtain⟨h1,h2,h3,h4,h5,h6⟩:=h;have hk:ag wx (bg B lo va vb vp vq) wx (bg B lo va vb vq vp):=ag.refl (fun _ h=>h.tU);exact⟨h1.weak (fun _ _=>bC.keep hk),h2.weak (fun _ _=>bC.keep hk),h4.weak (fun _ _=>cU.keep hk),h3.weak (fun _ _=>cU.keep hk),h5,fun b hb hc=>h6 b hc hb⟩
theorem cM.drop (h:cM B lo A A2 P P2 va vb vp vq wx):cM B lo [] A2 P P2 (.slice none 0 0) vb vp vq wx:=by
 obtain⟨_,h2,h3,h4,_,h6⟩:=h;have hk:ag wx (bg B lo va vb vp vq) wx (bg B lo (.slice none 0 0) vb vp vq):=ag.refl (fun _ h=>h.imp id (fun⟨g1,_,g3⟩=>⟨g1,by simp [Value.ownBlock],g3⟩));exact⟨dy.nil _ _,h2.weak (fun _ _=>bC.keep hk),h3.weak (fun _ _=>cU.keep hk),h4.weak (fun _ _=>cU.keep hk),fun b hb=>by simp [Value.ownBlock]at hb,h6⟩
theorem cM.zu (ZT:B≤lo) {css:List (List Value)} {p:cA} {cs:List Value} {t:TypeId} (h:cM B lo A A2 P P2 va vb vp vq wx) (h1:css.length=P.length)
    (h2:∀ (i:Nat) (a:cA) (cs:List Value),P[i]? = some a→css[i]? = some cs→cU wx (bg B lo va vb vp vq) a cs) (h3:∀ cs∈css,cs.length=2) (h4:wx.ownsRow lo 129 2 vp P.length css.flatten)
    (hp:cU wx (bg B lo va vb vp vq) p cs) (hcs:cs.length=2) (ha:aP lo 129 2 vp (wx.alloc (.cells cs.toArray t)) (P.length+1) (css.flatten++cs) v' w2):cM B lo A A2 (P++[p]) P2 va vb v' vq w2:=by
 obtain⟨g1,g2,_,g4,g5,g6⟩:=h;have hk:ag wx (bg B lo va vb vp vq) w2 (bg B lo va vb v' vq):=by
  intro b hb hl;have jc:b<(wx.alloc (.cells cs.toArray t)).heap.size:=(by simp;omega);have hne:vp.ownBlock≠some b:=by
   rcases hb with hb | hb
   ·intro e;have:=(bk h4 e).1;omega
   exact hb.2.2.2.1
  refine⟨(ha.2.1.block b jc (fun e=>hne e.symm)).trans (heap_alloc_old wx _ hl),hb.imp id (fun⟨a1,a2,a3,a4,a5⟩=>⟨a1,a2,a3,?_,a5⟩),Nat.lt_of_lt_of_le jc ha.2.1.size⟩;rcases ha.2.2 with e | e
  ·rw [e];exact a4
  rw [e];intro he;injection he with he;omega
 have ow:=World.ownsRow.alloc h4 (.cells cs.toArray t)
 have kr:∀ {v:Value} {n:Nat} {xs:List Value},wx.ownsRow lo 138 7 v n xs→w2.ownsRow lo 138 7 v n xs:=fun hv=>
   qI (World.ownsRow.alloc hv (.cells cs.toArray t)) ha (tS (World.ownsRow.alloc hv _) ow (by decide))
 have kq:∀ {n:Nat} {xs:List Value},wx.ownsRow lo 129 2 vq n xs→w2.ownsRow lo 129 2 vq n xs:=fun hv=>
   qI (World.ownsRow.alloc hv (.cells cs.toArray t)) ha (tB g6)
 refine⟨g1.kept (fun _ _ h=>kr h) (fun _ _=>bC.keep hk),g2.kept (fun _ _ h=>kr h) (fun _ _=>bC.keep hk),dy.push h1 h2 h3 (fun _ _=>cU.keep hk) (hp.keep hk) hcs ha,g4.kept (fun _ _ h=>kq h) (fun _ _=>cU.keep hk),g5,?_⟩;intro b hb hc;rcases ha.2.2 with e | e
 ·rw [e]at hb;exact g6 b hb hc
 rw [e]at hb;obtain⟨c4,_,_,_,o4⟩:=g4;have:=(bk (World.ownsRow.alloc o4 (.cells cs.toArray t)) hc).2;injection hb with hb;omega
theorem cM.G6 (ZT:B≤lo) {css:List (List Value)} {r:aB} {cs:List Value} {t:TypeId} (h:cM B lo A A2 P P2 va vb vp vq wx) (h1:css.length=A.length)
    (h2:∀ (i:Nat) (a:aB) (cs:List Value),A[i]? = some a→css[i]? = some cs→bC wx (bg B lo va vb vp vq) a cs) (h3:∀ cs∈css,cs.length=7) (h4:wx.ownsRow lo 138 7 va A.length css.flatten)
    (hp:bC wx (bg B lo va vb vp vq) r cs) (hcs:cs.length=7) (ha:aP lo 138 7 va (wx.alloc (.cells cs.toArray t)) (A.length+1) (css.flatten++cs) v' w2):cM B lo (A++[r]) A2 P P2 v' vb vp vq w2:=by
 obtain⟨_,g2,g3,g4,g5,g6⟩:=h;have hk:ag wx (bg B lo va vb vp vq) w2 (bg B lo v' vb vp vq):=by
  intro b hb hl;have jc:b<(wx.alloc (.cells cs.toArray t)).heap.size:=(by simp;omega);have hne:va.ownBlock≠some b:=by
   rcases hb with hb | hb
   ·intro e;have:=(bk h4 e).1;omega
   exact hb.2.1
  refine⟨(ha.2.1.block b jc (fun e=>hne e.symm)).trans (heap_alloc_old wx _ hl),hb.imp id (fun⟨a1,a2,a3,a4,a5⟩=>⟨a1,?_,a3,a4,a5⟩),Nat.lt_of_lt_of_le jc ha.2.1.size⟩;rcases ha.2.2 with e | e
  ·rw [e];exact a2
  rw [e];intro he;injection he with he;omega
 have ow:=World.ownsRow.alloc h4 (.cells cs.toArray t)
 have kp:∀ {v:Value} {n:Nat} {xs:List Value},wx.ownsRow lo 129 2 v n xs→w2.ownsRow lo 129 2 v n xs:=fun hv=>
   qI (World.ownsRow.alloc hv (.cells cs.toArray t)) ha (tS (World.ownsRow.alloc hv _) ow (by decide))
 have kb:∀ {n:Nat} {xs:List Value},wx.ownsRow lo 138 7 vb n xs→w2.ownsRow lo 138 7 vb n xs:=fun hv=>
   qI (World.ownsRow.alloc hv (.cells cs.toArray t)) ha (tB g5)
 refine⟨dy.push h1 h2 h3 (fun _ _=>bC.keep hk) (hp.keep hk) hcs ha,g2.kept (fun _ _ h=>kb h) (fun _ _=>bC.keep hk),g3.kept (fun _ _ h=>kp h) (fun _ _=>cU.keep hk),g4.kept (fun _ _ h=>kp h) (fun _ _=>cU.keep hk),?_,g6⟩;intro b hb hc;rcases ha.2.2 with e | e
 ·rw [e]at hb;exact g5 b hb hc
 rw [e]at hb;obtain⟨c2,_,_,_,o2⟩:=g2;have:=(bk (World.ownsRow.alloc o2 (.cells cs.toArray t)) hc).2;injection hb with hb;omega
theorem cM.pass (h:cM B lo A A2 P P2 va vb vp vq wx) (hl:A.length≤maxLen) (nm:ByteArray):cU wx (bg B lo (.slice none 0 0) vb vp vq) ⟨nm,A⟩ [.string nm,va]:=by
 obtain⟨h1,_,h3,h4,h5,_⟩:=h;obtain⟨Aa,c,rfl,_⟩:=h1.form;refine⟨_,rfl,Aa,A.length,c,rfl,dy.done h1 (fun _ _=>bC.keep (ag.refl (fun _ h=>h.imp id (fun⟨g1,_,g3⟩=>⟨g1,by simp [Value.ownBlock],g3⟩)))) (fun b hb=>.inr ?_),hl⟩;obtain⟨css,_,_,_,o1⟩:=h1;obtain⟨Vr,_,_,_,o3⟩:=h3;obtain⟨U7,_,_,_,o4⟩:=h4;have ne:∀ {v:Value} {n:Nat} {xs:List Value},wx.ownsRow lo 129 2 v n xs→v.ownBlock≠some b:=by
  intro v n xs ho;rcases o1.2 with ⟨hv,_⟩ | ⟨g,cap,cur,hv,_,hg,_⟩
  ·rw [hv]at hb;simp [Value.ownBlock]at hb
  rw [hv]at hb;simp only [Value.ownBlock,Option.some.injEq]at hb;subst hb;exact lB ho hg (by decide)
 exact⟨(bk o1 hb).1,by simp [Value.ownBlock],h5 b hb,ne o3,ne o4⟩
end
theorem zw:(Tryz.prog.info? 129).map (fun i=>(i.zero,i.size,i.bytes))=some (some (.agg #[.string ⟨#[]⟩,.slice none 0 0]),2,40):=by kernel_rfl
def Du (ga gb gp gq:Nat) (vp vq:Value) (w w':World):Prop :=
  w'.os=w.os∧w'.tape=w.tape∧w'.output=w.output∧w.heap.size≤w'.heap.size ∧
  ∀ k,k<w.heap.size→k≠ga→k≠gb→k≠gp→k≠gq→vp.ownBlock≠some k→vq.ownBlock≠some k→w'.heap[k]? = w.heap[k]?
def iH (ga gb gp gq:Nat) (ca cb cp cq:Value) (w:World):Prop :=
  aj w ga 127 #[ca]∧aj w gb 127 #[cb]∧aj w gp 45 #[cp]∧aj w gq 45 #[cq]
structure LH (B lo ga gb gp gq:Nat):Prop where
  Bl:B≤lo
  a1:B≤ga
  a2:ga<lo
  b1:B≤gb
  b2:gb<lo
  p1:B≤gp
  p2:gp<lo
  q1:B≤gq
  q2:gq<lo
  ab:ga≠gb
  ap:ga≠gp
  aq:ga≠gq
  bp:gb≠gp
  bq:gb≠gq
  pq:gp≠gq
section
variable {B lo : Nat} {A A2 : List aB} {P P2 : List cA} {va vb vp vq : Value} {wx : World}
theorem cM.set {g i:Nat} {u:Value} (h:cM B lo A A2 P P2 va vb vp vq wx) (h1:B≤g) (h2:g<lo):cM B lo A A2 P P2 va vb vp vq (wx.setCell ⟨g,i,none⟩ u) :=
  cM.kept (ag.setCell u (fun b hb=>by rcases hb with h | h <;> dsimp only <;> omega) (fun _ h _=>h)) (fun _ _ _ _ _ h=>qs h h2) h
end
def WE (B lo ga gb gp gq:Nat) (A2:List aB) (P P2:List cA) (ca vb vp vq:Value) (w:World) (wx:World):Prop :=
  ∃ FF,cM B lo [] A2 P P2 (.slice none 0 0) vb FF vq wx∧iH ga gb gp gq ca vb FF vq wx∧Du ga gb gp gq vp vq w wx∧(∀ k,FF.ownBlock=some k→vp.ownBlock=some k∨w.heap.size≤k)
theorem zP (B lo ga gb gp gq:Nat) (pl:LH B lo ga gb gp gq) (A A2:List aB) (P P2:List cA) (va vb vp vq:Value) (w:World) (hlo:lo≤w.heap.size) (hst:cM B lo A A2 P P2 va vb vp vq w) (hv:iH ga gb gp gq va vb vp vq w)
    (hA:A.length≤1000) (Rk:A2.length≤1000) (hP:P.length≤1000) (hP2:P2.length≤1000) :
    Calls Tryz.prog 62 #[.pointer (some ⟨ga,0,none⟩),.pointer (some ⟨gp,0,none⟩),.pointer (some ⟨gb,0,none⟩),.pointer (some ⟨gq,0,none⟩)] w fun e w'=>e=.returned (.tuple #[]) ∧
      ∃ FF El,cM B lo [] [] (P++gA A) (P2++gA A2) (.slice none 0 0) (.slice none 0 0) FF El w'∧iH ga gb gp gq (.slice none 0 0) (.slice none 0 0) FF El w'∧Du ga gb gp gq vp vq w w'∧(∀ k,FF.ownBlock=some k→vp.ownBlock=some k∨w.heap.size≤k)∧(∀ k,El.ownBlock=some k→vq.ownBlock=some k∨w.heap.size≤k):=by
 obtain⟨i0,hi,hz0,oQ,tr⟩:=info_parts zw;obtain⟨pBl,pa1,pa2,pb1,pb2,pp1,pp2,pq1,pq2,pab,pap,paq,pbp,pbq,ppq⟩:=pl;obtain⟨Aa,ka,rfl,_⟩:=hst.1.form;obtain⟨Ab,kb,rfl,_⟩:=hst.2.1.form;obtain⟨Ap,kp,rfl,_⟩:=hst.2.2.1.form;obtain⟨Aq,kq,rfl,_⟩:=hst.2.2.2.1.form;have a0:w.cell? ⟨ga,0,none⟩=some (.slice Aa A.length ka):=hv.1.cell 0;have fF:=qqh hst;have HV:=qqh hv;clear hst hv;go_enter Tryz.func62,Tryz.ntmps62;go_upto_if 6 with fail;go_cut [] (fun wx=>WE B lo ga gb gp gq A2 (P++gA A) P2 (.slice Aa A.length ka) (.slice Ab A2.length kb) (.slice Ap P.length kp) (.slice Aq P2.length kq) w wx);case first=>
  by_cases h0:0<A.length
  ·obtain⟨x,r,XP⟩:∃ x r,A=x::r:=by
    cases A with
    | nil=>simp at h0
    | cons x r=>exact⟨x,r,rfl⟩
   have Tq:=qqh (show gA A = [⟨⟨#[]⟩,A⟩] by rw [XP];rfl);clear XP;have b0:w.cell? ⟨gp,0,none⟩=some (.slice Ap P.length kp):=HV.out.2.2.1.cell 0;have OG:=fF.out.drop;have hps:=fF.out.pass (by unfold maxLen;omega) ⟨#[]⟩;have mI:=OG;obtain⟨_,_,⟨css,g1,g2,g3,g4⟩,_⟩:=mI;have HN:=qqh (Rd.new w 129 2 1 [.string ⟨#[]⟩,.slice Aa A.length ka] rfl);have HO:=qqh (World.ownsRow.alloc g4 (.cells #[.string ⟨#[]⟩,.slice Aa A.length ka] 129));have HD:=qqh OG;have HP:=qqh hps;have G1:=qqh g1;have G2:=qqh g2;have G3:=qqh g3;have G4:=qqh g4;have Ei:=qqh (show ∀ u ∈ [Value.string ⟨#[]⟩,Value.slice Aa A.length ka],u.oneCell'=true by intro x hx;simp at hx;rcases hx with rfl | rfl <;> rfl);have HZ:=qqh (show lo≤(w.alloc (.cells #[.string ⟨#[]⟩,.slice Aa A.length ka] 129)).heap.size by simp;omega);clear OG hps g1 g2 g3 g4;go_wp2_with (at_builtin;refine ai _ rfl (.tmp 7) (.tmp 10) 45 rfl lo 129 i0 _ 2 40 Tryz.underlying45 hi hz0 oQ tr rfl (by decide) _ _ _ rfl HO.out _ (some ⟨w.heap.size,0,none⟩) 1 1 [.string ⟨#[]⟩,.slice Aa A.length ka] rfl HN.out Ei.out (by simp only [maxLen];omega) (by omega) HZ.out ?_);intro v9 w9 ak;have hsz:=HZ.out;have lM:=ak.own;obtain⟨A9,k9,rfl,_⟩:=aJ lM;clear lM;have uJ:=cM.zu pBl HD.out G1.out G2.out G3.out G4.out HP.out rfl ak;have BP:=bW (aj.alloc HV.out.2.2.1 (.cells #[.string ⟨#[]⟩,.slice Aa A.length ka] 129)) HO.out (by decide) ak;have Pw:=bW (aj.alloc HV.out.1 (.cells #[.string ⟨#[]⟩,.slice Aa A.length ka] 129)) HO.out (by decide) ak;have SB:=bW (aj.alloc HV.out.2.1 (.cells #[.string ⟨#[]⟩,.slice Aa A.length ka] 129)) HO.out (by decide) ak
   have hvq:=bW (aj.alloc HV.out.2.2.2 (.cells #[.string ⟨#[]⟩,.slice Aa A.length ka] 129)) HO.out (by decide) ak;have c9:w9.cell? ⟨gp,0,none⟩=some (.slice Ap P.length kp):=BP.cell 0;have f9:=BP.frozen 0;have ng:Du ga gb gp gq (.slice Ap P.length kp) (.slice Aq P2.length kq) w w9:=by
    refine⟨ak.2.1.os,ak.2.1.tape,ak.2.1.output,Nat.le_trans (by simp) ak.2.1.size,fun k hk _ _ _ _ h1 _=>?_⟩;exact(ak.2.1.block k (by simp;omega) (fun e=>h1 e.symm)).trans (heap_alloc_old w _ hk)
   have yC:∀ k,(Value.slice A9 (P.length+1) k9).ownBlock=some k→(Value.slice Ap P.length kp).ownBlock=some k∨w.heap.size≤k:=by
    intro k hk;rcases ak.2.2 with e | e;exact .inl (e ▸ hk);rw [e]at hk;injection hk with hk;right;simp at hk;omega
   have Js:=qqh uJ;have xL:=qqh ng;have HGR:=qqh yC;have Po:=qqh BP;have Wi:=qqh Pw;have Y8:=qqh SB;have HVQ:=qqh hvq;clear ak uJ BP Pw SB hvq ng yC;go_wp2_with fail;go_meet;refine⟨.slice A9 (P.length+1) k9,?_,⟨au Wi.out pap,au Y8.out pbp,?_,au HVQ.out (Ne.symm ppq)⟩,⟨xL.out.1,xL.out.2.1,xL.out.2.2.1,by simpa using xL.out.2.2.2.1,fun k hk h1 h2 h3 h4 h5 h6=>?_⟩,HGR.out⟩
   ·rw [Tq.out];exact cM.set Js.out pp1 pp2
   exact Po.out.put 0 _;exact(Below.heap_setCell _ _ _ _ h3).trans (xL.out.2.2.2.2 k hk h1 h2 h3 h4 h5 h6)
  have Q0:A = []:=List.eq_nil_of_length_eq_zero (by omega);have Tq:=qqh (show P++gA A=P by rw [Q0];simp [gA]);clear Q0;go_wp2_with fail;go_meet;refine⟨_,?_,HV.out,⟨rfl,rfl,rfl,qql,fun _ _ _ _ _ _ _ _=>rfl⟩,fun k hk=>.inl hk⟩;rw [Tq.out];exact fF.out.drop
 obtain⟨FF,Qn,KO,aT,hg1⟩:=hcut;obtain⟨Ap',kp',rfl,_⟩:=Qn.2.2.1.form;have iE:=qqh Qn.wE.tU;have KT:=qqh KO;have bJ:=qqh aT;have jl:=qqh hg1;have b0:wc.cell? ⟨gb,0,none⟩=some (.slice Ab A2.length kb):=KO.2.1.cell 0;have hPl:(P++gA A).length≤1001:=(by rw [List.length_append];cases A <;> simp [gA] <;> omega);clear Qn KO aT hg1;generalize hP1:P++gA A=P1 at *;have xF:=qqh hP1;clear hP1;go_upto_if 14 with fail;go_cut [] (fun wx=>∃ El,cM B lo [] [] (P2++gA A2) P1 (.slice none 0 0) (.slice none 0 0) El (.slice Ap' P1.length kp') wx∧iH ga gb gp gq (.slice Aa A.length ka) (.slice Ab A2.length kb) (.slice Ap' P1.length kp') El wx∧Du ga gb gp gq (.slice Ap P.length kp) (.slice Aq P2.length kq) w wx∧(∀ k,El.ownBlock=some k→(Value.slice Aq P2.length kq).ownBlock=some k∨w.heap.size≤k));case first=>
  by_cases h0:0<A2.length
  ·obtain⟨x,r,XP⟩:∃ x r,A2=x::r:=by
    cases A2 with
    | nil=>simp at h0
    | cons x r=>exact⟨x,r,rfl⟩
   have Tq:=qqh (show gA A2 = [⟨⟨#[]⟩,A2⟩] by rw [XP];rfl);clear XP;have b1:wc.cell? ⟨gq,0,none⟩=some (.slice Aq P2.length kq):=KT.out.2.2.2.cell 0;have OG:=iE.out.drop;have hps:=iE.out.pass (by unfold maxLen;omega) ⟨#[]⟩;have mI:=OG;obtain⟨_,_,⟨css,g1,g2,g3,g4⟩,_⟩:=mI;have HN:=qqh (Rd.new wc 129 2 1 [.string ⟨#[]⟩,.slice Ab A2.length kb] rfl);have HO:=qqh (World.ownsRow.alloc g4 (.cells #[.string ⟨#[]⟩,.slice Ab A2.length kb] 129));have HD:=qqh OG;have HP:=qqh hps;have G1:=qqh g1;have G2:=qqh g2;have G3:=qqh g3;have G4:=qqh g4;have Ei:=qqh (show ∀ u ∈ [Value.string ⟨#[]⟩,Value.slice Ab A2.length kb],u.oneCell'=true by intro x hx;simp at hx;rcases hx with rfl | rfl <;> rfl);have hwc:=bJ.out.2.2.2.1;have HZ:=qqh (show lo≤(wc.alloc (.cells #[.string ⟨#[]⟩,.slice Ab A2.length kb] 129)).heap.size by simp;omega);clear OG hps g1 g2 g3 g4;go_wp2_with (at_builtin;refine ai _ rfl (.tmp 15) (.tmp 18) 45 rfl lo 129 i0 _ 2 40 Tryz.underlying45 hi hz0 oQ tr rfl (by decide) _ _ _ rfl HO.out _ (some ⟨wc.heap.size,0,none⟩) 1 1 [.string ⟨#[]⟩,.slice Ab A2.length kb] rfl HN.out Ei.out (by simp only [maxLen];omega) (by omega) HZ.out ?_);intro v9 w9 ak;have hsz:=HZ.out;have lM:=ak.own;obtain⟨A9,k9,rfl,_⟩:=aJ lM;clear lM;have uJ:=cM.zu pBl HD.out G1.out G2.out G3.out G4.out HP.out rfl ak;have BP:=bW (aj.alloc KT.out.2.2.2 (.cells #[.string ⟨#[]⟩,.slice Ab A2.length kb] 129)) HO.out (by decide) ak;have Pw:=bW (aj.alloc KT.out.1 (.cells #[.string ⟨#[]⟩,.slice Ab A2.length kb] 129)) HO.out (by decide) ak
   have SB:=bW (aj.alloc KT.out.2.1 (.cells #[.string ⟨#[]⟩,.slice Ab A2.length kb] 129)) HO.out (by decide) ak;have hvp:=bW (aj.alloc KT.out.2.2.1 (.cells #[.string ⟨#[]⟩,.slice Ab A2.length kb] 129)) HO.out (by decide) ak;have c9:w9.cell? ⟨gq,0,none⟩=some (.slice Aq P2.length kq):=BP.cell 0;have f9:=BP.frozen 0;have ng:Du ga gb gp gq (.slice Ap P.length kp) (.slice Aq P2.length kq) w w9:=by
    obtain⟨y1,y2,y3,y4,y5⟩:=bJ.out;refine⟨ak.2.1.os.trans y1,ak.2.1.tape.trans y2,ak.2.1.output.trans y3,Nat.le_trans y4 (Nat.le_trans (by simp) ak.2.1.size),fun k hk z1 z2 z3 z4 h1 h2=>?_⟩;exact((ak.2.1.block k (by simp;omega) (fun e=>h2 e.symm)).trans (heap_alloc_old wc _ (by omega))).trans (y5 k hk z1 z2 z3 z4 h1 h2)
   have yC:∀ k,(Value.slice A9 (P2.length+1) k9).ownBlock=some k→(Value.slice Aq P2.length kq).ownBlock=some k∨w.heap.size≤k:=by
    intro k hk;rcases ak.2.2 with e | e;exact .inl (e ▸ hk);rw [e]at hk;injection hk with hk;right;simp at hk;omega
   have Js:=qqh uJ;have xL:=qqh ng;have HGR:=qqh yC;have Po:=qqh BP;have Wi:=qqh Pw;have Y8:=qqh SB;have HVP:=qqh hvp;clear ak uJ BP Pw SB hvp ng yC;go_wp2_with fail;go_meet;refine⟨.slice A9 (P2.length+1) k9,?_,⟨au Wi.out paq,au Y8.out pbq,au HVP.out ppq,Po.out.put 0 _⟩,⟨xL.out.1,xL.out.2.1,xL.out.2.2.1,by simpa using xL.out.2.2.2.1,fun k hk h1 h2 h3 h4 h5 h6=>?_⟩,HGR.out⟩
   ·rw [Tq.out];exact cM.set Js.out pq1 pq2
   exact(Below.heap_setCell _ _ _ _ h4).trans (xL.out.2.2.2.2 k hk h1 h2 h3 h4 h5 h6)
  have Q0:A2 = []:=List.eq_nil_of_length_eq_zero (by omega);have Tq:=qqh (show P2++gA A2=P2 by rw [Q0];simp [gA]);clear Q0;go_wp2_with fail;go_meet;refine⟨_,?_,KT.out,bJ.out,fun k hk=>.inl hk⟩;rw [Tq.out];exact iE.out.drop
 obtain⟨El,iW,yP,aX,hg2⟩:=hcut;have c1:wc.cell? ⟨ga,0,none⟩=some (.slice Aa A.length ka):=yP.1.cell 0;have c2:wc.cell? ⟨gb,0,none⟩=some (.slice Ab A2.length kb):=yP.2.1.cell 0;have f1:=yP.1.frozen 0;have f2:=yP.2.1.frozen 0;have dP:=qqh iW;have QA:=qqh yP;have bL:=qqh aX;have kY:=qqh hg2;clear iW yP aX hg2;go_wp2_with fail;go_end0;rw [xF.out];refine⟨rfl,_,El,(cM.set (cM.set dP.out pa1 pa2) pb1 pb2).tU,⟨au (QA.out.1.put 0 _) pab,(au QA.out.2.1 (Ne.symm pab)).put 0 _,au (au QA.out.2.2.1 (Ne.symm pap)) (Ne.symm pbp),au (au QA.out.2.2.2 (Ne.symm paq)) (Ne.symm pbq)⟩,⟨bL.out.1,bL.out.2.1,bL.out.2.2.1,by simpa using bL.out.2.2.2.1,fun k hk h1 h2 h3 h4 h5 h6=>?_⟩,jl.out,kY.out⟩;exact((Below.heap_setCell _ _ _ _ h2).trans (Below.heap_setCell _ _ _ _ h1)).trans (bL.out.2.2.2.2 k hk h1 h2 h3 h4 h5 h6)
abbrev aI:Array Value:=#[.bool false,.slice none 0 0,.slice none 0 0]
theorem qR (er i:Int) (g:Nat) (w:World) (hi:w.cell? ⟨g,0,none⟩=some (.int .i64 i)) :
    Calls Tryz.prog 63 #[.int .i64 er,.pointer (some ⟨g,0,none⟩)] w fun e w'=>e=.returned (.tuple #[.agg aI,.agg aI,.agg #[.int .i64 er,.int .i64 i]])∧Below w.heap.size w w':=by
 have hg:=World.block_lt_of_cell? w _ hi;have z0:=aj.alloc (aj.alloc (aj.new w 47 aI) (.cells aI 47)) (.cells #[.int .i64 0,.int .i64 0] 38);have z1:=aj.alloc (aj.new (w.alloc (.cells aI 47)) 47 aI) (.cells #[.int .i64 0,.int .i64 0] 38);have z2:=aj.new ((w.alloc (.cells aI 47)).alloc (.cells aI 47)) 38 #[.int .i64 0,.int .i64 0];rw [show(w.alloc (.cells aI 47)).heap.size=w.heap.size+1 by simp]at z1;rw [show((w.alloc (.cells aI 47)).alloc (.cells aI 47)).heap.size=w.heap.size+1+1 by simp]at z2;have hb:=(((Below.refl w.heap.size w).alloc qql (.cells aI 47)).alloc (by simp) (.cells aI 47)).alloc (by simp;omega) (.cells #[.int .i64 0,.int .i64 0] 38);have hc:(((w.alloc (.cells aI 47)).alloc (.cells aI 47)).alloc (.cells #[.int .i64 0,.int .i64 0] 38)).cell? ⟨g,0,none⟩=some (.int .i64 i):=(hb.cell hg).trans hi;have Z0:=qqh z0;have Z1:=qqh z1;have Z2:=qqh z2;have HB:=qqh hb;have HC:=qqh hc;clear z0 z1 z2 hb hc;go_enter Tryz.func63,Tryz.ntmps63;go_upto_region 1 with fail;have z0:=Z0.out;have z1:=Z1.out;have z2:=Z2.out;have hb:=HB.out;have hc:=HC.out;have hg0:g≠w.heap.size:=(by simp only at hg;omega);have hg1:g≠w.heap.size+1:=(by simp only at hg;omega);have hg2:g≠w.heap.size+1+1:=(by simp only at hg;omega);clear Z0 Z1 Z2 HB HC
 generalize ((w.alloc (.cells aI 47)).alloc (.cells aI 47)).alloc (.cells #[.int .i64 0,.int .i64 0] 38)=W3 at *;have a0:W3.cell? ⟨w.heap.size,0,none⟩=some (.bool false):=z0.cell 0;have a1:W3.cell? ⟨w.heap.size,1,none⟩=some (.slice none 0 0):=z0.cell 1;have a2:W3.cell? ⟨w.heap.size,2,none⟩=some (.slice none 0 0):=z0.cell 2;have b0:W3.cell? ⟨w.heap.size+1,0,none⟩=some (.bool false):=z1.cell 0;have b1:W3.cell? ⟨w.heap.size+1,1,none⟩=some (.slice none 0 0):=z1.cell 1;have b2:W3.cell? ⟨w.heap.size+1,2,none⟩=some (.slice none 0 0):=z1.cell 2;have c0:W3.cell? ⟨w.heap.size+1+1,0,none⟩=some (.int .i64 0):=z2.cell 0;have c1:W3.cell? ⟨w.heap.size+1+1,1,none⟩=some (.int .i64 0):=z2.cell 1;have d0:=z0.frozen 0;have d1:=z0.frozen 1;have d2:=z0.frozen 2;have d3:=z1.frozen 0;have d4:=z1.frozen 1;have d5:=z1.frozen 2;have d6:=z2.frozen 0;have d7:=z2.frozen 1;have bL:=qqh hb;clear z0 z1 z2 hb;go_region
 all_goals
   go_wp2_with fail
   have fq:=(((((((bL.out.setCell (p:=⟨w.heap.size,0,none⟩) (by simp) (.bool false)).setCell (p:=⟨w.heap.size,1,none⟩) (by simp) (.slice none 0 0)).setCell (p:=⟨w.heap.size,2,none⟩) (by simp) (.slice none 0 0)).setCell (p:=⟨w.heap.size+1,0,none⟩) (by simp) (.bool false)).setCell (p:=⟨w.heap.size+1,1,none⟩) (by simp) (.slice none 0 0)).setCell (p:=⟨w.heap.size+1,2,none⟩) (by simp) (.slice none 0 0)).setCell (p:=⟨w.heap.size+1+1,0,none⟩) (by simp;omega) (.int .i64 er)).setCell (p:=⟨w.heap.size+1+1,1,none⟩) (by simp;omega) (.int .i64 i)
   refine bodyPost_ret (v:=.tuple #[.agg #[.bool false,.slice none 0 0,.slice none 0 0],.agg #[.bool false,.slice none 0 0,.slice none 0 0],.agg #[.int .i64 er,.int .i64 i]]) (by simp [results,Tryz.results63,go_sem,a0,a1,a2,b0,b1,b2,c0,c1]) rfl ⟨rfl,?_⟩
   exact fq.drew
def sw (n k t:Nat):Nat:=if t<k∨n - 1 - k<t then n - 1 - t else t
def QX (xs:List Value) (i j:Nat) (a b c d:Value):List Value:=(((xs.set (i*2) c).set (i*2+1) d).set (j*2) a).set (j*2+1) b
def Ut (w:World) (g lo n cap:Nat) (ys:List Value) (i j:Value) (wr:World):Prop :=
  ∃ (k q:Nat) (xs:List Value),q+k+1=n∧k≤q+1∧i=.int .i64 k∧j=.int .i64 q∧wr.ownsRow lo 129 2 (.slice (some ⟨g,0,none⟩) n cap) n xs∧w.grownBy wr (some g) ∧
    ∀ t d,t<n→d<2→xs[t*2+d]? = ys[sw n k t*2+d]?
theorem JE {n k q:Nat} {xs ys:List Value} {a b c d:Value} (hn:q+k+1=n) (hkq:k<q) (hxl:xs.length=n*2) (h:∀ t d,t<n→d<2→xs[t*2+d]? = ys[sw n k t*2+d]?)
    (h0:ys[k*2]? = some a) (h1:ys[k*2+1]? = some b) (h2:ys[q*2]? = some c) (h3:ys[q*2+1]? = some d) :
    ∀ t e,t<n→e<2→(QX xs k q a b c d)[t*2+e]? = ys[sw n (k+1) t*2+e]?:=by
 intro t e ht he;unfold QX;have hsw:sw n (k+1) t=if t=k then q else if t=q then k else sw n k t:=by
  unfold sw;by_cases e1:t=k
  ·subst e1;rw [if_pos rfl,if_pos (by omega)];omega
  rw [if_neg e1];by_cases e2:t=q
  ·subst e2;rw [if_pos rfl,if_pos (by omega)];omega
  rw [if_neg e2];by_cases e3:t<k∨n - 1 - k<t
  ·rw [if_pos e3,if_pos (by omega)]
  rw [if_neg e3,if_neg (by omega)]
 rw [hsw];simp only [List.getElem?_set,List.length_set];by_cases e1:t=k
 ·subst e1;rw [if_pos rfl];rcases (show e=0∨e=1 by omega)with rfl | rfl
  ·rw [if_neg (by omega),if_neg (by omega),if_neg (by omega),if_pos (by omega),if_pos (by omega),Nat.add_zero,h2]
  rw [if_neg (by omega),if_neg (by omega),if_pos (by omega),if_pos (by omega),h3]
 rw [if_neg e1];by_cases e2:t=q
 ·subst e2;rw [if_pos rfl];rcases (show e=0∨e=1 by omega)with rfl | rfl
  ·rw [if_neg (by omega),if_pos (by omega),if_pos (by omega),Nat.add_zero,h0]
  rw [if_pos (by omega),if_pos (by omega),h1]
 rw [if_neg e2,if_neg (by omega),if_neg (by omega),if_neg (by omega),if_neg (by omega)];exact h t e ht he
theorem LA {n k q:Nat} {xs:List Value} {css:List (List Value)} (hn:q+k+1=n) (hq:q≤k) (hl:css.length=n) (h2:∀ cs∈css,cs.length=2) (hxl:xs.length=n*2) (h:∀ t d,t<n→d<2→xs[t*2+d]? = css.flatten[sw n k t*2+d]?):xs=css.reverse.flatten:=by
 have h2r:∀ cs∈css.reverse,cs.length=2:=fun cs hc=>h2 cs (List.mem_reverse.1 hc);apply List.ext_getElem?;intro m;by_cases hm:m<n*2
 ·have ht:m / 2<n:=(by omega);have hd:m % 2<2:=Nat.mod_lt _ (by decide);have em:m / 2*2+m % 2=m:=(by omega);have e1:=h (m / 2) (m % 2) ht hd;rw [em]at e1;obtain⟨cs,hcs⟩:∃ z,css[n - 1 - m / 2]? = some z:=⟨_,List.getElem?_eq_getElem (by omega)⟩;obtain⟨u,hu⟩:∃ u,cs[m % 2]? = some u:=⟨_,List.getElem?_eq_getElem (by rw [h2 cs (List.mem_of_getElem? hcs)];exact hd)⟩;have hsw:sw n k (m / 2)=n - 1 - m / 2:=by
   unfold sw;by_cases e:m / 2<k∨n - 1 - k<m / 2
   ·rw [if_pos e]
   rw [if_neg e];omega
  have e2:=dV h2 _ cs hcs _ u hu;have hr:css.reverse[m / 2]? = some cs:=by
   rw [List.getElem?_reverse (by omega),hl];exact hcs
  have e3:=dV h2r _ cs hr _ u hu;rw [em]at e3;rw [e1,hsw,e2,e3]
 have hlen:css.reverse.flatten.length=n*2:=by
  have:∀ (l:List (List Value)),(∀ cs∈l,cs.length=2)→l.flatten.length=l.length*2:=by
   intro l;induction l with
   | nil=>intro _;rfl
   | cons a l ih=>
    intro ha;rw [List.flatten_cons,List.length_append,ih (fun x hx=>ha x (by simp [hx])),ha a (by simp),List.length_cons];omega
  rw [this _ h2r,List.length_reverse,hl]
 rw [List.getElem?_eq_none (by omega),List.getElem?_eq_none (by omega)]
theorem CK (lo g n cap:Nat) (css:List (List Value)) (w:World) (hn:0<n) (hn2:n≤1000) (hl:css.length=n) (hc:∀ cs∈css,∃ s A m c,cs = [.string s,.slice A m c]) (ho:w.ownsRow lo 129 2 (.slice (some ⟨g,0,none⟩) n cap) n css.flatten) :
    Calls Tryz.prog 67 #[.slice (some ⟨g,0,none⟩) n cap] w fun e w'=>e=.returned (.tuple #[])∧w'.ownsRow lo 129 2 (.slice (some ⟨g,0,none⟩) n cap) n css.reverse.flatten∧w.grownBy w' (some g):=by
 have h2:∀ cs∈css,cs.length=2:=fun cs h=>(by obtain⟨s,A,m,c,rfl⟩:=hc cs h;rfl);have HL:=qqh hl;have HC:=qqh hc;have H2:=qqh h2;have HO:=qqh ho;clear hl hc h2 ho;go_enter Tryz.func67,Tryz.ntmps67;go_wp2_with fail;go_loopw [2,3] (Ut w g lo n cap css.flatten) (fun i j _=>n - (intOf i).toNat);case atStart=>
  refine⟨0,n - 1,css.flatten,by omega,by omega,rfl,by go_num,HO.out,World.grownBy.refl _ _,fun t d ht hd=>?_⟩;unfold sw;rw [if_neg (by omega)]
 obtain⟨k,q,xs,hkq,ah1,rfl,rfl,hown,yC,hx⟩:=hrel;by_cases hlt:k<q
 ·obtain⟨c1,hc1⟩:∃ z,css[k]? = some z:=⟨_,List.getElem?_eq_getElem (by rw [HL.out];omega)⟩;obtain⟨c2,hc2⟩:∃ z,css[q]? = some z:=⟨_,List.getElem?_eq_getElem (by rw [HL.out];omega)⟩;obtain⟨s1,A1,m1,d1,rfl⟩:=HC.out c1 (List.mem_of_getElem? hc1);obtain⟨s2,A2,m2,d2,rfl⟩:=HC.out c2 (List.mem_of_getElem? hc2);have y0:css.flatten[k*2]? = some (.string s1):=dV H2.out k _ hc1 0 _ rfl;have y1:css.flatten[k*2+1]? = some (.slice A1 m1 d1):=dV H2.out k _ hc1 1 _ rfl;have y2:css.flatten[q*2]? = some (.string s2):=dV H2.out q _ hc2 0 _ rfl;have y3:css.flatten[q*2+1]? = some (.slice A2 m2 d2):=dV H2.out q _ hc2 1 _ rfl;have sk:sw n k k=k:=(by unfold sw;rw [if_neg (by omega)]);have sq:sw n k q=q:=(by unfold sw;rw [if_neg (by omega)]);have x0:xs[k*2]? = some (Value.string s1):=(hx k 0 (by omega) (by omega)).trans (by rw [sk];exact y0);have x1:xs[k*2+1]? = some (Value.slice A1 m1 d1):=(hx k 1 (by omega) (by omega)).trans (by rw [sk];exact y1);have x2:xs[q*2]? = some (Value.string s2):=(hx q 0 (by omega) (by omega)).trans (by rw [sq];exact y2);have x3:xs[q*2+1]? = some (Value.slice A2 m2 d2):=(hx q 1 (by omega) (by omega)).trans (by rw [sq];exact y3);have z0:wr.cell? ⟨g,k*2,none⟩=some (.string s1):=(by have:=World.ownsRow.cells hown (g:=g) rfl _ _ x0;rwa [gz,Nat.zero_add]at this);have z1:wr.cell? ⟨g,k*2+1,none⟩=some (.slice A1 m1 d1):=(by have:=World.ownsRow.cells hown (g:=g) rfl _ _ x1;rwa [gz,Nat.zero_add]at this);have z2:wr.cell? ⟨g,q*2,none⟩=some (.string s2):=(by have:=World.ownsRow.cells hown (g:=g) rfl _ _ x2;rwa [gz,Nat.zero_add]at this);have z3:wr.cell? ⟨g,q*2+1,none⟩=some (.slice A2 m2 d2):=(by have:=World.ownsRow.cells hown (g:=g) rfl _ _ x3;rwa [gz,Nat.zero_add]at this);have f0:=World.ownsRow.frozenAt hown (k*2)
  have f1:=World.ownsRow.frozenAt hown (k*2+1);have f2:=World.ownsRow.frozenAt hown (q*2);have f3:=World.ownsRow.frozenAt hown (q*2+1);have hs:=World.ownsRow.stored (World.ownsRow.stored (World.ownsRow.stored (World.ownsRow.stored hown (k*2) (.string s2)).1 (k*2+1) (.slice A2 m2 d2)).1 (q*2) (.string s1)).1 (q*2+1) (.slice A1 m1 d1);have hgs:=(((yC.trans (World.ownsRow.stored hown (k*2) (.string s2)).2).trans (World.ownsRow.stored (World.ownsRow.stored hown (k*2) (.string s2)).1 (k*2+1) (.slice A2 m2 d2)).2).trans (World.ownsRow.stored (World.ownsRow.stored (World.ownsRow.stored hown (k*2) (.string s2)).1 (k*2+1) (.slice A2 m2 d2)).1 (q*2) (.string s1)).2).trans hs.2;have fF:=qqh (JE hkq hlt hown.1 hx y0 y1 y2 y3);have HS:=qqh hs.1;have HG:=qqh hgs;have ah0:¬ k*2=q*2:=(by omega);have LF:¬ k*2=q*2+1:=(by omega);have MK:¬ k*2+1=q*2:=(by omega);have hkn:(k:Int)<(n:Int):=(by omega);have hqn:(q:Int)<(n:Int):=(by omega);clear hs hgs hx x0 x1 x2 x3 y0 y1 y2 y3 hc1 hc2 sk sq hown yC;go_wp2_with fail;go_region
  all_goals
    go_wp2_with fail
    refine⟨⟨k+1,q - 1,_,by omega,by omega,by go_num,by go_num,HS.out,⟨HG.out.os,HG.out.tape,HG.out.output,HG.out.size,HG.out.block⟩,fF.out⟩,by simp [intOf];omega⟩
 have HX:=qqh (LA hkq (by omega) HL.out H2.out hown.1 hx);have HW:=qqh hown;have HG:=qqh yC;clear hx hown yC;go_wp2_with fail;go_end0;rw [← HX.out];exact⟨rfl,HW.out,HG.out⟩
theorem r9 (A:Option Addr) (cap:Nat) (w:World) :
    Calls Tryz.prog 67 #[.slice A 0 cap] w fun e w'=>e=.returned (.tuple #[])∧w=w':=by
 go_enter Tryz.func67,Tryz.ntmps67;go_wp2_with fail;go_loopw [2,3] (fun i j wr=>i=.int .i64 0∧j=.int .i64 (-1)∧wr=w) (fun _ _ _=>0);(case atStart=>exact⟨rfl,rfl,rfl⟩);obtain⟨rfl,rfl,rfl⟩:=hrel;go_wp2_with fail;go_end0;exact⟨rfl,rfl⟩
end Go.Proofs.YtblinekbpcdbfaaGreatDoor
namespace Go.Proofs.YtblinekbpcdbfaaGreatDoor
open Go.RowKit Go.Maps
def rJ (B lo:Nat) (w:World) (l:List aG) (e:Ending):Prop :=
  ∃ cs ds:List Value,cs.length=3∧ds.length=3∧e=.returned (.tuple #[.agg cs.toArray,.agg ds.toArray,.agg #[.int .i64 (dQ false l).2.1,.int .i64 (dQ false l).2.2]]) ∧
    ia w (Fr B lo) (dQ false l).1 cs∧ia w (Fr B lo) (dQ true l).1 ds
theorem ot (w:World) (X:Nat→Prop):ia w X nH [.bool false,.slice none 0 0,.slice none 0 0] :=
  ⟨_,_,rfl,⟨none,0,0,rfl,⟨rfl,fun h=>absurd h (Nat.lt_irrefl 0)⟩,Nat.zero_le _⟩,⟨none,0,0,rfl,⟨[],rfl,rfl,by simp,by simp,rfl,fun h=>absurd h (Nat.lt_irrefl 0)⟩,Nat.zero_le _⟩⟩
def jO (w:World) (cf cb cr:Array Value) (wx:World):Prop :=
  aj wx w.heap.size 47 cf∧aj wx (w.heap.size+1) 47 cb∧aj wx (w.heap.size+2) 38 cr∧Below w.heap.size w wx
theorem jO.below {w wx w2:World} {cf cb cr:Array Value} (h:jO w cf cb cr wx) (hb:Below wx.heap.size wx w2):jO w cf cb cr w2 :=
  ⟨aj.below h.1 hb h.1.lt,aj.below h.2.1 hb h.2.1.lt,aj.below h.2.2.1 hb h.2.2.1.lt,h.2.2.2.trans (hb.mono h.2.2.2.size)⟩
theorem jO.made (w:World):jO w aI aI #[.int .i64 0,.int .i64 0] (((w.alloc (.cells aI 47)).alloc (.cells aI 47)).alloc (.cells #[.int .i64 0,.int .i64 0] 38)):=by
 refine⟨aj.alloc (aj.alloc (aj.new _ _ _) _) _,?_,?_,((qqb.alloc qql _).alloc (by simp) _).alloc (by simp;omega) _⟩
 ·have:=aj.alloc (aj.new (w.alloc (.cells aI 47)) 47 aI) (.cells #[.int .i64 0,.int .i64 0] 38);simpa using this
 have:=aj.new ((w.alloc (.cells aI 47)).alloc (.cells aI 47)) 38 #[.int .i64 0,.int .i64 0];simpa using this
theorem uh (B:Nat) (A:Option Addr) (n c:Nat) (l:List aG) (w:World) (hn:n≤maxLen) (hB:B≤w.heap.size) (hl:G8 w B A n l) (hw:(fu l).1≠0) :
    Calls Tryz.prog 34 #[.slice A n c] w fun e w'=>rJ B w.heap.size w' l e∧Below w.heap.size w w':=by
 have hrf:∀ w',Below w.heap.size w w'→Calls Tryz.prog 61 #[.slice A n c] w' fun e w2=>e=.returned (.agg #[.int .i64 (fu l).1,.int .i64 (fu l).2])∧Below w'.heap.size w' w2 :=
   fun w' hb=>pz A n c l w' hn (G8.weak (gC (hb.mono hB) (Nat.le_trans hB hb.size)) hl)
 have hne:((fu l).1 != 0)=true:=(by simpa using hw);have hp1:=qqh (jZ (back:=false) hw);have hp2:=qqh (jZ (back:=true) hw);clear hw hl hn;generalize hF:fu l=F at *;obtain⟨F1,F2⟩:=F;dsimp only at *;clear hF;have oX:=qqh hrf;have fQ:=qqh (jO.made w);clear hrf;go_enter Tryz.func34,Tryz.ntmps34;go_wp2_with fail;refine(oX.out _ fQ.out.2.2.2).mono ?_;rintro e w1 ⟨rfl,aT⟩;have hr:=jO.below fQ.out aT;have a0:w1.cell? ⟨w.heap.size,0,none⟩=some (.bool false):=hr.1.cell 0;have a1:w1.cell? ⟨w.heap.size,1,none⟩=some (.slice none 0 0):=hr.1.cell 1;have a2:w1.cell? ⟨w.heap.size,2,none⟩=some (.slice none 0 0):=hr.1.cell 2;have b0:w1.cell? ⟨w.heap.size+1,0,none⟩=some (.bool false):=hr.2.1.cell 0;have b1:w1.cell? ⟨w.heap.size+1,1,none⟩=some (.slice none 0 0):=hr.2.1.cell 1;have b2:w1.cell? ⟨w.heap.size+1,2,none⟩=some (.slice none 0 0):=hr.2.1.cell 2;have c0:w1.cell? ⟨w.heap.size+2,0,none⟩=some (.int .i64 0):=hr.2.2.1.cell 0;have c1:w1.cell? ⟨w.heap.size+2,1,none⟩=some (.int .i64 0):=hr.2.2.1.cell 1;have d0:=hr.1.frozen 0;have d1:=hr.1.frozen 1;have d2:=hr.1.frozen 2;have d3:=hr.2.1.frozen 0;have d4:=hr.2.1.frozen 1;have d5:=hr.2.1.frozen 2;have d6:=hr.2.2.1.frozen 0;have d7:=hr.2.2.1.frozen 1;have HR:=qqh hr;clear aT hr;go_upto_region 3 with fail;have lJ:jO w aI aI #[.int .i64 F1,.int .i64 F2] ((w1.setCell ⟨w.heap.size+1+1,0,none⟩ (.int .i64 F1)).setCell ⟨w.heap.size+1+1,1,none⟩ (.int .i64 F2)):=by
  obtain⟨g1,g2,g3,g4⟩:=HR.out;refine⟨au (au g1 (by omega)) (by omega),au (au g2 (by omega)) (by omega),?_,(g4.setCell (by simp;omega) _).setCell (by simp;omega) _⟩;have:=(g3.put 0 (.int .i64 F1)).put 1 (.int .i64 F2);simpa using this
 clear a0 a1 a2 b0 b1 b2 c0 c1 d0 d1 d2 d3 d4 d5 d6 d7 HR;generalize (w1.setCell ⟨w.heap.size+1+1,0,none⟩ (.int .i64 F1)).setCell ⟨w.heap.size+1+1,1,none⟩ (.int .i64 F2)=W3 at *;have a0:W3.cell? ⟨w.heap.size,0,none⟩=some (.bool false):=lJ.1.cell 0;have a1:W3.cell? ⟨w.heap.size,1,none⟩=some (.slice none 0 0):=lJ.1.cell 1;have a2:W3.cell? ⟨w.heap.size,2,none⟩=some (.slice none 0 0):=lJ.1.cell 2;have b0:W3.cell? ⟨w.heap.size+1,0,none⟩=some (.bool false):=lJ.2.1.cell 0;have b1:W3.cell? ⟨w.heap.size+1,1,none⟩=some (.slice none 0 0):=lJ.2.1.cell 1;have b2:W3.cell? ⟨w.heap.size+1,2,none⟩=some (.slice none 0 0):=lJ.2.1.cell 2;have c0:W3.cell? ⟨w.heap.size+1+1,0,none⟩=some (.int .i64 F1):=lJ.2.2.1.cell 0;have c1:W3.cell? ⟨w.heap.size+1+1,1,none⟩=some (.int .i64 F2):=lJ.2.2.1.cell 1;have d0:=lJ.1.frozen 0;have d1:=lJ.1.frozen 1;have d2:=lJ.1.frozen 2;have d3:=lJ.2.1.frozen 0;have d4:=lJ.2.1.frozen 1;have d5:=lJ.2.1.frozen 2;have d6:W3.frozen? ⟨w.heap.size+1+1,0,none⟩=false:=lJ.2.2.1.frozen 0;have d7:W3.frozen? ⟨w.heap.size+1+1,1,none⟩=false:=lJ.2.2.1.frozen 1;have bL:=qqh lJ.2.2.2;clear lJ;go_region
 all_goals
   go_wp2_with fail
   have fq:=(((((((bL.out.setCell (p:=⟨w.heap.size,0,none⟩) (by simp) (.bool false)).setCell (p:=⟨w.heap.size,1,none⟩) (by simp) (.slice none 0 0)).setCell (p:=⟨w.heap.size,2,none⟩) (by simp) (.slice none 0 0)).setCell (p:=⟨w.heap.size+1,0,none⟩) (by simp) (.bool false)).setCell (p:=⟨w.heap.size+1,1,none⟩) (by simp) (.slice none 0 0)).setCell (p:=⟨w.heap.size+1,2,none⟩) (by simp) (.slice none 0 0)).setCell (p:=⟨w.heap.size+1+1,0,none⟩) (by simp;omega) (.int .i64 F1)).setCell (p:=⟨w.heap.size+1+1,1,none⟩) (by simp;omega) (.int .i64 F2)
   refine bodyPost_ret (v:=.tuple #[.agg #[.bool false,.slice none 0 0,.slice none 0 0],.agg #[.bool false,.slice none 0 0,.slice none 0 0],.agg #[.int .i64 F1,.int .i64 F2]]) (by simp [results,Tryz.results34,go_sem,a0,a1,a2,b0,b1,b2,c0,c1]) rfl ⟨⟨[.bool false,.slice none 0 0,.slice none 0 0],[.bool false,.slice none 0 0,.slice none 0 0],rfl,rfl,by rw [hp1.out],by rw [hp1.out];exact ot _ _,by rw [hp2.out];exact ot _ _⟩,?_⟩
   exact fq.drew
theorem sy {w w1:World} {X:Nat→Prop} {mb:Nat} (hg:w.grownBy w1 (some mb)) (hX:∀ b,X b→b≠mb):ag w X w1 X:=fun b hx hl=>
  ⟨hg.block b hl (fun e=>hX b hx (by injection e)),hx,Nat.lt_of_lt_of_le hl hg.size⟩
theorem mZ {w w1:World} {mb g:Nat} {t:TypeId} {cs:Array Value} (hg:w.grownBy w1 (some mb)) (h:aj w g t cs) (hne:g≠mb):aj w1 g t cs :=
  (hg.block g h.lt (fun e=>hne (by injection e))).trans h
theorem Qg {w w1:World} {mb lo sz n:Nat} {e:TypeId} {v:Value} {xs:List Value} (hg:w.grownBy w1 (some mb)) (hm:mb<lo) (h:w.ownsRow lo e sz v n xs):w1.ownsRow lo e sz v n xs:=by
 refine World.ownsRow.kept h hg ?_;cases hv:v.ownBlock with
 | none=>exact .inl rfl
 | some b=>
  right;intro e;injection e with e;have:=(bk h hv).1;omega
theorem cM.map {B lo mb:Nat} {A A2:List aB} {P P2:List cA} {va vb vp vq:Value} {wx w1:World} (h:cM B lo A A2 P P2 va vb vp vq wx) (hg:wx.grownBy w1 (some mb)) (h1:B≤mb) (h2:mb<lo):cM B lo A A2 P P2 va vb vp vq w1 :=
  cM.kept (sy hg (fun b hb=>by rcases hb with h | h <;> omega)) (fun _ _ _ _ _ h=>Qg hg h2 h) h
theorem iH.map {ga gb gp gq mb:Nat} {ca cb cp cq:Value} {wx w1:World} (h:iH ga gb gp gq ca cb cp cq wx) (hg:wx.grownBy w1 (some mb)) (h1:ga≠mb) (h2:gb≠mb) (h3:gp≠mb) (h4:gq≠mb):iH ga gb gp gq ca cb cp cq w1 :=
  ⟨mZ hg h.1 h1,mZ hg h.2.1 h2,mZ hg h.2.2.1 h3,mZ hg h.2.2.2 h4⟩
theorem iH.below {ga gb gp gq:Nat} {ca cb cp cq:Value} {wx w1:World} (h:iH ga gb gp gq ca cb cp cq wx) (hb:Below wx.heap.size wx w1):iH ga gb gp gq ca cb cp cq w1 :=
  ⟨aj.below h.1 hb h.1.lt,aj.below h.2.1 hb h.2.1.lt,aj.below h.2.2.1 hb h.2.2.1.lt,aj.below h.2.2.2 hb h.2.2.2.lt⟩
theorem iH.set {ga gb gp gq g i:Nat} {u:Value} {ca cb cp cq:Value} {wx:World} (h:iH ga gb gp gq ca cb cp cq wx) (h1:ga≠g) (h2:gb≠g) (h3:gp≠g) (h4:gq≠g):iH ga gb gp gq ca cb cp cq (wx.setCell ⟨g,i,none⟩ u) :=
  ⟨au h.1 h1,au h.2.1 h2,au h.2.2.1 h3,au h.2.2.2 h4⟩
theorem jO.map {w wx w1:World} {cf cb cr:Array Value} {mb:Nat} (h:jO w cf cb cr wx) (hg:wx.grownBy w1 (some mb)) (hm:w.heap.size+3≤mb):jO w cf cb cr w1 :=
  ⟨mZ hg h.1 (by omega),mZ hg h.2.1 (by omega),mZ hg h.2.2.1 (by omega),h.2.2.2.grown hg h.2.2.2.size (fun k e=>by injection e with e;omega)⟩
theorem jO.Xq {w wx:World} {cf cb cr:Array Value} (h:jO w cf cb cr wx) (i:Nat) (u:Value):jO w (cf.setIfInBounds i u) cb cr (wx.setCell ⟨w.heap.size,i,none⟩ u) :=
  ⟨h.1.put i u,au h.2.1 (by omega),au h.2.2.1 (by omega),h.2.2.2.setCell (by simp) _⟩
theorem cM.fresh {B lo:Nat} {A A2:List aB} {P P2:List cA} {va vb vp vq:Value} {wx:World} (h:cM B lo A A2 P P2 va vb vp vq wx) (hlo:lo≤wx.heap.size):∀ b,wx.heap.size≤b→bg B lo va vb vp vq b:=by
 obtain⟨⟨_,_,_,_,o1⟩,⟨_,_,_,_,o2⟩,⟨_,_,_,_,o3⟩,⟨_,_,_,_,o4⟩,_⟩:=h;intro b hb;have ne:∀ {e:TypeId} {sz n:Nat} {v:Value} {xs:List Value},wx.ownsRow lo e sz v n xs→v.ownBlock≠some b:=fun ho e=>by
  have:=(bk ho e).2;omega
 exact .inr ⟨by omega,ne o1,ne o2,ne o3,ne o4⟩
theorem fC.set {w:World} {B mb n g i:Nat} {l:List aG} {u:Value} (h:fC w (· < B) mb n l) (h1:B≤g) (h2:g≠mb):fC (w.setCell ⟨g,i,none⟩ u) (· < B) mb n l :=
  fC.keep (ag.setCell u (fun b hb=>by dsimp only;omega) (fun _ h _=>h)) (Below.heap_setCell _ _ _ _ (Ne.symm h2)) h
theorem fC.below {w w':World} {B mb n:Nat} {l:List aG} (h:fC w (· < B) mb n l) (hb:Below w.heap.size w w'):fC w' (· < B) mb n l :=
  fC.keep (ag.below hb (fun _ h _=>h)) (hb.block _ h.lt) h
theorem zh {l:List aG} {k:Nat} {s t:QT} (h1:dA false l k=.ok s) (h2:dA true l k=.ok t):s.some? = t.some?∧s.only=t.only:=by
 rcases zX l k with ⟨s',t',g1,g2,g3,g4⟩ | ⟨e,g1,_⟩
 ·rw [h1]at g1;rw [h2]at g2;injection g1 with g1;injection g2 with g2;subst g1 g2;exact⟨g3,g4⟩
 rw [h1]at g1;cases g1
theorem oe {B lo:Nat} {l:List aG} {er:Int} {k:Nat} (hw:(fu l).1=0) (hk:k+1≤l.length) (h1:dA false l (k+1)=.error (er,(k:Int))) (h2:dA true l (k+1)=.error (er,(k:Int))) (w':World) :
    rJ B lo w' l (.returned (.tuple #[.agg #[.bool false,.slice none 0 0,.slice none 0 0],.agg #[.bool false,.slice none 0 0,.slice none 0 0],.agg #[.int .i64 er,.int .i64 k]])):=by
 have e1:=jU hw hk h1;have e2:=jU hw hk h2;exact⟨[.bool false,.slice none 0 0,.slice none 0 0],[.bool false,.slice none 0 0,.slice none 0 0],rfl,rfl,by rw [e1],by rw [e1];exact ot _ _,by rw [e2];exact ot _ _⟩
section
variable {back : Bool} {l : List aG} {k : Nat} {p : aG} {s : QT}
theorem rq {x:aa} (h:p.kind=1) (hl:fK (l.take k) p.name=some x):i9 back l k p s=.error (7,(k:Int)):=by
 unfold i9;rw [if_pos h,hl]
theorem pN (h:p.kind=1) (hl:fK (l.take k) p.name=none):i9 back l k p s=.ok s:=by
 unfold i9;rw [if_pos h,hl]
theorem lN (h:p.kind=3) (hs:s.some? = true):i9 back l k p s=.error (5,(k:Int)):=by
 unfold i9;rw [h,if_neg (by decide),if_pos rfl,if_pos hs]
theorem step_filter (h:p.kind=3) (hs:s.some? = false):i9 back l k p s=.ok ⟨true,p.set,s.ps,s.a⟩:=by
 unfold i9;rw [h,if_neg (by decide),if_pos rfl,if_neg (by rw [hs];decide)]
theorem zC (h:p.kind=4):i9 back l k p s=.ok ⟨s.some?,s.only,s.ps++gA s.a++[⟨if back=true then dO p.name else p.name,[]⟩],[]⟩:=by
 unfold i9;rw [h,if_neg (by decide),if_neg (by decide),if_pos rfl]
theorem j8 (h:p.kind=2) (hr:((eS (l.take k) p.left p.right).isSome && (eS (l.take k) p.right p.left).isSome)=false):i9 back l k p s=.error (7,(k:Int)):=by
 unfold i9;rw [h,if_neg (by decide),if_neg (by decide),if_neg (by decide)];cases h1:eS (l.take k) p.left p.right with
 | none=>rfl
 | some x=>
  cases h2:eS (l.take k) p.right p.left with
  | none=>rfl
  | some y=>rw [h1,h2]at hr;cases hr
theorem zU {x y:aB} (h:p.kind=2) (h1:eS (l.take k) p.left p.right=some x) (h2:eS (l.take k) p.right p.left=some y) :
    i9 back l k p s=.ok (if (back=true∧p.dir=1)∨(back=false∧p.dir=2)then s else ⟨s.some?,s.only,s.ps,s.a++[if back=true then y else x]⟩):=by
 unfold i9;rw [h,if_neg (by decide),if_neg (by decide),if_neg (by decide),h1,h2]
end
end Go.Proofs.YtblinekbpcdbfaaGreatDoor
