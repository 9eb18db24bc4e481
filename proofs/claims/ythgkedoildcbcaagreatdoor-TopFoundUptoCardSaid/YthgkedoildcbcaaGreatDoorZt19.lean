/- ClassSpan + SameScript + ReadyP + ReadySt + Close + Fail + Reverse + Ready + ReadyArm -/
import Derived.Test.YthgkedoildcbcaaGreatDoorZt11
import Derived.Test.YthgkedoildcbcaaGreatDoorZt1
import Derived.Deep.DeepCutAuto
import Derived.Test.YthgkedoildcbcaaGreatDoorZt15
import Derived.Test.YthgkedoildcbcaaGreatDoorRows
import Derived.Test.YthgkedoildcbcaaGreatDoorZt3
import Derived.Deep.QuietTactic
import Derived.BigQuiet
import Derived.Test.YthgkedoildcbcaaGreatDoorZt8
import Derived.Deep.RegionHeldLaw
import Derived.BigRegion
import Derived.Laws.OwnMore
import Derived.Test.YthgkedoildcbcaaGreatDoorZt13
set_option maxHeartbeats 3200000
set_option maxRecDepth 100000
namespace Go.Proofs.YthgkedoildcbcaaGreatDoor
open Go.RowKit
def Rh (w:World) (s:ag) (out i:Value) (wr:World):Prop :=
  ∃ j:Nat,j≤s.length∧i=.int .i64 ((2*j:Nat):Int)∧wr.ownsRow w.heap.size 77 2 out j (an (s.take j))∧Below w.heap.size w wr
theorem F7 (b off c:Nat) (s:ag) (N:Nat) (w:World) (hN:N=2*s.length) (hn:N≤1000) (hb:b<w.heap.size) (hr:∀ j u,(an s)[j]? = some u→w.cell? ⟨b,off+j,none⟩=some u) :
    Calls Tryz.prog 132 #[.slice (some ⟨b,off,none⟩) N c] w (dF w s 1000):=by
 obtain⟨i0,hi,y0,y1,y2⟩:=info_parts jZ;have HR:=qqh hr;have Yh:=qqh hN;clear hr hN;go_enter Tryz.func132,Tryz.ntmps132;go_wp2_with fail;go_loopw [3,4] (Rh w s) (fun _ i _=>N - (intOf i).toNat);(case atStart=>exact⟨0,Nat.zero_le _,rfl,World.ownsRow_nil _ _ _ _,Below.refl _ _⟩);obtain⟨j,hj,rfl,hown,eX⟩:=hrel;have hz:=eX.size;obtain⟨Av,cv,rfl,td⟩:=aI hown;by_cases hlt:j<s.length
 ·have agD:2*j+1<N:=(by have:=Yh.out;omega);have abn:j+1≤1000:=(by have:=Yh.out;omega);obtain⟨⟨x,y⟩,hx⟩:∃ z,s[j]? = some z:=⟨_,List.getElem?_eq_getElem hlt⟩;obtain⟨q0,q1⟩:=kI s j x y hx;rw [Nat.mul_comm j 2]at q0 q1;have d0:=(eX.cell (p:=⟨b,off+2*j,none⟩) hb).trans (HR.out _ _ q0);have d1:=(eX.cell (p:=⟨b,off+(2*j+1),none⟩) hb).trans (HR.out _ _ q1);have HT:=qqh (show s.take (j+1)=s.take j++[(x,y)] by rw [List.take_add_one,hx];rfl);have xN:=qqh (World.ownsRow.alloc hown (.cells #[.int .i32 x,.int .i32 y] 77));have b7:=qqh (eX.alloc hz (.cells #[.int .i32 x,.int .i32 y] 77));have HN:=qqh (Rd.new wr 77 2 1 [.int .i32 x,.int .i32 y] rfl);generalize hm:2*j=m at *;have HM:=qqh hm;clear hx q0 q1 hown eX hm;have hg:decide ((m:Int)<(N:Int))=true:=decide_eq_true (by omega);have hw1:IntKind.i64.wrap ((m:Int)+1)=((m+1:Nat):Int):=(by rw [wrap_small _ (by omega) (by omega)];omega);have k0:(0:Int)≤(m:Int):=(by omega);have k1:(m:Int)<(N:Int):=(by omega);have k2:(0:Int)≤(m:Int)+1:=(by omega);have k3:(m:Int)+1<(N:Int):=(by omega);go_upto_region 5 with fail;refine ay (S:=(fun w'=>w'.cell? ⟨b,off+m,none⟩=some (.int .i32 x)∧w'.cell? ⟨b,off+(m+1),none⟩=some (.int .i32 y))) [4,9] (by kernel_rfl) ⟨d0,d1⟩ (fun bH=>?_);refine tq 0 11 ?_;(try simp only [zp,za,z0,zs]);refine tq 1 12 ?_;(try simp only [zp,za,z0,zs]);refine tq 2 13 ?_;(try simp only [zp,za,z0,zs]);refine tq 3 14 ?_;(try simp only [zp,za,z0,zs]);refine tu 4 15 ?_;(try simp only [zp,za,z0,zs]);refine tq 5 16 ?_;(try simp only [zp,za,z0,zs]);refine tq 6 17 ?_;(try simp only [zp,za,z0,zs]);refine tq 7 18 ?_;(try simp only [zp,za,z0,zs]);refine tq 8 19 ?_;(try simp only [zp,za,z0,zs])
  refine tu 9 20 ?_;(try simp only [zp,za,z0,zs]);refine tq 10 21 ?_;(try simp only [zp,za,z0,zs]);refine aA (i:=11) (o:=⟨some 22,_,_,_,_,_⟩) (by kernel_rfl) rfl (by kernel_rfl) (fun K hK=>?_);go_simp;(try dsimp only);refine hK.out _ _ ?_;clear hK K;(try simp only [zp,za,z0,zs]);refine aA (i:=12) (o:=⟨some 23,_,_,_,_,_⟩) (by kernel_rfl) rfl (by kernel_rfl) (fun K hK=>?_);refine cj _ rfl (.tmp 11) (.tmp 22) 41 rfl w.heap.size 77 i0 _ 2 8 Tryz.underlying41 hi y0 y1 y2 rfl (by decide) _ _ _ rfl xN.out (wr.heap.size+1) (some ⟨wr.heap.size,0,none⟩) 1 1 [.int .i32 x,.int .i32 y] rfl HN.out (mY _ _) (by simp only [maxLen];omega) (by omega) b7.out.size ?_;intro v' w9 au;(try dsimp only);refine hK.out _ _ ?_;clear hK K;have eK:=qqh ((aD b7.out).trans (au.below (aD b7.out).size xN.out));have fN:=qqh (show w9.ownsRow w.heap.size 77 2 v' (j+1) (an (s.take (j+1))) by rw [HT.out,gP];exact au.own);clear au;(try simp only [zp,za,z0,zs]);refine tq 13 3 ?_;(try simp only [zp,za,z0,zs]);refine aJ (by kernel_rfl) ?_ _;go_simp;go_wp2_with fail;exact⟨⟨j+1,by omega,by rw [show((2*(j+1):Nat):Int)=(m:Int)+2 by have:=HM.out;omega],fN.out,eK.out⟩,by simp [intOf];omega⟩
 obtain rfl:j=s.length:=(by omega);have HF:=qqh (show wr.ownsRow w.heap.size 77 2 (.slice Av s.length cv) s.length (an s) by have:=hown;rwa [List.take_of_length_le (Nat.le_refl _)]at this);generalize hm:2*s.length=m at *;have hg:decide (m<N)=false:=decide_eq_false (by have:=Yh.out;omega);have Jh:s.length≤1000:=(by have:=Yh.out;omega);generalize s.length=k at *;clear hown hm;go_wp2_with fail;go_ret;exact⟨Av,_,cv,rfl,bW.cy HF.out (fun b hb=>(aQ HF.out hb).1),Jh,td,eX⟩
end Go.Proofs.YthgkedoildcbcaaGreatDoor
namespace Go.Proofs.YthgkedoildcbcaaGreatDoor
open Go.RowKit
def Iv (w:World) (cs ds:Array Value) (wx:World):Prop:=ai wx w.heap.size 53 cs∧ai wx (w.heap.size+1) 53 ds∧Below w.heap.size w wx
theorem Iv.below {w wx w2:World} {cs ds:Array Value} (h:Iv w cs ds wx) (hb:Below wx.heap.size wx w2):Iv w cs ds w2 :=
  ⟨ai.below h.1 hb h.1.lt,ai.below h.2.1 hb h.2.1.lt,h.2.2.trans (hb.mono h.2.2.size)⟩
def GM (w:World) (cs ds:Array Value) (g h:Nat) (a b:Array Value) (wx:World):Prop:=Iv w cs ds wx∧ai wx g 59 a∧ai wx h 59 b
theorem GM.below {w wx w2:World} {cs ds a b:Array Value} {g h:Nat} (q:GM w cs ds g h a b wx) (hb:Below wx.heap.size wx w2):GM w cs ds g h a b w2 :=
  ⟨q.1.below hb,ai.below q.2.1 hb q.2.1.lt,ai.below q.2.2 hb q.2.2.lt⟩
theorem GM.drew {w wx:World} {cs ds a b:Array Value} {g h:Nat} (q:GM w cs ds g h a b wx):GM w cs ds g h a b wx.drew:=⟨⟨q.1.1,q.1.2.1,q.1.2.2.drew⟩,q.2.1,q.2.2⟩
theorem Iv.two {w wx:World} {cs ds:Array Value} (q:Iv w cs ds wx) (a b:Array Value) :
    GM w cs ds wx.heap.size (wx.heap.size+1) a b ((wx.alloc (.cells a 59)).alloc (.cells b 59)):=by
 have h1:=((Below.refl wx.heap.size wx).alloc (Nat.le_refl _) (.cells a 59)).alloc (by simp) (.cells b 59);refine⟨q.below h1,ai.alloc (ai.new _ _ _) _,?_⟩;have:=ai.new (wx.alloc (.cells a 59)) 59 b;rwa [show(wx.alloc (.cells a 59)).heap.size=wx.heap.size+1 by simp]at this
end Go.Proofs.YthgkedoildcbcaaGreatDoor
namespace Go.Proofs.YthgkedoildcbcaaGreatDoor
open Go.RowKit
structure QG where
  some? : Bool
  only:ag
  ps:List cn
  a:List aj
def hJ:List aj→List cn
  | []=>[]
  | x::r=>[⟨⟨#[]⟩,x::r⟩]
def eu (s:ByteArray):ByteArray:=if s=fY then fX else if s=fX then fY else lg
def jx (back:Bool) (l:List aF) (i:Nat) (p:aF) (s:QG):Except (Int × Int) QG :=
  if p.kind=1 then (match gA (l.take i) p.name with
    | some _=>.error (7,i)
    | none=>.ok s)
  else if p.kind=3 then (if s.some? = true then .error (5,i)else .ok ⟨true,p.set,s.ps,s.a⟩)
  else if p.kind=4 then .ok ⟨s.some?,s.only,s.ps++hJ s.a++[⟨if back=true then eu p.name else p.name,[]⟩],[]⟩
  else match eY (l.take i) p.left p.right,eY (l.take i) p.right p.left with
    | some x,some y=>.ok (if (back=true∧p.dir=1)∨(back=false∧p.dir=2)then s else ⟨s.some?,s.only,s.ps,s.a++[if back=true then y else x]⟩)
    | _,_=>.error (7,i)
def dP (back:Bool) (l:List aF):Nat→Except (Int × Int) QG
  | 0=>.ok ⟨false,[],[],[]⟩
  | k+1=>match dP back l k with
    | .error e=>.error e
    | .ok s=>match l[k]? with
      | some p=>jx back l k p s
      | none=>.ok s
def oC:b8:=⟨false,[],[]⟩
def dD (back:Bool) (l:List aF):b8 × (Int × Int) :=
  if (fP l).1≠0 then (oC,fP l)else match dP back l l.length with
    | .error e=>(oC,e)
    | .ok s=>(⟨s.some?,s.only,if back=true then (s.ps++hJ s.a).reverse else s.ps++hJ s.a⟩,(0,0))
theorem lA {back:Bool} {l:List aF} {k:Nat} {p:aF} {s:QG} (h:dP back l k=.ok s) (hp:l[k]? = some p):dP back l (k+1)=jx back l k p s:=by
 rw [dP,h];simp only [hp]
theorem ED {back:Bool} {l:List aF} {k:Nat} {e:Int × Int} (h:dP back l k=.error e):∀ m,k≤m→dP back l m=.error e:=by
 intro m hm;induction m with
 | zero=>
  obtain rfl:k=0:=(by omega);exact h
 | succ m ih=>
  rcases Nat.lt_or_ge m k with h1 | h1
  ·obtain rfl:k=m+1:=(by omega);exact h
  rw [dP,ih h1]
theorem kJ {back:Bool} {l:List aF} (h:(fP l).1≠0):dD back l=(oC,fP l):=by
 unfold dD;rw [if_pos h]
theorem kP {back:Bool} {l:List aF} {k:Nat} {e:Int × Int} (h:(fP l).1=0) (hk:k≤l.length) (h1:dP back l k=.error e):dD back l=(oC,e):=by
 unfold dD;rw [if_neg (by simp [h]),ED h1 _ hk]
theorem pS {back:Bool} {l:List aF} {s:QG} (h:(fP l).1=0) (h1:dP back l l.length=.ok s):dD back l=(⟨s.some?,s.only,if back=true then (s.ps++hJ s.a).reverse else s.ps++hJ s.a⟩,(0,0)):=by
 unfold dD;rw [if_neg (by simp [h]),h1]
theorem AP (l:List aF):∀ k,(∃ s t,dP false l k=.ok s∧dP true l k=.ok t∧s.some? = t.some?∧s.only=t.only)∨(∃ e,dP false l k=.error e∧dP true l k=.error e):=by
 intro k;induction k with
 | zero=>exact .inl ⟨_,_,rfl,rfl,rfl,rfl⟩
 | succ k ih=>
  rcases ih with ⟨s,t,h1,h2,h3,h4⟩ | ⟨e,h1,h2⟩
  ·cases hp:l[k]? with
   | none=>exact .inl ⟨s,t,by rw [dP,h1];simp only [hp],by rw [dP,h2];simp only [hp],h3,h4⟩
   | some p=>
    rw [lA h1 hp,lA h2 hp];unfold jx;by_cases k1:p.kind=1
    ·rw [if_pos k1,if_pos k1];cases gA (l.take k) p.name with
     | none=>exact .inl ⟨s,t,rfl,rfl,h3,h4⟩
     | some x=>exact .inr ⟨_,rfl,rfl⟩
    rw [if_neg k1,if_neg k1];by_cases k3:p.kind=3
    ·rw [if_pos k3,if_pos k3,h3];by_cases ht:t.some? = true
     ·rw [if_pos ht,if_pos ht];exact .inr ⟨_,rfl,rfl⟩
     rw [if_neg ht,if_neg ht];exact .inl ⟨_,_,rfl,rfl,rfl,rfl⟩
    rw [if_neg k3,if_neg k3];by_cases k4:p.kind=4
    ·rw [if_pos k4,if_pos k4];exact .inl ⟨_,_,rfl,rfl,h3,h4⟩
    rw [if_neg k4,if_neg k4];cases eY (l.take k) p.left p.right with
    | none=>exact .inr ⟨_,rfl,rfl⟩
    | some x=>
     cases eY (l.take k) p.right p.left with
     | none=>exact .inr ⟨_,rfl,rfl⟩
     | some y=>
      refine .inl ⟨_,_,rfl,rfl,?_,?_⟩
      ·by_cases d1:p.dir=1 <;> by_cases d2:p.dir=2 <;> simp [d1,d2,h3]
      by_cases d1:p.dir=1 <;> by_cases d2:p.dir=2 <;> simp [d1,d2,h4]
  exact .inr ⟨e,by rw [dP,h1],by rw [dP,h2]⟩
theorem EG (s:ByteArray) (w:World):Calls Tryz.prog 67 #[.string s] w fun e w'=>e=.returned (.string (eu s))∧w=w':=by
 have e1:fY.toList = [117,112,112,101,114]:=(by rw [Lib.toList_data];rfl);have e2:fX.toList = [108,111,119,101,114]:=(by rw [Lib.toList_data];rfl);have q1:(s.toList == [117,112,112,101,114])=decide (s=fY):=(by rw [← e1,MN]);have q2:(s.toList == [108,111,119,101,114])=decide (s=fX):=(by rw [← e2,MN]);clear e1 e2;by_cases h1:s=fY
 ·have p1:(s.toList == [117,112,112,101,114])=true:=(by rw [q1];simpa using h1);have HI:=qqh (show eu s=⟨#[108,111,119,101,114]⟩ by unfold eu;rw [if_pos h1];rfl);clear h1 q1 q2;go_enter Tryz.func67,Tryz.ntmps67;go_wp2;go_ret;rw [HI.out];exact⟨rfl,rfl⟩
 have p1:(s.toList == [117,112,112,101,114])=false:=(by rw [q1];simpa using h1);by_cases h2:s=fX
 ·have p2:(s.toList == [108,111,119,101,114])=true:=(by rw [q2];simpa using h2);have HI:=qqh (show eu s=⟨#[117,112,112,101,114]⟩ by unfold eu;rw [if_neg h1,if_pos h2];rfl);clear h1 h2 q1 q2;go_enter Tryz.func67,Tryz.ntmps67;go_wp2;go_ret;rw [HI.out];exact⟨rfl,rfl⟩
 have p2:(s.toList == [108,111,119,101,114])=false:=(by rw [q2];simpa using h2);have HI:=qqh (show eu s=⟨#[110,117,108,108]⟩ by unfold eu;rw [if_neg h1,if_neg h2];rfl);clear h1 h2 q1 q2;go_enter Tryz.func67,Tryz.ntmps67;go_wp2;go_ret;rw [HI.out];exact⟨rfl,rfl⟩
end Go.Proofs.YthgkedoildcbcaaGreatDoor
namespace Go.Proofs.YthgkedoildcbcaaGreatDoor
open Go.RowKit
def bw (B lo:Nat) (va vb vp vq:Value) (b:Nat):Prop:=b<B∨(lo≤b∧va.ownBlock≠some b∧vb.ownBlock≠some b∧vp.ownBlock≠some b∧vq.ownBlock≠some b)
def cS (B lo:Nat) (A A2:List aj) (P P2:List cn) (va vb vp vq:Value) (wx:World):Prop :=
  dH (aO wx (bw B lo va vb vp vq)) 68 7 wx lo va A∧dH (aO wx (bw B lo va vb vp vq)) 68 7 wx lo vb A2 ∧
  dH (cM wx (bw B lo va vb vp vq)) 59 2 wx lo vp P∧dH (cM wx (bw B lo va vb vp vq)) 59 2 wx lo vq P2 ∧
  (∀ b,va.ownBlock=some b→vb.ownBlock≠some b)∧(∀ b,vp.ownBlock=some b→vq.ownBlock≠some b)
section
variable {B lo : Nat} {A A2 : List aj} {P P2 : List cn} {va vb vp vq v' : Value} {wx w2 : World}
theorem bw.yt {b:Nat} (h:bw B lo va vb vp vq b):bw B lo vb va vp vq b:=h.imp id (fun⟨h1,h2,h3,h4⟩=>⟨h1,h3,h2,h4⟩)
theorem bw.ux {b:Nat} (h:bw B lo va vb vp vq b):bw B lo va vb vq vp b:=h.imp id (fun⟨h1,h2,h3,h4,h5⟩=>⟨h1,h2,h3,h5,h4⟩)
theorem cS.nil (B lo:Nat) (w:World):cS B lo [] [] [] [] (.slice none 0 0) (.slice none 0 0) (.slice none 0 0) (.slice none 0 0) w :=
  ⟨dH.nil _ _,dH.nil _ _,dH.nil _ _,dH.nil _ _,fun b h=>by simp [Value.ownBlock]at h,fun b h=>by simp [Value.ownBlock]at h⟩
theorem cS.kept (hk:af wx (bw B lo va vb vp vq) w2 (bw B lo va vb vp vq)) (ho:∀ (e:TypeId) (sz n:Nat) (v:Value) (xs:List Value),wx.ownsRow lo e sz v n xs→w2.ownsRow lo e sz v n xs)
    (h:cS B lo A A2 P P2 va vb vp vq wx):cS B lo A A2 P P2 va vb vp vq w2:=by
 obtain⟨h1,h2,h3,h4,h5,h6⟩:=h;exact⟨h1.kept (ho _ _ · _ ·) (fun _ _=>aO.keep hk),h2.kept (ho _ _ · _ ·) (fun _ _=>aO.keep hk),h3.kept (ho _ _ · _ ·) (fun _ _=>cM.keep hk),h4.kept (ho _ _ · _ ·) (fun _ _=>cM.keep hk),h5,h6⟩
theorem cS.below (h:cS B lo A A2 P P2 va vb vp vq wx) (hb:Below wx.heap.size wx w2):cS B lo A A2 P P2 va vb vp vq w2 :=
  cS.kept (af.below hb (fun _ h _=>h)) (fun _ _ _ _ _ h=>dy h hb) h
theorem cS.alloc (h:cS B lo A A2 P P2 va vb vp vq wx) (o:Obj):cS B lo A A2 P P2 va vb vp vq (wx.alloc o):=h.below ((Below.refl _ _).alloc (Nat.le_refl _) o)
theorem cS.yt (h:cS B lo A A2 P P2 va vb vp vq wx):cS B lo A2 A P P2 vb va vp vq wx:=by
 obtain⟨h1,h2,h3,h4,h5,h6⟩:=h;have hk:af wx (bw B lo va vb vp vq) wx (bw B lo vb va vp vq):=af.refl (fun _ h=>h.yt);exact⟨h2.weak (fun _ _=>aO.keep hk),h1.weak (fun _ _=>aO.keep hk),h3.weak (fun _ _=>cM.keep hk),h4.weak (fun _ _=>cM.keep hk),fun b hb hc=>h5 b hc hb,h6⟩
theorem cS.ux (h:cS B lo A A2 P P2 va vb vp vq wx):cS B lo A A2 P2 P va vb vq vp wx:=by
 obtain⟨h1,h2,h3,h4,h5,h6⟩:=h;have hk:af wx (bw B lo va vb vp vq) wx (bw B lo va vb vq vp):=af.refl (fun _ h=>h.ux);exact⟨h1.weak (fun _ _=>aO.keep hk),h2.weak (fun _ _=>aO.keep hk),h4.weak (fun _ _=>cM.keep hk),h3.weak (fun _ _=>cM.keep hk),h5,fun b hb hc=>h6 b hc hb⟩
theorem cS.drop (h:cS B lo A A2 P P2 va vb vp vq wx):cS B lo [] A2 P P2 (.slice none 0 0) vb vp vq wx:=by
 obtain⟨_,h2,h3,h4,_,h6⟩:=h;have hk:af wx (bw B lo va vb vp vq) wx (bw B lo (.slice none 0 0) vb vp vq):=af.refl (fun _ h=>h.imp id (fun⟨g1,_,g3⟩=>⟨g1,by simp [Value.ownBlock],g3⟩));exact⟨dH.nil _ _,h2.weak (fun _ _=>aO.keep hk),h3.weak (fun _ _=>cM.keep hk),h4.weak (fun _ _=>cM.keep hk),fun b hb=>by simp [Value.ownBlock]at hb,h6⟩
theorem cS.AJ (UF:B≤lo) {css:List (List Value)} {p:cn} {cs:List Value} {t:TypeId} (h:cS B lo A A2 P P2 va vb vp vq wx) (h1:css.length=P.length)
    (h2:∀ (i:Nat) (a:cn) (cs:List Value),P[i]? = some a→css[i]? = some cs→cM wx (bw B lo va vb vp vq) a cs) (h3:∀ cs∈css,cs.length=2) (h4:wx.ownsRow lo 59 2 vp P.length css.flatten)
    (hp:cM wx (bw B lo va vb vp vq) p cs) (hcs:cs.length=2) (ha:aR lo 59 2 vp (wx.alloc (.cells cs.toArray t)) (P.length+1) (css.flatten++cs) v' w2):cS B lo A A2 (P++[p]) P2 va vb v' vq w2:=by
 obtain⟨g1,g2,_,g4,g5,g6⟩:=h;have hk:af wx (bw B lo va vb vp vq) w2 (bw B lo va vb v' vq):=by
  intro b hb hl;have jo:b<(wx.alloc (.cells cs.toArray t)).heap.size:=(by simp;omega);have hne:vp.ownBlock≠some b:=by
   rcases hb with hb | hb
   ·intro e;have:=(aQ h4 e).1;omega
   exact hb.2.2.2.1
  refine⟨(ha.2.1.block b jo (fun e=>hne e.symm)).trans (heap_alloc_old wx _ hl),hb.imp id (fun⟨a1,a2,a3,a4,a5⟩=>⟨a1,a2,a3,?_,a5⟩),Nat.lt_of_lt_of_le jo ha.2.1.size⟩;rcases ha.2.2 with e | e
  ·rw [e];exact a4
  rw [e];intro he;injection he with he;omega
 have ow:=World.ownsRow.alloc h4 (.cells cs.toArray t)
 have kr:∀ {v:Value} {n:Nat} {xs:List Value},wx.ownsRow lo 68 7 v n xs→w2.ownsRow lo 68 7 v n xs:=fun hv=>
   sM (World.ownsRow.alloc hv (.cells cs.toArray t)) ha (uW (World.ownsRow.alloc hv _) ow (by decide))
 have kq:∀ {n:Nat} {xs:List Value},wx.ownsRow lo 59 2 vq n xs→w2.ownsRow lo 59 2 vq n xs:=fun hv=>
   sM (World.ownsRow.alloc hv (.cells cs.toArray t)) ha (uU g6)
 refine⟨g1.kept (fun _ _ h=>kr h) (fun _ _=>aO.keep hk),g2.kept (fun _ _ h=>kr h) (fun _ _=>aO.keep hk),dH.push h1 h2 h3 (fun _ _=>cM.keep hk) (hp.keep hk) hcs ha,g4.kept (fun _ _ h=>kq h) (fun _ _=>cM.keep hk),g5,?_⟩;intro b hb hc;rcases ha.2.2 with e | e
 ·rw [e]at hb;exact g6 b hb hc
 rw [e]at hb;obtain⟨c4,_,_,_,o4⟩:=g4;have:=(aQ (World.ownsRow.alloc o4 (.cells cs.toArray t)) hc).2;injection hb with hb;omega
theorem cS.Ii (UF:B≤lo) {css:List (List Value)} {r:aj} {cs:List Value} {t:TypeId} (h:cS B lo A A2 P P2 va vb vp vq wx) (h1:css.length=A.length)
    (h2:∀ (i:Nat) (a:aj) (cs:List Value),A[i]? = some a→css[i]? = some cs→aO wx (bw B lo va vb vp vq) a cs) (h3:∀ cs∈css,cs.length=7) (h4:wx.ownsRow lo 68 7 va A.length css.flatten)
    (hp:aO wx (bw B lo va vb vp vq) r cs) (hcs:cs.length=7) (ha:aR lo 68 7 va (wx.alloc (.cells cs.toArray t)) (A.length+1) (css.flatten++cs) v' w2):cS B lo (A++[r]) A2 P P2 v' vb vp vq w2:=by
 obtain⟨_,g2,g3,g4,g5,g6⟩:=h;have hk:af wx (bw B lo va vb vp vq) w2 (bw B lo v' vb vp vq):=by
  intro b hb hl;have jo:b<(wx.alloc (.cells cs.toArray t)).heap.size:=(by simp;omega);have hne:va.ownBlock≠some b:=by
   rcases hb with hb | hb
   ·intro e;have:=(aQ h4 e).1;omega
   exact hb.2.1
  refine⟨(ha.2.1.block b jo (fun e=>hne e.symm)).trans (heap_alloc_old wx _ hl),hb.imp id (fun⟨a1,a2,a3,a4,a5⟩=>⟨a1,?_,a3,a4,a5⟩),Nat.lt_of_lt_of_le jo ha.2.1.size⟩;rcases ha.2.2 with e | e
  ·rw [e];exact a2
  rw [e];intro he;injection he with he;omega
 have ow:=World.ownsRow.alloc h4 (.cells cs.toArray t)
 have kp:∀ {v:Value} {n:Nat} {xs:List Value},wx.ownsRow lo 59 2 v n xs→w2.ownsRow lo 59 2 v n xs:=fun hv=>
   sM (World.ownsRow.alloc hv (.cells cs.toArray t)) ha (uW (World.ownsRow.alloc hv _) ow (by decide))
 have kb:∀ {n:Nat} {xs:List Value},wx.ownsRow lo 68 7 vb n xs→w2.ownsRow lo 68 7 vb n xs:=fun hv=>
   sM (World.ownsRow.alloc hv (.cells cs.toArray t)) ha (uU g5)
 refine⟨dH.push h1 h2 h3 (fun _ _=>aO.keep hk) (hp.keep hk) hcs ha,g2.kept (fun _ _ h=>kb h) (fun _ _=>aO.keep hk),g3.kept (fun _ _ h=>kp h) (fun _ _=>cM.keep hk),g4.kept (fun _ _ h=>kp h) (fun _ _=>cM.keep hk),?_,g6⟩;intro b hb hc;rcases ha.2.2 with e | e
 ·rw [e]at hb;exact g5 b hb hc
 rw [e]at hb;obtain⟨c2,_,_,_,o2⟩:=g2;have:=(aQ (World.ownsRow.alloc o2 (.cells cs.toArray t)) hc).2;injection hb with hb;omega
theorem cS.pass (h:cS B lo A A2 P P2 va vb vp vq wx) (hl:A.length≤maxLen) (nm:ByteArray):cM wx (bw B lo (.slice none 0 0) vb vp vq) ⟨nm,A⟩ [.string nm,va]:=by
 obtain⟨h1,_,h3,h4,h5,_⟩:=h;obtain⟨Aa,c,rfl,_⟩:=h1.form;refine⟨_,rfl,Aa,A.length,c,rfl,dH.done h1 (fun _ _=>aO.keep (af.refl (fun _ h=>h.imp id (fun⟨g1,_,g3⟩=>⟨g1,by simp [Value.ownBlock],g3⟩)))) (fun b hb=>.inr ?_),hl⟩;obtain⟨css,_,_,_,o1⟩:=h1;obtain⟨Ul,_,_,_,o3⟩:=h3;obtain⟨UD,_,_,_,o4⟩:=h4;have ne:∀ {v:Value} {n:Nat} {xs:List Value},wx.ownsRow lo 59 2 v n xs→v.ownBlock≠some b:=by
  intro v n xs ho;rcases o1.2 with ⟨hv,_⟩ | ⟨g,cap,cur,hv,_,hg,_⟩
  ·rw [hv]at hb;simp [Value.ownBlock]at hb
  rw [hv]at hb;simp only [Value.ownBlock,Option.some.injEq]at hb;subst hb;exact mA ho hg (by decide)
 exact⟨(aQ o1 hb).1,by simp [Value.ownBlock],h5 b hb,ne o3,ne o4⟩
end
end Go.Proofs.YthgkedoildcbcaaGreatDoor
namespace Go.Proofs.YthgkedoildcbcaaGreatDoor
open Go.RowKit
theorem Ai:(Tryz.prog.info? 59).map (fun i=>(i.zero,i.size,i.bytes))=some (some (.agg #[.string ⟨#[]⟩,.slice none 0 0]),2,40):=by kernel_rfl
def Eh (ga gb gp gq:Nat) (vp vq:Value) (w w':World):Prop :=
  w'.os=w.os∧w'.tape=w.tape∧w'.output=w.output∧w.heap.size≤w'.heap.size ∧
  ∀ k,k<w.heap.size→k≠ga→k≠gb→k≠gp→k≠gq→vp.ownBlock≠some k→vq.ownBlock≠some k→w'.heap[k]? = w.heap[k]?
def ji (ga gb gp gq:Nat) (ca cb cp cq:Value) (w:World):Prop :=
  ai w ga 23 #[ca]∧ai w gb 23 #[cb]∧ai w gp 51 #[cp]∧ai w gq 51 #[cq]
structure Ll (B lo ga gb gp gq:Nat):Prop where
  Bl:B≤lo
  a1:B≤ga
  a2:ga<lo
  b1:B≤gb
  b2:gb<lo
  p1:B≤gp
  p2:gp<lo
  q1:B≤gq
  q2:gq<lo
  ab:ga≠gb
  ap:ga≠gp
  aq:ga≠gq
  bp:gb≠gp
  bq:gb≠gq
  pq:gp≠gq
section
variable {B lo : Nat} {A A2 : List aj} {P P2 : List cn} {va vb vp vq : Value} {wx : World}
theorem cS.set {g i:Nat} {u:Value} (h:cS B lo A A2 P P2 va vb vp vq wx) (h1:B≤g) (h2:g<lo):cS B lo A A2 P P2 va vb vp vq (wx.setCell ⟨g,i,none⟩ u) :=
  cS.kept (af.setCell u (fun b hb=>by rcases hb with h | h <;> dsimp only <;> omega) (fun _ h _=>h)) (fun _ _ _ _ _ h=>rD h h2) h
end
def Wm (B lo ga gb gp gq:Nat) (A2:List aj) (P P2:List cn) (ca vb vp vq:Value) (w:World) (wx:World):Prop :=
  ∃ FT,cS B lo [] A2 P P2 (.slice none 0 0) vb FT vq wx∧ji ga gb gp gq ca vb FT vq wx∧Eh ga gb gp gq vp vq w wx∧(∀ k,FT.ownBlock=some k→vp.ownBlock=some k∨w.heap.size≤k)
theorem Al (B lo ga gb gp gq:Nat) (pl:Ll B lo ga gb gp gq) (A A2:List aj) (P P2:List cn) (va vb vp vq:Value) (w:World) (hlo:lo≤w.heap.size) (hst:cS B lo A A2 P P2 va vb vp vq w) (hv:ji ga gb gp gq va vb vp vq w)
    (hA:A.length≤1000) (Qh:A2.length≤1000) (hP:P.length≤1000) (hP2:P2.length≤1000) :
    Calls Tryz.prog 64 #[.pointer (some ⟨ga,0,none⟩),.pointer (some ⟨gp,0,none⟩),.pointer (some ⟨gb,0,none⟩),.pointer (some ⟨gq,0,none⟩)] w fun e w'=>e=.returned (.tuple #[]) ∧
      ∃ FT E0,cS B lo [] [] (P++hJ A) (P2++hJ A2) (.slice none 0 0) (.slice none 0 0) FT E0 w'∧ji ga gb gp gq (.slice none 0 0) (.slice none 0 0) FT E0 w'∧Eh ga gb gp gq vp vq w w'∧(∀ k,FT.ownBlock=some k→vp.ownBlock=some k∨w.heap.size≤k)∧(∀ k,E0.ownBlock=some k→vq.ownBlock=some k∨w.heap.size≤k):=by
 obtain⟨i0,hi,hz0,xK,yW⟩:=info_parts Ai;obtain⟨pBl,pa1,pa2,pb1,pb2,pp1,pp2,pq1,pq2,pab,pap,paq,pbp,pbq,ppq⟩:=pl;obtain⟨Aa,ka,rfl,_⟩:=hst.1.form;obtain⟨Ab,kb,rfl,_⟩:=hst.2.1.form;obtain⟨Ap,kp,rfl,_⟩:=hst.2.2.1.form;obtain⟨Aq,kq,rfl,_⟩:=hst.2.2.2.1.form;have a0:w.cell? ⟨ga,0,none⟩=some (.slice Aa A.length ka):=hv.1.cell 0;have fB:=qqh hst;have HV:=qqh hv;clear hst hv;go_enter Tryz.func64,Tryz.ntmps64;go_upto_if 6 with fail;go_cut [] (fun wx=>Wm B lo ga gb gp gq A2 (P++hJ A) P2 (.slice Aa A.length ka) (.slice Ab A2.length kb) (.slice Ap P.length kp) (.slice Aq P2.length kq) w wx);case first=>
  by_cases h0:0<A.length
  ·obtain⟨x,r,U8⟩:∃ x r,A=x::r:=by
    cases A with
    | nil=>simp at h0
    | cons x r=>exact⟨x,r,rfl⟩
   have Rz:=qqh (show hJ A = [⟨⟨#[]⟩,A⟩] by rw [U8];rfl);clear U8;have b0:w.cell? ⟨gp,0,none⟩=some (.slice Ap P.length kp):=HV.out.2.2.1.cell 0;have Oa:=fB.out.drop;have hps:=fB.out.pass (by unfold maxLen;omega) ⟨#[]⟩;have qo:=Oa;obtain⟨_,_,⟨css,g1,g2,g3,g4⟩,_⟩:=qo;have HN:=qqh (Rd.new w 59 2 1 [.string ⟨#[]⟩,.slice Aa A.length ka] rfl);have HO:=qqh (World.ownsRow.alloc g4 (.cells #[.string ⟨#[]⟩,.slice Aa A.length ka] 59));have HD:=qqh Oa;have HP:=qqh hps;have G1:=qqh g1;have G2:=qqh g2;have G3:=qqh g3;have G4:=qqh g4;have E4:=qqh (show ∀ u ∈ [Value.string ⟨#[]⟩,Value.slice Aa A.length ka],u.oneCell'=true by intro x hx;simp at hx;rcases hx with rfl | rfl <;> rfl);have HZ:=qqh (show lo≤(w.alloc (.cells #[.string ⟨#[]⟩,.slice Aa A.length ka] 59)).heap.size by simp;omega);clear Oa hps g1 g2 g3 g4;go_wp2_with (at_builtin;refine ak _ rfl (.tmp 7) (.tmp 10) 51 rfl lo 59 i0 _ 2 40 Tryz.underlying51 hi hz0 xK yW rfl (by decide) _ _ _ rfl HO.out _ (some ⟨w.heap.size,0,none⟩) 1 1 [.string ⟨#[]⟩,.slice Aa A.length ka] rfl HN.out E4.out (by simp only [maxLen];omega) (by omega) HZ.out ?_);intro v9 w9 au;have hsz:=HZ.out;have j6:=au.own;obtain⟨A9,k9,rfl,_⟩:=aI j6;clear j6;have wG:=cS.AJ pBl HD.out G1.out G2.out G3.out G4.out HP.out rfl au;have Cz:=bM (ai.alloc HV.out.2.2.1 (.cells #[.string ⟨#[]⟩,.slice Aa A.length ka] 59)) HO.out (by decide) au;have Lr:=bM (ai.alloc HV.out.1 (.cells #[.string ⟨#[]⟩,.slice Aa A.length ka] 59)) HO.out (by decide) au;have Sy:=bM (ai.alloc HV.out.2.1 (.cells #[.string ⟨#[]⟩,.slice Aa A.length ka] 59)) HO.out (by decide) au
   have hvq:=bM (ai.alloc HV.out.2.2.2 (.cells #[.string ⟨#[]⟩,.slice Aa A.length ka] 59)) HO.out (by decide) au;have c9:w9.cell? ⟨gp,0,none⟩=some (.slice Ap P.length kp):=Cz.cell 0;have f9:=Cz.frozen 0;have nN:Eh ga gb gp gq (.slice Ap P.length kp) (.slice Aq P2.length kq) w w9:=by
    refine⟨au.2.1.os,au.2.1.tape,au.2.1.output,Nat.le_trans (by simp) au.2.1.size,fun k hk _ _ _ _ h1 _=>?_⟩;exact(au.2.1.block k (by simp;omega) (fun e=>h1 e.symm)).trans (heap_alloc_old w _ hk)
   have rJ:∀ k,(Value.slice A9 (P.length+1) k9).ownBlock=some k→(Value.slice Ap P.length kp).ownBlock=some k∨w.heap.size≤k:=by
    intro k hk;rcases au.2.2 with e | e;exact .inl (e ▸ hk);rw [e]at hk;injection hk with hk;right;simp at hk;omega
   have I7:=qqh wG;have xM:=qqh nN;have V7:=qqh rJ;have On:=qqh Cz;have Wc:=qqh Lr;have HVB:=qqh Sy;have HVQ:=qqh hvq;clear au wG Cz Lr Sy hvq nN rJ;go_wp2_with fail;go_meet;refine⟨.slice A9 (P.length+1) k9,?_,⟨av Wc.out pap,av HVB.out pbp,?_,av HVQ.out (Ne.symm ppq)⟩,⟨xM.out.1,xM.out.2.1,xM.out.2.2.1,by simpa using xM.out.2.2.2.1,fun k hk h1 h2 h3 h4 h5 h6=>?_⟩,V7.out⟩
   ·rw [Rz.out];exact cS.set I7.out pp1 pp2
   exact On.out.put 0 _;exact(Below.heap_setCell _ _ _ _ h3).trans (xM.out.2.2.2.2 k hk h1 h2 h3 h4 h5 h6)
  have Sw:A = []:=List.eq_nil_of_length_eq_zero (by omega);have Rz:=qqh (show P++hJ A=P by rw [Sw];simp [hJ]);clear Sw;go_wp2_with fail;go_meet;refine⟨_,?_,HV.out,⟨rfl,rfl,rfl,Nat.le_refl _,fun _ _ _ _ _ _ _ _=>rfl⟩,fun k hk=>.inl hk⟩;rw [Rz.out];exact fB.out.drop
 obtain⟨FT,OI,KR,aW,hg1⟩:=hcut;obtain⟨Ap',kp',rfl,_⟩:=OI.2.2.1.form;have iZ:=qqh OI.yt.ux;have KJ:=qqh KR;have b7:=qqh aW;have ki:=qqh hg1;have b0:wc.cell? ⟨gb,0,none⟩=some (.slice Ab A2.length kb):=KR.2.1.cell 0;have hPl:(P++hJ A).length≤1001:=(by rw [List.length_append];cases A <;> simp [hJ] <;> omega);clear OI KR aW hg1;generalize hP1:P++hJ A=P1 at *;have yY:=qqh hP1;clear hP1;go_upto_if 14 with fail;go_cut [] (fun wx=>∃ E0,cS B lo [] [] (P2++hJ A2) P1 (.slice none 0 0) (.slice none 0 0) E0 (.slice Ap' P1.length kp') wx∧ji ga gb gp gq (.slice Aa A.length ka) (.slice Ab A2.length kb) (.slice Ap' P1.length kp') E0 wx∧Eh ga gb gp gq (.slice Ap P.length kp) (.slice Aq P2.length kq) w wx∧(∀ k,E0.ownBlock=some k→(Value.slice Aq P2.length kq).ownBlock=some k∨w.heap.size≤k));case first=>
  by_cases h0:0<A2.length
  ·obtain⟨x,r,U8⟩:∃ x r,A2=x::r:=by
    cases A2 with
    | nil=>simp at h0
    | cons x r=>exact⟨x,r,rfl⟩
   have Rz:=qqh (show hJ A2 = [⟨⟨#[]⟩,A2⟩] by rw [U8];rfl);clear U8;have b1:wc.cell? ⟨gq,0,none⟩=some (.slice Aq P2.length kq):=KJ.out.2.2.2.cell 0;have Oa:=iZ.out.drop;have hps:=iZ.out.pass (by unfold maxLen;omega) ⟨#[]⟩;have qo:=Oa;obtain⟨_,_,⟨css,g1,g2,g3,g4⟩,_⟩:=qo;have HN:=qqh (Rd.new wc 59 2 1 [.string ⟨#[]⟩,.slice Ab A2.length kb] rfl);have HO:=qqh (World.ownsRow.alloc g4 (.cells #[.string ⟨#[]⟩,.slice Ab A2.length kb] 59));have HD:=qqh Oa;have HP:=qqh hps;have G1:=qqh g1;have G2:=qqh g2;have G3:=qqh g3;have G4:=qqh g4;have E4:=qqh (show ∀ u ∈ [Value.string ⟨#[]⟩,Value.slice Ab A2.length kb],u.oneCell'=true by intro x hx;simp at hx;rcases hx with rfl | rfl <;> rfl);have hwc:=b7.out.2.2.2.1;have HZ:=qqh (show lo≤(wc.alloc (.cells #[.string ⟨#[]⟩,.slice Ab A2.length kb] 59)).heap.size by simp;omega);clear Oa hps g1 g2 g3 g4;go_wp2_with (at_builtin;refine ak _ rfl (.tmp 15) (.tmp 18) 51 rfl lo 59 i0 _ 2 40 Tryz.underlying51 hi hz0 xK yW rfl (by decide) _ _ _ rfl HO.out _ (some ⟨wc.heap.size,0,none⟩) 1 1 [.string ⟨#[]⟩,.slice Ab A2.length kb] rfl HN.out E4.out (by simp only [maxLen];omega) (by omega) HZ.out ?_);intro v9 w9 au;have hsz:=HZ.out;have j6:=au.own;obtain⟨A9,k9,rfl,_⟩:=aI j6;clear j6;have wG:=cS.AJ pBl HD.out G1.out G2.out G3.out G4.out HP.out rfl au;have Cz:=bM (ai.alloc KJ.out.2.2.2 (.cells #[.string ⟨#[]⟩,.slice Ab A2.length kb] 59)) HO.out (by decide) au;have Lr:=bM (ai.alloc KJ.out.1 (.cells #[.string ⟨#[]⟩,.slice Ab A2.length kb] 59)) HO.out (by decide) au
   have Sy:=bM (ai.alloc KJ.out.2.1 (.cells #[.string ⟨#[]⟩,.slice Ab A2.length kb] 59)) HO.out (by decide) au;have hvp:=bM (ai.alloc KJ.out.2.2.1 (.cells #[.string ⟨#[]⟩,.slice Ab A2.length kb] 59)) HO.out (by decide) au;have c9:w9.cell? ⟨gq,0,none⟩=some (.slice Aq P2.length kq):=Cz.cell 0;have f9:=Cz.frozen 0;have nN:Eh ga gb gp gq (.slice Ap P.length kp) (.slice Aq P2.length kq) w w9:=by
    obtain⟨y1,y2,y3,y4,y5⟩:=b7.out;refine⟨au.2.1.os.trans y1,au.2.1.tape.trans y2,au.2.1.output.trans y3,Nat.le_trans y4 (Nat.le_trans (by simp) au.2.1.size),fun k hk z1 z2 z3 z4 h1 h2=>?_⟩;exact((au.2.1.block k (by simp;omega) (fun e=>h2 e.symm)).trans (heap_alloc_old wc _ (by omega))).trans (y5 k hk z1 z2 z3 z4 h1 h2)
   have rJ:∀ k,(Value.slice A9 (P2.length+1) k9).ownBlock=some k→(Value.slice Aq P2.length kq).ownBlock=some k∨w.heap.size≤k:=by
    intro k hk;rcases au.2.2 with e | e;exact .inl (e ▸ hk);rw [e]at hk;injection hk with hk;right;simp at hk;omega
   have I7:=qqh wG;have xM:=qqh nN;have V7:=qqh rJ;have On:=qqh Cz;have Wc:=qqh Lr;have HVB:=qqh Sy;have HVP:=qqh hvp;clear au wG Cz Lr Sy hvp nN rJ;go_wp2_with fail;go_meet;refine⟨.slice A9 (P2.length+1) k9,?_,⟨av Wc.out paq,av HVB.out pbq,av HVP.out ppq,On.out.put 0 _⟩,⟨xM.out.1,xM.out.2.1,xM.out.2.2.1,by simpa using xM.out.2.2.2.1,fun k hk h1 h2 h3 h4 h5 h6=>?_⟩,V7.out⟩
   ·rw [Rz.out];exact cS.set I7.out pq1 pq2
   exact(Below.heap_setCell _ _ _ _ h4).trans (xM.out.2.2.2.2 k hk h1 h2 h3 h4 h5 h6)
  have Sw:A2 = []:=List.eq_nil_of_length_eq_zero (by omega);have Rz:=qqh (show P2++hJ A2=P2 by rw [Sw];simp [hJ]);clear Sw;go_wp2_with fail;go_meet;refine⟨_,?_,KJ.out,b7.out,fun k hk=>.inl hk⟩;rw [Rz.out];exact iZ.out.drop
 obtain⟨E0,jm,CV,bu,hg2⟩:=hcut;have c1:wc.cell? ⟨ga,0,none⟩=some (.slice Aa A.length ka):=CV.1.cell 0;have c2:wc.cell? ⟨gb,0,none⟩=some (.slice Ab A2.length kb):=CV.2.1.cell 0;have f1:=CV.1.frozen 0;have f2:=CV.2.1.frozen 0;have iX:=qqh jm;have QT:=qqh CV;have bG:=qqh bu;have mZ:=qqh hg2;clear jm CV bu hg2;go_wp2_with fail;go_end0;rw [yY.out];refine⟨rfl,_,E0,(cS.set (cS.set iX.out pa1 pa2) pb1 pb2).ux,⟨av (QT.out.1.put 0 _) pab,(av QT.out.2.1 (Ne.symm pab)).put 0 _,av (av QT.out.2.2.1 (Ne.symm pap)) (Ne.symm pbp),av (av QT.out.2.2.2 (Ne.symm paq)) (Ne.symm pbq)⟩,⟨bG.out.1,bG.out.2.1,bG.out.2.2.1,by simpa using bG.out.2.2.2.1,fun k hk h1 h2 h3 h4 h5 h6=>?_⟩,ki.out,mZ.out⟩;exact((Below.heap_setCell _ _ _ _ h2).trans (Below.heap_setCell _ _ _ _ h1)).trans (bG.out.2.2.2.2 k hk h1 h2 h3 h4 h5 h6)
end Go.Proofs.YthgkedoildcbcaaGreatDoor
namespace Go.Proofs.YthgkedoildcbcaaGreatDoor
open Go.RowKit
abbrev aC:Array Value:=#[.bool false,.slice none 0 0,.slice none 0 0]
theorem rQ (er i:Int) (g:Nat) (w:World) (hi:w.cell? ⟨g,0,none⟩=some (.int .i64 i)) :
    Calls Tryz.prog 65 #[.int .i64 er,.pointer (some ⟨g,0,none⟩)] w fun e w'=>e=.returned (.tuple #[.agg aC,.agg aC,.agg #[.int .i64 er,.int .i64 i]])∧Below w.heap.size w w':=by
 have hg:=World.block_lt_of_cell? w _ hi;have z0:=ai.alloc (ai.alloc (ai.new w 53 aC) (.cells aC 53)) (.cells #[.int .i64 0,.int .i64 0] 32);have z1:=ai.alloc (ai.new (w.alloc (.cells aC 53)) 53 aC) (.cells #[.int .i64 0,.int .i64 0] 32);have z2:=ai.new ((w.alloc (.cells aC 53)).alloc (.cells aC 53)) 32 #[.int .i64 0,.int .i64 0];rw [show(w.alloc (.cells aC 53)).heap.size=w.heap.size+1 by simp]at z1;rw [show((w.alloc (.cells aC 53)).alloc (.cells aC 53)).heap.size=w.heap.size+1+1 by simp]at z2;have hb:=(((Below.refl w.heap.size w).alloc (Nat.le_refl _) (.cells aC 53)).alloc (by simp) (.cells aC 53)).alloc (by simp;omega) (.cells #[.int .i64 0,.int .i64 0] 32);have hc:(((w.alloc (.cells aC 53)).alloc (.cells aC 53)).alloc (.cells #[.int .i64 0,.int .i64 0] 32)).cell? ⟨g,0,none⟩=some (.int .i64 i):=(hb.cell hg).trans hi;have Z0:=qqh z0;have Z1:=qqh z1;have Z2:=qqh z2;have HB:=qqh hb;have HC:=qqh hc;clear z0 z1 z2 hb hc;go_enter Tryz.func65,Tryz.ntmps65;go_upto_region 1 with fail;have z0:=Z0.out;have z1:=Z1.out;have z2:=Z2.out;have hb:=HB.out;have hc:=HC.out;have hg0:g≠w.heap.size:=(by simp only at hg;omega);have hg1:g≠w.heap.size+1:=(by simp only at hg;omega);have hg2:g≠w.heap.size+1+1:=(by simp only at hg;omega);clear Z0 Z1 Z2 HB HC
 generalize ((w.alloc (.cells aC 53)).alloc (.cells aC 53)).alloc (.cells #[.int .i64 0,.int .i64 0] 32)=W3 at *;have a0:W3.cell? ⟨w.heap.size,0,none⟩=some (.bool false):=z0.cell 0;have a1:W3.cell? ⟨w.heap.size,1,none⟩=some (.slice none 0 0):=z0.cell 1;have a2:W3.cell? ⟨w.heap.size,2,none⟩=some (.slice none 0 0):=z0.cell 2;have b0:W3.cell? ⟨w.heap.size+1,0,none⟩=some (.bool false):=z1.cell 0;have b1:W3.cell? ⟨w.heap.size+1,1,none⟩=some (.slice none 0 0):=z1.cell 1;have b2:W3.cell? ⟨w.heap.size+1,2,none⟩=some (.slice none 0 0):=z1.cell 2;have c0:W3.cell? ⟨w.heap.size+1+1,0,none⟩=some (.int .i64 0):=z2.cell 0;have c1:W3.cell? ⟨w.heap.size+1+1,1,none⟩=some (.int .i64 0):=z2.cell 1;have d0:=z0.frozen 0;have d1:=z0.frozen 1;have d2:=z0.frozen 2;have d3:=z1.frozen 0;have d4:=z1.frozen 1;have d5:=z1.frozen 2;have d6:=z2.frozen 0;have d7:=z2.frozen 1;have bG:=qqh hb;clear z0 z1 z2 hb;go_region
 all_goals
   go_wp2_with fail
   have eX:=(((((((bG.out.setCell (p:=⟨w.heap.size,0,none⟩) (by simp) (.bool false)).setCell (p:=⟨w.heap.size,1,none⟩) (by simp) (.slice none 0 0)).setCell (p:=⟨w.heap.size,2,none⟩) (by simp) (.slice none 0 0)).setCell (p:=⟨w.heap.size+1,0,none⟩) (by simp) (.bool false)).setCell (p:=⟨w.heap.size+1,1,none⟩) (by simp) (.slice none 0 0)).setCell (p:=⟨w.heap.size+1,2,none⟩) (by simp) (.slice none 0 0)).setCell (p:=⟨w.heap.size+1+1,0,none⟩) (by simp;omega) (.int .i64 er)).setCell (p:=⟨w.heap.size+1+1,1,none⟩) (by simp;omega) (.int .i64 i)
   refine bodyPost_ret (v:=.tuple #[.agg #[.bool false,.slice none 0 0,.slice none 0 0],.agg #[.bool false,.slice none 0 0,.slice none 0 0],.agg #[.int .i64 er,.int .i64 i]]) (by simp [results,Tryz.results65,go_sem,a0,a1,a2,b0,b1,b2,c0,c1]) rfl ⟨rfl,?_⟩
   exact eX.drew
end Go.Proofs.YthgkedoildcbcaaGreatDoor
namespace Go.Proofs.YthgkedoildcbcaaGreatDoor
open Go.RowKit
def sw (n k t:Nat):Nat:=if t<k∨n - 1 - k<t then n - 1 - t else t
def Qw (xs:List Value) (i j:Nat) (a b c d:Value):List Value:=(((xs.set (i*2) c).set (i*2+1) d).set (j*2) a).set (j*2+1) b
def Wk (w:World) (g lo n cap:Nat) (ys:List Value) (i j:Value) (wr:World):Prop :=
  ∃ (k q:Nat) (xs:List Value),q+k+1=n∧k≤q+1∧i=.int .i64 k∧j=.int .i64 q∧wr.ownsRow lo 59 2 (.slice (some ⟨g,0,none⟩) n cap) n xs∧w.grownBy wr (some g) ∧
    ∀ t d,t<n→d<2→xs[t*2+d]? = ys[sw n k t*2+d]?
theorem JT {n k q:Nat} {xs ys:List Value} {a b c d:Value} (hn:q+k+1=n) (Ik:k<q) (hxl:xs.length=n*2) (h:∀ t d,t<n→d<2→xs[t*2+d]? = ys[sw n k t*2+d]?)
    (h0:ys[k*2]? = some a) (h1:ys[k*2+1]? = some b) (h2:ys[q*2]? = some c) (h3:ys[q*2+1]? = some d) :
    ∀ t e,t<n→e<2→(Qw xs k q a b c d)[t*2+e]? = ys[sw n (k+1) t*2+e]?:=by
 intro t e ht he;unfold Qw;have hsw:sw n (k+1) t=if t=k then q else if t=q then k else sw n k t:=by
  unfold sw;by_cases e1:t=k
  ·subst e1;rw [if_pos rfl,if_pos (by omega)];omega
  rw [if_neg e1];by_cases e2:t=q
  ·subst e2;rw [if_pos rfl,if_pos (by omega)];omega
  rw [if_neg e2];by_cases e3:t<k∨n - 1 - k<t
  ·rw [if_pos e3,if_pos (by omega)]
  rw [if_neg e3,if_neg (by omega)]
 rw [hsw];simp only [List.getElem?_set,List.length_set];by_cases e1:t=k
 ·subst e1;rw [if_pos rfl];rcases (show e=0∨e=1 by omega)with rfl | rfl
  ·rw [if_neg (by omega),if_neg (by omega),if_neg (by omega),if_pos (by omega),if_pos (by omega),Nat.add_zero,h2]
  rw [if_neg (by omega),if_neg (by omega),if_pos (by omega),if_pos (by omega),h3]
 rw [if_neg e1];by_cases e2:t=q
 ·subst e2;rw [if_pos rfl];rcases (show e=0∨e=1 by omega)with rfl | rfl
  ·rw [if_neg (by omega),if_pos (by omega),if_pos (by omega),Nat.add_zero,h0]
  rw [if_pos (by omega),if_pos (by omega),h1]
 rw [if_neg e2,if_neg (by omega),if_neg (by omega),if_neg (by omega),if_neg (by omega)];exact h t e ht he
theorem LF {n k q:Nat} {xs:List Value} {css:List (List Value)} (hn:q+k+1=n) (hq:q≤k) (hl:css.length=n) (h2:∀ cs∈css,cs.length=2) (hxl:xs.length=n*2) (h:∀ t d,t<n→d<2→xs[t*2+d]? = css.flatten[sw n k t*2+d]?):xs=css.reverse.flatten:=by
 have h2r:∀ cs∈css.reverse,cs.length=2:=fun cs hc=>h2 cs (List.mem_reverse.1 hc);apply List.ext_getElem?;intro m;by_cases hm:m<n*2
 ·have ht:m / 2<n:=(by omega);have hd:m % 2<2:=Nat.mod_lt _ (by decide);have em:m / 2*2+m % 2=m:=(by omega);have e1:=h (m / 2) (m % 2) ht hd;rw [em]at e1;obtain⟨cs,hcs⟩:∃ z,css[n - 1 - m / 2]? = some z:=⟨_,List.getElem?_eq_getElem (by omega)⟩;obtain⟨u,hu⟩:∃ u,cs[m % 2]? = some u:=⟨_,List.getElem?_eq_getElem (by rw [h2 cs (List.mem_of_getElem? hcs)];exact hd)⟩;have hsw:sw n k (m / 2)=n - 1 - m / 2:=by
   unfold sw;by_cases e:m / 2<k∨n - 1 - k<m / 2
   ·rw [if_pos e]
   rw [if_neg e];omega
  have e2:=dX h2 _ cs hcs _ u hu;have hr:css.reverse[m / 2]? = some cs:=by
   rw [List.getElem?_reverse (by omega),hl];exact hcs
  have e3:=dX h2r _ cs hr _ u hu;rw [em]at e3;rw [e1,hsw,e2,e3]
 have hlen:css.reverse.flatten.length=n*2:=by
  have:∀ (l:List (List Value)),(∀ cs∈l,cs.length=2)→l.flatten.length=l.length*2:=by
   intro l;induction l with
   | nil=>intro _;rfl
   | cons a l ih=>
    intro ha;rw [List.flatten_cons,List.length_append,ih (fun x hx=>ha x (by simp [hx])),ha a (by simp),List.length_cons];omega
  rw [this _ h2r,List.length_reverse,hl]
 rw [List.getElem?_eq_none (by omega),List.getElem?_eq_none (by omega)]
theorem Di (lo g n cap:Nat) (css:List (List Value)) (w:World) (hn:0<n) (hn2:n≤1000) (hl:css.length=n) (hc:∀ cs∈css,∃ s A m c,cs = [.string s,.slice A m c]) (ho:w.ownsRow lo 59 2 (.slice (some ⟨g,0,none⟩) n cap) n css.flatten) :
    Calls Tryz.prog 69 #[.slice (some ⟨g,0,none⟩) n cap] w fun e w'=>e=.returned (.tuple #[])∧w'.ownsRow lo 59 2 (.slice (some ⟨g,0,none⟩) n cap) n css.reverse.flatten∧w.grownBy w' (some g):=by
 have h2:∀ cs∈css,cs.length=2:=fun cs h=>(by obtain⟨s,A,m,c,rfl⟩:=hc cs h;rfl);have HL:=qqh hl;have HC:=qqh hc;have H2:=qqh h2;have HO:=qqh ho;clear hl hc h2 ho;go_enter Tryz.func69,Tryz.ntmps69;go_wp2_with fail;go_loopw [2,3] (Wk w g lo n cap css.flatten) (fun i j _=>n - (intOf i).toNat);case atStart=>
  refine⟨0,n - 1,css.flatten,by omega,by omega,rfl,by go_num,HO.out,World.grownBy.refl _ _,fun t d ht hd=>?_⟩;unfold sw;rw [if_neg (by omega)]
 obtain⟨k,q,xs,Ik,aeT,rfl,rfl,hown,rJ,hx⟩:=hrel;by_cases hlt:k<q
 ·obtain⟨c1,hc1⟩:∃ z,css[k]? = some z:=⟨_,List.getElem?_eq_getElem (by rw [HL.out];omega)⟩;obtain⟨c2,hc2⟩:∃ z,css[q]? = some z:=⟨_,List.getElem?_eq_getElem (by rw [HL.out];omega)⟩;obtain⟨s1,A1,m1,d1,rfl⟩:=HC.out c1 (List.mem_of_getElem? hc1);obtain⟨s2,A2,m2,d2,rfl⟩:=HC.out c2 (List.mem_of_getElem? hc2);have y0:css.flatten[k*2]? = some (.string s1):=dX H2.out k _ hc1 0 _ rfl;have y1:css.flatten[k*2+1]? = some (.slice A1 m1 d1):=dX H2.out k _ hc1 1 _ rfl;have y2:css.flatten[q*2]? = some (.string s2):=dX H2.out q _ hc2 0 _ rfl;have y3:css.flatten[q*2+1]? = some (.slice A2 m2 d2):=dX H2.out q _ hc2 1 _ rfl;have sk:sw n k k=k:=(by unfold sw;rw [if_neg (by omega)]);have sq:sw n k q=q:=(by unfold sw;rw [if_neg (by omega)]);have x0:xs[k*2]? = some (Value.string s1):=(hx k 0 (by omega) (by omega)).trans (by rw [sk];exact y0);have x1:xs[k*2+1]? = some (Value.slice A1 m1 d1):=(hx k 1 (by omega) (by omega)).trans (by rw [sk];exact y1);have x2:xs[q*2]? = some (Value.string s2):=(hx q 0 (by omega) (by omega)).trans (by rw [sq];exact y2);have x3:xs[q*2+1]? = some (Value.slice A2 m2 d2):=(hx q 1 (by omega) (by omega)).trans (by rw [sq];exact y3);have z0:wr.cell? ⟨g,k*2,none⟩=some (.string s1):=(by have:=World.ownsRow.cells hown (g:=g) rfl _ _ x0;rwa [j9,Nat.zero_add]at this);have z1:wr.cell? ⟨g,k*2+1,none⟩=some (.slice A1 m1 d1):=(by have:=World.ownsRow.cells hown (g:=g) rfl _ _ x1;rwa [j9,Nat.zero_add]at this);have z2:wr.cell? ⟨g,q*2,none⟩=some (.string s2):=(by have:=World.ownsRow.cells hown (g:=g) rfl _ _ x2;rwa [j9,Nat.zero_add]at this);have z3:wr.cell? ⟨g,q*2+1,none⟩=some (.slice A2 m2 d2):=(by have:=World.ownsRow.cells hown (g:=g) rfl _ _ x3;rwa [j9,Nat.zero_add]at this);have f0:=World.ownsRow.frozenAt hown (k*2)
  have f1:=World.ownsRow.frozenAt hown (k*2+1);have f2:=World.ownsRow.frozenAt hown (q*2);have f3:=World.ownsRow.frozenAt hown (q*2+1);have hs:=World.ownsRow.stored (World.ownsRow.stored (World.ownsRow.stored (World.ownsRow.stored hown (k*2) (.string s2)).1 (k*2+1) (.slice A2 m2 d2)).1 (q*2) (.string s1)).1 (q*2+1) (.slice A1 m1 d1);have hgs:=(((rJ.trans (World.ownsRow.stored hown (k*2) (.string s2)).2).trans (World.ownsRow.stored (World.ownsRow.stored hown (k*2) (.string s2)).1 (k*2+1) (.slice A2 m2 d2)).2).trans (World.ownsRow.stored (World.ownsRow.stored (World.ownsRow.stored hown (k*2) (.string s2)).1 (k*2+1) (.slice A2 m2 d2)).1 (q*2) (.string s1)).2).trans hs.2;have fB:=qqh (JT Ik hlt hown.1 hx y0 y1 y2 y3);have HS:=qqh hs.1;have HG:=qqh hgs;have ahe:¬ k*2=q*2:=(by omega);have xW:¬ k*2=q*2+1:=(by omega);have yo:¬ k*2+1=q*2:=(by omega);have hkn:(k:Int)<(n:Int):=(by omega);have hqn:(q:Int)<(n:Int):=(by omega);clear hs hgs hx x0 x1 x2 x3 y0 y1 y2 y3 hc1 hc2 sk sq hown rJ;go_wp2_with fail;go_region
  all_goals
    go_wp2_with fail
    refine⟨⟨k+1,q - 1,_,by omega,by omega,by go_num,by go_num,HS.out,⟨HG.out.os,HG.out.tape,HG.out.output,HG.out.size,HG.out.block⟩,fB.out⟩,by simp [intOf];omega⟩
 have HX:=qqh (LF Ik (by omega) HL.out H2.out hown.1 hx);have HW:=qqh hown;have HG:=qqh rJ;clear hx hown rJ;go_wp2_with fail;go_end0;rw [← HX.out];exact⟨rfl,HW.out,HG.out⟩
theorem uk (A:Option Addr) (cap:Nat) (w:World) :
    Calls Tryz.prog 69 #[.slice A 0 cap] w fun e w'=>e=.returned (.tuple #[])∧w=w':=by
 go_enter Tryz.func69,Tryz.ntmps69;go_wp2_with fail;go_loopw [2,3] (fun i j wr=>i=.int .i64 0∧j=.int .i64 (-1)∧wr=w) (fun _ _ _=>0);(case atStart=>exact⟨rfl,rfl,rfl⟩);obtain⟨rfl,rfl,rfl⟩:=hrel;go_wp2_with fail;go_end0;exact⟨rfl,rfl⟩
end Go.Proofs.YthgkedoildcbcaaGreatDoor
namespace Go.Proofs.YthgkedoildcbcaaGreatDoor
open Go.RowKit Go.Maps
def sO (B lo:Nat) (w:World) (l:List aF) (e:Ending):Prop :=
  ∃ cs ds:List Value,cs.length=3∧ds.length=3∧e=.returned (.tuple #[.agg cs.toArray,.agg ds.toArray,.agg #[.int .i64 (dD false l).2.1,.int .i64 (dD false l).2.2]]) ∧
    ij w (Fr B lo) (dD false l).1 cs∧ij w (Fr B lo) (dD true l).1 ds
theorem pH (w:World) (X:Nat→Prop):ij w X oC [.bool false,.slice none 0 0,.slice none 0 0] :=
  ⟨_,_,rfl,⟨none,0,0,rfl,⟨rfl,fun h=>absurd h (Nat.lt_irrefl 0)⟩,Nat.zero_le _⟩,⟨none,0,0,rfl,⟨[],rfl,rfl,by simp,by simp,rfl,fun h=>absurd h (Nat.lt_irrefl 0)⟩,Nat.zero_le _⟩⟩
def j8 (w:World) (cf cb cr:Array Value) (wx:World):Prop :=
  ai wx w.heap.size 53 cf∧ai wx (w.heap.size+1) 53 cb∧ai wx (w.heap.size+2) 32 cr∧Below w.heap.size w wx
theorem j8.below {w wx w2:World} {cf cb cr:Array Value} (h:j8 w cf cb cr wx) (hb:Below wx.heap.size wx w2):j8 w cf cb cr w2 :=
  ⟨ai.below h.1 hb h.1.lt,ai.below h.2.1 hb h.2.1.lt,ai.below h.2.2.1 hb h.2.2.1.lt,h.2.2.2.trans (hb.mono h.2.2.2.size)⟩
theorem j8.made (w:World):j8 w aC aC #[.int .i64 0,.int .i64 0] (((w.alloc (.cells aC 53)).alloc (.cells aC 53)).alloc (.cells #[.int .i64 0,.int .i64 0] 32)):=by
 refine⟨ai.alloc (ai.alloc (ai.new _ _ _) _) _,?_,?_,(((Below.refl _ _).alloc (Nat.le_refl _) _).alloc (by simp) _).alloc (by simp;omega) _⟩
 ·have:=ai.alloc (ai.new (w.alloc (.cells aC 53)) 53 aC) (.cells #[.int .i64 0,.int .i64 0] 32);simpa using this
 have:=ai.new ((w.alloc (.cells aC 53)).alloc (.cells aC 53)) 32 #[.int .i64 0,.int .i64 0];simpa using this
theorem vT (B:Nat) (A:Option Addr) (n c:Nat) (l:List aF) (w:World) (hn:n≤maxLen) (hB:B≤w.heap.size) (hl:Ee w B A n l) (hw:(fP l).1≠0) :
    Calls Tryz.prog 37 #[.slice A n c] w fun e w'=>sO B w.heap.size w' l e∧Below w.heap.size w w':=by
 have hrf:∀ w',Below w.heap.size w w'→Calls Tryz.prog 63 #[.slice A n c] w' fun e w2=>e=.returned (.agg #[.int .i64 (fP l).1,.int .i64 (fP l).2])∧Below w'.heap.size w' w2 :=
   fun w' hb=>qC A n c l w' hn (Ee.weak (gn (hb.mono hB) (Nat.le_trans hB hb.size)) hl)
 have hne:((fP l).1 != 0)=true:=(by simpa using hw);have hp1:=qqh (kJ (back:=false) hw);have hp2:=qqh (kJ (back:=true) hw);clear hw hl hn;generalize hF:fP l=F at *;obtain⟨F1,F2⟩:=F;dsimp only at *;clear hF;have qj:=qqh hrf;have fZ:=qqh (j8.made w);clear hrf;go_enter Tryz.func37,Tryz.ntmps37;go_wp2_with fail;refine(qj.out _ fZ.out.2.2.2).mono ?_;rintro e w1 ⟨rfl,aW⟩;have hr:=j8.below fZ.out aW;have a0:w1.cell? ⟨w.heap.size,0,none⟩=some (.bool false):=hr.1.cell 0;have a1:w1.cell? ⟨w.heap.size,1,none⟩=some (.slice none 0 0):=hr.1.cell 1;have a2:w1.cell? ⟨w.heap.size,2,none⟩=some (.slice none 0 0):=hr.1.cell 2;have b0:w1.cell? ⟨w.heap.size+1,0,none⟩=some (.bool false):=hr.2.1.cell 0;have b1:w1.cell? ⟨w.heap.size+1,1,none⟩=some (.slice none 0 0):=hr.2.1.cell 1;have b2:w1.cell? ⟨w.heap.size+1,2,none⟩=some (.slice none 0 0):=hr.2.1.cell 2;have c0:w1.cell? ⟨w.heap.size+2,0,none⟩=some (.int .i64 0):=hr.2.2.1.cell 0;have c1:w1.cell? ⟨w.heap.size+2,1,none⟩=some (.int .i64 0):=hr.2.2.1.cell 1;have d0:=hr.1.frozen 0;have d1:=hr.1.frozen 1;have d2:=hr.1.frozen 2;have d3:=hr.2.1.frozen 0;have d4:=hr.2.1.frozen 1;have d5:=hr.2.1.frozen 2;have d6:=hr.2.2.1.frozen 0;have d7:=hr.2.2.1.frozen 1;have HR:=qqh hr;clear aW hr;go_upto_region 3 with fail;have lF:j8 w aC aC #[.int .i64 F1,.int .i64 F2] ((w1.setCell ⟨w.heap.size+1+1,0,none⟩ (.int .i64 F1)).setCell ⟨w.heap.size+1+1,1,none⟩ (.int .i64 F2)):=by
  obtain⟨g1,g2,g3,g4⟩:=HR.out;refine⟨av (av g1 (by omega)) (by omega),av (av g2 (by omega)) (by omega),?_,(g4.setCell (by simp;omega) _).setCell (by simp;omega) _⟩;have:=(g3.put 0 (.int .i64 F1)).put 1 (.int .i64 F2);simpa using this
 clear a0 a1 a2 b0 b1 b2 c0 c1 d0 d1 d2 d3 d4 d5 d6 d7 HR;generalize (w1.setCell ⟨w.heap.size+1+1,0,none⟩ (.int .i64 F1)).setCell ⟨w.heap.size+1+1,1,none⟩ (.int .i64 F2)=W3 at *;have a0:W3.cell? ⟨w.heap.size,0,none⟩=some (.bool false):=lF.1.cell 0;have a1:W3.cell? ⟨w.heap.size,1,none⟩=some (.slice none 0 0):=lF.1.cell 1;have a2:W3.cell? ⟨w.heap.size,2,none⟩=some (.slice none 0 0):=lF.1.cell 2;have b0:W3.cell? ⟨w.heap.size+1,0,none⟩=some (.bool false):=lF.2.1.cell 0;have b1:W3.cell? ⟨w.heap.size+1,1,none⟩=some (.slice none 0 0):=lF.2.1.cell 1;have b2:W3.cell? ⟨w.heap.size+1,2,none⟩=some (.slice none 0 0):=lF.2.1.cell 2;have c0:W3.cell? ⟨w.heap.size+1+1,0,none⟩=some (.int .i64 F1):=lF.2.2.1.cell 0;have c1:W3.cell? ⟨w.heap.size+1+1,1,none⟩=some (.int .i64 F2):=lF.2.2.1.cell 1;have d0:=lF.1.frozen 0;have d1:=lF.1.frozen 1;have d2:=lF.1.frozen 2;have d3:=lF.2.1.frozen 0;have d4:=lF.2.1.frozen 1;have d5:=lF.2.1.frozen 2;have d6:W3.frozen? ⟨w.heap.size+1+1,0,none⟩=false:=lF.2.2.1.frozen 0;have d7:W3.frozen? ⟨w.heap.size+1+1,1,none⟩=false:=lF.2.2.1.frozen 1;have bG:=qqh lF.2.2.2;clear lF;go_region
 all_goals
   go_wp2_with fail
   have eX:=(((((((bG.out.setCell (p:=⟨w.heap.size,0,none⟩) (by simp) (.bool false)).setCell (p:=⟨w.heap.size,1,none⟩) (by simp) (.slice none 0 0)).setCell (p:=⟨w.heap.size,2,none⟩) (by simp) (.slice none 0 0)).setCell (p:=⟨w.heap.size+1,0,none⟩) (by simp) (.bool false)).setCell (p:=⟨w.heap.size+1,1,none⟩) (by simp) (.slice none 0 0)).setCell (p:=⟨w.heap.size+1,2,none⟩) (by simp) (.slice none 0 0)).setCell (p:=⟨w.heap.size+1+1,0,none⟩) (by simp;omega) (.int .i64 F1)).setCell (p:=⟨w.heap.size+1+1,1,none⟩) (by simp;omega) (.int .i64 F2)
   refine bodyPost_ret (v:=.tuple #[.agg #[.bool false,.slice none 0 0,.slice none 0 0],.agg #[.bool false,.slice none 0 0,.slice none 0 0],.agg #[.int .i64 F1,.int .i64 F2]]) (by simp [results,Tryz.results37,go_sem,a0,a1,a2,b0,b1,b2,c0,c1]) rfl ⟨⟨[.bool false,.slice none 0 0,.slice none 0 0],[.bool false,.slice none 0 0,.slice none 0 0],rfl,rfl,by rw [hp1.out],by rw [hp1.out];exact pH _ _,by rw [hp2.out];exact pH _ _⟩,?_⟩
   exact eX.drew
end Go.Proofs.YthgkedoildcbcaaGreatDoor
namespace Go.Proofs.YthgkedoildcbcaaGreatDoor
open Go.RowKit Go.Maps
theorem uh {w w1:World} {X:Nat→Prop} {mb:Nat} (hg:w.grownBy w1 (some mb)) (hX:∀ b,X b→b≠mb):af w X w1 X:=fun b hx hl=>
  ⟨hg.block b hl (fun e=>hX b hx (by injection e)),hx,Nat.lt_of_lt_of_le hl hg.size⟩
theorem nL {w w1:World} {mb g:Nat} {t:TypeId} {cs:Array Value} (hg:w.grownBy w1 (some mb)) (h:ai w g t cs) (hne:g≠mb):ai w1 g t cs :=
  (hg.block g h.lt (fun e=>hne (by injection e))).trans h
theorem PS {w w1:World} {mb lo sz n:Nat} {e:TypeId} {v:Value} {xs:List Value} (hg:w.grownBy w1 (some mb)) (hm:mb<lo) (h:w.ownsRow lo e sz v n xs):w1.ownsRow lo e sz v n xs:=by
 refine World.ownsRow.kept h hg ?_;cases hv:v.ownBlock with
 | none=>exact .inl rfl
 | some b=>
  right;intro e;injection e with e;have:=(aQ h hv).1;omega
theorem cS.map {B lo mb:Nat} {A A2:List aj} {P P2:List cn} {va vb vp vq:Value} {wx w1:World} (h:cS B lo A A2 P P2 va vb vp vq wx) (hg:wx.grownBy w1 (some mb)) (h1:B≤mb) (h2:mb<lo):cS B lo A A2 P P2 va vb vp vq w1 :=
  cS.kept (uh hg (fun b hb=>by rcases hb with h | h <;> omega)) (fun _ _ _ _ _ h=>PS hg h2 h) h
theorem ji.map {ga gb gp gq mb:Nat} {ca cb cp cq:Value} {wx w1:World} (h:ji ga gb gp gq ca cb cp cq wx) (hg:wx.grownBy w1 (some mb)) (h1:ga≠mb) (h2:gb≠mb) (h3:gp≠mb) (h4:gq≠mb):ji ga gb gp gq ca cb cp cq w1 :=
  ⟨nL hg h.1 h1,nL hg h.2.1 h2,nL hg h.2.2.1 h3,nL hg h.2.2.2 h4⟩
theorem ji.below {ga gb gp gq:Nat} {ca cb cp cq:Value} {wx w1:World} (h:ji ga gb gp gq ca cb cp cq wx) (hb:Below wx.heap.size wx w1):ji ga gb gp gq ca cb cp cq w1 :=
  ⟨ai.below h.1 hb h.1.lt,ai.below h.2.1 hb h.2.1.lt,ai.below h.2.2.1 hb h.2.2.1.lt,ai.below h.2.2.2 hb h.2.2.2.lt⟩
theorem ji.set {ga gb gp gq g i:Nat} {u:Value} {ca cb cp cq:Value} {wx:World} (h:ji ga gb gp gq ca cb cp cq wx) (h1:ga≠g) (h2:gb≠g) (h3:gp≠g) (h4:gq≠g):ji ga gb gp gq ca cb cp cq (wx.setCell ⟨g,i,none⟩ u) :=
  ⟨av h.1 h1,av h.2.1 h2,av h.2.2.1 h3,av h.2.2.2 h4⟩
theorem j8.map {w wx w1:World} {cf cb cr:Array Value} {mb:Nat} (h:j8 w cf cb cr wx) (hg:wx.grownBy w1 (some mb)) (hm:w.heap.size+3≤mb):j8 w cf cb cr w1 :=
  ⟨nL hg h.1 (by omega),nL hg h.2.1 (by omega),nL hg h.2.2.1 (by omega),h.2.2.2.grown hg h.2.2.2.size (fun k e=>by injection e with e;omega)⟩
theorem j8.WW {w wx:World} {cf cb cr:Array Value} (h:j8 w cf cb cr wx) (i:Nat) (u:Value):j8 w (cf.setIfInBounds i u) cb cr (wx.setCell ⟨w.heap.size,i,none⟩ u) :=
  ⟨h.1.put i u,av h.2.1 (by omega),av h.2.2.1 (by omega),h.2.2.2.setCell (by simp) _⟩
theorem cS.fresh {B lo:Nat} {A A2:List aj} {P P2:List cn} {va vb vp vq:Value} {wx:World} (h:cS B lo A A2 P P2 va vb vp vq wx) (hlo:lo≤wx.heap.size):∀ b,wx.heap.size≤b→bw B lo va vb vp vq b:=by
 obtain⟨⟨_,_,_,_,o1⟩,⟨_,_,_,_,o2⟩,⟨_,_,_,_,o3⟩,⟨_,_,_,_,o4⟩,_⟩:=h;intro b hb;have ne:∀ {e:TypeId} {sz n:Nat} {v:Value} {xs:List Value},wx.ownsRow lo e sz v n xs→v.ownBlock≠some b:=fun ho e=>by
  have:=(aQ ho e).2;omega
 exact .inr ⟨by omega,ne o1,ne o2,ne o3,ne o4⟩
theorem gu.set {w:World} {B mb n g i:Nat} {l:List aF} {u:Value} (h:gu w (· < B) mb n l) (h1:B≤g) (h2:g≠mb):gu (w.setCell ⟨g,i,none⟩ u) (· < B) mb n l :=
  gu.keep (af.setCell u (fun b hb=>by dsimp only;omega) (fun _ h _=>h)) (Below.heap_setCell _ _ _ _ (Ne.symm h2)) h
theorem gu.below {w w':World} {B mb n:Nat} {l:List aF} (h:gu w (· < B) mb n l) (hb:Below w.heap.size w w'):gu w' (· < B) mb n l :=
  gu.keep (af.below hb (fun _ h _=>h)) (hb.block _ h.lt) h
theorem AS {l:List aF} {k:Nat} {s t:QG} (h1:dP false l k=.ok s) (h2:dP true l k=.ok t):s.some? = t.some?∧s.only=t.only:=by
 rcases AP l k with ⟨s',t',g1,g2,g3,g4⟩ | ⟨e,g1,_⟩
 ·rw [h1]at g1;rw [h2]at g2;injection g1 with g1;injection g2 with g2;subst g1 g2;exact⟨g3,g4⟩
 rw [h1]at g1;cases g1
theorem pI {B lo:Nat} {l:List aF} {er:Int} {k:Nat} (hw:(fP l).1=0) (hk:k+1≤l.length) (h1:dP false l (k+1)=.error (er,(k:Int))) (h2:dP true l (k+1)=.error (er,(k:Int))) (w':World) :
    sO B lo w' l (.returned (.tuple #[.agg #[.bool false,.slice none 0 0,.slice none 0 0],.agg #[.bool false,.slice none 0 0,.slice none 0 0],.agg #[.int .i64 er,.int .i64 k]])):=by
 have e1:=kP hw hk h1;have e2:=kP hw hk h2;exact⟨[.bool false,.slice none 0 0,.slice none 0 0],[.bool false,.slice none 0 0,.slice none 0 0],rfl,rfl,by rw [e1],by rw [e1];exact pH _ _,by rw [e2];exact pH _ _⟩
section
variable {back : Bool} {l : List aF} {k : Nat} {p : aF} {s : QG}
theorem rR {x:ag} (h:p.kind=1) (hl:gA (l.take k) p.name=some x):jx back l k p s=.error (7,(k:Int)):=by
 unfold jx;rw [if_pos h,hl]
theorem qE (h:p.kind=1) (hl:gA (l.take k) p.name=none):jx back l k p s=.ok s:=by
 unfold jx;rw [if_pos h,hl]
theorem mg (h:p.kind=3) (hs:s.some? = true):jx back l k p s=.error (5,(k:Int)):=by
 unfold jx;rw [h,if_neg (by decide),if_pos rfl,if_pos hs]
theorem step_filter (h:p.kind=3) (hs:s.some? = false):jx back l k p s=.ok ⟨true,p.set,s.ps,s.a⟩:=by
 unfold jx;rw [h,if_neg (by decide),if_pos rfl,if_neg (by rw [hs];decide)]
theorem AR (h:p.kind=4):jx back l k p s=.ok ⟨s.some?,s.only,s.ps++hJ s.a++[⟨if back=true then eu p.name else p.name,[]⟩],[]⟩:=by
 unfold jx;rw [h,if_neg (by decide),if_neg (by decide),if_pos rfl]
theorem kR (h:p.kind=2) (hr:((eY (l.take k) p.left p.right).isSome && (eY (l.take k) p.right p.left).isSome)=false):jx back l k p s=.error (7,(k:Int)):=by
 unfold jx;rw [h,if_neg (by decide),if_neg (by decide),if_neg (by decide)];cases h1:eY (l.take k) p.left p.right with
 | none=>rfl
 | some x=>
  cases h2:eY (l.take k) p.right p.left with
  | none=>rfl
  | some y=>rw [h1,h2]at hr;cases hr
theorem AB {x y:aj} (h:p.kind=2) (h1:eY (l.take k) p.left p.right=some x) (h2:eY (l.take k) p.right p.left=some y) :
    jx back l k p s=.ok (if (back=true∧p.dir=1)∨(back=false∧p.dir=2)then s else ⟨s.some?,s.only,s.ps,s.a++[if back=true then y else x]⟩):=by
 unfold jx;rw [h,if_neg (by decide),if_neg (by decide),if_neg (by decide),h1,h2]
end
end Go.Proofs.YthgkedoildcbcaaGreatDoor
