/- SameScript + ReadyP + ReadySt + Close + Fail + Reverse + Ready + ReadyArm -/
import Derived.Test.YtapechjebkjidaaGreatDoorZs14
import Derived.Test.YtapechjebkjidaaGreatDoorRows
import Derived.Test.YtapechjebkjidaaGreatDoorZs2
import Derived.Deep.QuietTactic
import Derived.BigQuiet
import Derived.Test.YtapechjebkjidaaGreatDoorZs8
import Derived.Deep.RegionHeldLaw
import Derived.Deep.DeepCutAuto
import Derived.BigRegion
import Derived.Laws.OwnMore
import Derived.Test.YtapechjebkjidaaGreatDoorZs12
set_option maxHeartbeats 3200000
set_option maxRecDepth 100000
namespace Go.Proofs.YtapechjebkjidaaGreatDoor
open Go.RowKit
def KE (w:World) (cs ds:Array Value) (wx:World):Prop:=ak wx w.heap.size 47 cs∧ak wx (w.heap.size+1) 47 ds∧Below w.heap.size w wx
theorem KE.below {w wx w2:World} {cs ds:Array Value} (h:KE w cs ds wx) (hb:Below wx.heap.size wx w2):KE w cs ds w2 :=
  ⟨ak.below h.1 hb h.1.lt,ak.below h.2.1 hb h.2.1.lt,h.2.2.trans (hb.mono h.2.2.size)⟩
def P6 (w:World) (cs ds:Array Value) (g h:Nat) (a b:Array Value) (wx:World):Prop:=KE w cs ds wx∧ak wx g 105 a∧ak wx h 105 b
theorem P6.below {w wx w2:World} {cs ds a b:Array Value} {g h:Nat} (q:P6 w cs ds g h a b wx) (hb:Below wx.heap.size wx w2):P6 w cs ds g h a b w2 :=
  ⟨q.1.below hb,ak.below q.2.1 hb q.2.1.lt,ak.below q.2.2 hb q.2.2.lt⟩
theorem KE.two {w wx:World} {cs ds:Array Value} (q:KE w cs ds wx) (a b:Array Value) :
    P6 w cs ds wx.heap.size (wx.heap.size+1) a b ((wx.alloc (.cells a 105)).alloc (.cells b 105)):=by
 have h1:=((Below.refl wx.heap.size wx).alloc (Nat.le_refl _) (.cells a 105)).alloc (by simp) (.cells b 105);refine⟨q.below h1,ak.alloc (ak.new _ _ _) _,?_⟩;have:=ak.new (wx.alloc (.cells a 105)) 105 b;rwa [show(wx.alloc (.cells a 105)).heap.size=wx.heap.size+1 by simp]at this
end Go.Proofs.YtapechjebkjidaaGreatDoor
namespace Go.Proofs.YtapechjebkjidaaGreatDoor
open Go.RowKit
structure RC where
  some? : Bool
  only:af
  ps:List cE
  a:List au
def gH:List au→List cE
  | []=>[]
  | x::r=>[⟨⟨#[]⟩,x::r⟩]
def dZ (s:ByteArray):ByteArray:=if s=fT then fP else if s=fP then fT else kG
def je (back:Bool) (l:List aI) (i:Nat) (p:aI) (s:RC):Except (Int × Int) RC :=
  if p.kind=1 then (match fY (l.take i) p.name with
    | some _=>.error (7,i)
    | none=>.ok s)
  else if p.kind=3 then (if s.some? = true then .error (5,i)else .ok ⟨true,p.set,s.ps,s.a⟩)
  else if p.kind=4 then .ok ⟨s.some?,s.only,s.ps++gH s.a++[⟨if back=true then dZ p.name else p.name,[]⟩],[]⟩
  else match eX (l.take i) p.left p.right,eX (l.take i) p.right p.left with
    | some x,some y=>.ok (if (back=true∧p.dir=1)∨(back=false∧p.dir=2)then s else ⟨s.some?,s.only,s.ps,s.a++[if back=true then y else x]⟩)
    | _,_=>.error (7,i)
def dI (back:Bool) (l:List aI):Nat→Except (Int × Int) RC
  | 0=>.ok ⟨false,[],[],[]⟩
  | k+1=>match dI back l k with
    | .error e=>.error e
    | .ok s=>match l[k]? with
      | some p=>je back l k p s
      | none=>.ok s
def oo:bl:=⟨false,[],[]⟩
def cT (back:Bool) (l:List aI):bl × (Int × Int) :=
  if (fJ l).1≠0 then (oo,fJ l)else match dI back l l.length with
    | .error e=>(oo,e)
    | .ok s=>(⟨s.some?,s.only,if back=true then (s.ps++gH s.a).reverse else s.ps++gH s.a⟩,(0,0))
theorem kK {back:Bool} {l:List aI} {k:Nat} {p:aI} {s:RC} (h:dI back l k=.ok s) (hp:l[k]? = some p):dI back l (k+1)=je back l k p s:=by
 rw [dI,h];simp only [hp]
theorem Ew {back:Bool} {l:List aI} {k:Nat} {e:Int × Int} (h:dI back l k=.error e):∀ m,k≤m→dI back l m=.error e:=by
 intro m hm;induction m with
 | zero=>
  obtain rfl:k=0:=(by omega);exact h
 | succ m ih=>
  rcases Nat.lt_or_ge m k with h1 | h1
  ·obtain rfl:k=m+1:=(by omega);exact h
  rw [dI,ih h1]
theorem ko {back:Bool} {l:List aI} (h:(fJ l).1≠0):cT back l=(oo,fJ l):=by
 unfold cT;rw [if_pos h]
theorem kj {back:Bool} {l:List aI} {k:Nat} {e:Int × Int} (h:(fJ l).1=0) (hk:k≤l.length) (h1:dI back l k=.error e):cT back l=(oo,e):=by
 unfold cT;rw [if_neg (by simp [h]),Ew h1 _ hk]
theorem pJ {back:Bool} {l:List aI} {s:RC} (h:(fJ l).1=0) (h1:dI back l l.length=.ok s):cT back l=(⟨s.some?,s.only,if back=true then (s.ps++gH s.a).reverse else s.ps++gH s.a⟩,(0,0)):=by
 unfold cT;rw [if_neg (by simp [h]),h1]
theorem zQ (l:List aI):∀ k,(∃ s t,dI false l k=.ok s∧dI true l k=.ok t∧s.some? = t.some?∧s.only=t.only)∨(∃ e,dI false l k=.error e∧dI true l k=.error e):=by
 intro k;induction k with
 | zero=>exact .inl ⟨_,_,rfl,rfl,rfl,rfl⟩
 | succ k ih=>
  rcases ih with ⟨s,t,h1,h2,h3,h4⟩ | ⟨e,h1,h2⟩
  ·cases hp:l[k]? with
   | none=>exact .inl ⟨s,t,by rw [dI,h1];simp only [hp],by rw [dI,h2];simp only [hp],h3,h4⟩
   | some p=>
    rw [kK h1 hp,kK h2 hp];unfold je;by_cases k1:p.kind=1
    ·rw [if_pos k1,if_pos k1];cases fY (l.take k) p.name with
     | none=>exact .inl ⟨s,t,rfl,rfl,h3,h4⟩
     | some x=>exact .inr ⟨_,rfl,rfl⟩
    rw [if_neg k1,if_neg k1];by_cases k3:p.kind=3
    ·rw [if_pos k3,if_pos k3,h3];by_cases ht:t.some? = true
     ·rw [if_pos ht,if_pos ht];exact .inr ⟨_,rfl,rfl⟩
     rw [if_neg ht,if_neg ht];exact .inl ⟨_,_,rfl,rfl,rfl,rfl⟩
    rw [if_neg k3,if_neg k3];by_cases k4:p.kind=4
    ·rw [if_pos k4,if_pos k4];exact .inl ⟨_,_,rfl,rfl,h3,h4⟩
    rw [if_neg k4,if_neg k4];cases eX (l.take k) p.left p.right with
    | none=>exact .inr ⟨_,rfl,rfl⟩
    | some x=>
     cases eX (l.take k) p.right p.left with
     | none=>exact .inr ⟨_,rfl,rfl⟩
     | some y=>
      refine .inl ⟨_,_,rfl,rfl,?_,?_⟩
      ·by_cases d1:p.dir=1 <;> by_cases d2:p.dir=2 <;> simp [d1,d2,h3]
      by_cases d1:p.dir=1 <;> by_cases d2:p.dir=2 <;> simp [d1,d2,h4]
  exact .inr ⟨e,by rw [dI,h1],by rw [dI,h2]⟩
theorem DL (s:ByteArray) (w:World):Calls Tryz.prog 89 #[.string s] w fun e w'=>e=.returned (.string (dZ s))∧w=w':=by
 have e1:fT.toList = [117,112,112,101,114]:=(by rw [Lib.toList_data];rfl);have e2:fP.toList = [108,111,119,101,114]:=(by rw [Lib.toList_data];rfl);have q1:(s.toList == [117,112,112,101,114])=decide (s=fT):=(by rw [← e1,MX]);have q2:(s.toList == [108,111,119,101,114])=decide (s=fP):=(by rw [← e2,MX]);clear e1 e2;by_cases h1:s=fT
 ·have p1:(s.toList == [117,112,112,101,114])=true:=(by rw [q1];simpa using h1);have HI:=Lib.hid (show dZ s=⟨#[108,111,119,101,114]⟩ by unfold dZ;rw [if_pos h1];rfl);clear h1 q1 q2;go_enter Tryz.func89,Tryz.ntmps89;go_wp2;go_ret;rw [HI.out];exact⟨rfl,rfl⟩
 have p1:(s.toList == [117,112,112,101,114])=false:=(by rw [q1];simpa using h1);by_cases h2:s=fP
 ·have p2:(s.toList == [108,111,119,101,114])=true:=(by rw [q2];simpa using h2);have HI:=Lib.hid (show dZ s=⟨#[117,112,112,101,114]⟩ by unfold dZ;rw [if_neg h1,if_pos h2];rfl);clear h1 h2 q1 q2;go_enter Tryz.func89,Tryz.ntmps89;go_wp2;go_ret;rw [HI.out];exact⟨rfl,rfl⟩
 have p2:(s.toList == [108,111,119,101,114])=false:=(by rw [q2];simpa using h2);have HI:=Lib.hid (show dZ s=⟨#[110,117,108,108]⟩ by unfold dZ;rw [if_neg h1,if_neg h2];rfl);clear h1 h2 q1 q2;go_enter Tryz.func89,Tryz.ntmps89;go_wp2;go_ret;rw [HI.out];exact⟨rfl,rfl⟩
end Go.Proofs.YtapechjebkjidaaGreatDoor
namespace Go.Proofs.YtapechjebkjidaaGreatDoor
open Go.RowKit
def bh (B lo:Nat) (va vb vp vq:Value) (b:Nat):Prop:=b<B∨(lo≤b∧va.ownBlock≠some b∧vb.ownBlock≠some b∧vp.ownBlock≠some b∧vq.ownBlock≠some b)
def cL (B lo:Nat) (A A2:List au) (P P2:List cE) (va vb vp vq:Value) (wx:World):Prop :=
  dD (bE wx (bh B lo va vb vp vq)) 136 7 wx lo va A∧dD (bE wx (bh B lo va vb vp vq)) 136 7 wx lo vb A2 ∧
  dD (cR wx (bh B lo va vb vp vq)) 105 2 wx lo vp P∧dD (cR wx (bh B lo va vb vp vq)) 105 2 wx lo vq P2 ∧
  (∀ b,va.ownBlock=some b→vb.ownBlock≠some b)∧(∀ b,vp.ownBlock=some b→vq.ownBlock≠some b)
section
variable {B lo : Nat} {A A2 : List au} {P P2 : List cE} {va vb vp vq v' : Value} {wx w2 : World}
theorem bh.xe {b:Nat} (h:bh B lo va vb vp vq b):bh B lo vb va vp vq b:=h.imp id (fun⟨h1,h2,h3,h4⟩=>⟨h1,h3,h2,h4⟩)
theorem bh.uv {b:Nat} (h:bh B lo va vb vp vq b):bh B lo va vb vq vp b:=h.imp id (fun⟨h1,h2,h3,h4,h5⟩=>⟨h1,h2,h3,h5,h4⟩)
theorem cL.nil (B lo:Nat) (w:World):cL B lo [] [] [] [] (.slice none 0 0) (.slice none 0 0) (.slice none 0 0) (.slice none 0 0) w :=
  ⟨dD.nil _ _,dD.nil _ _,dD.nil _ _,dD.nil _ _,fun b h=>by simp [Value.ownBlock]at h,fun b h=>by simp [Value.ownBlock]at h⟩
theorem cL.kept (hk:ag wx (bh B lo va vb vp vq) w2 (bh B lo va vb vp vq)) (ho:∀ (e:TypeId) (sz n:Nat) (v:Value) (xs:List Value),wx.ownsRow lo e sz v n xs→w2.ownsRow lo e sz v n xs)
    (h:cL B lo A A2 P P2 va vb vp vq wx):cL B lo A A2 P P2 va vb vp vq w2:=by
 obtain⟨h1,h2,h3,h4,h5,h6⟩:=h;exact⟨h1.kept (ho _ _ · _ ·) (fun _ _=>bE.keep hk),h2.kept (ho _ _ · _ ·) (fun _ _=>bE.keep hk),h3.kept (ho _ _ · _ ·) (fun _ _=>cR.keep hk),h4.kept (ho _ _ · _ ·) (fun _ _=>cR.keep hk),h5,h6⟩
theorem cL.below (h:cL B lo A A2 P P2 va vb vp vq wx) (hb:Below wx.heap.size wx w2):cL B lo A A2 P P2 va vb vp vq w2 :=
  cL.kept (ag.below hb (fun _ h _=>h)) (fun _ _ _ _ _ h=>cS h hb) h
theorem cL.alloc (h:cL B lo A A2 P P2 va vb vp vq wx) (o:Obj):cL B lo A A2 P P2 va vb vp vq (wx.alloc o):=h.below ((Below.refl _ _).alloc (Nat.le_refl _) o)
theorem cL.xe (h:cL B lo A A2 P P2 va vb vp vq wx):cL B lo A2 A P P2 vb va vp vq wx:=by
 obtain⟨h1,h2,h3,h4,h5,h6⟩:=h;have hk:ag wx (bh B lo va vb vp vq) wx (bh B lo vb va vp vq):=ag.refl (fun _ h=>h.xe);exact⟨h2.weak (fun _ _=>bE.keep hk),h1.weak (fun _ _=>bE.keep hk),h3.weak (fun _ _=>cR.keep hk),h4.weak (fun _ _=>cR.keep hk),fun b hb hc=>h5 b hc hb,h6⟩
theorem cL.uv (h:cL B lo A A2 P P2 va vb vp vq wx):cL B lo A A2 P2 P va vb vq vp wx:=by
 obtain⟨h1,h2,h3,h4,h5,h6⟩:=h;have hk:ag wx (bh B lo va vb vp vq) wx (bh B lo va vb vq vp):=ag.refl (fun _ h=>h.uv);exact⟨h1.weak (fun _ _=>bE.keep hk),h2.weak (fun _ _=>bE.keep hk),h4.weak (fun _ _=>cR.keep hk),h3.weak (fun _ _=>cR.keep hk),h5,fun b hb hc=>h6 b hc hb⟩
theorem cL.drop (h:cL B lo A A2 P P2 va vb vp vq wx):cL B lo [] A2 P P2 (.slice none 0 0) vb vp vq wx:=by
 obtain⟨_,h2,h3,h4,_,h6⟩:=h;have hk:ag wx (bh B lo va vb vp vq) wx (bh B lo (.slice none 0 0) vb vp vq):=ag.refl (fun _ h=>h.imp id (fun⟨g1,_,g3⟩=>⟨g1,by simp [Value.ownBlock],g3⟩));exact⟨dD.nil _ _,h2.weak (fun _ _=>bE.keep hk),h3.weak (fun _ _=>cR.keep hk),h4.weak (fun _ _=>cR.keep hk),fun b hb=>by simp [Value.ownBlock]at hb,h6⟩
theorem cL.AA (UU:B≤lo) {css:List (List Value)} {p:cE} {cs:List Value} {t:TypeId} (h:cL B lo A A2 P P2 va vb vp vq wx) (h1:css.length=P.length)
    (h2:∀ (i:Nat) (a:cE) (cs:List Value),P[i]? = some a→css[i]? = some cs→cR wx (bh B lo va vb vp vq) a cs) (h3:∀ cs∈css,cs.length=2) (h4:wx.ownsRow lo 105 2 vp P.length css.flatten)
    (hp:cR wx (bh B lo va vb vp vq) p cs) (hcs:cs.length=2) (ha:aS lo 105 2 vp (wx.alloc (.cells cs.toArray t)) (P.length+1) (css.flatten++cs) v' w2):cL B lo A A2 (P++[p]) P2 va vb v' vq w2:=by
 obtain⟨g1,g2,_,g4,g5,g6⟩:=h;have hk:ag wx (bh B lo va vb vp vq) w2 (bh B lo va vb v' vq):=by
  intro b hb hl;have jR:b<(wx.alloc (.cells cs.toArray t)).heap.size:=(by simp;omega);have hne:vp.ownBlock≠some b:=by
   rcases hb with hb | hb
   ·intro e;have:=(bG h4 e).1;omega
   exact hb.2.2.2.1
  refine⟨(ha.2.1.block b jR (fun e=>hne e.symm)).trans (heap_alloc_old wx _ hl),hb.imp id (fun⟨a1,a2,a3,a4,a5⟩=>⟨a1,a2,a3,?_,a5⟩),Nat.lt_of_lt_of_le jR ha.2.1.size⟩;rcases ha.2.2 with e | e
  ·rw [e];exact a4
  rw [e];intro he;injection he with he;omega
 have ow:=World.ownsRow.alloc h4 (.cells cs.toArray t)
 have kr:∀ {v:Value} {n:Nat} {xs:List Value},wx.ownsRow lo 136 7 v n xs→w2.ownsRow lo 136 7 v n xs:=fun hv=>
   sH (World.ownsRow.alloc hv (.cells cs.toArray t)) ha (uw (World.ownsRow.alloc hv _) ow (by decide))
 have kq:∀ {n:Nat} {xs:List Value},wx.ownsRow lo 105 2 vq n xs→w2.ownsRow lo 105 2 vq n xs:=fun hv=>
   sH (World.ownsRow.alloc hv (.cells cs.toArray t)) ha (uT g6)
 refine⟨g1.kept (fun _ _ h=>kr h) (fun _ _=>bE.keep hk),g2.kept (fun _ _ h=>kr h) (fun _ _=>bE.keep hk),dD.push h1 h2 h3 (fun _ _=>cR.keep hk) (hp.keep hk) hcs ha,g4.kept (fun _ _ h=>kq h) (fun _ _=>cR.keep hk),g5,?_⟩;intro b hb hc;rcases ha.2.2 with e | e
 ·rw [e]at hb;exact g6 b hb hc
 rw [e]at hb;obtain⟨c4,_,_,_,o4⟩:=g4;have:=(bG (World.ownsRow.alloc o4 (.cells cs.toArray t)) hc).2;injection hb with hb;omega
theorem cL.Ij (UU:B≤lo) {css:List (List Value)} {r:au} {cs:List Value} {t:TypeId} (h:cL B lo A A2 P P2 va vb vp vq wx) (h1:css.length=A.length)
    (h2:∀ (i:Nat) (a:au) (cs:List Value),A[i]? = some a→css[i]? = some cs→bE wx (bh B lo va vb vp vq) a cs) (h3:∀ cs∈css,cs.length=7) (h4:wx.ownsRow lo 136 7 va A.length css.flatten)
    (hp:bE wx (bh B lo va vb vp vq) r cs) (hcs:cs.length=7) (ha:aS lo 136 7 va (wx.alloc (.cells cs.toArray t)) (A.length+1) (css.flatten++cs) v' w2):cL B lo (A++[r]) A2 P P2 v' vb vp vq w2:=by
 obtain⟨_,g2,g3,g4,g5,g6⟩:=h;have hk:ag wx (bh B lo va vb vp vq) w2 (bh B lo v' vb vp vq):=by
  intro b hb hl;have jR:b<(wx.alloc (.cells cs.toArray t)).heap.size:=(by simp;omega);have hne:va.ownBlock≠some b:=by
   rcases hb with hb | hb
   ·intro e;have:=(bG h4 e).1;omega
   exact hb.2.1
  refine⟨(ha.2.1.block b jR (fun e=>hne e.symm)).trans (heap_alloc_old wx _ hl),hb.imp id (fun⟨a1,a2,a3,a4,a5⟩=>⟨a1,?_,a3,a4,a5⟩),Nat.lt_of_lt_of_le jR ha.2.1.size⟩;rcases ha.2.2 with e | e
  ·rw [e];exact a2
  rw [e];intro he;injection he with he;omega
 have ow:=World.ownsRow.alloc h4 (.cells cs.toArray t)
 have kp:∀ {v:Value} {n:Nat} {xs:List Value},wx.ownsRow lo 105 2 v n xs→w2.ownsRow lo 105 2 v n xs:=fun hv=>
   sH (World.ownsRow.alloc hv (.cells cs.toArray t)) ha (uw (World.ownsRow.alloc hv _) ow (by decide))
 have kb:∀ {n:Nat} {xs:List Value},wx.ownsRow lo 136 7 vb n xs→w2.ownsRow lo 136 7 vb n xs:=fun hv=>
   sH (World.ownsRow.alloc hv (.cells cs.toArray t)) ha (uT g5)
 refine⟨dD.push h1 h2 h3 (fun _ _=>bE.keep hk) (hp.keep hk) hcs ha,g2.kept (fun _ _ h=>kb h) (fun _ _=>bE.keep hk),g3.kept (fun _ _ h=>kp h) (fun _ _=>cR.keep hk),g4.kept (fun _ _ h=>kp h) (fun _ _=>cR.keep hk),?_,g6⟩;intro b hb hc;rcases ha.2.2 with e | e
 ·rw [e]at hb;exact g5 b hb hc
 rw [e]at hb;obtain⟨c2,_,_,_,o2⟩:=g2;have:=(bG (World.ownsRow.alloc o2 (.cells cs.toArray t)) hc).2;injection hb with hb;omega
theorem cL.pass (h:cL B lo A A2 P P2 va vb vp vq wx) (hl:A.length≤maxLen) (nm:ByteArray):cR wx (bh B lo (.slice none 0 0) vb vp vq) ⟨nm,A⟩ [.string nm,va]:=by
 obtain⟨h1,_,h3,h4,h5,_⟩:=h;obtain⟨Aa,c,rfl,_⟩:=h1.form;refine⟨_,rfl,Aa,A.length,c,rfl,dD.done h1 (fun _ _=>bE.keep (ag.refl (fun _ h=>h.imp id (fun⟨g1,_,g3⟩=>⟨g1,by simp [Value.ownBlock],g3⟩)))) (fun b hb=>.inr ?_),hl⟩;obtain⟨css,_,_,_,o1⟩:=h1;obtain⟨XA,_,_,_,o3⟩:=h3;obtain⟨UO,_,_,_,o4⟩:=h4;have ne:∀ {v:Value} {n:Nat} {xs:List Value},wx.ownsRow lo 105 2 v n xs→v.ownBlock≠some b:=by
  intro v n xs ho;rcases o1.2 with ⟨hv,_⟩ | ⟨g,cap,cur,hv,_,hg,_⟩
  ·rw [hv]at hb;simp [Value.ownBlock]at hb
  rw [hv]at hb;simp only [Value.ownBlock,Option.some.injEq]at hb;subst hb;exact lI ho hg (by decide)
 exact⟨(bG o1 hb).1,by simp [Value.ownBlock],h5 b hb,ne o3,ne o4⟩
end
end Go.Proofs.YtapechjebkjidaaGreatDoor
namespace Go.Proofs.YtapechjebkjidaaGreatDoor
open Go.RowKit
theorem An:(Tryz.prog.info? 105).map (fun i=>(i.zero,i.size,i.bytes))=some (some (.agg #[.string ⟨#[]⟩,.slice none 0 0]),2,40):=by kernel_rfl
def E5 (ga gb gp gq:Nat) (vp vq:Value) (w w':World):Prop :=
  w'.os=w.os∧w'.tape=w.tape∧w'.output=w.output∧w.heap.size≤w'.heap.size ∧
  ∀ k,k<w.heap.size→k≠ga→k≠gb→k≠gp→k≠gq→vp.ownBlock≠some k→vq.ownBlock≠some k→w'.heap[k]? = w.heap[k]?
def iN (ga gb gp gq:Nat) (ca cb cp cq:Value) (w:World):Prop :=
  ak w ga 103 #[ca]∧ak w gb 103 #[cb]∧ak w gp 45 #[cp]∧ak w gq 45 #[cq]
structure LV (B lo ga gb gp gq:Nat):Prop where
  Bl:B≤lo
  a1:B≤ga
  a2:ga<lo
  b1:B≤gb
  b2:gb<lo
  p1:B≤gp
  p2:gp<lo
  q1:B≤gq
  q2:gq<lo
  ab:ga≠gb
  ap:ga≠gp
  aq:ga≠gq
  bp:gb≠gp
  bq:gb≠gq
  pq:gp≠gq
section
variable {B lo : Nat} {A A2 : List au} {P P2 : List cE} {va vb vp vq : Value} {wx : World}
theorem cL.set {g i:Nat} {u:Value} (h:cL B lo A A2 P P2 va vb vp vq wx) (h1:B≤g) (h2:g<lo):cL B lo A A2 P P2 va vb vp vq (wx.setCell ⟨g,i,none⟩ u) :=
  cL.kept (ag.setCell u (fun b hb=>by rcases hb with h | h <;> dsimp only <;> omega) (fun _ h _=>h)) (fun _ _ _ _ _ h=>qZ h h2) h
end
def Vm (B lo ga gb gp gq:Nat) (A2:List au) (P P2:List cE) (ca vb vp vq:Value) (w:World) (wx:World):Prop :=
  ∃ H6,cL B lo [] A2 P P2 (.slice none 0 0) vb H6 vq wx∧iN ga gb gp gq ca vb H6 vq wx∧E5 ga gb gp gq vp vq w wx∧(∀ k,H6.ownBlock=some k→vp.ownBlock=some k∨w.heap.size≤k)
theorem zU (B lo ga gb gp gq:Nat) (pl:LV B lo ga gb gp gq) (A A2:List au) (P P2:List cE) (va vb vp vq:Value) (w:World) (hlo:lo≤w.heap.size) (hst:cL B lo A A2 P P2 va vb vp vq w) (hv:iN ga gb gp gq va vb vp vq w)
    (hA:A.length≤1000) (Rx:A2.length≤1000) (hP:P.length≤1000) (hP2:P2.length≤1000) :
    Calls Tryz.prog 86 #[.pointer (some ⟨ga,0,none⟩),.pointer (some ⟨gp,0,none⟩),.pointer (some ⟨gb,0,none⟩),.pointer (some ⟨gq,0,none⟩)] w fun e w'=>e=.returned (.tuple #[]) ∧
      ∃ H6 Fj,cL B lo [] [] (P++gH A) (P2++gH A2) (.slice none 0 0) (.slice none 0 0) H6 Fj w'∧iN ga gb gp gq (.slice none 0 0) (.slice none 0 0) H6 Fj w'∧E5 ga gb gp gq vp vq w w'∧(∀ k,H6.ownBlock=some k→vp.ownBlock=some k∨w.heap.size≤k)∧(∀ k,Fj.ownBlock=some k→vq.ownBlock=some k∨w.heap.size≤k):=by
 obtain⟨i0,hi,hz0,rj,sY⟩:=info_parts An;obtain⟨pBl,pa1,pa2,pb1,pb2,pp1,pp2,pq1,pq2,pab,pap,paq,pbp,pbq,ppq⟩:=pl;obtain⟨Aa,ka,rfl,_⟩:=hst.1.form;obtain⟨Ab,kb,rfl,_⟩:=hst.2.1.form;obtain⟨Ap,kp,rfl,_⟩:=hst.2.2.1.form;obtain⟨Aq,kq,rfl,_⟩:=hst.2.2.2.1.form;have a0:w.cell? ⟨ga,0,none⟩=some (.slice Aa A.length ka):=hv.1.cell 0;have fW:=Lib.hid hst;have HV:=Lib.hid hv;clear hst hv;go_enter Tryz.func86,Tryz.ntmps86;go_upto_if 6 with fail;go_cut [] (fun wx=>Vm B lo ga gb gp gq A2 (P++gH A) P2 (.slice Aa A.length ka) (.slice Ab A2.length kb) (.slice Ap P.length kp) (.slice Aq P2.length kq) w wx);case first=>
  by_cases h0:0<A.length
  ·obtain⟨x,r,Vs⟩:∃ x r,A=x::r:=by
    cases A with
    | nil=>simp at h0
    | cons x r=>exact⟨x,r,rfl⟩
   have SY:=Lib.hid (show gH A = [⟨⟨#[]⟩,A⟩] by rw [Vs];rfl);clear Vs;have b0:w.cell? ⟨gp,0,none⟩=some (.slice Ap P.length kp):=HV.out.2.2.1.cell 0;have OX:=fW.out.drop;have hps:=fW.out.pass (by unfold maxLen;omega) ⟨#[]⟩;have mY:=OX;obtain⟨_,_,⟨css,g1,g2,g3,g4⟩,_⟩:=mY;have HN:=Lib.hid (Rd.new w 105 2 1 [.string ⟨#[]⟩,.slice Aa A.length ka] rfl);have HO:=Lib.hid (World.ownsRow.alloc g4 (.cells #[.string ⟨#[]⟩,.slice Aa A.length ka] 105));have HD:=Lib.hid OX;have HP:=Lib.hid hps;have G1:=Lib.hid g1;have G2:=Lib.hid g2;have G3:=Lib.hid g3;have G4:=Lib.hid g4;have Fi:=Lib.hid (show ∀ u ∈ [Value.string ⟨#[]⟩,Value.slice Aa A.length ka],u.oneCell'=true by intro x hx;simp at hx;rcases hx with rfl | rfl <;> rfl);have HZ:=Lib.hid (show lo≤(w.alloc (.cells #[.string ⟨#[]⟩,.slice Aa A.length ka] 105)).heap.size by simp;omega);clear OX hps g1 g2 g3 g4;go_wp2_with (at_builtin;refine ai _ rfl (.tmp 7) (.tmp 10) 45 rfl lo 105 i0 _ 2 40 Tryz.underlying45 hi hz0 rj sY rfl (by decide) _ _ _ rfl HO.out _ (some ⟨w.heap.size,0,none⟩) 1 1 [.string ⟨#[]⟩,.slice Aa A.length ka] rfl HN.out Fi.out (by simp only [maxLen];omega) (by omega) HZ.out ?_);intro v9 w9 an;have hsz:=HZ.out;have lE:=an.own;obtain⟨A9,k9,rfl,_⟩:=aH lE;clear lE;have wJ:=cL.AA pBl HD.out G1.out G2.out G3.out G4.out HP.out rfl an;have CR:=bH (ak.alloc HV.out.2.2.1 (.cells #[.string ⟨#[]⟩,.slice Aa A.length ka] 105)) HO.out (by decide) an;have PW:=bH (ak.alloc HV.out.1 (.cells #[.string ⟨#[]⟩,.slice Aa A.length ka] 105)) HO.out (by decide) an;have Tn:=bH (ak.alloc HV.out.2.1 (.cells #[.string ⟨#[]⟩,.slice Aa A.length ka] 105)) HO.out (by decide) an
   have hvq:=bH (ak.alloc HV.out.2.2.2 (.cells #[.string ⟨#[]⟩,.slice Aa A.length ka] 105)) HO.out (by decide) an;have c9:w9.cell? ⟨gp,0,none⟩=some (.slice Ap P.length kp):=CR.cell 0;have f9:=CR.frozen 0;have nG:E5 ga gb gp gq (.slice Ap P.length kp) (.slice Aq P2.length kq) w w9:=by
    refine⟨an.2.1.os,an.2.1.tape,an.2.1.output,Nat.le_trans (by simp) an.2.1.size,fun k hk _ _ _ _ h1 _=>?_⟩;exact(an.2.1.block k (by simp;omega) (fun e=>h1 e.symm)).trans (heap_alloc_old w _ hk)
   have zo:∀ k,(Value.slice A9 (P.length+1) k9).ownBlock=some k→(Value.slice Ap P.length kp).ownBlock=some k∨w.heap.size≤k:=by
    intro k hk;rcases an.2.2 with e | e;exact .inl (e ▸ hk);rw [e]at hk;injection hk with hk;right;simp at hk;omega
   have Jw:=Lib.hid wJ;have xY:=Lib.hid nG;have ZE:=Lib.hid zo;have PZ:=Lib.hid CR;have VA:=Lib.hid PW;have HVB:=Lib.hid Tn;have HVQ:=Lib.hid hvq;clear an wJ CR PW Tn hvq nG zo;go_wp2_with fail;go_meet;refine⟨.slice A9 (P.length+1) k9,?_,⟨av VA.out pap,av HVB.out pbp,?_,av HVQ.out (Ne.symm ppq)⟩,⟨xY.out.1,xY.out.2.1,xY.out.2.2.1,by simpa using xY.out.2.2.2.1,fun k hk h1 h2 h3 h4 h5 h6=>?_⟩,ZE.out⟩
   ·rw [SY.out];exact cL.set Jw.out pp1 pp2
   exact PZ.out.put 0 _;exact(Below.heap_setCell _ _ _ _ h3).trans (xY.out.2.2.2.2 k hk h1 h2 h3 h4 h5 h6)
  have CS:A = []:=List.eq_nil_of_length_eq_zero (by omega);have SY:=Lib.hid (show P++gH A=P by rw [CS];simp [gH]);clear CS;go_wp2_with fail;go_meet;refine⟨_,?_,HV.out,⟨rfl,rfl,rfl,Nat.le_refl _,fun _ _ _ _ _ _ _ _=>rfl⟩,fun k hk=>.inl hk⟩;rw [SY.out];exact fW.out.drop
 obtain⟨H6,Lr,Lx,aT,hg1⟩:=hcut;obtain⟨Ap',kp',rfl,_⟩:=Lr.2.2.1.form;have i6:=Lib.hid Lr.xe.uv;have Lz:=Lib.hid Lx;have bT:=Lib.hid aT;have jY:=Lib.hid hg1;have b0:wc.cell? ⟨gb,0,none⟩=some (.slice Ab A2.length kb):=Lx.2.1.cell 0;have hPl:(P++gH A).length≤1001:=(by rw [List.length_append];cases A <;> simp [gH] <;> omega);clear Lr Lx aT hg1;generalize hP1:P++gH A=P1 at *;have Fe:=Lib.hid hP1;clear hP1;go_upto_if 14 with fail;go_cut [] (fun wx=>∃ Fj,cL B lo [] [] (P2++gH A2) P1 (.slice none 0 0) (.slice none 0 0) Fj (.slice Ap' P1.length kp') wx∧iN ga gb gp gq (.slice Aa A.length ka) (.slice Ab A2.length kb) (.slice Ap' P1.length kp') Fj wx∧E5 ga gb gp gq (.slice Ap P.length kp) (.slice Aq P2.length kq) w wx∧(∀ k,Fj.ownBlock=some k→(Value.slice Aq P2.length kq).ownBlock=some k∨w.heap.size≤k));case first=>
  by_cases h0:0<A2.length
  ·obtain⟨x,r,Vs⟩:∃ x r,A2=x::r:=by
    cases A2 with
    | nil=>simp at h0
    | cons x r=>exact⟨x,r,rfl⟩
   have SY:=Lib.hid (show gH A2 = [⟨⟨#[]⟩,A2⟩] by rw [Vs];rfl);clear Vs;have b1:wc.cell? ⟨gq,0,none⟩=some (.slice Aq P2.length kq):=Lz.out.2.2.2.cell 0;have OX:=i6.out.drop;have hps:=i6.out.pass (by unfold maxLen;omega) ⟨#[]⟩;have mY:=OX;obtain⟨_,_,⟨css,g1,g2,g3,g4⟩,_⟩:=mY;have HN:=Lib.hid (Rd.new wc 105 2 1 [.string ⟨#[]⟩,.slice Ab A2.length kb] rfl);have HO:=Lib.hid (World.ownsRow.alloc g4 (.cells #[.string ⟨#[]⟩,.slice Ab A2.length kb] 105));have HD:=Lib.hid OX;have HP:=Lib.hid hps;have G1:=Lib.hid g1;have G2:=Lib.hid g2;have G3:=Lib.hid g3;have G4:=Lib.hid g4;have Fi:=Lib.hid (show ∀ u ∈ [Value.string ⟨#[]⟩,Value.slice Ab A2.length kb],u.oneCell'=true by intro x hx;simp at hx;rcases hx with rfl | rfl <;> rfl);have hwc:=bT.out.2.2.2.1;have HZ:=Lib.hid (show lo≤(wc.alloc (.cells #[.string ⟨#[]⟩,.slice Ab A2.length kb] 105)).heap.size by simp;omega);clear OX hps g1 g2 g3 g4;go_wp2_with (at_builtin;refine ai _ rfl (.tmp 15) (.tmp 18) 45 rfl lo 105 i0 _ 2 40 Tryz.underlying45 hi hz0 rj sY rfl (by decide) _ _ _ rfl HO.out _ (some ⟨wc.heap.size,0,none⟩) 1 1 [.string ⟨#[]⟩,.slice Ab A2.length kb] rfl HN.out Fi.out (by simp only [maxLen];omega) (by omega) HZ.out ?_);intro v9 w9 an;have hsz:=HZ.out;have lE:=an.own;obtain⟨A9,k9,rfl,_⟩:=aH lE;clear lE;have wJ:=cL.AA pBl HD.out G1.out G2.out G3.out G4.out HP.out rfl an;have CR:=bH (ak.alloc Lz.out.2.2.2 (.cells #[.string ⟨#[]⟩,.slice Ab A2.length kb] 105)) HO.out (by decide) an;have PW:=bH (ak.alloc Lz.out.1 (.cells #[.string ⟨#[]⟩,.slice Ab A2.length kb] 105)) HO.out (by decide) an
   have Tn:=bH (ak.alloc Lz.out.2.1 (.cells #[.string ⟨#[]⟩,.slice Ab A2.length kb] 105)) HO.out (by decide) an;have hvp:=bH (ak.alloc Lz.out.2.2.1 (.cells #[.string ⟨#[]⟩,.slice Ab A2.length kb] 105)) HO.out (by decide) an;have c9:w9.cell? ⟨gq,0,none⟩=some (.slice Aq P2.length kq):=CR.cell 0;have f9:=CR.frozen 0;have nG:E5 ga gb gp gq (.slice Ap P.length kp) (.slice Aq P2.length kq) w w9:=by
    obtain⟨y1,y2,y3,y4,y5⟩:=bT.out;refine⟨an.2.1.os.trans y1,an.2.1.tape.trans y2,an.2.1.output.trans y3,Nat.le_trans y4 (Nat.le_trans (by simp) an.2.1.size),fun k hk z1 z2 z3 z4 h1 h2=>?_⟩;exact((an.2.1.block k (by simp;omega) (fun e=>h2 e.symm)).trans (heap_alloc_old wc _ (by omega))).trans (y5 k hk z1 z2 z3 z4 h1 h2)
   have zo:∀ k,(Value.slice A9 (P2.length+1) k9).ownBlock=some k→(Value.slice Aq P2.length kq).ownBlock=some k∨w.heap.size≤k:=by
    intro k hk;rcases an.2.2 with e | e;exact .inl (e ▸ hk);rw [e]at hk;injection hk with hk;right;simp at hk;omega
   have Jw:=Lib.hid wJ;have xY:=Lib.hid nG;have ZE:=Lib.hid zo;have PZ:=Lib.hid CR;have VA:=Lib.hid PW;have HVB:=Lib.hid Tn;have HVP:=Lib.hid hvp;clear an wJ CR PW Tn hvp nG zo;go_wp2_with fail;go_meet;refine⟨.slice A9 (P2.length+1) k9,?_,⟨av VA.out paq,av HVB.out pbq,av HVP.out ppq,PZ.out.put 0 _⟩,⟨xY.out.1,xY.out.2.1,xY.out.2.2.1,by simpa using xY.out.2.2.2.1,fun k hk h1 h2 h3 h4 h5 h6=>?_⟩,ZE.out⟩
   ·rw [SY.out];exact cL.set Jw.out pq1 pq2
   exact(Below.heap_setCell _ _ _ _ h4).trans (xY.out.2.2.2.2 k hk h1 h2 h3 h4 h5 h6)
  have CS:A2 = []:=List.eq_nil_of_length_eq_zero (by omega);have SY:=Lib.hid (show P2++gH A2=P2 by rw [CS];simp [gH]);clear CS;go_wp2_with fail;go_meet;refine⟨_,?_,Lz.out,bT.out,fun k hk=>.inl hk⟩;rw [SY.out];exact i6.out.drop
 obtain⟨Fj,jb,ng,aL,hg2⟩:=hcut;have c1:wc.cell? ⟨ga,0,none⟩=some (.slice Aa A.length ka):=ng.1.cell 0;have c2:wc.cell? ⟨gb,0,none⟩=some (.slice Ab A2.length kb):=ng.2.1.cell 0;have f1:=ng.1.frozen 0;have f2:=ng.2.1.frozen 0;have iW:=Lib.hid jb;have RU:=Lib.hid ng;have aW:=Lib.hid aL;have nQ:=Lib.hid hg2;clear jb ng aL hg2;go_wp2_with fail;go_end0;rw [Fe.out];refine⟨rfl,_,Fj,(cL.set (cL.set iW.out pa1 pa2) pb1 pb2).uv,⟨av (RU.out.1.put 0 _) pab,(av RU.out.2.1 (Ne.symm pab)).put 0 _,av (av RU.out.2.2.1 (Ne.symm pap)) (Ne.symm pbp),av (av RU.out.2.2.2 (Ne.symm paq)) (Ne.symm pbq)⟩,⟨aW.out.1,aW.out.2.1,aW.out.2.2.1,by simpa using aW.out.2.2.2.1,fun k hk h1 h2 h3 h4 h5 h6=>?_⟩,jY.out,nQ.out⟩;exact((Below.heap_setCell _ _ _ _ h2).trans (Below.heap_setCell _ _ _ _ h1)).trans (aW.out.2.2.2.2 k hk h1 h2 h3 h4 h5 h6)
end Go.Proofs.YtapechjebkjidaaGreatDoor
namespace Go.Proofs.YtapechjebkjidaaGreatDoor
open Go.RowKit
abbrev aC:Array Value:=#[.bool false,.slice none 0 0,.slice none 0 0]
theorem sn (er i:Int) (g:Nat) (w:World) (hi:w.cell? ⟨g,0,none⟩=some (.int .i64 i)) :
    Calls Tryz.prog 87 #[.int .i64 er,.pointer (some ⟨g,0,none⟩)] w fun e w'=>e=.returned (.tuple #[.agg aC,.agg aC,.agg #[.int .i64 er,.int .i64 i]])∧Below w.heap.size w w':=by
 have hg:=World.block_lt_of_cell? w _ hi;have z0:=ak.alloc (ak.alloc (ak.new w 47 aC) (.cells aC 47)) (.cells #[.int .i64 0,.int .i64 0] 51);have z1:=ak.alloc (ak.new (w.alloc (.cells aC 47)) 47 aC) (.cells #[.int .i64 0,.int .i64 0] 51);have z2:=ak.new ((w.alloc (.cells aC 47)).alloc (.cells aC 47)) 51 #[.int .i64 0,.int .i64 0];rw [show(w.alloc (.cells aC 47)).heap.size=w.heap.size+1 by simp]at z1;rw [show((w.alloc (.cells aC 47)).alloc (.cells aC 47)).heap.size=w.heap.size+1+1 by simp]at z2;have hb:=(((Below.refl w.heap.size w).alloc (Nat.le_refl _) (.cells aC 47)).alloc (by simp) (.cells aC 47)).alloc (by simp;omega) (.cells #[.int .i64 0,.int .i64 0] 51);have hc:(((w.alloc (.cells aC 47)).alloc (.cells aC 47)).alloc (.cells #[.int .i64 0,.int .i64 0] 51)).cell? ⟨g,0,none⟩=some (.int .i64 i):=(hb.cell hg).trans hi;have Z0:=Lib.hid z0;have Z1:=Lib.hid z1;have Z2:=Lib.hid z2;have HB:=Lib.hid hb;have HC:=Lib.hid hc;clear z0 z1 z2 hb hc;go_enter Tryz.func87,Tryz.ntmps87;go_upto_region 1 with fail;have z0:=Z0.out;have z1:=Z1.out;have z2:=Z2.out;have hb:=HB.out;have hc:=HC.out;have hg0:g≠w.heap.size:=(by simp only at hg;omega);have hg1:g≠w.heap.size+1:=(by simp only at hg;omega);have hg2:g≠w.heap.size+1+1:=(by simp only at hg;omega);clear Z0 Z1 Z2 HB HC
 generalize ((w.alloc (.cells aC 47)).alloc (.cells aC 47)).alloc (.cells #[.int .i64 0,.int .i64 0] 51)=W3 at *;have a0:W3.cell? ⟨w.heap.size,0,none⟩=some (.bool false):=z0.cell 0;have a1:W3.cell? ⟨w.heap.size,1,none⟩=some (.slice none 0 0):=z0.cell 1;have a2:W3.cell? ⟨w.heap.size,2,none⟩=some (.slice none 0 0):=z0.cell 2;have b0:W3.cell? ⟨w.heap.size+1,0,none⟩=some (.bool false):=z1.cell 0;have b1:W3.cell? ⟨w.heap.size+1,1,none⟩=some (.slice none 0 0):=z1.cell 1;have b2:W3.cell? ⟨w.heap.size+1,2,none⟩=some (.slice none 0 0):=z1.cell 2;have c0:W3.cell? ⟨w.heap.size+1+1,0,none⟩=some (.int .i64 0):=z2.cell 0;have c1:W3.cell? ⟨w.heap.size+1+1,1,none⟩=some (.int .i64 0):=z2.cell 1;have d0:=z0.frozen 0;have d1:=z0.frozen 1;have d2:=z0.frozen 2;have d3:=z1.frozen 0;have d4:=z1.frozen 1;have d5:=z1.frozen 2;have d6:=z2.frozen 0;have d7:=z2.frozen 1;have aW:=Lib.hid hb;clear z0 z1 z2 hb;go_region
 all_goals
   go_wp2_with fail
   have eO:=(((((((aW.out.setCell (p:=⟨w.heap.size,0,none⟩) (by simp) (.bool false)).setCell (p:=⟨w.heap.size,1,none⟩) (by simp) (.slice none 0 0)).setCell (p:=⟨w.heap.size,2,none⟩) (by simp) (.slice none 0 0)).setCell (p:=⟨w.heap.size+1,0,none⟩) (by simp) (.bool false)).setCell (p:=⟨w.heap.size+1,1,none⟩) (by simp) (.slice none 0 0)).setCell (p:=⟨w.heap.size+1,2,none⟩) (by simp) (.slice none 0 0)).setCell (p:=⟨w.heap.size+1+1,0,none⟩) (by simp;omega) (.int .i64 er)).setCell (p:=⟨w.heap.size+1+1,1,none⟩) (by simp;omega) (.int .i64 i)
   refine bodyPost_ret (v:=.tuple #[.agg #[.bool false,.slice none 0 0,.slice none 0 0],.agg #[.bool false,.slice none 0 0,.slice none 0 0],.agg #[.int .i64 er,.int .i64 i]]) (by simp [results,Tryz.results87,go_sem,a0,a1,a2,b0,b1,b2,c0,c1]) rfl ⟨rfl,?_⟩
   exact eO.drew
end Go.Proofs.YtapechjebkjidaaGreatDoor
namespace Go.Proofs.YtapechjebkjidaaGreatDoor
open Go.RowKit
def sw (n k t:Nat):Nat:=if t<k∨n - 1 - k<t then n - 1 - t else t
def RM (xs:List Value) (i j:Nat) (a b c d:Value):List Value:=(((xs.set (i*2) c).set (i*2+1) d).set (j*2) a).set (j*2+1) b
def Xt (w:World) (g lo n cap:Nat) (ys:List Value) (i j:Value) (wr:World):Prop :=
  ∃ (k q:Nat) (xs:List Value),q+k+1=n∧k≤q+1∧i=.int .i64 k∧j=.int .i64 q∧wr.ownsRow lo 105 2 (.slice (some ⟨g,0,none⟩) n cap) n xs∧w.grownBy wr (some g) ∧
    ∀ t d,t<n→d<2→xs[t*2+d]? = ys[sw n k t*2+d]?
theorem Jb {n k q:Nat} {xs ys:List Value} {a b c d:Value} (hn:q+k+1=n) (ZG:k<q) (hxl:xs.length=n*2) (h:∀ t d,t<n→d<2→xs[t*2+d]? = ys[sw n k t*2+d]?)
    (h0:ys[k*2]? = some a) (h1:ys[k*2+1]? = some b) (h2:ys[q*2]? = some c) (h3:ys[q*2+1]? = some d) :
    ∀ t e,t<n→e<2→(RM xs k q a b c d)[t*2+e]? = ys[sw n (k+1) t*2+e]?:=by
 intro t e ht he;unfold RM;have hsw:sw n (k+1) t=if t=k then q else if t=q then k else sw n k t:=by
  unfold sw;by_cases e1:t=k
  ·subst e1;rw [if_pos rfl,if_pos (by omega)];omega
  rw [if_neg e1];by_cases e2:t=q
  ·subst e2;rw [if_pos rfl,if_pos (by omega)];omega
  rw [if_neg e2];by_cases e3:t<k∨n - 1 - k<t
  ·rw [if_pos e3,if_pos (by omega)]
  rw [if_neg e3,if_neg (by omega)]
 rw [hsw];simp only [List.getElem?_set,List.length_set];by_cases e1:t=k
 ·subst e1;rw [if_pos rfl];rcases (show e=0∨e=1 by omega)with rfl | rfl
  ·rw [if_neg (by omega),if_neg (by omega),if_neg (by omega),if_pos (by omega),if_pos (by omega),Nat.add_zero,h2]
  rw [if_neg (by omega),if_neg (by omega),if_pos (by omega),if_pos (by omega),h3]
 rw [if_neg e1];by_cases e2:t=q
 ·subst e2;rw [if_pos rfl];rcases (show e=0∨e=1 by omega)with rfl | rfl
  ·rw [if_neg (by omega),if_pos (by omega),if_pos (by omega),Nat.add_zero,h0]
  rw [if_pos (by omega),if_pos (by omega),h1]
 rw [if_neg e2,if_neg (by omega),if_neg (by omega),if_neg (by omega),if_neg (by omega)];exact h t e ht he
theorem Ov {n k q:Nat} {xs:List Value} {css:List (List Value)} (hn:q+k+1=n) (hq:q≤k) (hl:css.length=n) (h2:∀ cs∈css,cs.length=2) (hxl:xs.length=n*2) (h:∀ t d,t<n→d<2→xs[t*2+d]? = css.flatten[sw n k t*2+d]?):xs=css.reverse.flatten:=by
 have h2r:∀ cs∈css.reverse,cs.length=2:=fun cs hc=>h2 cs (List.mem_reverse.1 hc);apply List.ext_getElem?;intro m;by_cases hm:m<n*2
 ·have ht:m / 2<n:=(by omega);have hd:m % 2<2:=Nat.mod_lt _ (by decide);have em:m / 2*2+m % 2=m:=(by omega);have e1:=h (m / 2) (m % 2) ht hd;rw [em]at e1;obtain⟨cs,hcs⟩:∃ z,css[n - 1 - m / 2]? = some z:=⟨_,List.getElem?_eq_getElem (by omega)⟩;obtain⟨u,hu⟩:∃ u,cs[m % 2]? = some u:=⟨_,List.getElem?_eq_getElem (by rw [h2 cs (List.mem_of_getElem? hcs)];exact hd)⟩;have hsw:sw n k (m / 2)=n - 1 - m / 2:=by
   unfold sw;by_cases e:m / 2<k∨n - 1 - k<m / 2
   ·rw [if_pos e]
   rw [if_neg e];omega
  have e2:=dG h2 _ cs hcs _ u hu;have hr:css.reverse[m / 2]? = some cs:=by
   rw [List.getElem?_reverse (by omega),hl];exact hcs
  have e3:=dG h2r _ cs hr _ u hu;rw [em]at e3;rw [e1,hsw,e2,e3]
 have hlen:css.reverse.flatten.length=n*2:=by
  have:∀ (l:List (List Value)),(∀ cs∈l,cs.length=2)→l.flatten.length=l.length*2:=by
   intro l;induction l with
   | nil=>intro _;rfl
   | cons a l ih=>
    intro ha;rw [List.flatten_cons,List.length_append,ih (fun x hx=>ha x (by simp [hx])),ha a (by simp),List.length_cons];omega
  rw [this _ h2r,List.length_reverse,hl]
 rw [List.getElem?_eq_none (by omega),List.getElem?_eq_none (by omega)]
theorem CW (lo g n cap:Nat) (css:List (List Value)) (w:World) (hn:0<n) (hn2:n≤1000) (hl:css.length=n) (hc:∀ cs∈css,∃ s A m c,cs = [.string s,.slice A m c]) (ho:w.ownsRow lo 105 2 (.slice (some ⟨g,0,none⟩) n cap) n css.flatten) :
    Calls Tryz.prog 91 #[.slice (some ⟨g,0,none⟩) n cap] w fun e w'=>e=.returned (.tuple #[])∧w'.ownsRow lo 105 2 (.slice (some ⟨g,0,none⟩) n cap) n css.reverse.flatten∧w.grownBy w' (some g):=by
 have h2:∀ cs∈css,cs.length=2:=fun cs h=>(by obtain⟨s,A,m,c,rfl⟩:=hc cs h;rfl);have HL:=Lib.hid hl;have HC:=Lib.hid hc;have H2:=Lib.hid h2;have HO:=Lib.hid ho;clear hl hc h2 ho;go_enter Tryz.func91,Tryz.ntmps91;go_wp2_with fail;go_loopw [2,3] (Xt w g lo n cap css.flatten) (fun i j _=>n - (intOf i).toNat);case atStart=>
  refine⟨0,n - 1,css.flatten,by omega,by omega,rfl,by go_num,HO.out,World.grownBy.refl _ _,fun t d ht hd=>?_⟩;unfold sw;rw [if_neg (by omega)]
 obtain⟨k,q,xs,ZG,af8,rfl,rfl,hown,zo,hx⟩:=hrel;by_cases hlt:k<q
 ·obtain⟨c1,hc1⟩:∃ z,css[k]? = some z:=⟨_,List.getElem?_eq_getElem (by rw [HL.out];omega)⟩;obtain⟨c2,hc2⟩:∃ z,css[q]? = some z:=⟨_,List.getElem?_eq_getElem (by rw [HL.out];omega)⟩;obtain⟨s1,A1,m1,d1,rfl⟩:=HC.out c1 (List.mem_of_getElem? hc1);obtain⟨s2,A2,m2,d2,rfl⟩:=HC.out c2 (List.mem_of_getElem? hc2);have y0:css.flatten[k*2]? = some (.string s1):=dG H2.out k _ hc1 0 _ rfl;have y1:css.flatten[k*2+1]? = some (.slice A1 m1 d1):=dG H2.out k _ hc1 1 _ rfl;have y2:css.flatten[q*2]? = some (.string s2):=dG H2.out q _ hc2 0 _ rfl;have y3:css.flatten[q*2+1]? = some (.slice A2 m2 d2):=dG H2.out q _ hc2 1 _ rfl;have sk:sw n k k=k:=(by unfold sw;rw [if_neg (by omega)]);have sq:sw n k q=q:=(by unfold sw;rw [if_neg (by omega)]);have x0:xs[k*2]? = some (Value.string s1):=(hx k 0 (by omega) (by omega)).trans (by rw [sk];exact y0);have x1:xs[k*2+1]? = some (Value.slice A1 m1 d1):=(hx k 1 (by omega) (by omega)).trans (by rw [sk];exact y1);have x2:xs[q*2]? = some (Value.string s2):=(hx q 0 (by omega) (by omega)).trans (by rw [sq];exact y2);have x3:xs[q*2+1]? = some (Value.slice A2 m2 d2):=(hx q 1 (by omega) (by omega)).trans (by rw [sq];exact y3);have z0:wr.cell? ⟨g,k*2,none⟩=some (.string s1):=(by have:=World.ownsRow.cells hown (g:=g) rfl _ _ x0;rwa [jV,Nat.zero_add]at this);have z1:wr.cell? ⟨g,k*2+1,none⟩=some (.slice A1 m1 d1):=(by have:=World.ownsRow.cells hown (g:=g) rfl _ _ x1;rwa [jV,Nat.zero_add]at this);have z2:wr.cell? ⟨g,q*2,none⟩=some (.string s2):=(by have:=World.ownsRow.cells hown (g:=g) rfl _ _ x2;rwa [jV,Nat.zero_add]at this);have z3:wr.cell? ⟨g,q*2+1,none⟩=some (.slice A2 m2 d2):=(by have:=World.ownsRow.cells hown (g:=g) rfl _ _ x3;rwa [jV,Nat.zero_add]at this);have f0:=World.ownsRow.frozenAt hown (k*2)
  have f1:=World.ownsRow.frozenAt hown (k*2+1);have f2:=World.ownsRow.frozenAt hown (q*2);have f3:=World.ownsRow.frozenAt hown (q*2+1);have hs:=World.ownsRow.stored (World.ownsRow.stored (World.ownsRow.stored (World.ownsRow.stored hown (k*2) (.string s2)).1 (k*2+1) (.slice A2 m2 d2)).1 (q*2) (.string s1)).1 (q*2+1) (.slice A1 m1 d1);have Z4:=(((zo.trans (World.ownsRow.stored hown (k*2) (.string s2)).2).trans (World.ownsRow.stored (World.ownsRow.stored hown (k*2) (.string s2)).1 (k*2+1) (.slice A2 m2 d2)).2).trans (World.ownsRow.stored (World.ownsRow.stored (World.ownsRow.stored hown (k*2) (.string s2)).1 (k*2+1) (.slice A2 m2 d2)).1 (q*2) (.string s1)).2).trans hs.2;have fW:=Lib.hid (Jb ZG hlt hown.1 hx y0 y1 y2 y3);have HS:=Lib.hid hs.1;have HG:=Lib.hid Z4;have agM:¬ k*2=q*2:=(by omega);have NR:¬ k*2=q*2+1:=(by omega);have Na:¬ k*2+1=q*2:=(by omega);have hkn:(k:Int)<(n:Int):=(by omega);have hqn:(q:Int)<(n:Int):=(by omega);clear hs Z4 hx x0 x1 x2 x3 y0 y1 y2 y3 hc1 hc2 sk sq hown zo;go_wp2_with fail;go_region
  all_goals
    go_wp2_with fail
    refine⟨⟨k+1,q - 1,_,by omega,by omega,by go_num,by go_num,HS.out,⟨HG.out.os,HG.out.tape,HG.out.output,HG.out.size,HG.out.block⟩,fW.out⟩,by simp [intOf];omega⟩
 have HX:=Lib.hid (Ov ZG (by omega) HL.out H2.out hown.1 hx);have HW:=Lib.hid hown;have HG:=Lib.hid zo;clear hx hown zo;go_wp2_with fail;go_end0;rw [← HX.out];exact⟨rfl,HW.out,HG.out⟩
theorem tA (A:Option Addr) (cap:Nat) (w:World) :
    Calls Tryz.prog 91 #[.slice A 0 cap] w fun e w'=>e=.returned (.tuple #[])∧w=w':=by
 go_enter Tryz.func91,Tryz.ntmps91;go_wp2_with fail;go_loopw [2,3] (fun i j wr=>i=.int .i64 0∧j=.int .i64 (-1)∧wr=w) (fun _ _ _=>0);(case atStart=>exact⟨rfl,rfl,rfl⟩);obtain⟨rfl,rfl,rfl⟩:=hrel;go_wp2_with fail;go_end0;exact⟨rfl,rfl⟩
end Go.Proofs.YtapechjebkjidaaGreatDoor
namespace Go.Proofs.YtapechjebkjidaaGreatDoor
open Go.RowKit Go.Maps
def sU (B lo:Nat) (w:World) (l:List aI) (e:Ending):Prop :=
  ∃ cs ds:List Value,cs.length=3∧ds.length=3∧e=.returned (.tuple #[.agg cs.toArray,.agg ds.toArray,.agg #[.int .i64 (cT false l).2.1,.int .i64 (cT false l).2.2]]) ∧
    dP w (Fr B lo) (cT false l).1 cs∧dP w (Fr B lo) (cT true l).1 ds
theorem oP (w:World) (X:Nat→Prop):dP w X oo [.bool false,.slice none 0 0,.slice none 0 0] :=
  ⟨_,_,rfl,⟨none,0,0,rfl,⟨rfl,fun h=>absurd h (Nat.lt_irrefl 0)⟩,Nat.zero_le _⟩,⟨none,0,0,rfl,⟨[],rfl,rfl,by simp,by simp,rfl,fun h=>absurd h (Nat.lt_irrefl 0)⟩,Nat.zero_le _⟩⟩
def jS (w:World) (cf cb cr:Array Value) (wx:World):Prop :=
  ak wx w.heap.size 47 cf∧ak wx (w.heap.size+1) 47 cb∧ak wx (w.heap.size+2) 51 cr∧Below w.heap.size w wx
theorem jS.below {w wx w2:World} {cf cb cr:Array Value} (h:jS w cf cb cr wx) (hb:Below wx.heap.size wx w2):jS w cf cb cr w2 :=
  ⟨ak.below h.1 hb h.1.lt,ak.below h.2.1 hb h.2.1.lt,ak.below h.2.2.1 hb h.2.2.1.lt,h.2.2.2.trans (hb.mono h.2.2.2.size)⟩
theorem jS.made (w:World):jS w aC aC #[.int .i64 0,.int .i64 0] (((w.alloc (.cells aC 47)).alloc (.cells aC 47)).alloc (.cells #[.int .i64 0,.int .i64 0] 51)):=by
 refine⟨ak.alloc (ak.alloc (ak.new _ _ _) _) _,?_,?_,(((Below.refl _ _).alloc (Nat.le_refl _) _).alloc (by simp) _).alloc (by simp;omega) _⟩
 ·have:=ak.alloc (ak.new (w.alloc (.cells aC 47)) 47 aC) (.cells #[.int .i64 0,.int .i64 0] 51);simpa using this
 have:=ak.new ((w.alloc (.cells aC 47)).alloc (.cells aC 47)) 51 #[.int .i64 0,.int .i64 0];simpa using this
theorem vB (B:Nat) (A:Option Addr) (n c:Nat) (l:List aI) (w:World) (hn:n≤maxLen) (hB:B≤w.heap.size) (hl:EN w B A n l) (hw:(fJ l).1≠0) :
    Calls Tryz.prog 61 #[.slice A n c] w fun e w'=>sU B w.heap.size w' l e∧Below w.heap.size w w':=by
 have hrf:∀ w',Below w.heap.size w w'→Calls Tryz.prog 85 #[.slice A n c] w' fun e w2=>e=.returned (.agg #[.int .i64 (fJ l).1,.int .i64 (fJ l).2])∧Below w'.heap.size w' w2 :=
   fun w' hb=>qb A n c l w' hn (EN.weak (gA (hb.mono hB) (Nat.le_trans hB hb.size)) hl)
 have hne:((fJ l).1 != 0)=true:=(by simpa using hw);have hp1:=Lib.hid (ko (back:=false) hw);have hp2:=Lib.hid (ko (back:=true) hw);clear hw hl hn;generalize hF:fJ l=F at *;obtain⟨F1,F2⟩:=F;dsimp only at *;clear hF;have sV:=Lib.hid hrf;have fI:=Lib.hid (jS.made w);clear hrf;go_enter Tryz.func61,Tryz.ntmps61;go_wp2_with fail;refine(sV.out _ fI.out.2.2.2).mono ?_;rintro e w1 ⟨rfl,aT⟩;have hr:=jS.below fI.out aT;have a0:w1.cell? ⟨w.heap.size,0,none⟩=some (.bool false):=hr.1.cell 0;have a1:w1.cell? ⟨w.heap.size,1,none⟩=some (.slice none 0 0):=hr.1.cell 1;have a2:w1.cell? ⟨w.heap.size,2,none⟩=some (.slice none 0 0):=hr.1.cell 2;have b0:w1.cell? ⟨w.heap.size+1,0,none⟩=some (.bool false):=hr.2.1.cell 0;have b1:w1.cell? ⟨w.heap.size+1,1,none⟩=some (.slice none 0 0):=hr.2.1.cell 1;have b2:w1.cell? ⟨w.heap.size+1,2,none⟩=some (.slice none 0 0):=hr.2.1.cell 2;have c0:w1.cell? ⟨w.heap.size+2,0,none⟩=some (.int .i64 0):=hr.2.2.1.cell 0;have c1:w1.cell? ⟨w.heap.size+2,1,none⟩=some (.int .i64 0):=hr.2.2.1.cell 1;have d0:=hr.1.frozen 0;have d1:=hr.1.frozen 1;have d2:=hr.1.frozen 2;have d3:=hr.2.1.frozen 0;have d4:=hr.2.1.frozen 1;have d5:=hr.2.1.frozen 2;have d6:=hr.2.2.1.frozen 0;have d7:=hr.2.2.1.frozen 1;have HR:=Lib.hid hr;clear aT hr;go_upto_region 3 with fail;have mG:jS w aC aC #[.int .i64 F1,.int .i64 F2] ((w1.setCell ⟨w.heap.size+1+1,0,none⟩ (.int .i64 F1)).setCell ⟨w.heap.size+1+1,1,none⟩ (.int .i64 F2)):=by
  obtain⟨g1,g2,g3,g4⟩:=HR.out;refine⟨av (av g1 (by omega)) (by omega),av (av g2 (by omega)) (by omega),?_,(g4.setCell (by simp;omega) _).setCell (by simp;omega) _⟩;have:=(g3.put 0 (.int .i64 F1)).put 1 (.int .i64 F2);simpa using this
 clear a0 a1 a2 b0 b1 b2 c0 c1 d0 d1 d2 d3 d4 d5 d6 d7 HR;generalize (w1.setCell ⟨w.heap.size+1+1,0,none⟩ (.int .i64 F1)).setCell ⟨w.heap.size+1+1,1,none⟩ (.int .i64 F2)=W3 at *;have a0:W3.cell? ⟨w.heap.size,0,none⟩=some (.bool false):=mG.1.cell 0;have a1:W3.cell? ⟨w.heap.size,1,none⟩=some (.slice none 0 0):=mG.1.cell 1;have a2:W3.cell? ⟨w.heap.size,2,none⟩=some (.slice none 0 0):=mG.1.cell 2;have b0:W3.cell? ⟨w.heap.size+1,0,none⟩=some (.bool false):=mG.2.1.cell 0;have b1:W3.cell? ⟨w.heap.size+1,1,none⟩=some (.slice none 0 0):=mG.2.1.cell 1;have b2:W3.cell? ⟨w.heap.size+1,2,none⟩=some (.slice none 0 0):=mG.2.1.cell 2;have c0:W3.cell? ⟨w.heap.size+1+1,0,none⟩=some (.int .i64 F1):=mG.2.2.1.cell 0;have c1:W3.cell? ⟨w.heap.size+1+1,1,none⟩=some (.int .i64 F2):=mG.2.2.1.cell 1;have d0:=mG.1.frozen 0;have d1:=mG.1.frozen 1;have d2:=mG.1.frozen 2;have d3:=mG.2.1.frozen 0;have d4:=mG.2.1.frozen 1;have d5:=mG.2.1.frozen 2;have d6:W3.frozen? ⟨w.heap.size+1+1,0,none⟩=false:=mG.2.2.1.frozen 0;have d7:W3.frozen? ⟨w.heap.size+1+1,1,none⟩=false:=mG.2.2.1.frozen 1;have aW:=Lib.hid mG.2.2.2;clear mG;go_region
 all_goals
   go_wp2_with fail
   have eO:=(((((((aW.out.setCell (p:=⟨w.heap.size,0,none⟩) (by simp) (.bool false)).setCell (p:=⟨w.heap.size,1,none⟩) (by simp) (.slice none 0 0)).setCell (p:=⟨w.heap.size,2,none⟩) (by simp) (.slice none 0 0)).setCell (p:=⟨w.heap.size+1,0,none⟩) (by simp) (.bool false)).setCell (p:=⟨w.heap.size+1,1,none⟩) (by simp) (.slice none 0 0)).setCell (p:=⟨w.heap.size+1,2,none⟩) (by simp) (.slice none 0 0)).setCell (p:=⟨w.heap.size+1+1,0,none⟩) (by simp;omega) (.int .i64 F1)).setCell (p:=⟨w.heap.size+1+1,1,none⟩) (by simp;omega) (.int .i64 F2)
   refine bodyPost_ret (v:=.tuple #[.agg #[.bool false,.slice none 0 0,.slice none 0 0],.agg #[.bool false,.slice none 0 0,.slice none 0 0],.agg #[.int .i64 F1,.int .i64 F2]]) (by simp [results,Tryz.results61,go_sem,a0,a1,a2,b0,b1,b2,c0,c1]) rfl ⟨⟨[.bool false,.slice none 0 0,.slice none 0 0],[.bool false,.slice none 0 0,.slice none 0 0],rfl,rfl,by rw [hp1.out],by rw [hp1.out];exact oP _ _,by rw [hp2.out];exact oP _ _⟩,?_⟩
   exact eO.drew
end Go.Proofs.YtapechjebkjidaaGreatDoor
namespace Go.Proofs.YtapechjebkjidaaGreatDoor
open Go.RowKit Go.Maps
theorem tS {w w1:World} {X:Nat→Prop} {mb:Nat} (hg:w.grownBy w1 (some mb)) (hX:∀ b,X b→b≠mb):ag w X w1 X:=fun b hx hl=>
  ⟨hg.block b hl (fun e=>hX b hx (by injection e)),hx,Nat.lt_of_lt_of_le hl hg.size⟩
theorem nu {w w1:World} {mb g:Nat} {t:TypeId} {cs:Array Value} (hg:w.grownBy w1 (some mb)) (h:ak w g t cs) (hne:g≠mb):ak w1 g t cs :=
  (hg.block g h.lt (fun e=>hne (by injection e))).trans h
theorem QC {w w1:World} {mb lo sz n:Nat} {e:TypeId} {v:Value} {xs:List Value} (hg:w.grownBy w1 (some mb)) (hm:mb<lo) (h:w.ownsRow lo e sz v n xs):w1.ownsRow lo e sz v n xs:=by
 refine World.ownsRow.kept h hg ?_;cases hv:v.ownBlock with
 | none=>exact .inl rfl
 | some b=>
  right;intro e;injection e with e;have:=(bG h hv).1;omega
theorem cL.map {B lo mb:Nat} {A A2:List au} {P P2:List cE} {va vb vp vq:Value} {wx w1:World} (h:cL B lo A A2 P P2 va vb vp vq wx) (hg:wx.grownBy w1 (some mb)) (h1:B≤mb) (h2:mb<lo):cL B lo A A2 P P2 va vb vp vq w1 :=
  cL.kept (tS hg (fun b hb=>by rcases hb with h | h <;> omega)) (fun _ _ _ _ _ h=>QC hg h2 h) h
theorem iN.map {ga gb gp gq mb:Nat} {ca cb cp cq:Value} {wx w1:World} (h:iN ga gb gp gq ca cb cp cq wx) (hg:wx.grownBy w1 (some mb)) (h1:ga≠mb) (h2:gb≠mb) (h3:gp≠mb) (h4:gq≠mb):iN ga gb gp gq ca cb cp cq w1 :=
  ⟨nu hg h.1 h1,nu hg h.2.1 h2,nu hg h.2.2.1 h3,nu hg h.2.2.2 h4⟩
theorem iN.below {ga gb gp gq:Nat} {ca cb cp cq:Value} {wx w1:World} (h:iN ga gb gp gq ca cb cp cq wx) (hb:Below wx.heap.size wx w1):iN ga gb gp gq ca cb cp cq w1 :=
  ⟨ak.below h.1 hb h.1.lt,ak.below h.2.1 hb h.2.1.lt,ak.below h.2.2.1 hb h.2.2.1.lt,ak.below h.2.2.2 hb h.2.2.2.lt⟩
theorem iN.set {ga gb gp gq g i:Nat} {u:Value} {ca cb cp cq:Value} {wx:World} (h:iN ga gb gp gq ca cb cp cq wx) (h1:ga≠g) (h2:gb≠g) (h3:gp≠g) (h4:gq≠g):iN ga gb gp gq ca cb cp cq (wx.setCell ⟨g,i,none⟩ u) :=
  ⟨av h.1 h1,av h.2.1 h2,av h.2.2.1 h3,av h.2.2.2 h4⟩
theorem jS.map {w wx w1:World} {cf cb cr:Array Value} {mb:Nat} (h:jS w cf cb cr wx) (hg:wx.grownBy w1 (some mb)) (hm:w.heap.size+3≤mb):jS w cf cb cr w1 :=
  ⟨nu hg h.1 (by omega),nu hg h.2.1 (by omega),nu hg h.2.2.1 (by omega),h.2.2.2.grown hg h.2.2.2.size (fun k e=>by injection e with e;omega)⟩
theorem jS.VC {w wx:World} {cf cb cr:Array Value} (h:jS w cf cb cr wx) (i:Nat) (u:Value):jS w (cf.setIfInBounds i u) cb cr (wx.setCell ⟨w.heap.size,i,none⟩ u) :=
  ⟨h.1.put i u,av h.2.1 (by omega),av h.2.2.1 (by omega),h.2.2.2.setCell (by simp) _⟩
theorem cL.fresh {B lo:Nat} {A A2:List au} {P P2:List cE} {va vb vp vq:Value} {wx:World} (h:cL B lo A A2 P P2 va vb vp vq wx) (hlo:lo≤wx.heap.size):∀ b,wx.heap.size≤b→bh B lo va vb vp vq b:=by
 obtain⟨⟨_,_,_,_,o1⟩,⟨_,_,_,_,o2⟩,⟨_,_,_,_,o3⟩,⟨_,_,_,_,o4⟩,_⟩:=h;intro b hb;have ne:∀ {e:TypeId} {sz n:Nat} {v:Value} {xs:List Value},wx.ownsRow lo e sz v n xs→v.ownBlock≠some b:=fun ho e=>by
  have:=(bG ho e).2;omega
 exact .inr ⟨by omega,ne o1,ne o2,ne o3,ne o4⟩
theorem fU.set {w:World} {B mb n g i:Nat} {l:List aI} {u:Value} (h:fU w (· < B) mb n l) (h1:B≤g) (h2:g≠mb):fU (w.setCell ⟨g,i,none⟩ u) (· < B) mb n l :=
  fU.keep (ag.setCell u (fun b hb=>by dsimp only;omega) (fun _ h _=>h)) (Below.heap_setCell _ _ _ _ (Ne.symm h2)) h
theorem fU.below {w w':World} {B mb n:Nat} {l:List aI} (h:fU w (· < B) mb n l) (hb:Below w.heap.size w w'):fU w' (· < B) mb n l :=
  fU.keep (ag.below hb (fun _ h _=>h)) (hb.block _ h.lt) h
theorem zZ {l:List aI} {k:Nat} {s t:RC} (h1:dI false l k=.ok s) (h2:dI true l k=.ok t):s.some? = t.some?∧s.only=t.only:=by
 rcases zQ l k with ⟨s',t',g1,g2,g3,g4⟩ | ⟨e,g1,_⟩
 ·rw [h1]at g1;rw [h2]at g2;injection g1 with g1;injection g2 with g2;subst g1 g2;exact⟨g3,g4⟩
 rw [h1]at g1;cases g1
theorem oJ {B lo:Nat} {l:List aI} {er:Int} {k:Nat} (hw:(fJ l).1=0) (hk:k+1≤l.length) (h1:dI false l (k+1)=.error (er,(k:Int))) (h2:dI true l (k+1)=.error (er,(k:Int))) (w':World) :
    sU B lo w' l (.returned (.tuple #[.agg #[.bool false,.slice none 0 0,.slice none 0 0],.agg #[.bool false,.slice none 0 0,.slice none 0 0],.agg #[.int .i64 er,.int .i64 k]])):=by
 have e1:=kj hw hk h1;have e2:=kj hw hk h2;exact⟨[.bool false,.slice none 0 0,.slice none 0 0],[.bool false,.slice none 0 0,.slice none 0 0],rfl,rfl,by rw [e1],by rw [e1];exact oP _ _,by rw [e2];exact oP _ _⟩
section
variable {back : Bool} {l : List aI} {k : Nat} {p : aI} {s : RC}
theorem sK {x:af} (h:p.kind=1) (hl:fY (l.take k) p.name=some x):je back l k p s=.error (7,(k:Int)):=by
 unfold je;rw [if_pos h,hl]
theorem pV (h:p.kind=1) (hl:fY (l.take k) p.name=none):je back l k p s=.ok s:=by
 unfold je;rw [if_pos h,hl]
theorem lO (h:p.kind=3) (hs:s.some? = true):je back l k p s=.error (5,(k:Int)):=by
 unfold je;rw [h,if_neg (by decide),if_pos rfl,if_pos hs]
theorem step_filter (h:p.kind=3) (hs:s.some? = false):je back l k p s=.ok ⟨true,p.set,s.ps,s.a⟩:=by
 unfold je;rw [h,if_neg (by decide),if_pos rfl,if_neg (by rw [hs];decide)]
theorem AB (h:p.kind=4):je back l k p s=.ok ⟨s.some?,s.only,s.ps++gH s.a++[⟨if back=true then dZ p.name else p.name,[]⟩],[]⟩:=by
 unfold je;rw [h,if_neg (by decide),if_neg (by decide),if_pos rfl]
theorem ki (h:p.kind=2) (hr:((eX (l.take k) p.left p.right).isSome && (eX (l.take k) p.right p.left).isSome)=false):je back l k p s=.error (7,(k:Int)):=by
 unfold je;rw [h,if_neg (by decide),if_neg (by decide),if_neg (by decide)];cases h1:eX (l.take k) p.left p.right with
 | none=>rfl
 | some x=>
  cases h2:eX (l.take k) p.right p.left with
  | none=>rfl
  | some y=>rw [h1,h2]at hr;cases hr
theorem AN {x y:au} (h:p.kind=2) (h1:eX (l.take k) p.left p.right=some x) (h2:eX (l.take k) p.right p.left=some y) :
    je back l k p s=.ok (if (back=true∧p.dir=1)∨(back=false∧p.dir=2)then s else ⟨s.some?,s.only,s.ps,s.a++[if back=true then y else x]⟩):=by
 unfold je;rw [h,if_neg (by decide),if_neg (by decide),if_neg (by decide),h1,h2]
end
end Go.Proofs.YtapechjebkjidaaGreatDoor
