/- ReadyP + ReadySt + Close + Fail + Reverse + Ready + ReadyArm + ReadyBd + ReadyEnd -/
import Derived.Test.YtamkjeipdjbemaaGreatDoorZp15
import Derived.Test.YtamkjeipdjbemaaGreatDoorZp10
import Derived.Deep.RegionHeldLaw
import Derived.Deep.DeepCutAuto
import Derived.BigRegion
import Derived.Laws.OwnMore
import Derived.Test.YtamkjeipdjbemaaGreatDoorZp14
set_option maxHeartbeats 3200000
set_option maxRecDepth 100000
namespace Go.Proofs.YtamkjeipdjbemaaGreatDoor
open Go.RowKit
structure QG where
  some? : Bool
  only:ag
  ps:List cz
  a:List az
def gR:List az→List cz
  | []=>[]
  | x::r=>[⟨⟨#[]⟩,x::r⟩]
def eB (s:ByteArray):ByteArray:=if s=fc then fl else if s=fl then fc else jy
def jv (back:Bool) (l:List aK) (i:Nat) (p:aK) (s:QG):Except (Int × Int) QG :=
  if p.kind=1 then (match gA (l.take i) p.name with
    | some _=>.error (7,i)
    | none=>.ok s)
  else if p.kind=3 then (if s.some? = true then .error (5,i)else .ok ⟨true,p.set,s.ps,s.a⟩)
  else if p.kind=4 then .ok ⟨s.some?,s.only,s.ps++gR s.a++[⟨if back=true then eB p.name else p.name,[]⟩],[]⟩
  else match fA (l.take i) p.left p.right,fA (l.take i) p.right p.left with
    | some x,some y=>.ok (if (back=true∧p.dir=1)∨(back=false∧p.dir=2)then s else ⟨s.some?,s.only,s.ps,s.a++[if back=true then y else x]⟩)
    | _,_=>.error (7,i)
def ec (back:Bool) (l:List aK):Nat→Except (Int × Int) QG
  | 0=>.ok ⟨false,[],[],[]⟩
  | k+1=>match ec back l k with
    | .error e=>.error e
    | .ok s=>match l[k]? with
      | some p=>jv back l k p s
      | none=>.ok s
def oq:aR:=⟨false,[],[]⟩
def cY (back:Bool) (l:List aK):aR × (Int × Int) :=
  if (fX l).1≠0 then (oq,fX l)else match ec back l l.length with
    | .error e=>(oq,e)
    | .ok s=>(⟨s.some?,s.only,if back=true then (s.ps++gR s.a).reverse else s.ps++gR s.a⟩,(0,0))
theorem kP {back:Bool} {l:List aK} {k:Nat} {p:aK} {s:QG} (h:ec back l k=.ok s) (hp:l[k]? = some p):ec back l (k+1)=jv back l k p s:=by
 rw [ec,h];simp only [hp]
theorem CR {back:Bool} {l:List aK} {k:Nat} {e:Int × Int} (h:ec back l k=.error e):∀ m,k≤m→ec back l m=.error e:=by
 intro m hm;induction m with
 | zero=>
  obtain rfl:k=0:=(by omega);exact h
 | succ m ih=>
  rcases Nat.lt_or_ge m k with h1 | h1
  ·obtain rfl:k=m+1:=(by omega);exact h
  rw [ec,ih h1]
theorem kJ {back:Bool} {l:List aK} (h:(fX l).1≠0):cY back l=(oq,fX l):=by
 unfold cY;rw [if_pos h]
theorem kH {back:Bool} {l:List aK} {k:Nat} {e:Int × Int} (h:(fX l).1=0) (hk:k≤l.length) (h1:ec back l k=.error e):cY back l=(oq,e):=by
 unfold cY;rw [if_neg (by simp [h]),CR h1 _ hk]
theorem oV {back:Bool} {l:List aK} {s:QG} (h:(fX l).1=0) (h1:ec back l l.length=.ok s):cY back l=(⟨s.some?,s.only,if back=true then (s.ps++gR s.a).reverse else s.ps++gR s.a⟩,(0,0)):=by
 unfold cY;rw [if_neg (by simp [h]),h1]
theorem zO (l:List aK):∀ k,(∃ s t,ec false l k=.ok s∧ec true l k=.ok t∧s.some? = t.some?∧s.only=t.only)∨(∃ e,ec false l k=.error e∧ec true l k=.error e):=by
 intro k;induction k with
 | zero=>exact .inl ⟨_,_,rfl,rfl,rfl,rfl⟩
 | succ k ih=>
  rcases ih with ⟨s,t,h1,h2,h3,h4⟩ | ⟨e,h1,h2⟩
  ·cases hp:l[k]? with
   | none=>exact .inl ⟨s,t,by rw [ec,h1];simp only [hp],by rw [ec,h2];simp only [hp],h3,h4⟩
   | some p=>
    rw [kP h1 hp,kP h2 hp];unfold jv;by_cases k1:p.kind=1
    ·rw [if_pos k1,if_pos k1];cases gA (l.take k) p.name with
     | none=>exact .inl ⟨s,t,rfl,rfl,h3,h4⟩
     | some x=>exact .inr ⟨_,rfl,rfl⟩
    rw [if_neg k1,if_neg k1];by_cases k3:p.kind=3
    ·rw [if_pos k3,if_pos k3,h3];by_cases ht:t.some? = true
     ·rw [if_pos ht,if_pos ht];exact .inr ⟨_,rfl,rfl⟩
     rw [if_neg ht,if_neg ht];exact .inl ⟨_,_,rfl,rfl,rfl,rfl⟩
    rw [if_neg k3,if_neg k3];by_cases k4:p.kind=4
    ·rw [if_pos k4,if_pos k4];exact .inl ⟨_,_,rfl,rfl,h3,h4⟩
    rw [if_neg k4,if_neg k4];cases fA (l.take k) p.left p.right with
    | none=>exact .inr ⟨_,rfl,rfl⟩
    | some x=>
     cases fA (l.take k) p.right p.left with
     | none=>exact .inr ⟨_,rfl,rfl⟩
     | some y=>
      refine .inl ⟨_,_,rfl,rfl,?_,?_⟩
      ·by_cases d1:p.dir=1 <;> by_cases d2:p.dir=2 <;> simp [d1,d2,h3]
      by_cases d1:p.dir=1 <;> by_cases d2:p.dir=2 <;> simp [d1,d2,h4]
  exact .inr ⟨e,by rw [ec,h1],by rw [ec,h2]⟩
theorem CI (s:ByteArray) (w:World):Calls Tryz.prog 73 #[.string s] w fun e w'=>e=.returned (.string (eB s))∧w=w':=by
 have e1:fc.toList = [117,112,112,101,114]:=(by rw [Lib.toList_data];rfl);have e2:fl.toList = [108,111,119,101,114]:=(by rw [Lib.toList_data];rfl);have q1:(s.toList == [117,112,112,101,114])=decide (s=fc):=(by rw [← e1,L7]);have q2:(s.toList == [108,111,119,101,114])=decide (s=fl):=(by rw [← e2,L7]);clear e1 e2;by_cases h1:s=fc
 ·have p1:(s.toList == [117,112,112,101,114])=true:=(by rw [q1];simpa using h1);have HI:=qqh (show eB s=⟨#[108,111,119,101,114]⟩ by unfold eB;rw [if_pos h1];rfl);clear h1 q1 q2;go_enter Tryz.func73,Tryz.ntmps73;go_wp2;go_ret;rw [HI.out];exact⟨rfl,rfl⟩
 have p1:(s.toList == [117,112,112,101,114])=false:=(by rw [q1];simpa using h1);by_cases h2:s=fl
 ·have p2:(s.toList == [108,111,119,101,114])=true:=(by rw [q2];simpa using h2);have HI:=qqh (show eB s=⟨#[117,112,112,101,114]⟩ by unfold eB;rw [if_neg h1,if_pos h2];rfl);clear h1 h2 q1 q2;go_enter Tryz.func73,Tryz.ntmps73;go_wp2;go_ret;rw [HI.out];exact⟨rfl,rfl⟩
 have p2:(s.toList == [108,111,119,101,114])=false:=(by rw [q2];simpa using h2);have HI:=qqh (show eB s=⟨#[110,117,108,108]⟩ by unfold eB;rw [if_neg h1,if_neg h2];rfl);clear h1 h2 q1 q2;go_enter Tryz.func73,Tryz.ntmps73;go_wp2;go_ret;rw [HI.out];exact⟨rfl,rfl⟩
def bI (B lo:Nat) (va vb vp vq:Value) (b:Nat):Prop:=b<B∨(lo≤b∧va.ownBlock≠some b∧vb.ownBlock≠some b∧vp.ownBlock≠some b∧vq.ownBlock≠some b)
def dB (B lo:Nat) (A A2:List az) (P P2:List cz) (va vb vp vq:Value) (wx:World):Prop :=
  dD (bg wx (bI B lo va vb vp vq)) 133 7 wx lo va A∧dD (bg wx (bI B lo va vb vp vq)) 133 7 wx lo vb A2 ∧
  dD (cX wx (bI B lo va vb vp vq)) 63 2 wx lo vp P∧dD (cX wx (bI B lo va vb vp vq)) 63 2 wx lo vq P2 ∧
  (∀ b,va.ownBlock=some b→vb.ownBlock≠some b)∧(∀ b,vp.ownBlock=some b→vq.ownBlock≠some b)
section
variable {B lo : Nat} {A A2 : List az} {P P2 : List cz} {va vb vp vq v' : Value} {wx w2 : World}
theorem bI.wW {b:Nat} (h:bI B lo va vb vp vq b):bI B lo vb va vp vq b:=h.imp id (fun⟨h1,h2,h3,h4⟩=>⟨h1,h3,h2,h4⟩)
theorem bI.uw {b:Nat} (h:bI B lo va vb vp vq b):bI B lo va vb vq vp b:=h.imp id (fun⟨h1,h2,h3,h4,h5⟩=>⟨h1,h2,h3,h5,h4⟩)
theorem dB.nil (B lo:Nat) (w:World):dB B lo [] [] [] [] (.slice none 0 0) (.slice none 0 0) (.slice none 0 0) (.slice none 0 0) w :=
  ⟨dD.nil _ _,dD.nil _ _,dD.nil _ _,dD.nil _ _,fun b h=>by simp [Value.ownBlock]at h,fun b h=>by simp [Value.ownBlock]at h⟩
theorem dB.kept (hk:aa wx (bI B lo va vb vp vq) w2 (bI B lo va vb vp vq)) (ho:∀ (e:TypeId) (sz n:Nat) (v:Value) (xs:List Value),wx.ownsRow lo e sz v n xs→w2.ownsRow lo e sz v n xs)
    (h:dB B lo A A2 P P2 va vb vp vq wx):dB B lo A A2 P P2 va vb vp vq w2:=by
 obtain⟨h1,h2,h3,h4,h5,h6⟩:=h;exact⟨h1.kept (ho _ _ · _ ·) (fun _ _=>bg.keep hk),h2.kept (ho _ _ · _ ·) (fun _ _=>bg.keep hk),h3.kept (ho _ _ · _ ·) (fun _ _=>cX.keep hk),h4.kept (ho _ _ · _ ·) (fun _ _=>cX.keep hk),h5,h6⟩
theorem dB.below (h:dB B lo A A2 P P2 va vb vp vq wx) (hb:Below wx.heap.size wx w2):dB B lo A A2 P P2 va vb vp vq w2 :=
  dB.kept (aa.below hb (fun _ h _=>h)) (fun _ _ _ _ _ h=>bG h hb) h
theorem dB.wW (h:dB B lo A A2 P P2 va vb vp vq wx):dB B lo A2 A P P2 vb va vp vq wx:=by
 obtain⟨h1,h2,h3,h4,h5,h6⟩:=h;have hk:aa wx (bI B lo va vb vp vq) wx (bI B lo vb va vp vq):=aa.refl (fun _ h=>h.wW);exact⟨h2.weak (fun _ _=>bg.keep hk),h1.weak (fun _ _=>bg.keep hk),h3.weak (fun _ _=>cX.keep hk),h4.weak (fun _ _=>cX.keep hk),fun b hb hc=>h5 b hc hb,h6⟩
theorem dB.uw (h:dB B lo A A2 P P2 va vb vp vq wx):dB B lo A A2 P2 P va vb vq vp wx:=by
 obtain⟨h1,h2,h3,h4,h5,h6⟩:=h;have hk:aa wx (bI B lo va vb vp vq) wx (bI B lo va vb vq vp):=aa.refl (fun _ h=>h.uw);exact⟨h1.weak (fun _ _=>bg.keep hk),h2.weak (fun _ _=>bg.keep hk),h4.weak (fun _ _=>cX.keep hk),h3.weak (fun _ _=>cX.keep hk),h5,fun b hb hc=>h6 b hc hb⟩
theorem dB.drop (h:dB B lo A A2 P P2 va vb vp vq wx):dB B lo [] A2 P P2 (.slice none 0 0) vb vp vq wx:=by
 obtain⟨_,h2,h3,h4,_,h6⟩:=h;have hk:aa wx (bI B lo va vb vp vq) wx (bI B lo (.slice none 0 0) vb vp vq):=aa.refl (fun _ h=>h.imp id (fun⟨g1,_,g3⟩=>⟨g1,by simp [Value.ownBlock],g3⟩));exact⟨dD.nil _ _,h2.weak (fun _ _=>bg.keep hk),h3.weak (fun _ _=>cX.keep hk),h4.weak (fun _ _=>cX.keep hk),fun b hb=>by simp [Value.ownBlock]at hb,h6⟩
theorem dB.dS (ZO:B≤lo) {css:List (List Value)} {p:cz} {cs:List Value} {t:TypeId} (h:dB B lo A A2 P P2 va vb vp vq wx) (h1:css.length=P.length)
    (h2:∀ (i:Nat) (a:cz) (cs:List Value),P[i]? = some a→css[i]? = some cs→cX wx (bI B lo va vb vp vq) a cs) (h3:∀ cs∈css,cs.length=2) (h4:wx.ownsRow lo 63 2 vp P.length css.flatten)
    (hp:cX wx (bI B lo va vb vp vq) p cs) (hcs:cs.length=2) (ha:bh lo 63 2 vp (wx.alloc (.cells cs.toArray t)) (P.length+1) (css.flatten++cs) v' w2):dB B lo A A2 (P++[p]) P2 va vb v' vq w2:=by
 obtain⟨g1,g2,_,g4,g5,g6⟩:=h;have hk:aa wx (bI B lo va vb vp vq) w2 (bI B lo va vb v' vq):=by
  intro b hb hl;have gh:b<(wx.alloc (.cells cs.toArray t)).heap.size:=(by simp;omega);have hne:vp.ownBlock≠some b:=by
   rcases hb with hb | hb
   ·intro e;have:=(bt h4 e).1;omega
   exact hb.2.2.2.1
  refine⟨(ha.2.1.block b gh (fun e=>hne e.symm)).trans (heap_alloc_old wx _ hl),hb.imp id (fun⟨a1,a2,a3,a4,a5⟩=>⟨a1,a2,a3,?_,a5⟩),Nat.lt_of_lt_of_le gh ha.2.1.size⟩;rcases ha.2.2 with e | e
  ·rw [e];exact a4
  rw [e];intro he;injection he with he;omega
 have ow:=World.ownsRow.alloc h4 (.cells cs.toArray t)
 have kr:∀ {v:Value} {n:Nat} {xs:List Value},wx.ownsRow lo 133 7 v n xs→w2.ownsRow lo 133 7 v n xs:=fun hv=>
   rN (World.ownsRow.alloc hv (.cells cs.toArray t)) ha (lY (World.ownsRow.alloc hv _) ow (by decide))
 have kq:∀ {n:Nat} {xs:List Value},wx.ownsRow lo 63 2 vq n xs→w2.ownsRow lo 63 2 vq n xs:=fun hv=>
   rN (World.ownsRow.alloc hv (.cells cs.toArray t)) ha (uk g6)
 refine⟨g1.kept (fun _ _ h=>kr h) (fun _ _=>bg.keep hk),g2.kept (fun _ _ h=>kr h) (fun _ _=>bg.keep hk),dD.push h1 h2 h3 (fun _ _=>cX.keep hk) (hp.keep hk) hcs ha,g4.kept (fun _ _ h=>kq h) (fun _ _=>cX.keep hk),g5,?_⟩;intro b hb hc;rcases ha.2.2 with e | e
 ·rw [e]at hb;exact g6 b hb hc
 rw [e]at hb;obtain⟨c4,_,_,_,o4⟩:=g4;have:=(bt (World.ownsRow.alloc o4 (.cells cs.toArray t)) hc).2;injection hb with hb;omega
theorem dB.H8 (ZO:B≤lo) {css:List (List Value)} {r:az} {cs:List Value} {t:TypeId} (h:dB B lo A A2 P P2 va vb vp vq wx) (h1:css.length=A.length)
    (h2:∀ (i:Nat) (a:az) (cs:List Value),A[i]? = some a→css[i]? = some cs→bg wx (bI B lo va vb vp vq) a cs) (h3:∀ cs∈css,cs.length=7) (h4:wx.ownsRow lo 133 7 va A.length css.flatten)
    (hp:bg wx (bI B lo va vb vp vq) r cs) (hcs:cs.length=7) (ha:bh lo 133 7 va (wx.alloc (.cells cs.toArray t)) (A.length+1) (css.flatten++cs) v' w2):dB B lo (A++[r]) A2 P P2 v' vb vp vq w2:=by
 obtain⟨_,g2,g3,g4,g5,g6⟩:=h;have hk:aa wx (bI B lo va vb vp vq) w2 (bI B lo v' vb vp vq):=by
  intro b hb hl;have gh:b<(wx.alloc (.cells cs.toArray t)).heap.size:=(by simp;omega);have hne:va.ownBlock≠some b:=by
   rcases hb with hb | hb
   ·intro e;have:=(bt h4 e).1;omega
   exact hb.2.1
  refine⟨(ha.2.1.block b gh (fun e=>hne e.symm)).trans (heap_alloc_old wx _ hl),hb.imp id (fun⟨a1,a2,a3,a4,a5⟩=>⟨a1,?_,a3,a4,a5⟩),Nat.lt_of_lt_of_le gh ha.2.1.size⟩;rcases ha.2.2 with e | e
  ·rw [e];exact a2
  rw [e];intro he;injection he with he;omega
 have ow:=World.ownsRow.alloc h4 (.cells cs.toArray t)
 have kp:∀ {v:Value} {n:Nat} {xs:List Value},wx.ownsRow lo 63 2 v n xs→w2.ownsRow lo 63 2 v n xs:=fun hv=>
   rN (World.ownsRow.alloc hv (.cells cs.toArray t)) ha (lY (World.ownsRow.alloc hv _) ow (by decide))
 have kb:∀ {n:Nat} {xs:List Value},wx.ownsRow lo 133 7 vb n xs→w2.ownsRow lo 133 7 vb n xs:=fun hv=>
   rN (World.ownsRow.alloc hv (.cells cs.toArray t)) ha (uk g5)
 refine⟨dD.push h1 h2 h3 (fun _ _=>bg.keep hk) (hp.keep hk) hcs ha,g2.kept (fun _ _ h=>kb h) (fun _ _=>bg.keep hk),g3.kept (fun _ _ h=>kp h) (fun _ _=>cX.keep hk),g4.kept (fun _ _ h=>kp h) (fun _ _=>cX.keep hk),?_,g6⟩;intro b hb hc;rcases ha.2.2 with e | e
 ·rw [e]at hb;exact g5 b hb hc
 rw [e]at hb;obtain⟨c2,_,_,_,o2⟩:=g2;have:=(bt (World.ownsRow.alloc o2 (.cells cs.toArray t)) hc).2;injection hb with hb;omega
theorem dB.pass (h:dB B lo A A2 P P2 va vb vp vq wx) (hl:A.length≤maxLen) (nm:ByteArray):cX wx (bI B lo (.slice none 0 0) vb vp vq) ⟨nm,A⟩ [.string nm,va]:=by
 obtain⟨h1,_,h3,h4,h5,_⟩:=h;obtain⟨Aa,c,rfl,_⟩:=h1.form;refine⟨_,rfl,Aa,A.length,c,rfl,dD.done h1 (fun _ _=>bg.keep (aa.refl (fun _ h=>h.imp id (fun⟨g1,_,g3⟩=>⟨g1,by simp [Value.ownBlock],g3⟩)))) (fun b hb=>.inr ?_),hl⟩;obtain⟨css,_,_,_,o1⟩:=h1;obtain⟨Uy,_,_,_,o3⟩:=h3;obtain⟨UC,_,_,_,o4⟩:=h4;have ne:∀ {v:Value} {n:Nat} {xs:List Value},wx.ownsRow lo 63 2 v n xs→v.ownBlock≠some b:=by
  intro v n xs ho;rcases o1.2 with ⟨hv,_⟩ | ⟨g,cap,cur,hv,_,hg,_⟩
  ·rw [hv]at hb;simp [Value.ownBlock]at hb
  rw [hv]at hb;simp only [Value.ownBlock,Option.some.injEq]at hb;subst hb;exact i5 ho hg (by decide)
 exact⟨(bt o1 hb).1,by simp [Value.ownBlock],h5 b hb,ne o3,ne o4⟩
end
theorem zT:(Tryz.prog.info? 63).map (fun i=>(i.zero,i.size,i.bytes))=some (some (.agg #[.string ⟨#[]⟩,.slice none 0 0]),2,40):=by kernel_rfl
def CP (ga gb gp gq:Nat) (vp vq:Value) (w w':World):Prop :=
  w'.os=w.os∧w'.tape=w.tape∧w'.output=w.output∧w.heap.size≤w'.heap.size ∧
  ∀ k,k<w.heap.size→k≠ga→k≠gb→k≠gp→k≠gq→vp.ownBlock≠some k→vq.ownBlock≠some k→w'.heap[k]? = w.heap[k]?
def jd (ga gb gp gq:Nat) (ca cb cp cq:Value) (w:World):Prop :=
  an w ga 61 #[ca]∧an w gb 61 #[cb]∧an w gp 27 #[cp]∧an w gq 27 #[cq]
structure Lh (B lo ga gb gp gq:Nat):Prop where
  Bl:B≤lo
  a1:B≤ga
  a2:ga<lo
  b1:B≤gb
  b2:gb<lo
  p1:B≤gp
  p2:gp<lo
  q1:B≤gq
  q2:gq<lo
  ab:ga≠gb
  ap:ga≠gp
  aq:ga≠gq
  bp:gb≠gp
  bq:gb≠gq
  pq:gp≠gq
section
variable {B lo : Nat} {A A2 : List az} {P P2 : List cz} {va vb vp vq : Value} {wx : World}
theorem dB.set {g i:Nat} {u:Value} (h:dB B lo A A2 P P2 va vb vp vq wx) (h1:B≤g) (h2:g<lo):dB B lo A A2 P P2 va vb vp vq (wx.setCell ⟨g,i,none⟩ u) :=
  dB.kept (aa.setCell u (fun b hb=>by rcases hb with h | h <;> dsimp only <;> omega) (fun _ h _=>h)) (fun _ _ _ _ _ h=>qw h h2) h
end
def Vx (B lo ga gb gp gq:Nat) (A2:List az) (P P2:List cz) (ca vb vp vq:Value) (w:World) (wx:World):Prop :=
  ∃ Fg,dB B lo [] A2 P P2 (.slice none 0 0) vb Fg vq wx∧jd ga gb gp gq ca vb Fg vq wx∧CP ga gb gp gq vp vq w wx∧(∀ k,Fg.ownBlock=some k→vp.ownBlock=some k∨w.heap.size≤k)
theorem zG (B lo ga gb gp gq:Nat) (pl:Lh B lo ga gb gp gq) (A A2:List az) (P P2:List cz) (va vb vp vq:Value) (w:World) (hlo:lo≤w.heap.size) (hst:dB B lo A A2 P P2 va vb vp vq w) (hv:jd ga gb gp gq va vb vp vq w)
    (hA:A.length≤1000) (Rw:A2.length≤1000) (hP:P.length≤1000) (hP2:P2.length≤1000) :
    Calls Tryz.prog 70 #[.pointer (some ⟨ga,0,none⟩),.pointer (some ⟨gp,0,none⟩),.pointer (some ⟨gb,0,none⟩),.pointer (some ⟨gq,0,none⟩)] w fun e w'=>e=.returned (.tuple #[]) ∧
      ∃ Fg EM,dB B lo [] [] (P++gR A) (P2++gR A2) (.slice none 0 0) (.slice none 0 0) Fg EM w'∧jd ga gb gp gq (.slice none 0 0) (.slice none 0 0) Fg EM w'∧CP ga gb gp gq vp vq w w'∧(∀ k,Fg.ownBlock=some k→vp.ownBlock=some k∨w.heap.size≤k)∧(∀ k,EM.ownBlock=some k→vq.ownBlock=some k∨w.heap.size≤k):=by
 obtain⟨i0,hi,hz0,i6,kO⟩:=info_parts zT;obtain⟨pBl,pa1,pa2,pb1,pb2,pp1,pp2,pq1,pq2,pab,pap,paq,pbp,pbq,ppq⟩:=pl;obtain⟨Aa,ka,rfl,_⟩:=hst.1.form;obtain⟨Ab,kb,rfl,_⟩:=hst.2.1.form;obtain⟨Ap,kp,rfl,_⟩:=hst.2.2.1.form;obtain⟨Aq,kq,rfl,_⟩:=hst.2.2.2.1.form;have a0:w.cell? ⟨ga,0,none⟩=some (.slice Aa A.length ka):=hv.1.cell 0;have cQ:=qqh hst;have HV:=qqh hv;clear hst hv;go_enter Tryz.func70,Tryz.ntmps70;go_upto_if 6 with fail;go_cut [] (fun wx=>Vx B lo ga gb gp gq A2 (P++gR A) P2 (.slice Aa A.length ka) (.slice Ab A2.length kb) (.slice Ap P.length kp) (.slice Aq P2.length kq) w wx);case first=>
  by_cases h0:0<A.length
  ·obtain⟨x,r,Mo⟩:∃ x r,A=x::r:=by
    cases A with
    | nil=>simp at h0
    | cons x r=>exact⟨x,r,rfl⟩
   have RG:=qqh (show gR A = [⟨⟨#[]⟩,A⟩] by rw [Mo];rfl);clear Mo;have b0:w.cell? ⟨gp,0,none⟩=some (.slice Ap P.length kp):=HV.out.2.2.1.cell 0;have Oh:=cQ.out.drop;have hps:=cQ.out.pass (by unfold maxLen;omega) ⟨#[]⟩;have pW:=Oh;obtain⟨_,_,⟨css,g1,g2,g3,g4⟩,_⟩:=pW;have HN:=qqh (Rd.new w 63 2 1 [.string ⟨#[]⟩,.slice Aa A.length ka] rfl);have HO:=qqh (World.ownsRow.alloc g4 (.cells #[.string ⟨#[]⟩,.slice Aa A.length ka] 63));have HD:=qqh Oh;have HP:=qqh hps;have G1:=qqh g1;have G2:=qqh g2;have G3:=qqh g3;have G4:=qqh g4;have mS:=qqh (show ∀ u ∈ [Value.string ⟨#[]⟩,Value.slice Aa A.length ka],u.oneCell'=true by intro x hx;simp at hx;rcases hx with rfl | rfl <;> rfl);have HZ:=qqh (show lo≤(w.alloc (.cells #[.string ⟨#[]⟩,.slice Aa A.length ka] 63)).heap.size by simp;omega);clear Oh hps g1 g2 g3 g4;go_wp2_with (at_builtin;refine aj _ rfl (.tmp 7) (.tmp 10) 27 rfl lo 63 i0 _ 2 40 Tryz.underlying27 hi hz0 i6 kO rfl (by decide) _ _ _ rfl HO.out _ (some ⟨w.heap.size,0,none⟩) 1 1 [.string ⟨#[]⟩,.slice Aa A.length ka] rfl HN.out mS.out (by simp only [maxLen];omega) (by omega) HZ.out ?_);intro v9 w9 af;have hsz:=HZ.out;have gl:=af.own;obtain⟨A9,k9,rfl,_⟩:=av gl;clear gl;have vh:=dB.dS pBl HD.out G1.out G2.out G3.out G4.out HP.out rfl af;have Cr:=aZ (an.alloc HV.out.2.2.1 (.cells #[.string ⟨#[]⟩,.slice Aa A.length ka] 63)) HO.out (by decide) af;have OU:=aZ (an.alloc HV.out.1 (.cells #[.string ⟨#[]⟩,.slice Aa A.length ka] 63)) HO.out (by decide) af;have Sa:=aZ (an.alloc HV.out.2.1 (.cells #[.string ⟨#[]⟩,.slice Aa A.length ka] 63)) HO.out (by decide) af
   have hvq:=aZ (an.alloc HV.out.2.2.2 (.cells #[.string ⟨#[]⟩,.slice Aa A.length ka] 63)) HO.out (by decide) af;have c9:w9.cell? ⟨gp,0,none⟩=some (.slice Ap P.length kp):=Cr.cell 0;have f9:=Cr.frozen 0;have lI:CP ga gb gp gq (.slice Ap P.length kp) (.slice Aq P2.length kq) w w9:=by
    refine⟨af.2.1.os,af.2.1.tape,af.2.1.output,Nat.le_trans (by simp) af.2.1.size,fun k hk _ _ _ _ h1 _=>?_⟩;exact(af.2.1.block k (by simp;omega) (fun e=>h1 e.symm)).trans (heap_alloc_old w _ hk)
   have yL:∀ k,(Value.slice A9 (P.length+1) k9).ownBlock=some k→(Value.slice Ap P.length kp).ownBlock=some k∨w.heap.size≤k:=by
    intro k hk;rcases af.2.2 with e | e;exact .inl (e ▸ hk);rw [e]at hk;injection hk with hk;right;simp at hk;omega
   have Jd:=qqh vh;have wK:=qqh lI;have Xc:=qqh yL;have PY:=qqh Cr;have Xp:=qqh OU;have HVB:=qqh Sa;have HVQ:=qqh hvq;clear af vh Cr OU Sa hvq lI yL;go_wp2_with fail;go_meet;refine⟨.slice A9 (P.length+1) k9,?_,⟨ay Xp.out pap,ay HVB.out pbp,?_,ay HVQ.out (Ne.symm ppq)⟩,⟨wK.out.1,wK.out.2.1,wK.out.2.2.1,by simpa using wK.out.2.2.2.1,fun k hk h1 h2 h3 h4 h5 h6=>?_⟩,Xc.out⟩
   ·rw [RG.out];exact dB.set Jd.out pp1 pp2
   exact PY.out.put 0 _;exact(Below.heap_setCell _ _ _ _ h3).trans (wK.out.2.2.2.2 k hk h1 h2 h3 h4 h5 h6)
  have QE:A = []:=List.eq_nil_of_length_eq_zero (by omega);have RG:=qqh (show P++gR A=P by rw [QE];simp [gR]);clear QE;go_wp2_with fail;go_meet;refine⟨_,?_,HV.out,⟨rfl,rfl,rfl,qql,fun _ _ _ _ _ _ _ _=>rfl⟩,fun k hk=>.inl hk⟩;rw [RG.out];exact cQ.out.drop
 obtain⟨Fg,Bw,K7,aP,hg1⟩:=hcut;obtain⟨Ap',kp',rfl,_⟩:=Bw.2.2.1.form;have gX:=qqh Bw.wW.uw;have K5:=qqh K7;have bF:=qqh aP;have js:=qqh hg1;have b0:wc.cell? ⟨gb,0,none⟩=some (.slice Ab A2.length kb):=K7.2.1.cell 0;have hPl:(P++gR A).length≤1001:=(by rw [List.length_append];cases A <;> simp [gR] <;> omega);clear Bw K7 aP hg1;generalize hP1:P++gR A=P1 at *;have EU:=qqh hP1;clear hP1;go_upto_if 14 with fail;go_cut [] (fun wx=>∃ EM,dB B lo [] [] (P2++gR A2) P1 (.slice none 0 0) (.slice none 0 0) EM (.slice Ap' P1.length kp') wx∧jd ga gb gp gq (.slice Aa A.length ka) (.slice Ab A2.length kb) (.slice Ap' P1.length kp') EM wx∧CP ga gb gp gq (.slice Ap P.length kp) (.slice Aq P2.length kq) w wx∧(∀ k,EM.ownBlock=some k→(Value.slice Aq P2.length kq).ownBlock=some k∨w.heap.size≤k));case first=>
  by_cases h0:0<A2.length
  ·obtain⟨x,r,Mo⟩:∃ x r,A2=x::r:=by
    cases A2 with
    | nil=>simp at h0
    | cons x r=>exact⟨x,r,rfl⟩
   have RG:=qqh (show gR A2 = [⟨⟨#[]⟩,A2⟩] by rw [Mo];rfl);clear Mo;have b1:wc.cell? ⟨gq,0,none⟩=some (.slice Aq P2.length kq):=K5.out.2.2.2.cell 0;have Oh:=gX.out.drop;have hps:=gX.out.pass (by unfold maxLen;omega) ⟨#[]⟩;have pW:=Oh;obtain⟨_,_,⟨css,g1,g2,g3,g4⟩,_⟩:=pW;have HN:=qqh (Rd.new wc 63 2 1 [.string ⟨#[]⟩,.slice Ab A2.length kb] rfl);have HO:=qqh (World.ownsRow.alloc g4 (.cells #[.string ⟨#[]⟩,.slice Ab A2.length kb] 63));have HD:=qqh Oh;have HP:=qqh hps;have G1:=qqh g1;have G2:=qqh g2;have G3:=qqh g3;have G4:=qqh g4;have mS:=qqh (show ∀ u ∈ [Value.string ⟨#[]⟩,Value.slice Ab A2.length kb],u.oneCell'=true by intro x hx;simp at hx;rcases hx with rfl | rfl <;> rfl);have hwc:=bF.out.2.2.2.1;have HZ:=qqh (show lo≤(wc.alloc (.cells #[.string ⟨#[]⟩,.slice Ab A2.length kb] 63)).heap.size by simp;omega);clear Oh hps g1 g2 g3 g4;go_wp2_with (at_builtin;refine aj _ rfl (.tmp 15) (.tmp 18) 27 rfl lo 63 i0 _ 2 40 Tryz.underlying27 hi hz0 i6 kO rfl (by decide) _ _ _ rfl HO.out _ (some ⟨wc.heap.size,0,none⟩) 1 1 [.string ⟨#[]⟩,.slice Ab A2.length kb] rfl HN.out mS.out (by simp only [maxLen];omega) (by omega) HZ.out ?_);intro v9 w9 af;have hsz:=HZ.out;have gl:=af.own;obtain⟨A9,k9,rfl,_⟩:=av gl;clear gl;have vh:=dB.dS pBl HD.out G1.out G2.out G3.out G4.out HP.out rfl af;have Cr:=aZ (an.alloc K5.out.2.2.2 (.cells #[.string ⟨#[]⟩,.slice Ab A2.length kb] 63)) HO.out (by decide) af;have OU:=aZ (an.alloc K5.out.1 (.cells #[.string ⟨#[]⟩,.slice Ab A2.length kb] 63)) HO.out (by decide) af
   have Sa:=aZ (an.alloc K5.out.2.1 (.cells #[.string ⟨#[]⟩,.slice Ab A2.length kb] 63)) HO.out (by decide) af;have hvp:=aZ (an.alloc K5.out.2.2.1 (.cells #[.string ⟨#[]⟩,.slice Ab A2.length kb] 63)) HO.out (by decide) af;have c9:w9.cell? ⟨gq,0,none⟩=some (.slice Aq P2.length kq):=Cr.cell 0;have f9:=Cr.frozen 0;have lI:CP ga gb gp gq (.slice Ap P.length kp) (.slice Aq P2.length kq) w w9:=by
    obtain⟨y1,y2,y3,y4,y5⟩:=bF.out;refine⟨af.2.1.os.trans y1,af.2.1.tape.trans y2,af.2.1.output.trans y3,Nat.le_trans y4 (Nat.le_trans (by simp) af.2.1.size),fun k hk z1 z2 z3 z4 h1 h2=>?_⟩;exact((af.2.1.block k (by simp;omega) (fun e=>h2 e.symm)).trans (heap_alloc_old wc _ (by omega))).trans (y5 k hk z1 z2 z3 z4 h1 h2)
   have yL:∀ k,(Value.slice A9 (P2.length+1) k9).ownBlock=some k→(Value.slice Aq P2.length kq).ownBlock=some k∨w.heap.size≤k:=by
    intro k hk;rcases af.2.2 with e | e;exact .inl (e ▸ hk);rw [e]at hk;injection hk with hk;right;simp at hk;omega
   have Jd:=qqh vh;have wK:=qqh lI;have Xc:=qqh yL;have PY:=qqh Cr;have Xp:=qqh OU;have HVB:=qqh Sa;have HVP:=qqh hvp;clear af vh Cr OU Sa hvp lI yL;go_wp2_with fail;go_meet;refine⟨.slice A9 (P2.length+1) k9,?_,⟨ay Xp.out paq,ay HVB.out pbq,ay HVP.out ppq,PY.out.put 0 _⟩,⟨wK.out.1,wK.out.2.1,wK.out.2.2.1,by simpa using wK.out.2.2.2.1,fun k hk h1 h2 h3 h4 h5 h6=>?_⟩,Xc.out⟩
   ·rw [RG.out];exact dB.set Jd.out pq1 pq2
   exact(Below.heap_setCell _ _ _ _ h4).trans (wK.out.2.2.2.2 k hk h1 h2 h3 h4 h5 h6)
  have QE:A2 = []:=List.eq_nil_of_length_eq_zero (by omega);have RG:=qqh (show P2++gR A2=P2 by rw [QE];simp [gR]);clear QE;go_wp2_with fail;go_meet;refine⟨_,?_,K5.out,bF.out,fun k hk=>.inl hk⟩;rw [RG.out];exact gX.out.drop
 obtain⟨EM,i4,rK,aX,hg2⟩:=hcut;have c1:wc.cell? ⟨ga,0,none⟩=some (.slice Aa A.length ka):=rK.1.cell 0;have c2:wc.cell? ⟨gb,0,none⟩=some (.slice Ab A2.length kb):=rK.2.1.cell 0;have f1:=rK.1.frozen 0;have f2:=rK.2.1.frozen 0;have iz:=qqh i4;have Rj:=qqh rK;have bf:=qqh aX;have jZ:=qqh hg2;clear i4 rK aX hg2;go_wp2_with fail;go_end0;rw [EU.out];refine⟨rfl,_,EM,(dB.set (dB.set iz.out pa1 pa2) pb1 pb2).uw,⟨ay (Rj.out.1.put 0 _) pab,(ay Rj.out.2.1 (Ne.symm pab)).put 0 _,ay (ay Rj.out.2.2.1 (Ne.symm pap)) (Ne.symm pbp),ay (ay Rj.out.2.2.2 (Ne.symm paq)) (Ne.symm pbq)⟩,⟨bf.out.1,bf.out.2.1,bf.out.2.2.1,by simpa using bf.out.2.2.2.1,fun k hk h1 h2 h3 h4 h5 h6=>?_⟩,js.out,jZ.out⟩;exact((Below.heap_setCell _ _ _ _ h2).trans (Below.heap_setCell _ _ _ _ h1)).trans (bf.out.2.2.2.2 k hk h1 h2 h3 h4 h5 h6)
abbrev aG:Array Value:=#[.bool false,.slice none 0 0,.slice none 0 0]
theorem rX (er i:Int) (g:Nat) (w:World) (hi:w.cell? ⟨g,0,none⟩=some (.int .i64 i)) :
    Calls Tryz.prog 71 #[.int .i64 er,.pointer (some ⟨g,0,none⟩)] w fun e w'=>e=.returned (.tuple #[.agg aG,.agg aG,.agg #[.int .i64 er,.int .i64 i]])∧Below w.heap.size w w':=by
 have hg:=World.block_lt_of_cell? w _ hi;have z0:=an.alloc (an.alloc (an.new w 29 aG) (.cells aG 29)) (.cells #[.int .i64 0,.int .i64 0] 34);have z1:=an.alloc (an.new (w.alloc (.cells aG 29)) 29 aG) (.cells #[.int .i64 0,.int .i64 0] 34);have z2:=an.new ((w.alloc (.cells aG 29)).alloc (.cells aG 29)) 34 #[.int .i64 0,.int .i64 0];rw [show(w.alloc (.cells aG 29)).heap.size=w.heap.size+1 by simp]at z1;rw [show((w.alloc (.cells aG 29)).alloc (.cells aG 29)).heap.size=w.heap.size+1+1 by simp]at z2;have hb:=(((Below.refl w.heap.size w).alloc qql (.cells aG 29)).alloc (by simp) (.cells aG 29)).alloc (by simp;omega) (.cells #[.int .i64 0,.int .i64 0] 34);have hc:(((w.alloc (.cells aG 29)).alloc (.cells aG 29)).alloc (.cells #[.int .i64 0,.int .i64 0] 34)).cell? ⟨g,0,none⟩=some (.int .i64 i):=(hb.cell hg).trans hi;have Z0:=qqh z0;have Z1:=qqh z1;have Z2:=qqh z2;have HB:=qqh hb;have HC:=qqh hc;clear z0 z1 z2 hb hc;go_enter Tryz.func71,Tryz.ntmps71;go_upto_region 1 with fail;have z0:=Z0.out;have z1:=Z1.out;have z2:=Z2.out;have hb:=HB.out;have hc:=HC.out;have hg0:g≠w.heap.size:=(by simp only at hg;omega);have hg1:g≠w.heap.size+1:=(by simp only at hg;omega);have hg2:g≠w.heap.size+1+1:=(by simp only at hg;omega);clear Z0 Z1 Z2 HB HC
 generalize ((w.alloc (.cells aG 29)).alloc (.cells aG 29)).alloc (.cells #[.int .i64 0,.int .i64 0] 34)=W3 at *;have a0:W3.cell? ⟨w.heap.size,0,none⟩=some (.bool false):=z0.cell 0;have a1:W3.cell? ⟨w.heap.size,1,none⟩=some (.slice none 0 0):=z0.cell 1;have a2:W3.cell? ⟨w.heap.size,2,none⟩=some (.slice none 0 0):=z0.cell 2;have b0:W3.cell? ⟨w.heap.size+1,0,none⟩=some (.bool false):=z1.cell 0;have b1:W3.cell? ⟨w.heap.size+1,1,none⟩=some (.slice none 0 0):=z1.cell 1;have b2:W3.cell? ⟨w.heap.size+1,2,none⟩=some (.slice none 0 0):=z1.cell 2;have c0:W3.cell? ⟨w.heap.size+1+1,0,none⟩=some (.int .i64 0):=z2.cell 0;have c1:W3.cell? ⟨w.heap.size+1+1,1,none⟩=some (.int .i64 0):=z2.cell 1;have d0:=z0.frozen 0;have d1:=z0.frozen 1;have d2:=z0.frozen 2;have d3:=z1.frozen 0;have d4:=z1.frozen 1;have d5:=z1.frozen 2;have d6:=z2.frozen 0;have d7:=z2.frozen 1;have bf:=qqh hb;clear z0 z1 z2 hb;go_region
 all_goals
   go_wp2_with fail
   have eP:=(((((((bf.out.setCell (p:=⟨w.heap.size,0,none⟩) (by simp) (.bool false)).setCell (p:=⟨w.heap.size,1,none⟩) (by simp) (.slice none 0 0)).setCell (p:=⟨w.heap.size,2,none⟩) (by simp) (.slice none 0 0)).setCell (p:=⟨w.heap.size+1,0,none⟩) (by simp) (.bool false)).setCell (p:=⟨w.heap.size+1,1,none⟩) (by simp) (.slice none 0 0)).setCell (p:=⟨w.heap.size+1,2,none⟩) (by simp) (.slice none 0 0)).setCell (p:=⟨w.heap.size+1+1,0,none⟩) (by simp;omega) (.int .i64 er)).setCell (p:=⟨w.heap.size+1+1,1,none⟩) (by simp;omega) (.int .i64 i)
   refine bodyPost_ret (v:=.tuple #[.agg #[.bool false,.slice none 0 0,.slice none 0 0],.agg #[.bool false,.slice none 0 0,.slice none 0 0],.agg #[.int .i64 er,.int .i64 i]]) (by simp [results,Tryz.results71,go_sem,a0,a1,a2,b0,b1,b2,c0,c1]) rfl ⟨rfl,?_⟩
   exact eP.drew
def sw (n k t:Nat):Nat:=if t<k∨n - 1 - k<t then n - 1 - t else t
def QO (xs:List Value) (i j:Nat) (a b c d:Value):List Value:=(((xs.set (i*2) c).set (i*2+1) d).set (j*2) a).set (j*2+1) b
def WT (w:World) (g lo n cap:Nat) (ys:List Value) (i j:Value) (wr:World):Prop :=
  ∃ (k q:Nat) (xs:List Value),q+k+1=n∧k≤q+1∧i=.int .i64 k∧j=.int .i64 q∧wr.ownsRow lo 63 2 (.slice (some ⟨g,0,none⟩) n cap) n xs∧w.grownBy wr (some g) ∧
    ∀ t d,t<n→d<2→xs[t*2+d]? = ys[sw n k t*2+d]?
theorem J7 {n k q:Nat} {xs ys:List Value} {a b c d:Value} (hn:q+k+1=n) (hkq:k<q) (hxl:xs.length=n*2) (h:∀ t d,t<n→d<2→xs[t*2+d]? = ys[sw n k t*2+d]?)
    (h0:ys[k*2]? = some a) (h1:ys[k*2+1]? = some b) (h2:ys[q*2]? = some c) (h3:ys[q*2+1]? = some d) :
    ∀ t e,t<n→e<2→(QO xs k q a b c d)[t*2+e]? = ys[sw n (k+1) t*2+e]?:=by
 intro t e ht he;unfold QO;have hsw:sw n (k+1) t=if t=k then q else if t=q then k else sw n k t:=by
  unfold sw;by_cases e1:t=k
  ·subst e1;rw [if_pos rfl,if_pos (by omega)];omega
  rw [if_neg e1];by_cases e2:t=q
  ·subst e2;rw [if_pos rfl,if_pos (by omega)];omega
  rw [if_neg e2];by_cases e3:t<k∨n - 1 - k<t
  ·rw [if_pos e3,if_pos (by omega)]
  rw [if_neg e3,if_neg (by omega)]
 rw [hsw];simp only [List.getElem?_set,List.length_set];by_cases e1:t=k
 ·subst e1;rw [if_pos rfl];rcases (show e=0∨e=1 by omega)with rfl | rfl
  ·rw [if_neg (by omega),if_neg (by omega),if_neg (by omega),if_pos (by omega),if_pos (by omega),Nat.add_zero,h2]
  rw [if_neg (by omega),if_neg (by omega),if_pos (by omega),if_pos (by omega),h3]
 rw [if_neg e1];by_cases e2:t=q
 ·subst e2;rw [if_pos rfl];rcases (show e=0∨e=1 by omega)with rfl | rfl
  ·rw [if_neg (by omega),if_pos (by omega),if_pos (by omega),Nat.add_zero,h0]
  rw [if_pos (by omega),if_pos (by omega),h1]
 rw [if_neg e2,if_neg (by omega),if_neg (by omega),if_neg (by omega),if_neg (by omega)];exact h t e ht he
theorem L5 {n k q:Nat} {xs:List Value} {css:List (List Value)} (hn:q+k+1=n) (hq:q≤k) (hl:css.length=n) (h2:∀ cs∈css,cs.length=2) (hxl:xs.length=n*2) (h:∀ t d,t<n→d<2→xs[t*2+d]? = css.flatten[sw n k t*2+d]?):xs=css.reverse.flatten:=by
 have h2r:∀ cs∈css.reverse,cs.length=2:=fun cs hc=>h2 cs (List.mem_reverse.1 hc);apply List.ext_getElem?;intro m;by_cases hm:m<n*2
 ·have ht:m / 2<n:=(by omega);have hd:m % 2<2:=Nat.mod_lt _ (by decide);have em:m / 2*2+m % 2=m:=(by omega);have e1:=h (m / 2) (m % 2) ht hd;rw [em]at e1;obtain⟨cs,hcs⟩:∃ z,css[n - 1 - m / 2]? = some z:=⟨_,List.getElem?_eq_getElem (by omega)⟩;obtain⟨u,hu⟩:∃ u,cs[m % 2]? = some u:=⟨_,List.getElem?_eq_getElem (by rw [h2 cs (List.mem_of_getElem? hcs)];exact hd)⟩;have hsw:sw n k (m / 2)=n - 1 - m / 2:=by
   unfold sw;by_cases e:m / 2<k∨n - 1 - k<m / 2
   ·rw [if_pos e]
   rw [if_neg e];omega
  have e2:=dH h2 _ cs hcs _ u hu;have hr:css.reverse[m / 2]? = some cs:=by
   rw [List.getElem?_reverse (by omega),hl];exact hcs
  have e3:=dH h2r _ cs hr _ u hu;rw [em]at e3;rw [e1,hsw,e2,e3]
 have hlen:css.reverse.flatten.length=n*2:=by
  have:∀ (l:List (List Value)),(∀ cs∈l,cs.length=2)→l.flatten.length=l.length*2:=by
   intro l;induction l with
   | nil=>intro _;rfl
   | cons a l ih=>
    intro ha;rw [List.flatten_cons,List.length_append,ih (fun x hx=>ha x (by simp [hx])),ha a (by simp),List.length_cons];omega
  rw [this _ h2r,List.length_reverse,hl]
 rw [List.getElem?_eq_none (by omega),List.getElem?_eq_none (by omega)]
theorem CZ (lo g n cap:Nat) (css:List (List Value)) (w:World) (hn:0<n) (hn2:n≤1000) (hl:css.length=n) (hc:∀ cs∈css,∃ s A m c,cs = [.string s,.slice A m c]) (ho:w.ownsRow lo 63 2 (.slice (some ⟨g,0,none⟩) n cap) n css.flatten) :
    Calls Tryz.prog 75 #[.slice (some ⟨g,0,none⟩) n cap] w fun e w'=>e=.returned (.tuple #[])∧w'.ownsRow lo 63 2 (.slice (some ⟨g,0,none⟩) n cap) n css.reverse.flatten∧w.grownBy w' (some g):=by
 have h2:∀ cs∈css,cs.length=2:=fun cs h=>(by obtain⟨s,A,m,c,rfl⟩:=hc cs h;rfl);have HL:=qqh hl;have HC:=qqh hc;have H2:=qqh h2;have HO:=qqh ho;clear hl hc h2 ho;go_enter Tryz.func75,Tryz.ntmps75;go_wp2_with fail;go_loopw [2,3] (WT w g lo n cap css.flatten) (fun i j _=>n - (intOf i).toNat);case atStart=>
  refine⟨0,n - 1,css.flatten,by omega,by omega,rfl,by go_num,HO.out,World.grownBy.refl _ _,fun t d ht hd=>?_⟩;unfold sw;rw [if_neg (by omega)]
 obtain⟨k,q,xs,hkq,agv,rfl,rfl,hown,yL,hx⟩:=hrel;by_cases hlt:k<q
 ·obtain⟨c1,hc1⟩:∃ z,css[k]? = some z:=⟨_,List.getElem?_eq_getElem (by rw [HL.out];omega)⟩;obtain⟨c2,hc2⟩:∃ z,css[q]? = some z:=⟨_,List.getElem?_eq_getElem (by rw [HL.out];omega)⟩;obtain⟨s1,A1,m1,d1,rfl⟩:=HC.out c1 (List.mem_of_getElem? hc1);obtain⟨s2,A2,m2,d2,rfl⟩:=HC.out c2 (List.mem_of_getElem? hc2);have y0:css.flatten[k*2]? = some (.string s1):=dH H2.out k _ hc1 0 _ rfl;have y1:css.flatten[k*2+1]? = some (.slice A1 m1 d1):=dH H2.out k _ hc1 1 _ rfl;have y2:css.flatten[q*2]? = some (.string s2):=dH H2.out q _ hc2 0 _ rfl;have y3:css.flatten[q*2+1]? = some (.slice A2 m2 d2):=dH H2.out q _ hc2 1 _ rfl;have sk:sw n k k=k:=(by unfold sw;rw [if_neg (by omega)]);have sq:sw n k q=q:=(by unfold sw;rw [if_neg (by omega)]);have x0:xs[k*2]? = some (Value.string s1):=(hx k 0 (by omega) (by omega)).trans (by rw [sk];exact y0);have x1:xs[k*2+1]? = some (Value.slice A1 m1 d1):=(hx k 1 (by omega) (by omega)).trans (by rw [sk];exact y1);have x2:xs[q*2]? = some (Value.string s2):=(hx q 0 (by omega) (by omega)).trans (by rw [sq];exact y2);have x3:xs[q*2+1]? = some (Value.slice A2 m2 d2):=(hx q 1 (by omega) (by omega)).trans (by rw [sq];exact y3);have z0:wr.cell? ⟨g,k*2,none⟩=some (.string s1):=(by have:=World.ownsRow.cells hown (g:=g) rfl _ _ x0;rwa [ja,Nat.zero_add]at this);have z1:wr.cell? ⟨g,k*2+1,none⟩=some (.slice A1 m1 d1):=(by have:=World.ownsRow.cells hown (g:=g) rfl _ _ x1;rwa [ja,Nat.zero_add]at this);have z2:wr.cell? ⟨g,q*2,none⟩=some (.string s2):=(by have:=World.ownsRow.cells hown (g:=g) rfl _ _ x2;rwa [ja,Nat.zero_add]at this);have z3:wr.cell? ⟨g,q*2+1,none⟩=some (.slice A2 m2 d2):=(by have:=World.ownsRow.cells hown (g:=g) rfl _ _ x3;rwa [ja,Nat.zero_add]at this);have f0:=World.ownsRow.frozenAt hown (k*2)
  have f1:=World.ownsRow.frozenAt hown (k*2+1);have f2:=World.ownsRow.frozenAt hown (q*2);have f3:=World.ownsRow.frozenAt hown (q*2+1);have hs:=World.ownsRow.stored (World.ownsRow.stored (World.ownsRow.stored (World.ownsRow.stored hown (k*2) (.string s2)).1 (k*2+1) (.slice A2 m2 d2)).1 (q*2) (.string s1)).1 (q*2+1) (.slice A1 m1 d1);have Yz:=(((yL.trans (World.ownsRow.stored hown (k*2) (.string s2)).2).trans (World.ownsRow.stored (World.ownsRow.stored hown (k*2) (.string s2)).1 (k*2+1) (.slice A2 m2 d2)).2).trans (World.ownsRow.stored (World.ownsRow.stored (World.ownsRow.stored hown (k*2) (.string s2)).1 (k*2+1) (.slice A2 m2 d2)).1 (q*2) (.string s1)).2).trans hs.2;have cQ:=qqh (J7 hkq hlt hown.1 hx y0 y1 y2 y3);have HS:=qqh hs.1;have HG:=qqh Yz;have agM:¬ k*2=q*2:=(by omega);have E4:¬ k*2=q*2+1:=(by omega);have FI:¬ k*2+1=q*2:=(by omega);have hkn:(k:Int)<(n:Int):=(by omega);have hqn:(q:Int)<(n:Int):=(by omega);clear hs Yz hx x0 x1 x2 x3 y0 y1 y2 y3 hc1 hc2 sk sq hown yL;go_wp2_with fail;go_region
  all_goals
    go_wp2_with fail
    refine⟨⟨k+1,q - 1,_,by omega,by omega,by go_num,by go_num,HS.out,⟨HG.out.os,HG.out.tape,HG.out.output,HG.out.size,HG.out.block⟩,cQ.out⟩,by simp [intOf];omega⟩
 have HX:=qqh (L5 hkq (by omega) HL.out H2.out hown.1 hx);have HW:=qqh hown;have HG:=qqh yL;clear hx hown yL;go_wp2_with fail;go_end0;rw [← HX.out];exact⟨rfl,HW.out,HG.out⟩
theorem tC (A:Option Addr) (cap:Nat) (w:World) :
    Calls Tryz.prog 75 #[.slice A 0 cap] w fun e w'=>e=.returned (.tuple #[])∧w=w':=by
 go_enter Tryz.func75,Tryz.ntmps75;go_wp2_with fail;go_loopw [2,3] (fun i j wr=>i=.int .i64 0∧j=.int .i64 (-1)∧wr=w) (fun _ _ _=>0);(case atStart=>exact⟨rfl,rfl,rfl⟩);obtain⟨rfl,rfl,rfl⟩:=hrel;go_wp2_with fail;go_end0;exact⟨rfl,rfl⟩
end Go.Proofs.YtamkjeipdjbemaaGreatDoor
namespace Go.Proofs.YtamkjeipdjbemaaGreatDoor
open Go.RowKit Go.Maps
def rL (B lo:Nat) (w:World) (l:List aK) (e:Ending):Prop :=
  ∃ cs ds:List Value,cs.length=3∧ds.length=3∧e=.returned (.tuple #[.agg cs.toArray,.agg ds.toArray,.agg #[.int .i64 (cY false l).2.1,.int .i64 (cY false l).2.2]]) ∧
    dW w (Fr B lo) (cY false l).1 cs∧dW w (Fr B lo) (cY true l).1 ds
theorem pF (w:World) (X:Nat→Prop):dW w X oq [.bool false,.slice none 0 0,.slice none 0 0] :=
  ⟨_,_,rfl,⟨none,0,0,rfl,⟨rfl,fun h=>absurd h (Nat.lt_irrefl 0)⟩,Nat.zero_le _⟩,⟨none,0,0,rfl,⟨[],rfl,rfl,by simp,by simp,rfl,fun h=>absurd h (Nat.lt_irrefl 0)⟩,Nat.zero_le _⟩⟩
def ke (w:World) (cf cb cr:Array Value) (wx:World):Prop :=
  an wx w.heap.size 29 cf∧an wx (w.heap.size+1) 29 cb∧an wx (w.heap.size+2) 34 cr∧Below w.heap.size w wx
theorem ke.below {w wx w2:World} {cf cb cr:Array Value} (h:ke w cf cb cr wx) (hb:Below wx.heap.size wx w2):ke w cf cb cr w2 :=
  ⟨an.below h.1 hb h.1.lt,an.below h.2.1 hb h.2.1.lt,an.below h.2.2.1 hb h.2.2.1.lt,h.2.2.2.trans (hb.mono h.2.2.2.size)⟩
theorem ke.made (w:World):ke w aG aG #[.int .i64 0,.int .i64 0] (((w.alloc (.cells aG 29)).alloc (.cells aG 29)).alloc (.cells #[.int .i64 0,.int .i64 0] 34)):=by
 refine⟨an.alloc (an.alloc (an.new _ _ _) _) _,?_,?_,((qqb.alloc qql _).alloc (by simp) _).alloc (by simp;omega) _⟩
 ·have:=an.alloc (an.new (w.alloc (.cells aG 29)) 29 aG) (.cells #[.int .i64 0,.int .i64 0] 34);simpa using this
 have:=an.new ((w.alloc (.cells aG 29)).alloc (.cells aG 29)) 34 #[.int .i64 0,.int .i64 0];simpa using this
theorem uD (B:Nat) (A:Option Addr) (n c:Nat) (l:List aK) (w:World) (hn:n≤maxLen) (hB:B≤w.heap.size) (hl:DH w B A n l) (hw:(fX l).1≠0) :
    Calls Tryz.prog 38 #[.slice A n c] w fun e w'=>rL B w.heap.size w' l e∧Below w.heap.size w w':=by
 have hrf:∀ w',Below w.heap.size w w'→Calls Tryz.prog 69 #[.slice A n c] w' fun e w2=>e=.returned (.agg #[.int .i64 (fX l).1,.int .i64 (fX l).2])∧Below w'.heap.size w' w2 :=
   fun w' hb=>qs A n c l w' hn (DH.weak (gI (hb.mono hB) (Nat.le_trans hB hb.size)) hl)
 have hne:((fX l).1 != 0)=true:=(by simpa using hw);have hp1:=qqh (kJ (back:=false) hw);have hp2:=qqh (kJ (back:=true) hw);clear hw hl hn;generalize hF:fX l=F at *;obtain⟨F1,F2⟩:=F;dsimp only at *;clear hF;have pR:=qqh hrf;have fW:=qqh (ke.made w);clear hrf;go_enter Tryz.func38,Tryz.ntmps38;go_wp2_with fail;refine(pR.out _ fW.out.2.2.2).mono ?_;rintro e w1 ⟨rfl,aP⟩;have hr:=ke.below fW.out aP;have a0:w1.cell? ⟨w.heap.size,0,none⟩=some (.bool false):=hr.1.cell 0;have a1:w1.cell? ⟨w.heap.size,1,none⟩=some (.slice none 0 0):=hr.1.cell 1;have a2:w1.cell? ⟨w.heap.size,2,none⟩=some (.slice none 0 0):=hr.1.cell 2;have b0:w1.cell? ⟨w.heap.size+1,0,none⟩=some (.bool false):=hr.2.1.cell 0;have b1:w1.cell? ⟨w.heap.size+1,1,none⟩=some (.slice none 0 0):=hr.2.1.cell 1;have b2:w1.cell? ⟨w.heap.size+1,2,none⟩=some (.slice none 0 0):=hr.2.1.cell 2;have c0:w1.cell? ⟨w.heap.size+2,0,none⟩=some (.int .i64 0):=hr.2.2.1.cell 0;have c1:w1.cell? ⟨w.heap.size+2,1,none⟩=some (.int .i64 0):=hr.2.2.1.cell 1;have d0:=hr.1.frozen 0;have d1:=hr.1.frozen 1;have d2:=hr.1.frozen 2;have d3:=hr.2.1.frozen 0;have d4:=hr.2.1.frozen 1;have d5:=hr.2.1.frozen 2;have d6:=hr.2.2.1.frozen 0;have d7:=hr.2.2.1.frozen 1;have HR:=qqh hr;clear aP hr;go_upto_region 3 with fail;have lH:ke w aG aG #[.int .i64 F1,.int .i64 F2] ((w1.setCell ⟨w.heap.size+1+1,0,none⟩ (.int .i64 F1)).setCell ⟨w.heap.size+1+1,1,none⟩ (.int .i64 F2)):=by
  obtain⟨g1,g2,g3,g4⟩:=HR.out;refine⟨ay (ay g1 (by omega)) (by omega),ay (ay g2 (by omega)) (by omega),?_,(g4.setCell (by simp;omega) _).setCell (by simp;omega) _⟩;have:=(g3.put 0 (.int .i64 F1)).put 1 (.int .i64 F2);simpa using this
 clear a0 a1 a2 b0 b1 b2 c0 c1 d0 d1 d2 d3 d4 d5 d6 d7 HR;generalize (w1.setCell ⟨w.heap.size+1+1,0,none⟩ (.int .i64 F1)).setCell ⟨w.heap.size+1+1,1,none⟩ (.int .i64 F2)=W3 at *;have a0:W3.cell? ⟨w.heap.size,0,none⟩=some (.bool false):=lH.1.cell 0;have a1:W3.cell? ⟨w.heap.size,1,none⟩=some (.slice none 0 0):=lH.1.cell 1;have a2:W3.cell? ⟨w.heap.size,2,none⟩=some (.slice none 0 0):=lH.1.cell 2;have b0:W3.cell? ⟨w.heap.size+1,0,none⟩=some (.bool false):=lH.2.1.cell 0;have b1:W3.cell? ⟨w.heap.size+1,1,none⟩=some (.slice none 0 0):=lH.2.1.cell 1;have b2:W3.cell? ⟨w.heap.size+1,2,none⟩=some (.slice none 0 0):=lH.2.1.cell 2;have c0:W3.cell? ⟨w.heap.size+1+1,0,none⟩=some (.int .i64 F1):=lH.2.2.1.cell 0;have c1:W3.cell? ⟨w.heap.size+1+1,1,none⟩=some (.int .i64 F2):=lH.2.2.1.cell 1;have d0:=lH.1.frozen 0;have d1:=lH.1.frozen 1;have d2:=lH.1.frozen 2;have d3:=lH.2.1.frozen 0;have d4:=lH.2.1.frozen 1;have d5:=lH.2.1.frozen 2;have d6:W3.frozen? ⟨w.heap.size+1+1,0,none⟩=false:=lH.2.2.1.frozen 0;have d7:W3.frozen? ⟨w.heap.size+1+1,1,none⟩=false:=lH.2.2.1.frozen 1;have bf:=qqh lH.2.2.2;clear lH;go_region
 all_goals
   go_wp2_with fail
   have eP:=(((((((bf.out.setCell (p:=⟨w.heap.size,0,none⟩) (by simp) (.bool false)).setCell (p:=⟨w.heap.size,1,none⟩) (by simp) (.slice none 0 0)).setCell (p:=⟨w.heap.size,2,none⟩) (by simp) (.slice none 0 0)).setCell (p:=⟨w.heap.size+1,0,none⟩) (by simp) (.bool false)).setCell (p:=⟨w.heap.size+1,1,none⟩) (by simp) (.slice none 0 0)).setCell (p:=⟨w.heap.size+1,2,none⟩) (by simp) (.slice none 0 0)).setCell (p:=⟨w.heap.size+1+1,0,none⟩) (by simp;omega) (.int .i64 F1)).setCell (p:=⟨w.heap.size+1+1,1,none⟩) (by simp;omega) (.int .i64 F2)
   refine bodyPost_ret (v:=.tuple #[.agg #[.bool false,.slice none 0 0,.slice none 0 0],.agg #[.bool false,.slice none 0 0,.slice none 0 0],.agg #[.int .i64 F1,.int .i64 F2]]) (by simp [results,Tryz.results38,go_sem,a0,a1,a2,b0,b1,b2,c0,c1]) rfl ⟨⟨[.bool false,.slice none 0 0,.slice none 0 0],[.bool false,.slice none 0 0,.slice none 0 0],rfl,rfl,by rw [hp1.out],by rw [hp1.out];exact pF _ _,by rw [hp2.out];exact pF _ _⟩,?_⟩
   exact eP.drew
theorem tG {w w1:World} {X:Nat→Prop} {mb:Nat} (hg:w.grownBy w1 (some mb)) (hX:∀ b,X b→b≠mb):aa w X w1 X:=fun b hx hl=>
  ⟨hg.block b hl (fun e=>hX b hx (by injection e)),hx,Nat.lt_of_lt_of_le hl hg.size⟩
theorem nJ {w w1:World} {mb g:Nat} {t:TypeId} {cs:Array Value} (hg:w.grownBy w1 (some mb)) (h:an w g t cs) (hne:g≠mb):an w1 g t cs :=
  (hg.block g h.lt (fun e=>hne (by injection e))).trans h
theorem P7 {w w1:World} {mb lo sz n:Nat} {e:TypeId} {v:Value} {xs:List Value} (hg:w.grownBy w1 (some mb)) (hm:mb<lo) (h:w.ownsRow lo e sz v n xs):w1.ownsRow lo e sz v n xs:=by
 refine World.ownsRow.kept h hg ?_;cases hv:v.ownBlock with
 | none=>exact .inl rfl
 | some b=>
  right;intro e;injection e with e;have:=(bt h hv).1;omega
theorem dB.map {B lo mb:Nat} {A A2:List az} {P P2:List cz} {va vb vp vq:Value} {wx w1:World} (h:dB B lo A A2 P P2 va vb vp vq wx) (hg:wx.grownBy w1 (some mb)) (h1:B≤mb) (h2:mb<lo):dB B lo A A2 P P2 va vb vp vq w1 :=
  dB.kept (tG hg (fun b hb=>by rcases hb with h | h <;> omega)) (fun _ _ _ _ _ h=>P7 hg h2 h) h
theorem jd.map {ga gb gp gq mb:Nat} {ca cb cp cq:Value} {wx w1:World} (h:jd ga gb gp gq ca cb cp cq wx) (hg:wx.grownBy w1 (some mb)) (h1:ga≠mb) (h2:gb≠mb) (h3:gp≠mb) (h4:gq≠mb):jd ga gb gp gq ca cb cp cq w1 :=
  ⟨nJ hg h.1 h1,nJ hg h.2.1 h2,nJ hg h.2.2.1 h3,nJ hg h.2.2.2 h4⟩
theorem jd.below {ga gb gp gq:Nat} {ca cb cp cq:Value} {wx w1:World} (h:jd ga gb gp gq ca cb cp cq wx) (hb:Below wx.heap.size wx w1):jd ga gb gp gq ca cb cp cq w1 :=
  ⟨an.below h.1 hb h.1.lt,an.below h.2.1 hb h.2.1.lt,an.below h.2.2.1 hb h.2.2.1.lt,an.below h.2.2.2 hb h.2.2.2.lt⟩
theorem jd.set {ga gb gp gq g i:Nat} {u:Value} {ca cb cp cq:Value} {wx:World} (h:jd ga gb gp gq ca cb cp cq wx) (h1:ga≠g) (h2:gb≠g) (h3:gp≠g) (h4:gq≠g):jd ga gb gp gq ca cb cp cq (wx.setCell ⟨g,i,none⟩ u) :=
  ⟨ay h.1 h1,ay h.2.1 h2,ay h.2.2.1 h3,ay h.2.2.2 h4⟩
theorem ke.map {w wx w1:World} {cf cb cr:Array Value} {mb:Nat} (h:ke w cf cb cr wx) (hg:wx.grownBy w1 (some mb)) (hm:w.heap.size+3≤mb):ke w cf cb cr w1 :=
  ⟨nJ hg h.1 (by omega),nJ hg h.2.1 (by omega),nJ hg h.2.2.1 (by omega),h.2.2.2.grown hg h.2.2.2.size (fun k e=>by injection e with e;omega)⟩
theorem ke.V0 {w wx:World} {cf cb cr:Array Value} (h:ke w cf cb cr wx) (i:Nat) (u:Value):ke w (cf.setIfInBounds i u) cb cr (wx.setCell ⟨w.heap.size,i,none⟩ u) :=
  ⟨h.1.put i u,ay h.2.1 (by omega),ay h.2.2.1 (by omega),h.2.2.2.setCell (by simp) _⟩
theorem dB.fresh {B lo:Nat} {A A2:List az} {P P2:List cz} {va vb vp vq:Value} {wx:World} (h:dB B lo A A2 P P2 va vb vp vq wx) (hlo:lo≤wx.heap.size):∀ b,wx.heap.size≤b→bI B lo va vb vp vq b:=by
 obtain⟨⟨_,_,_,_,o1⟩,⟨_,_,_,_,o2⟩,⟨_,_,_,_,o3⟩,⟨_,_,_,_,o4⟩,_⟩:=h;intro b hb;have ne:∀ {e:TypeId} {sz n:Nat} {v:Value} {xs:List Value},wx.ownsRow lo e sz v n xs→v.ownBlock≠some b:=fun ho e=>by
  have:=(bt ho e).2;omega
 exact .inr ⟨by omega,ne o1,ne o2,ne o3,ne o4⟩
theorem gv.set {w:World} {B mb n g i:Nat} {l:List aK} {u:Value} (h:gv w (· < B) mb n l) (h1:B≤g) (h2:g≠mb):gv (w.setCell ⟨g,i,none⟩ u) (· < B) mb n l :=
  gv.keep (aa.setCell u (fun b hb=>by dsimp only;omega) (fun _ h _=>h)) (Below.heap_setCell _ _ _ _ (Ne.symm h2)) h
theorem gv.below {w w':World} {B mb n:Nat} {l:List aK} (h:gv w (· < B) mb n l) (hb:Below w.heap.size w w'):gv w' (· < B) mb n l :=
  gv.keep (aa.below hb (fun _ h _=>h)) (hb.block _ h.lt) h
theorem zy {l:List aK} {k:Nat} {s t:QG} (h1:ec false l k=.ok s) (h2:ec true l k=.ok t):s.some? = t.some?∧s.only=t.only:=by
 rcases zO l k with ⟨s',t',g1,g2,g3,g4⟩ | ⟨e,g1,_⟩
 ·rw [h1]at g1;rw [h2]at g2;injection g1 with g1;injection g2 with g2;subst g1 g2;exact⟨g3,g4⟩
 rw [h1]at g1;cases g1
theorem oW {B lo:Nat} {l:List aK} {er:Int} {k:Nat} (hw:(fX l).1=0) (hk:k+1≤l.length) (h1:ec false l (k+1)=.error (er,(k:Int))) (h2:ec true l (k+1)=.error (er,(k:Int))) (w':World) :
    rL B lo w' l (.returned (.tuple #[.agg #[.bool false,.slice none 0 0,.slice none 0 0],.agg #[.bool false,.slice none 0 0,.slice none 0 0],.agg #[.int .i64 er,.int .i64 k]])):=by
 have e1:=kH hw hk h1;have e2:=kH hw hk h2;exact⟨[.bool false,.slice none 0 0,.slice none 0 0],[.bool false,.slice none 0 0,.slice none 0 0],rfl,rfl,by rw [e1],by rw [e1];exact pF _ _,by rw [e2];exact pF _ _⟩
section
variable {back : Bool} {l : List aK} {k : Nat} {p : aK} {s : QG}
theorem rU {x:ag} (h:p.kind=1) (hl:gA (l.take k) p.name=some x):jv back l k p s=.error (7,(k:Int)):=by
 unfold jv;rw [if_pos h,hl]
theorem qi (h:p.kind=1) (hl:gA (l.take k) p.name=none):jv back l k p s=.ok s:=by
 unfold jv;rw [if_pos h,hl]
theorem l9 (h:p.kind=3) (hs:s.some? = true):jv back l k p s=.error (5,(k:Int)):=by
 unfold jv;rw [h,if_neg (by decide),if_pos rfl,if_pos hs]
theorem step_filter (h:p.kind=3) (hs:s.some? = false):jv back l k p s=.ok ⟨true,p.set,s.ps,s.a⟩:=by
 unfold jv;rw [h,if_neg (by decide),if_pos rfl,if_neg (by rw [hs];decide)]
theorem Am (h:p.kind=4):jv back l k p s=.ok ⟨s.some?,s.only,s.ps++gR s.a++[⟨if back=true then eB p.name else p.name,[]⟩],[]⟩:=by
 unfold jv;rw [h,if_neg (by decide),if_neg (by decide),if_pos rfl]
theorem kI (h:p.kind=2) (hr:((fA (l.take k) p.left p.right).isSome && (fA (l.take k) p.right p.left).isSome)=false):jv back l k p s=.error (7,(k:Int)):=by
 unfold jv;rw [h,if_neg (by decide),if_neg (by decide),if_neg (by decide)];cases h1:fA (l.take k) p.left p.right with
 | none=>rfl
 | some x=>
  cases h2:fA (l.take k) p.right p.left with
  | none=>rfl
  | some y=>rw [h1,h2]at hr;cases hr
theorem zU {x y:az} (h:p.kind=2) (h1:fA (l.take k) p.left p.right=some x) (h2:fA (l.take k) p.right p.left=some y) :
    jv back l k p s=.ok (if (back=true∧p.dir=1)∨(back=false∧p.dir=2)then s else ⟨s.some?,s.only,s.ps,s.a++[if back=true then y else x]⟩):=by
 unfold jv;rw [h,if_neg (by decide),if_neg (by decide),if_neg (by decide),h1,h2]
end
theorem IY:(Tryz.prog.info? 133).map (fun i=>(i.zero,i.size,i.bytes))=some (some (.agg jk),7,112):=by kernel_rfl
structure gP (B:Nat) (w:World) (mb nm:Nat) (l:List aK) (sm:Bool) (only:ag) (A A2:List az) (P P2:List cz) (va vb vp vq:Value) (Af:Option Addr) (nf cf:Nat) (wr:World):Prop where
  hB:B≤w.heap.size
  env:gv wr (· < B) mb nm l
  ry:dB B (mb+5) A A2 P P2 va vb vp vq wr
  v4:jd (mb+1) (mb+2) (mb+3) (mb+4) va vb vp vq wr
  sz:mb+5≤wr.heap.size
  lo:w.heap.size+3≤mb
  res:ke w #[.bool sm,.slice Af nf cf,.slice none 0 0] aG #[.int .i64 0,.int .i64 0] wr
  set:jh wr (bI B (mb+5) va vb vp vq) only (.slice Af nf cf)
section
variable {B : Nat} {w wr w2 w9 : World} {mb nm : Nat} {l : List aK} {sm : Bool} {only : ag} {A A2 : List az} {P P2 : List cz} {va vb vp vq v' : Value} {Af : Option Addr} {nf cf : Nat}
theorem gP.below (h:gP B w mb nm l sm only A A2 P P2 va vb vp vq Af nf cf wr) (hb:Below wr.heap.size wr w2):gP B w mb nm l sm only A A2 P P2 va vb vp vq Af nf cf w2 :=
  ⟨h.hB,h.env.below hb,h.ry.below hb,h.v4.below hb,Nat.le_trans h.sz hb.size,h.lo,h.res.below hb,h.set.keep (aa.below hb (fun _ h _=>h))⟩
theorem gP.alloc (h:gP B w mb nm l sm only A A2 P P2 va vb vp vq Af nf cf wr) (o:Obj):gP B w mb nm l sm only A A2 P P2 va vb vp vq Af nf cf (wr.alloc o):=h.below (qqb.alloc qql o)
theorem gP.drew (h:gP B w mb nm l sm only A A2 P P2 va vb vp vq Af nf cf wr):gP B w mb nm l sm only A A2 P P2 va vb vp vq Af nf cf wr.drew:=h.below qqb.drew
theorem ke.O9 {cf cb cr:Array Value} (h:ke w cf cb cr wr) {g i:Nat} {u:Value} (hg:w.heap.size+3≤g):ke w cf cb cr (wr.setCell ⟨g,i,none⟩ u) :=
  ⟨ay h.1 (by omega),ay h.2.1 (by omega),ay h.2.2.1 (by omega),h.2.2.2.setCell (by simp only;omega) _⟩
theorem dB.rows (h:dB B (mb+5) A A2 P P2 va vb vp vq wr):(∀ b,va.ownBlock=some b→mb+5≤b∧b<wr.heap.size)∧(∀ b,vb.ownBlock=some b→mb+5≤b∧b<wr.heap.size)∧(∀ b,vp.ownBlock=some b→mb+5≤b∧b<wr.heap.size)∧(∀ b,vq.ownBlock=some b→mb+5≤b∧b<wr.heap.size):=by
 obtain⟨⟨_,_,_,_,o1⟩,⟨_,_,_,_,o2⟩,⟨_,_,_,_,o3⟩,⟨_,_,_,_,o4⟩,_⟩:=h;exact⟨fun b hb=>bt o1 hb,fun b hb=>bt o2 hb,fun b hb=>bt o3 hb,fun b hb=>bt o4 hb⟩
theorem gP.app (h:gP B w mb nm l sm only A A2 P P2 va vb vp vq Af nf cf wr) {e t:TypeId} {sz n m:Nat} {v:Value} {xs ys:List Value} {cs:Array Value} (ho:wr.ownsRow (mb+5) e sz v n xs)
    (h1 : 61 ≠ e) (h2 : 27 ≠ e) (h3 : 29 ≠ e) (h4 : 34 ≠ e) (ha:bh (mb+5) e sz v (wr.alloc (.cells cs t)) m ys v' w9) :
    gv w9 (· < B) mb nm l∧jd (mb+1) (mb+2) (mb+3) (mb+4) va vb vp vq w9∧ke w #[.bool sm,.slice Af nf cf,.slice none 0 0] aG #[.int .i64 0,.int .i64 0] w9∧mb+5≤w9.heap.size:=by
 have ha0:=h.alloc (.cells cs t);have GJ:=World.ownsRow.alloc ho (.cells cs t);have hlo:=h.lo;have hBw:=h.hB
 refine⟨gv.keep (aa.app ha (fun b hb e=>?_) (fun _ h _=>h)) (ha.2.1.block mb ha0.env.lt (fun e=>?_)) ha0.env,⟨aZ ha0.v4.1 GJ h1 ha,aZ ha0.v4.2.1 GJ h1 ha,aZ ha0.v4.2.2.1 GJ h2 ha,aZ ha0.v4.2.2.2 GJ h2 ha⟩,
   ⟨aZ ha0.res.1 GJ h3 ha,aZ ha0.res.2.1 GJ h3 ha,aZ ha0.res.2.2.1 GJ h4 ha,ha0.res.2.2.2.trans (ha.below ha0.res.2.2.2.size (mH GJ (by omega)))⟩,Nat.le_trans ha0.sz ha.2.1.size⟩
 ·have:=(bt GJ e).1;omega
 have:=(bt GJ e.symm).1;omega
theorem uA {lo:Nat} (ZO:B≤lo) {t:TypeId} {cs:Array Value} {n m sz:Nat} {e:TypeId} {xs ys:List Value} (h4:wr.ownsRow lo e sz vp n xs) (ha:bh lo e sz vp (wr.alloc (.cells cs t)) m ys v' w9) :
    aa wr (bI B lo va vb vp vq) w9 (bI B lo va vb v' vq):=by
 intro b hb hl;have gh:b<(wr.alloc (.cells cs t)).heap.size:=(by simp;omega);have hne:vp.ownBlock≠some b:=by
  rcases hb with hb | hb
  ·intro e;have:=(bt h4 e).1;omega
  exact hb.2.2.2.1
 refine⟨(ha.2.1.block b gh (fun e=>hne e.symm)).trans (heap_alloc_old wr _ hl),hb.imp id (fun⟨a1,a2,a3,a4,a5⟩=>⟨a1,a2,a3,?_,a5⟩),Nat.lt_of_lt_of_le gh ha.2.1.size⟩;rcases ha.2.2 with e | e
 ·rw [e];exact a4
 rw [e];intro he;injection he with he;simp at he;omega
theorem nZ {lo:Nat} (ZO:B≤lo) {t:TypeId} {cs:Array Value} {n m sz:Nat} {e:TypeId} {xs ys:List Value} (h4:wr.ownsRow lo e sz va n xs) (ha:bh lo e sz va (wr.alloc (.cells cs t)) m ys v' w9) :
    aa wr (bI B lo va vb vp vq) w9 (bI B lo v' vb vp vq):=by
 intro b hb hl;have gh:b<(wr.alloc (.cells cs t)).heap.size:=(by simp;omega);have hne:va.ownBlock≠some b:=by
  rcases hb with hb | hb
  ·intro e;have:=(bt h4 e).1;omega
  exact hb.2.1
 refine⟨(ha.2.1.block b gh (fun e=>hne e.symm)).trans (heap_alloc_old wr _ hl),hb.imp id (fun⟨a1,a2,a3,a4,a5⟩=>⟨a1,?_,a3,a4,a5⟩),Nat.lt_of_lt_of_le gh ha.2.1.size⟩;rcases ha.2.2 with e | e
 ·rw [e];exact a2
 rw [e];intro he;injection he with he;simp at he;omega
theorem oD {lo g i:Nat} {u:Value} (h1:B≤g) (h2:g<lo):aa wr (bI B lo va vb vp vq) (wr.setCell ⟨g,i,none⟩ u) (bI B lo va vb vp vq) :=
  aa.setCell u (fun b hb=>by rcases hb with h | h <;> dsimp only <;> omega) (fun _ h _=>h)
theorem gP.dS {css:List (List Value)} {p:cz} {cs:List Value} {t:TypeId} (h:gP B w mb nm l sm only A A2 P P2 va vb vp vq Af nf cf wr) (h1:css.length=P.length)
    (h2:∀ (i:Nat) (a:cz) (cs:List Value),P[i]? = some a→css[i]? = some cs→cX wr (bI B (mb+5) va vb vp vq) a cs) (h3:∀ cs∈css,cs.length=2) (h4:wr.ownsRow (mb+5) 63 2 vp P.length css.flatten)
    (hp:cX wr (bI B (mb+5) va vb vp vq) p cs) (hcs:cs.length=2) (ha:bh (mb+5) 63 2 vp (wr.alloc (.cells cs.toArray t)) (P.length+1) (css.flatten++cs) v' w9) :
    gP B w mb nm l sm only A A2 (P++[p]) P2 va vb v' vq Af nf cf (w9.setCell ⟨mb+3,0,none⟩ v'):=by
 have hlo:=h.lo;have hBw:=h.hB;obtain⟨g1,g2,g3,g4⟩:=h.app h4 (by decide) (by decide) (by decide) (by decide) ha;refine⟨hBw,g1.set (by omega) (by omega),(dB.dS (by omega) h.ry h1 h2 h3 h4 hp hcs ha).set (by omega) (by omega),⟨ay g2.1 (by omega),ay g2.2.1 (by omega),?_,ay g2.2.2.2 (by omega)⟩,by simpa using g4,hlo,g3.O9 (by omega),(h.set.keep (uA (by omega) h4 ha)).keep (oD (by omega) (by omega))⟩;exact g2.2.2.1.put 0 _
theorem gP.WC {css:List (List Value)} {p:cz} {cs:List Value} {t:TypeId} (h:gP B w mb nm l sm only A A2 P P2 va vb vp vq Af nf cf wr) (h1:css.length=P2.length)
    (h2:∀ (i:Nat) (a:cz) (cs:List Value),P2[i]? = some a→css[i]? = some cs→cX wr (bI B (mb+5) va vb vp vq) a cs) (h3:∀ cs∈css,cs.length=2) (h4:wr.ownsRow (mb+5) 63 2 vq P2.length css.flatten)
    (hp:cX wr (bI B (mb+5) va vb vp vq) p cs) (hcs:cs.length=2) (ha:bh (mb+5) 63 2 vq (wr.alloc (.cells cs.toArray t)) (P2.length+1) (css.flatten++cs) v' w9) :
    gP B w mb nm l sm only A A2 P (P2++[p]) va vb vp v' Af nf cf (w9.setCell ⟨mb+4,0,none⟩ v'):=by
 have hlo:=h.lo;have hBw:=h.hB;obtain⟨g1,g2,g3,g4⟩:=h.app h4 (by decide) (by decide) (by decide) (by decide) ha;have hk:aa wr (bI B (mb+5) va vb vp vq) wr (bI B (mb+5) va vb vq vp):=aa.refl (fun _ h=>h.uw);have hk2:aa w9 (bI B (mb+5) va vb v' vp) w9 (bI B (mb+5) va vb vp v'):=aa.refl (fun _ h=>h.uw)
 refine⟨hBw,g1.set (by omega) (by omega),(dB.dS (by omega) h.ry.uw h1 (fun i a cs x y=>(h2 i a cs x y).keep hk) h3 h4 (hp.keep hk) hcs ha).uw.set (by omega) (by omega),⟨ay g2.1 (by omega),ay g2.2.1 (by omega),ay g2.2.2.1 (by omega),?_⟩,by simpa using g4,hlo,g3.O9 (by omega),
   ((h.set.keep (hk.trans (uA (by omega) h4 ha))).keep hk2).keep (oD (by omega) (by omega))⟩
 exact g2.2.2.2.put 0 _
theorem gP.H8 {css:List (List Value)} {r:az} {cs:List Value} {t:TypeId} (h:gP B w mb nm l sm only A A2 P P2 va vb vp vq Af nf cf wr) (h1:css.length=A.length)
    (h2:∀ (i:Nat) (a:az) (cs:List Value),A[i]? = some a→css[i]? = some cs→bg wr (bI B (mb+5) va vb vp vq) a cs) (h3:∀ cs∈css,cs.length=7) (h4:wr.ownsRow (mb+5) 133 7 va A.length css.flatten)
    (hp:bg wr (bI B (mb+5) va vb vp vq) r cs) (hcs:cs.length=7) (ha:bh (mb+5) 133 7 va (wr.alloc (.cells cs.toArray t)) (A.length+1) (css.flatten++cs) v' w9) :
    gP B w mb nm l sm only (A++[r]) A2 P P2 v' vb vp vq Af nf cf (w9.setCell ⟨mb+1,0,none⟩ v'):=by
 have hlo:=h.lo;have hBw:=h.hB;obtain⟨g1,g2,g3,g4⟩:=h.app h4 (by decide) (by decide) (by decide) (by decide) ha;refine⟨hBw,g1.set (by omega) (by omega),(dB.H8 (by omega) h.ry h1 h2 h3 h4 hp hcs ha).set (by omega) (by omega),⟨?_,ay g2.2.1 (by omega),ay g2.2.2.1 (by omega),ay g2.2.2.2 (by omega)⟩,by simpa using g4,hlo,g3.O9 (by omega),(h.set.keep (nZ (by omega) h4 ha)).keep (oD (by omega) (by omega))⟩;exact g2.1.put 0 _
theorem gP.Ut {css:List (List Value)} {r:az} {cs:List Value} {t:TypeId} (h:gP B w mb nm l sm only A A2 P P2 va vb vp vq Af nf cf wr) (h1:css.length=A2.length)
    (h2:∀ (i:Nat) (a:az) (cs:List Value),A2[i]? = some a→css[i]? = some cs→bg wr (bI B (mb+5) va vb vp vq) a cs) (h3:∀ cs∈css,cs.length=7) (h4:wr.ownsRow (mb+5) 133 7 vb A2.length css.flatten)
    (hp:bg wr (bI B (mb+5) va vb vp vq) r cs) (hcs:cs.length=7) (ha:bh (mb+5) 133 7 vb (wr.alloc (.cells cs.toArray t)) (A2.length+1) (css.flatten++cs) v' w9) :
    gP B w mb nm l sm only A (A2++[r]) P P2 va v' vp vq Af nf cf (w9.setCell ⟨mb+2,0,none⟩ v'):=by
 have hlo:=h.lo;have hBw:=h.hB;obtain⟨g1,g2,g3,g4⟩:=h.app h4 (by decide) (by decide) (by decide) (by decide) ha;have hk:aa wr (bI B (mb+5) va vb vp vq) wr (bI B (mb+5) vb va vp vq):=aa.refl (fun _ h=>h.wW);have hk2:aa w9 (bI B (mb+5) v' va vp vq) w9 (bI B (mb+5) va v' vp vq):=aa.refl (fun _ h=>h.wW)
 refine⟨hBw,g1.set (by omega) (by omega),(dB.H8 (by omega) h.ry.wW h1 (fun i a cs x y=>(h2 i a cs x y).keep hk) h3 h4 (hp.keep hk) hcs ha).wW.set (by omega) (by omega),⟨ay g2.1 (by omega),?_,ay g2.2.2.1 (by omega),ay g2.2.2.2 (by omega)⟩,by simpa using g4,hlo,g3.O9 (by omega),
   ((h.set.keep (hk.trans (nZ (by omega) h4 ha))).keep hk2).keep (oD (by omega) (by omega))⟩
 exact g2.2.1.put 0 _
theorem gP.close {Fg EM:Value} {A' A2':List az} {P' P2':List cz} (h:gP B w mb nm l sm only A A2 P P2 va vb vp vq Af nf cf wr) (vh:dB B (mb+5) A' A2' P' P2' (.slice none 0 0) (.slice none 0 0) Fg EM w2)
    (hv:jd (mb+1) (mb+2) (mb+3) (mb+4) (.slice none 0 0) (.slice none 0 0) Fg EM w2) (hb:CP (mb+1) (mb+2) (mb+3) (mb+4) vp vq wr w2)
    (hg1:∀ k,Fg.ownBlock=some k→vp.ownBlock=some k∨wr.heap.size≤k) (hg2:∀ k,EM.ownBlock=some k→vq.ownBlock=some k∨wr.heap.size≤k) :
    gP B w mb nm l sm only A' A2' P' P2' (.slice none 0 0) (.slice none 0 0) Fg EM Af nf cf w2:=by
 have hlo:=h.lo;have hBw:=h.hB;have hsz:=h.sz;obtain⟨_,_,r3,r4⟩:=h.ry.rows;obtain⟨b1,b2,b3,b4,b5⟩:=hb;have nT:∀ k,k<mb+1→w2.heap[k]? = wr.heap[k]?:=fun k hk=>b5 k (by omega) (by omega) (by omega) (by omega) (by omega) (fun e=>by have:=(r3 k e).1;omega) (fun e=>by have:=(r4 k e).1;omega);have hB:Below w.heap.size wr w2:=⟨b1,b2,b3,b4,fun k hk=>nT k (by omega)⟩;refine⟨hBw,gv.keep (fun b (hb:b<B) hl=>⟨nT b (by omega),hb,Nat.lt_of_lt_of_le hl b4⟩) (nT mb (by omega)) h.env,vh,hv,Nat.le_trans hsz b4,hlo,⟨(nT _ (by omega)).trans h.res.1,(nT _ (by omega)).trans h.res.2.1,(nT _ (by omega)).trans h.res.2.2.1,h.res.2.2.2.trans hB⟩,h.set.keep ?_⟩;intro b hb hl;rcases hb with hb | ⟨hb,h1,h2,h3,h4⟩;exact⟨nT b (by omega),.inl hb,Nat.lt_of_lt_of_le hl b4⟩;refine⟨b5 b hl (by omega) (by omega) (by omega) (by omega) h3 h4,.inr ⟨hb,by simp [Value.ownBlock],by simp [Value.ownBlock],fun e=>?_,fun e=>?_⟩,Nat.lt_of_lt_of_le hl b4⟩
 ·rcases hg1 b e with e | e;exact h3 e;omega
 rcases hg2 b e with e | e;exact h4 e;omega
theorem CP.blk {ga gb gp gq g:Nat} {t:TypeId} {cs:Array Value} (h:CP ga gb gp gq vp vq wr w2) (hb:an wr g t cs) (h1:g≠ga) (h2:g≠gb) (h3:g≠gp) (h4:g≠gq) (h5:vp.ownBlock≠some g) (h6:vq.ownBlock≠some g):an w2 g t cs :=
  (h.2.2.2.2 g hb.lt h1 h2 h3 h4 h5 h6).trans hb
theorem dB.neP {lo:Nat} (h:dB B lo A A2 P P2 va vb vp vq wr) {g:Nat} {t:TypeId} {cs:Array Value} (hb:an wr g t cs) (ht:t ≠ 63):vp.ownBlock≠some g∧vq.ownBlock≠some g:=by
 obtain⟨_,_,⟨_,_,_,_,o3⟩,⟨_,_,_,_,o4⟩,_⟩:=h;exact⟨qM o3 hb ht,qM o4 hb ht⟩
end
theorem wS {l:List aK} (h:∀ p∈l,iB p=0) (k:Nat):∀ s set,gA (l.take k) s=some set→set.length≤200:=by
 intro s set;have h2:∀ p∈l.take k,iB p=0:=fun p hp=>h p (List.mem_of_mem_take hp);generalize l.take k=m at h2 ⊢;induction m with
 | nil=>intro e;cases e
 | cons p m ih=>
  intro e;rw [gA]at e;by_cases hp:p.kind=1∧p.name=s
  ·rw [if_pos hp]at e;injection e with e;subst e;rcases qQ (h2 p (by simp))with ⟨_,_,h3⟩ | ⟨h1,_⟩ | ⟨h1,_⟩ | ⟨h1,_⟩;exact oN h3
   ·rw [hp.1]at h1;cases h1
   ·rw [hp.1]at h1;cases h1
   rw [hp.1]at h1;cases h1
  rw [if_neg hp]at e;exact ih (fun q hq=>h2 q (by simp [hq])) e
theorem QD {cs:List Value} (h:cs.length=7):∃ u0 u1 u2 u3 u4 u5 u6,cs = [u0,u1,u2,u3,u4,u5,u6]:=by
 match cs,h with
 | [u0,u1,u2,u3,u4,u5,u6],_=>exact⟨_,_,_,_,_,_,_,rfl⟩
theorem zN (w:World) (X:Nat→Prop) (nm:ByteArray):cX w X ⟨nm,[]⟩ [.string nm,.slice none 0 0] :=
  ⟨_,rfl,none,0,0,rfl,⟨[],rfl,rfl,by simp,by simp,rfl,fun h=>absurd h (Nat.lt_irrefl 0)⟩,Nat.zero_le _⟩
theorem wJ {B lo g:Nat} {va vb vp vq:Value} (h1:∀ b,va.ownBlock=some b→b<g) (h2:∀ b,vb.ownBlock=some b→b<g) (h3:∀ b,vp.ownBlock=some b→b<g) (h4:∀ b,vq.ownBlock=some b→b<g) (hg:lo≤g):∀ b,Fr B g b→bI B lo va vb vp vq b:=by
 intro b hb;rcases hb with hb | hb;exact .inl hb;exact .inr ⟨by omega,fun e=>by have:=h1 b e;omega,fun e=>by have:=h2 b e;omega,fun e=>by have:=h3 b e;omega,fun e=>by have:=h4 b e;omega⟩
theorem It {l:List aK} (h:∀ p∈l,iB p=0) (back:Bool):∀ k s,ec back l k=.ok s→s.only.length≤200:=by
 intro k;induction k with
 | zero=>intro s e;rw [ec]at e;cases e;simp
 | succ k ih=>
  intro s e;cases h0:ec back l k with
  | error e'=>rw [ec,h0]at e;cases e
  | ok t=>
   cases hp:l[k]? with
   | none=>
    rw [ec,h0]at e;simp only [hp]at e;cases e;exact ih _ h0
   | some p=>
    rw [kP h0 hp]at e;have ht:=ih _ h0;unfold jv at e;by_cases k1:p.kind=1
    ·rw [if_pos k1]at e;cases hl:gA (l.take k) p.name with
     | some x=>rw [hl]at e;cases e
     | none=>rw [hl]at e;cases e;exact ht
    rw [if_neg k1]at e;by_cases k3:p.kind=3
    ·rw [if_pos k3]at e;by_cases hs:t.some? = true
     ·rw [if_pos hs]at e;cases e
     rw [if_neg hs]at e;cases e;rcases qQ (h p (List.mem_of_getElem? hp))with ⟨h1,_⟩ | ⟨_,h3⟩ | ⟨h1,_⟩ | ⟨h1,_⟩;exact absurd h1 k1;exact oN h3
     ·rw [k3]at h1;cases h1
     rw [k3]at h1;cases h1
    rw [if_neg k3]at e;by_cases k4:p.kind=4
    ·rw [if_pos k4]at e;cases e;exact ht
    rw [if_neg k4]at e;cases hx:fA (l.take k) p.left p.right with
    | none=>rw [hx]at e;cases e
    | some x=>
     cases hy:fA (l.take k) p.right p.left with
     | none=>rw [hx,hy]at e;cases e
     | some y=>
      rw [hx,hy]at e;injection e with e;subst e;by_cases d:(back=true∧p.dir=1)∨(back=false∧p.dir=2)
      ·rw [if_pos d];exact ht
      rw [if_neg d];exact ht
section
variable {B : Nat} {w wr w2 : World} {mb nm : Nat} {l : List aK} {sm : Bool} {only : ag} {A A2 : List az} {P Q : List cz} {va vb vp : Value} {Aq Af : Option Addr} {kq nf cf : Nat}
theorem Gb {X:Nat→Prop} {css:List (List Value)} (h1:css.length=Q.length) (h2:∀ (i:Nat) (a:cz) (cs:List Value),Q[i]? = some a→css[i]? = some cs→cX wr X a cs) :
    ∀ cs∈css,∃ s A m c,cs = [.string s,.slice A m c]:=by
 intro cs hc;obtain⟨i,hi⟩:=List.getElem?_of_mem hc;have hlt:=(List.getElem?_eq_some_iff.1 hi).1;obtain⟨a,ha⟩:∃ a,Q[i]? = some a:=⟨_,List.getElem?_eq_getElem (by omega)⟩;obtain⟨u,rfl,A,n,c,rfl,_⟩:=h2 i a cs ha hi;exact⟨_,_,_,_,rfl⟩
theorem gP.reverse (h:gP B w mb nm l sm only A A2 P Q va vb vp (.slice Aq Q.length kq) Af nf cf wr) (hq:Q.length≤1000) :
    Calls Tryz.prog 75 #[.slice Aq Q.length kq] wr fun e w'=>e=.returned (.tuple #[])∧gP B w mb nm l sm only A A2 P Q.reverse va vb vp (.slice Aq Q.length kq) Af nf cf w':=by
 by_cases h0:Q.length=0
 ·have hQ:Q = []:=List.eq_nil_of_length_eq_zero h0;subst hQ;refine(tC Aq kq wr).mono ?_;rintro e w' ⟨rfl,rfl⟩;exact⟨rfl,h⟩
 have hlo:=h.lo;have hBw:=h.hB;have vh:=h.ry;obtain⟨⟨ca,a1,a2,a3,a4⟩,⟨cb,b1,b2,b3,b4⟩,⟨cp,p1,p2,p3,p4⟩,⟨css,q1,q2,q3,q4⟩,e1,e2⟩:=vh;obtain⟨g,c,hv,_,hg1,hg2⟩:=gD q4 (by omega);injection hv with hv _ rK;subst hv rK;refine(CZ (mb+5) g Q.length kq css wr (by omega) hq q1 (Gb q1 q2) q4).mono ?_;rintro e w' ⟨rfl,ho,yL⟩;have hK:aa wr (bI B (mb+5) va vb vp (.slice (some ⟨g,0,none⟩) Q.length kq)) w' (bI B (mb+5) va vb vp (.slice (some ⟨g,0,none⟩) Q.length kq)):=by
  intro b hb hl;have hne:b≠g:=by
   rcases hb with hb | hb;omega;intro e;exact hb.2.2.2.2 (by rw [e];rfl)
  exact⟨yL.block b hl (fun e=>hne (by injection e)),hb,Nat.lt_of_lt_of_le hl yL.size⟩
 have eP:∀ k,k<mb+5→w'.heap[k]? = wr.heap[k]?:=fun k hk=>yL.block k (by have:=h.sz;omega) (fun e=>by injection e with e;omega);have kv:∀ {t:TypeId} {sz n:Nat} {v:Value} {xs:List Value},v.ownBlock≠some g→wr.ownsRow (mb+5) t sz v n xs→w'.ownsRow (mb+5) t sz v n xs:=by
  intro t sz n v xs hne ho;exact World.ownsRow.kept ho yL (.inr hne)
 have na:va.ownBlock≠some g:=fun e=>by
  rcases a4.2 with ⟨hv,_⟩ | ⟨g',cap,cur,hv,_,hg,_⟩
  ·rw [hv]at e;simp [Value.ownBlock]at e
  rw [hv]at e;simp only [Value.ownBlock,Option.some.injEq]at e;subst e;exact i5 q4 hg (by decide) rfl
 have nb:vb.ownBlock≠some g:=fun e=>by
  rcases b4.2 with ⟨hv,_⟩ | ⟨g',cap,cur,hv,_,hg,_⟩
  ·rw [hv]at e;simp [Value.ownBlock]at e
  rw [hv]at e;simp only [Value.ownBlock,Option.some.injEq]at e;subst e;exact i5 q4 hg (by decide) rfl
 have np:vp.ownBlock≠some g:=fun e=>e2 g e rfl
 refine⟨rfl,⟨hBw,gv.keep (fun b (hb:b<B) hl=>⟨eP b (by omega),hb,Nat.lt_of_lt_of_le hl yL.size⟩) (eP mb (by omega)) h.env,
   ⟨⟨ca,a1,fun i a cs x y=>(a2 i a cs x y).keep hK,a3,kv na a4⟩,⟨cb,b1,fun i a cs x y=>(b2 i a cs x y).keep hK,b3,kv nb b4⟩,⟨cp,p1,fun i a cs x y=>(p2 i a cs x y).keep hK,p3,kv np p4⟩,⟨css.reverse,by simp [q1],?_,fun cs hc=>q3 cs (List.mem_reverse.1 hc),by rw [List.length_reverse];exact ho⟩,e1,e2⟩,
   ⟨(eP _ (by omega)).trans h.v4.1,(eP _ (by omega)).trans h.v4.2.1,(eP _ (by omega)).trans h.v4.2.2.1,(eP _ (by omega)).trans h.v4.2.2.2⟩,Nat.le_trans h.sz yL.size,hlo,
   ⟨(eP _ (by omega)).trans h.res.1,(eP _ (by omega)).trans h.res.2.1,(eP _ (by omega)).trans h.res.2.2.1,h.res.2.2.2.trans ⟨yL.os,yL.tape,yL.output,yL.size,fun k hk=>eP k (by omega)⟩⟩,h.set.keep hK⟩⟩
 intro i a cs x y;have hi:i<Q.length:=by
  have:=(List.getElem?_eq_some_iff.1 x).1;simpa using this
 rw [List.getElem?_reverse hi]at x;rw [List.getElem?_reverse (by omega),q1]at y;exact(q2 _ a cs x y).keep hK
def X3 (B g:Nat) (b:Nat):Prop:=b<B∨g+3≤b
theorem gP.read (h:gP B w mb nm l sm only A A2 P Q va vb vp (.slice Aq Q.length kq) Af nf cf wr) (hp:P.length≤maxLen) (hq:Q.length≤maxLen) :
    jh wr (X3 B w.heap.size) only (.slice Af nf cf)∧lT wr (X3 B w.heap.size) P vp∧lT wr (X3 B w.heap.size) Q (.slice Aq Q.length kq):=by
 have hlo:=h.lo;have hBw:=h.hB;have hK:aa wr (bI B (mb+5) va vb vp (.slice Aq Q.length kq)) wr (X3 B w.heap.size):=aa.refl (fun b hb=>by
  rcases hb with hb | hb;exact .inl hb;exact .inr (by omega))
 obtain⟨_,_,r3,r4⟩:=h.ry.rows;obtain⟨Ap,kp,rfl,_⟩:=h.ry.2.2.1.form;exact⟨h.set.keep hK,⟨Ap,P.length,kp,rfl,dD.done h.ry.2.2.1 (fun _ _=>cX.keep hK) (fun b hb=>.inr (by have:=(r3 b hb).1;omega)),hp⟩,⟨Aq,Q.length,kq,rfl,dD.done h.ry.2.2.2.1 (fun _ _=>cX.keep hK) (fun b hb=>.inr (by have:=(r4 b hb).1;omega)),hq⟩⟩
end
theorem j9 {w:World} {B s g i:Nat} {u:Value} (h0:B≤g) (h2:g<s+3):aa w (X3 B s) (w.setCell ⟨g,i,none⟩ u) (X3 B s) :=
  aa.setCell u (fun b hb=>by rcases hb with h | h <;> dsimp only <;> omega) (fun _ h _=>h)
theorem Nt {B lo:Nat} {l:List aK} {W W':World} {X:Nat→Prop} {sm:Bool} {only:ag} {P Q:List cz} {u1 u2 v1 v2:Value} (h1:cY false l=(⟨sm,only,P⟩,(0,0))) (h2:cY true l=(⟨sm,only,Q⟩,(0,0)))
    (hs:jh W X only u1) (hp:lT W X P u2) (ht:jh W X only v1) (hq:lT W X Q v2) (hk:aa W X W' (Fr B lo)) :
    rL B lo W' l (.returned (.tuple #[.agg #[.bool sm,u1,u2],.agg #[.bool sm,v1,v2],.agg #[.int .i64 0,.int .i64 0]])) :=
  ⟨[.bool sm,u1,u2],[.bool sm,v1,v2],rfl,rfl,by rw [h1],by rw [h1];exact⟨_,_,rfl,hs.keep hk,hp.keep hk⟩,by rw [h2];exact⟨_,_,rfl,ht.keep hk,hq.keep hk⟩⟩
end Go.Proofs.YtamkjeipdjbemaaGreatDoor
