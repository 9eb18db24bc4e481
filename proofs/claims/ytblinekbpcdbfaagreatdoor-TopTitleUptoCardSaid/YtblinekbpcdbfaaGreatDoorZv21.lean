/- ReadyBd + ReadyEnd + RefSt -/
import Derived.Test.YtblinekbpcdbfaaGreatDoorZv20
namespace Go.Proofs.YtblinekbpcdbfaaGreatDoor
open Go.RowKit Go.Maps
theorem Iq:(Tryz.prog.info? 138).map (fun i=>(i.zero,i.size,i.bytes))=some (some (.agg iR),7,112):=by kernel_rfl
structure fX (B:Nat) (w:World) (mb nm:Nat) (l:List aG) (sm:Bool) (only:aa) (A A2:List aB) (P P2:List cA) (va vb vp vq:Value) (Af:Option Addr) (nf cf:Nat) (wr:World):Prop where
  hB:B≤w.heap.size
  env:fC wr (· < B) mb nm l
  ry:cM B (mb+5) A A2 P P2 va vb vp vq wr
  v4:iH (mb+1) (mb+2) (mb+3) (mb+4) va vb vp vq wr
  sz:mb+5≤wr.heap.size
  lo:w.heap.size+3≤mb
  res:jO w #[.bool sm,.slice Af nf cf,.slice none 0 0] aI #[.int .i64 0,.int .i64 0] wr
  set:jq wr (bg B (mb+5) va vb vp vq) only (.slice Af nf cf)
section
variable {B : Nat} {w wr w2 w9 : World} {mb nm : Nat} {l : List aG} {sm : Bool} {only : aa} {A A2 : List aB} {P P2 : List cA} {va vb vp vq v' : Value} {Af : Option Addr} {nf cf : Nat}
theorem fX.below (h:fX B w mb nm l sm only A A2 P P2 va vb vp vq Af nf cf wr) (hb:Below wr.heap.size wr w2):fX B w mb nm l sm only A A2 P P2 va vb vp vq Af nf cf w2 :=
  ⟨h.hB,h.env.below hb,h.ry.below hb,h.v4.below hb,Nat.le_trans h.sz hb.size,h.lo,h.res.below hb,h.set.keep (ag.below hb (fun _ h _=>h))⟩
theorem fX.alloc (h:fX B w mb nm l sm only A A2 P P2 va vb vp vq Af nf cf wr) (o:Obj):fX B w mb nm l sm only A A2 P P2 va vb vp vq Af nf cf (wr.alloc o):=h.below (qqb.alloc qql o)
theorem fX.drew (h:fX B w mb nm l sm only A A2 P P2 va vb vp vq Af nf cf wr):fX B w mb nm l sm only A A2 P P2 va vb vp vq Af nf cf wr.drew:=h.below qqb.drew
theorem jO.Qv {cf cb cr:Array Value} (h:jO w cf cb cr wr) {g i:Nat} {u:Value} (hg:w.heap.size+3≤g):jO w cf cb cr (wr.setCell ⟨g,i,none⟩ u) :=
  ⟨au h.1 (by omega),au h.2.1 (by omega),au h.2.2.1 (by omega),h.2.2.2.setCell (by simp only;omega) _⟩
theorem cM.rows (h:cM B (mb+5) A A2 P P2 va vb vp vq wr):(∀ b,va.ownBlock=some b→mb+5≤b∧b<wr.heap.size)∧(∀ b,vb.ownBlock=some b→mb+5≤b∧b<wr.heap.size)∧(∀ b,vp.ownBlock=some b→mb+5≤b∧b<wr.heap.size)∧(∀ b,vq.ownBlock=some b→mb+5≤b∧b<wr.heap.size):=by
 obtain⟨⟨_,_,_,_,o1⟩,⟨_,_,_,_,o2⟩,⟨_,_,_,_,o3⟩,⟨_,_,_,_,o4⟩,_⟩:=h;exact⟨fun b hb=>bk o1 hb,fun b hb=>bk o2 hb,fun b hb=>bk o3 hb,fun b hb=>bk o4 hb⟩
theorem fX.app (h:fX B w mb nm l sm only A A2 P P2 va vb vp vq Af nf cf wr) {e t:TypeId} {sz n m:Nat} {v:Value} {xs ys:List Value} {cs:Array Value} (ho:wr.ownsRow (mb+5) e sz v n xs)
    (h1 : 127 ≠ e) (h2 : 45 ≠ e) (h3 : 47 ≠ e) (h4 : 38 ≠ e) (ha:aP (mb+5) e sz v (wr.alloc (.cells cs t)) m ys v' w9) :
    fC w9 (· < B) mb nm l∧iH (mb+1) (mb+2) (mb+3) (mb+4) va vb vp vq w9∧jO w #[.bool sm,.slice Af nf cf,.slice none 0 0] aI #[.int .i64 0,.int .i64 0] w9∧mb+5≤w9.heap.size:=by
 have ha0:=h.alloc (.cells cs t);have KF:=World.ownsRow.alloc ho (.cells cs t);have hlo:=h.lo;have hBw:=h.hB
 refine⟨fC.keep (ag.app ha (fun b hb e=>?_) (fun _ h _=>h)) (ha.2.1.block mb ha0.env.lt (fun e=>?_)) ha0.env,⟨bW ha0.v4.1 KF h1 ha,bW ha0.v4.2.1 KF h1 ha,bW ha0.v4.2.2.1 KF h2 ha,bW ha0.v4.2.2.2 KF h2 ha⟩,
   ⟨bW ha0.res.1 KF h3 ha,bW ha0.res.2.1 KF h3 ha,bW ha0.res.2.2.1 KF h4 ha,ha0.res.2.2.2.trans (ha.below ha0.res.2.2.2.size (mg KF (by omega)))⟩,Nat.le_trans ha0.sz ha.2.1.size⟩
 ·have:=(bk KF e).1;omega
 have:=(bk KF e.symm).1;omega
theorem tE {lo:Nat} (ZT:B≤lo) {t:TypeId} {cs:Array Value} {n m sz:Nat} {e:TypeId} {xs ys:List Value} (h4:wr.ownsRow lo e sz vp n xs) (ha:aP lo e sz vp (wr.alloc (.cells cs t)) m ys v' w9) :
    ag wr (bg B lo va vb vp vq) w9 (bg B lo va vb v' vq):=by
 intro b hb hl;have jc:b<(wr.alloc (.cells cs t)).heap.size:=(by simp;omega);have hne:vp.ownBlock≠some b:=by
  rcases hb with hb | hb
  ·intro e;have:=(bk h4 e).1;omega
  exact hb.2.2.2.1
 refine⟨(ha.2.1.block b jc (fun e=>hne e.symm)).trans (heap_alloc_old wr _ hl),hb.imp id (fun⟨a1,a2,a3,a4,a5⟩=>⟨a1,a2,a3,?_,a5⟩),Nat.lt_of_lt_of_le jc ha.2.1.size⟩;rcases ha.2.2 with e | e
 ·rw [e];exact a4
 rw [e];intro he;injection he with he;simp at he;omega
theorem oc {lo:Nat} (ZT:B≤lo) {t:TypeId} {cs:Array Value} {n m sz:Nat} {e:TypeId} {xs ys:List Value} (h4:wr.ownsRow lo e sz va n xs) (ha:aP lo e sz va (wr.alloc (.cells cs t)) m ys v' w9) :
    ag wr (bg B lo va vb vp vq) w9 (bg B lo v' vb vp vq):=by
 intro b hb hl;have jc:b<(wr.alloc (.cells cs t)).heap.size:=(by simp;omega);have hne:va.ownBlock≠some b:=by
  rcases hb with hb | hb
  ·intro e;have:=(bk h4 e).1;omega
  exact hb.2.1
 refine⟨(ha.2.1.block b jc (fun e=>hne e.symm)).trans (heap_alloc_old wr _ hl),hb.imp id (fun⟨a1,a2,a3,a4,a5⟩=>⟨a1,?_,a3,a4,a5⟩),Nat.lt_of_lt_of_le jc ha.2.1.size⟩;rcases ha.2.2 with e | e
 ·rw [e];exact a2
 rw [e];intro he;injection he with he;simp at he;omega
theorem od {lo g i:Nat} {u:Value} (h1:B≤g) (h2:g<lo):ag wr (bg B lo va vb vp vq) (wr.setCell ⟨g,i,none⟩ u) (bg B lo va vb vp vq) :=
  ag.setCell u (fun b hb=>by rcases hb with h | h <;> dsimp only <;> omega) (fun _ h _=>h)
theorem fX.zu {css:List (List Value)} {p:cA} {cs:List Value} {t:TypeId} (h:fX B w mb nm l sm only A A2 P P2 va vb vp vq Af nf cf wr) (h1:css.length=P.length)
    (h2:∀ (i:Nat) (a:cA) (cs:List Value),P[i]? = some a→css[i]? = some cs→cU wr (bg B (mb+5) va vb vp vq) a cs) (h3:∀ cs∈css,cs.length=2) (h4:wr.ownsRow (mb+5) 129 2 vp P.length css.flatten)
    (hp:cU wr (bg B (mb+5) va vb vp vq) p cs) (hcs:cs.length=2) (ha:aP (mb+5) 129 2 vp (wr.alloc (.cells cs.toArray t)) (P.length+1) (css.flatten++cs) v' w9) :
    fX B w mb nm l sm only A A2 (P++[p]) P2 va vb v' vq Af nf cf (w9.setCell ⟨mb+3,0,none⟩ v'):=by
 have hlo:=h.lo;have hBw:=h.hB;obtain⟨g1,g2,g3,g4⟩:=h.app h4 (by decide) (by decide) (by decide) (by decide) ha;refine⟨hBw,g1.set (by omega) (by omega),(cM.zu (by omega) h.ry h1 h2 h3 h4 hp hcs ha).set (by omega) (by omega),⟨au g2.1 (by omega),au g2.2.1 (by omega),?_,au g2.2.2.2 (by omega)⟩,by simpa using g4,hlo,g3.Qv (by omega),(h.set.keep (tE (by omega) h4 ha)).keep (od (by omega) (by omega))⟩;exact g2.2.2.1.put 0 _
theorem fX.Vw {css:List (List Value)} {p:cA} {cs:List Value} {t:TypeId} (h:fX B w mb nm l sm only A A2 P P2 va vb vp vq Af nf cf wr) (h1:css.length=P2.length)
    (h2:∀ (i:Nat) (a:cA) (cs:List Value),P2[i]? = some a→css[i]? = some cs→cU wr (bg B (mb+5) va vb vp vq) a cs) (h3:∀ cs∈css,cs.length=2) (h4:wr.ownsRow (mb+5) 129 2 vq P2.length css.flatten)
    (hp:cU wr (bg B (mb+5) va vb vp vq) p cs) (hcs:cs.length=2) (ha:aP (mb+5) 129 2 vq (wr.alloc (.cells cs.toArray t)) (P2.length+1) (css.flatten++cs) v' w9) :
    fX B w mb nm l sm only A A2 P (P2++[p]) va vb vp v' Af nf cf (w9.setCell ⟨mb+4,0,none⟩ v'):=by
 have hlo:=h.lo;have hBw:=h.hB;obtain⟨g1,g2,g3,g4⟩:=h.app h4 (by decide) (by decide) (by decide) (by decide) ha;have hk:ag wr (bg B (mb+5) va vb vp vq) wr (bg B (mb+5) va vb vq vp):=ag.refl (fun _ h=>h.tU);have hk2:ag w9 (bg B (mb+5) va vb v' vp) w9 (bg B (mb+5) va vb vp v'):=ag.refl (fun _ h=>h.tU)
 refine⟨hBw,g1.set (by omega) (by omega),(cM.zu (by omega) h.ry.tU h1 (fun i a cs x y=>(h2 i a cs x y).keep hk) h3 h4 (hp.keep hk) hcs ha).tU.set (by omega) (by omega),⟨au g2.1 (by omega),au g2.2.1 (by omega),au g2.2.2.1 (by omega),?_⟩,by simpa using g4,hlo,g3.Qv (by omega),
   ((h.set.keep (hk.trans (tE (by omega) h4 ha))).keep hk2).keep (od (by omega) (by omega))⟩
 exact g2.2.2.2.put 0 _
theorem fX.G6 {css:List (List Value)} {r:aB} {cs:List Value} {t:TypeId} (h:fX B w mb nm l sm only A A2 P P2 va vb vp vq Af nf cf wr) (h1:css.length=A.length)
    (h2:∀ (i:Nat) (a:aB) (cs:List Value),A[i]? = some a→css[i]? = some cs→bC wr (bg B (mb+5) va vb vp vq) a cs) (h3:∀ cs∈css,cs.length=7) (h4:wr.ownsRow (mb+5) 138 7 va A.length css.flatten)
    (hp:bC wr (bg B (mb+5) va vb vp vq) r cs) (hcs:cs.length=7) (ha:aP (mb+5) 138 7 va (wr.alloc (.cells cs.toArray t)) (A.length+1) (css.flatten++cs) v' w9) :
    fX B w mb nm l sm only (A++[r]) A2 P P2 v' vb vp vq Af nf cf (w9.setCell ⟨mb+1,0,none⟩ v'):=by
 have hlo:=h.lo;have hBw:=h.hB;obtain⟨g1,g2,g3,g4⟩:=h.app h4 (by decide) (by decide) (by decide) (by decide) ha;refine⟨hBw,g1.set (by omega) (by omega),(cM.G6 (by omega) h.ry h1 h2 h3 h4 hp hcs ha).set (by omega) (by omega),⟨?_,au g2.2.1 (by omega),au g2.2.2.1 (by omega),au g2.2.2.2 (by omega)⟩,by simpa using g4,hlo,g3.Qv (by omega),(h.set.keep (oc (by omega) h4 ha)).keep (od (by omega) (by omega))⟩;exact g2.1.put 0 _
theorem fX.Xs {css:List (List Value)} {r:aB} {cs:List Value} {t:TypeId} (h:fX B w mb nm l sm only A A2 P P2 va vb vp vq Af nf cf wr) (h1:css.length=A2.length)
    (h2:∀ (i:Nat) (a:aB) (cs:List Value),A2[i]? = some a→css[i]? = some cs→bC wr (bg B (mb+5) va vb vp vq) a cs) (h3:∀ cs∈css,cs.length=7) (h4:wr.ownsRow (mb+5) 138 7 vb A2.length css.flatten)
    (hp:bC wr (bg B (mb+5) va vb vp vq) r cs) (hcs:cs.length=7) (ha:aP (mb+5) 138 7 vb (wr.alloc (.cells cs.toArray t)) (A2.length+1) (css.flatten++cs) v' w9) :
    fX B w mb nm l sm only A (A2++[r]) P P2 va v' vp vq Af nf cf (w9.setCell ⟨mb+2,0,none⟩ v'):=by
 have hlo:=h.lo;have hBw:=h.hB;obtain⟨g1,g2,g3,g4⟩:=h.app h4 (by decide) (by decide) (by decide) (by decide) ha;have hk:ag wr (bg B (mb+5) va vb vp vq) wr (bg B (mb+5) vb va vp vq):=ag.refl (fun _ h=>h.wE);have hk2:ag w9 (bg B (mb+5) v' va vp vq) w9 (bg B (mb+5) va v' vp vq):=ag.refl (fun _ h=>h.wE)
 refine⟨hBw,g1.set (by omega) (by omega),(cM.G6 (by omega) h.ry.wE h1 (fun i a cs x y=>(h2 i a cs x y).keep hk) h3 h4 (hp.keep hk) hcs ha).wE.set (by omega) (by omega),⟨au g2.1 (by omega),?_,au g2.2.2.1 (by omega),au g2.2.2.2 (by omega)⟩,by simpa using g4,hlo,g3.Qv (by omega),
   ((h.set.keep (hk.trans (oc (by omega) h4 ha))).keep hk2).keep (od (by omega) (by omega))⟩
 exact g2.2.1.put 0 _
theorem fX.close {FF El:Value} {A' A2':List aB} {P' P2':List cA} (h:fX B w mb nm l sm only A A2 P P2 va vb vp vq Af nf cf wr) (uJ:cM B (mb+5) A' A2' P' P2' (.slice none 0 0) (.slice none 0 0) FF El w2)
    (hv:iH (mb+1) (mb+2) (mb+3) (mb+4) (.slice none 0 0) (.slice none 0 0) FF El w2) (hb:Du (mb+1) (mb+2) (mb+3) (mb+4) vp vq wr w2)
    (hg1:∀ k,FF.ownBlock=some k→vp.ownBlock=some k∨wr.heap.size≤k) (hg2:∀ k,El.ownBlock=some k→vq.ownBlock=some k∨wr.heap.size≤k) :
    fX B w mb nm l sm only A' A2' P' P2' (.slice none 0 0) (.slice none 0 0) FF El Af nf cf w2:=by
 have hlo:=h.lo;have hBw:=h.hB;have hsz:=h.sz;obtain⟨_,_,r3,r4⟩:=h.ry.rows;obtain⟨b1,b2,b3,b4,b5⟩:=hb;have qf:∀ k,k<mb+1→w2.heap[k]? = wr.heap[k]?:=fun k hk=>b5 k (by omega) (by omega) (by omega) (by omega) (by omega) (fun e=>by have:=(r3 k e).1;omega) (fun e=>by have:=(r4 k e).1;omega);have hB:Below w.heap.size wr w2:=⟨b1,b2,b3,b4,fun k hk=>qf k (by omega)⟩;refine⟨hBw,fC.keep (fun b (hb:b<B) hl=>⟨qf b (by omega),hb,Nat.lt_of_lt_of_le hl b4⟩) (qf mb (by omega)) h.env,uJ,hv,Nat.le_trans hsz b4,hlo,⟨(qf _ (by omega)).trans h.res.1,(qf _ (by omega)).trans h.res.2.1,(qf _ (by omega)).trans h.res.2.2.1,h.res.2.2.2.trans hB⟩,h.set.keep ?_⟩;intro b hb hl;rcases hb with hb | ⟨hb,h1,h2,h3,h4⟩;exact⟨qf b (by omega),.inl hb,Nat.lt_of_lt_of_le hl b4⟩;refine⟨b5 b hl (by omega) (by omega) (by omega) (by omega) h3 h4,.inr ⟨hb,by simp [Value.ownBlock],by simp [Value.ownBlock],fun e=>?_,fun e=>?_⟩,Nat.lt_of_lt_of_le hl b4⟩
 ·rcases hg1 b e with e | e;exact h3 e;omega
 rcases hg2 b e with e | e;exact h4 e;omega
theorem Du.blk {ga gb gp gq g:Nat} {t:TypeId} {cs:Array Value} (h:Du ga gb gp gq vp vq wr w2) (hb:aj wr g t cs) (h1:g≠ga) (h2:g≠gb) (h3:g≠gp) (h4:g≠gq) (h5:vp.ownBlock≠some g) (h6:vq.ownBlock≠some g):aj w2 g t cs :=
  (h.2.2.2.2 g hb.lt h1 h2 h3 h4 h5 h6).trans hb
theorem cM.neP {lo:Nat} (h:cM B lo A A2 P P2 va vb vp vq wr) {g:Nat} {t:TypeId} {cs:Array Value} (hb:aj wr g t cs) (ht:t ≠ 129):vp.ownBlock≠some g∧vq.ownBlock≠some g:=by
 obtain⟨_,_,⟨_,_,_,_,o3⟩,⟨_,_,_,_,o4⟩,_⟩:=h;exact⟨qu o3 hb ht,qu o4 hb ht⟩
end
theorem vM {l:List aG} (h:∀ p∈l,gM p=0) (k:Nat):∀ s set,fK (l.take k) s=some set→set.length≤200:=by
 intro s set;have h2:∀ p∈l.take k,gM p=0:=fun p hp=>h p (List.mem_of_mem_take hp);generalize l.take k=m at h2 ⊢;induction m with
 | nil=>intro e;cases e
 | cons p m ih=>
  intro e;rw [fK]at e;by_cases hp:p.kind=1∧p.name=s
  ·rw [if_pos hp]at e;injection e with e;subst e;rcases qh (h2 p (by simp))with ⟨_,_,h3⟩ | ⟨h1,_⟩ | ⟨h1,_⟩ | ⟨h1,_⟩;exact oq h3
   ·rw [hp.1]at h1;cases h1
   ·rw [hp.1]at h1;cases h1
   rw [hp.1]at h1;cases h1
  rw [if_neg hp]at e;exact ih (fun q hq=>h2 q (by simp [hq])) e
theorem Rx {cs:List Value} (h:cs.length=7):∃ u0 u1 u2 u3 u4 u5 u6,cs = [u0,u1,u2,u3,u4,u5,u6]:=by
 match cs,h with
 | [u0,u1,u2,u3,u4,u5,u6],_=>exact⟨_,_,_,_,_,_,_,rfl⟩
theorem ze (w:World) (X:Nat→Prop) (nm:ByteArray):cU w X ⟨nm,[]⟩ [.string nm,.slice none 0 0] :=
  ⟨_,rfl,none,0,0,rfl,⟨[],rfl,rfl,by simp,by simp,rfl,fun h=>absurd h (Nat.lt_irrefl 0)⟩,Nat.zero_le _⟩
theorem vY {B lo g:Nat} {va vb vp vq:Value} (h1:∀ b,va.ownBlock=some b→b<g) (h2:∀ b,vb.ownBlock=some b→b<g) (h3:∀ b,vp.ownBlock=some b→b<g) (h4:∀ b,vq.ownBlock=some b→b<g) (hg:lo≤g):∀ b,Fr B g b→bg B lo va vb vp vq b:=by
 intro b hb;rcases hb with hb | hb;exact .inl hb;exact .inr ⟨by omega,fun e=>by have:=h1 b e;omega,fun e=>by have:=h2 b e;omega,fun e=>by have:=h3 b e;omega,fun e=>by have:=h4 b e;omega⟩
theorem KA {l:List aG} (h:∀ p∈l,gM p=0) (back:Bool):∀ k s,dA back l k=.ok s→s.only.length≤200:=by
 intro k;induction k with
 | zero=>intro s e;rw [dA]at e;cases e;simp
 | succ k ih=>
  intro s e;cases h0:dA back l k with
  | error e'=>rw [dA,h0]at e;cases e
  | ok t=>
   cases hp:l[k]? with
   | none=>
    rw [dA,h0]at e;simp only [hp]at e;cases e;exact ih _ h0
   | some p=>
    rw [kV h0 hp]at e;have ht:=ih _ h0;unfold i9 at e;by_cases k1:p.kind=1
    ·rw [if_pos k1]at e;cases hl:fK (l.take k) p.name with
     | some x=>rw [hl]at e;cases e
     | none=>rw [hl]at e;cases e;exact ht
    rw [if_neg k1]at e;by_cases k3:p.kind=3
    ·rw [if_pos k3]at e;by_cases hs:t.some? = true
     ·rw [if_pos hs]at e;cases e
     rw [if_neg hs]at e;cases e;rcases qh (h p (List.mem_of_getElem? hp))with ⟨h1,_⟩ | ⟨_,h3⟩ | ⟨h1,_⟩ | ⟨h1,_⟩;exact absurd h1 k1;exact oq h3
     ·rw [k3]at h1;cases h1
     rw [k3]at h1;cases h1
    rw [if_neg k3]at e;by_cases k4:p.kind=4
    ·rw [if_pos k4]at e;cases e;exact ht
    rw [if_neg k4]at e;cases hx:eS (l.take k) p.left p.right with
    | none=>rw [hx]at e;cases e
    | some x=>
     cases hy:eS (l.take k) p.right p.left with
     | none=>rw [hx,hy]at e;cases e
     | some y=>
      rw [hx,hy]at e;injection e with e;subst e;by_cases d:(back=true∧p.dir=1)∨(back=false∧p.dir=2)
      ·rw [if_pos d];exact ht
      rw [if_neg d];exact ht
section
variable {B : Nat} {w wr w2 : World} {mb nm : Nat} {l : List aG} {sm : Bool} {only : aa} {A A2 : List aB} {P Q : List cA} {va vb vp : Value} {Aq Af : Option Addr} {kq nf cf : Nat}
theorem Gc {X:Nat→Prop} {css:List (List Value)} (h1:css.length=Q.length) (h2:∀ (i:Nat) (a:cA) (cs:List Value),Q[i]? = some a→css[i]? = some cs→cU wr X a cs) :
    ∀ cs∈css,∃ s A m c,cs = [.string s,.slice A m c]:=by
 intro cs hc;obtain⟨i,hi⟩:=List.getElem?_of_mem hc;have hlt:=(List.getElem?_eq_some_iff.1 hi).1;obtain⟨a,ha⟩:∃ a,Q[i]? = some a:=⟨_,List.getElem?_eq_getElem (by omega)⟩;obtain⟨u,rfl,A,n,c,rfl,_⟩:=h2 i a cs ha hi;exact⟨_,_,_,_,rfl⟩
theorem fX.reverse (h:fX B w mb nm l sm only A A2 P Q va vb vp (.slice Aq Q.length kq) Af nf cf wr) (hq:Q.length≤1000) :
    Calls Tryz.prog 67 #[.slice Aq Q.length kq] wr fun e w'=>e=.returned (.tuple #[])∧fX B w mb nm l sm only A A2 P Q.reverse va vb vp (.slice Aq Q.length kq) Af nf cf w':=by
 by_cases h0:Q.length=0
 ·have hQ:Q = []:=List.eq_nil_of_length_eq_zero h0;subst hQ;refine(r9 Aq kq wr).mono ?_;rintro e w' ⟨rfl,rfl⟩;exact⟨rfl,h⟩
 have hlo:=h.lo;have hBw:=h.hB;have uJ:=h.ry;obtain⟨⟨ca,a1,a2,a3,a4⟩,⟨cb,b1,b2,b3,b4⟩,⟨cp,p1,p2,p3,p4⟩,⟨css,q1,q2,q3,q4⟩,e1,e2⟩:=uJ;obtain⟨g,c,hv,_,hg1,hg2⟩:=mz q4 (by omega);injection hv with hv _ yP;subst hv yP;refine(CK (mb+5) g Q.length kq css wr (by omega) hq q1 (Gc q1 q2) q4).mono ?_;rintro e w' ⟨rfl,ho,yC⟩;have hK:ag wr (bg B (mb+5) va vb vp (.slice (some ⟨g,0,none⟩) Q.length kq)) w' (bg B (mb+5) va vb vp (.slice (some ⟨g,0,none⟩) Q.length kq)):=by
  intro b hb hl;have hne:b≠g:=by
   rcases hb with hb | hb;omega;intro e;exact hb.2.2.2.2 (by rw [e];rfl)
  exact⟨yC.block b hl (fun e=>hne (by injection e)),hb,Nat.lt_of_lt_of_le hl yC.size⟩
 have fq:∀ k,k<mb+5→w'.heap[k]? = wr.heap[k]?:=fun k hk=>yC.block k (by have:=h.sz;omega) (fun e=>by injection e with e;omega);have kv:∀ {t:TypeId} {sz n:Nat} {v:Value} {xs:List Value},v.ownBlock≠some g→wr.ownsRow (mb+5) t sz v n xs→w'.ownsRow (mb+5) t sz v n xs:=by
  intro t sz n v xs hne ho;exact World.ownsRow.kept ho yC (.inr hne)
 have na:va.ownBlock≠some g:=fun e=>by
  rcases a4.2 with ⟨hv,_⟩ | ⟨g',cap,cur,hv,_,hg,_⟩
  ·rw [hv]at e;simp [Value.ownBlock]at e
  rw [hv]at e;simp only [Value.ownBlock,Option.some.injEq]at e;subst e;exact lB q4 hg (by decide) rfl
 have nb:vb.ownBlock≠some g:=fun e=>by
  rcases b4.2 with ⟨hv,_⟩ | ⟨g',cap,cur,hv,_,hg,_⟩
  ·rw [hv]at e;simp [Value.ownBlock]at e
  rw [hv]at e;simp only [Value.ownBlock,Option.some.injEq]at e;subst e;exact lB q4 hg (by decide) rfl
 have np:vp.ownBlock≠some g:=fun e=>e2 g e rfl
 refine⟨rfl,⟨hBw,fC.keep (fun b (hb:b<B) hl=>⟨fq b (by omega),hb,Nat.lt_of_lt_of_le hl yC.size⟩) (fq mb (by omega)) h.env,
   ⟨⟨ca,a1,fun i a cs x y=>(a2 i a cs x y).keep hK,a3,kv na a4⟩,⟨cb,b1,fun i a cs x y=>(b2 i a cs x y).keep hK,b3,kv nb b4⟩,⟨cp,p1,fun i a cs x y=>(p2 i a cs x y).keep hK,p3,kv np p4⟩,⟨css.reverse,by simp [q1],?_,fun cs hc=>q3 cs (List.mem_reverse.1 hc),by rw [List.length_reverse];exact ho⟩,e1,e2⟩,
   ⟨(fq _ (by omega)).trans h.v4.1,(fq _ (by omega)).trans h.v4.2.1,(fq _ (by omega)).trans h.v4.2.2.1,(fq _ (by omega)).trans h.v4.2.2.2⟩,Nat.le_trans h.sz yC.size,hlo,
   ⟨(fq _ (by omega)).trans h.res.1,(fq _ (by omega)).trans h.res.2.1,(fq _ (by omega)).trans h.res.2.2.1,h.res.2.2.2.trans ⟨yC.os,yC.tape,yC.output,yC.size,fun k hk=>fq k (by omega)⟩⟩,h.set.keep hK⟩⟩
 intro i a cs x y;have hi:i<Q.length:=by
  have:=(List.getElem?_eq_some_iff.1 x).1;simpa using this
 rw [List.getElem?_reverse hi]at x;rw [List.getElem?_reverse (by omega),q1]at y;exact(q2 _ a cs x y).keep hK
def X3 (B g:Nat) (b:Nat):Prop:=b<B∨g+3≤b
theorem fX.read (h:fX B w mb nm l sm only A A2 P Q va vb vp (.slice Aq Q.length kq) Af nf cf wr) (hp:P.length≤maxLen) (hq:Q.length≤maxLen) :
    jq wr (X3 B w.heap.size) only (.slice Af nf cf)∧lC wr (X3 B w.heap.size) P vp∧lC wr (X3 B w.heap.size) Q (.slice Aq Q.length kq):=by
 have hlo:=h.lo;have hBw:=h.hB;have hK:ag wr (bg B (mb+5) va vb vp (.slice Aq Q.length kq)) wr (X3 B w.heap.size):=ag.refl (fun b hb=>by
  rcases hb with hb | hb;exact .inl hb;exact .inr (by omega))
 obtain⟨_,_,r3,r4⟩:=h.ry.rows;obtain⟨Ap,kp,rfl,_⟩:=h.ry.2.2.1.form;exact⟨h.set.keep hK,⟨Ap,P.length,kp,rfl,dy.done h.ry.2.2.1 (fun _ _=>cU.keep hK) (fun b hb=>.inr (by have:=(r3 b hb).1;omega)),hp⟩,⟨Aq,Q.length,kq,rfl,dy.done h.ry.2.2.2.1 (fun _ _=>cU.keep hK) (fun b hb=>.inr (by have:=(r4 b hb).1;omega)),hq⟩⟩
end
theorem jK {w:World} {B s g i:Nat} {u:Value} (h0:B≤g) (h2:g<s+3):ag w (X3 B s) (w.setCell ⟨g,i,none⟩ u) (X3 B s) :=
  ag.setCell u (fun b hb=>by rcases hb with h | h <;> dsimp only <;> omega) (fun _ h _=>h)
theorem Nh {B lo:Nat} {l:List aG} {W W':World} {X:Nat→Prop} {sm:Bool} {only:aa} {P Q:List cA} {u1 u2 v1 v2:Value} (h1:dQ false l=(⟨sm,only,P⟩,(0,0))) (h2:dQ true l=(⟨sm,only,Q⟩,(0,0)))
    (hs:jq W X only u1) (hp:lC W X P u2) (ht:jq W X only v1) (hq:lC W X Q v2) (hk:ag W X W' (Fr B lo)) :
    rJ B lo W' l (.returned (.tuple #[.agg #[.bool sm,u1,u2],.agg #[.bool sm,v1,v2],.agg #[.int .i64 0,.int .i64 0]])) :=
  ⟨[.bool sm,u1,u2],[.bool sm,v1,v2],rfl,rfl,by rw [h1],by rw [h1];exact⟨_,_,rfl,hs.keep hk,hp.keep hk⟩,by rw [h2];exact⟨_,_,rfl,ht.keep hk,hq.keep hk⟩⟩
def KI (B lo:Nat) (va:Value) (A:List aB) (P:List cA) (vp:Value) (wx:World):Prop :=
  dy (bC wx (bg B lo va (.slice none 0 0) vp (.slice none 0 0))) 138 7 wx lo va A ∧
  ∃ css:List (List Value),css.length=P.length∧(∀ (i:Nat) (a:cA) (cs:List Value),P[i]? = some a→css[i]? = some cs→cU wx (bg B lo va (.slice none 0 0) vp (.slice none 0 0)) a cs)∧(∀ cs∈css,cs.length=2) ∧
    wx.ownsRow lo 129 2 vp (P.length+1) (css.flatten++[.string ⟨#[]⟩,va])
abbrev ClD (B lo:Nat) (P:List cA) (vp:Value) (wx:World):Prop:=cM B lo [] [] P [] (.slice none 0 0) (.slice none 0 0) vp (.slice none 0 0) wx
section
variable {B lo g i : Nat} {va vp v' u : Value} {A : List aB} {P : List cA} {wx w2 w9 : World}
theorem KI.kept (hk:ag wx (bg B lo va (.slice none 0 0) vp (.slice none 0 0)) w2 (bg B lo va (.slice none 0 0) vp (.slice none 0 0))) (ho:∀ (e:TypeId) (sz n:Nat) (v:Value) (xs:List Value),wx.ownsRow lo e sz v n xs→w2.ownsRow lo e sz v n xs)
    (h:KI B lo va A P vp wx):KI B lo va A P vp w2:=by
 obtain⟨h1,css,h2,h3,h4,h5⟩:=h;exact⟨h1.kept (ho _ _ · _ ·) (fun _ _=>bC.keep hk),css,h2,fun i a cs x y=>(h3 i a cs x y).keep hk,h4,ho _ _ _ _ _ h5⟩
theorem KI.below (h:KI B lo va A P vp wx) (hb:Below wx.heap.size wx w2):KI B lo va A P vp w2 :=
  KI.kept (ag.below hb (fun _ h _=>h)) (fun _ _ _ _ _ h=>dF h hb) h
theorem KI.set (h:KI B lo va A P vp wx) (h1:B≤g) (h2:g<lo):KI B lo va A P vp (wx.setCell ⟨g,i,none⟩ u) :=
  KI.kept (ag.setCell u (fun b hb=>by rcases hb with h | h <;> dsimp only <;> omega) (fun _ h _=>h)) (fun _ _ _ _ _ h=>qs h h2) h
end
end Go.Proofs.YtblinekbpcdbfaaGreatDoor
