/- ReadyBd + ReadyEnd + RefSt + ClassSpan -/
import Derived.Test.YtapechjebkjidaaGreatDoorZs21
import Derived.Test.YtapechjebkjidaaGreatDoorZs11
import Derived.Test.YtapechjebkjidaaGreatDoorZs0
import Derived.Deep.DeepCutAuto
set_option maxHeartbeats 3200000
set_option maxRecDepth 100000
namespace Go.Proofs.YtapechjebkjidaaGreatDoor
open Go.RowKit Go.Maps
theorem KI:(Tryz.prog.info? 136).map (fun i=>(i.zero,i.size,i.bytes))=some (some (.agg i4),7,112):=by kernel_rfl
structure gB (B:Nat) (w:World) (mb nm:Nat) (l:List aI) (sm:Bool) (only:af) (A A2:List au) (P P2:List cE) (va vb vp vq:Value) (Af:Option Addr) (nf cf:Nat) (wr:World):Prop where
  hB:B≤w.heap.size
  env:fU wr (· < B) mb nm l
  ry:cL B (mb+5) A A2 P P2 va vb vp vq wr
  v4:iN (mb+1) (mb+2) (mb+3) (mb+4) va vb vp vq wr
  sz:mb+5≤wr.heap.size
  lo:w.heap.size+3≤mb
  res:jS w #[.bool sm,.slice Af nf cf,.slice none 0 0] aC #[.int .i64 0,.int .i64 0] wr
  set:iQ wr (bh B (mb+5) va vb vp vq) only (.slice Af nf cf)
section
variable {B : Nat} {w wr w2 w9 : World} {mb nm : Nat} {l : List aI} {sm : Bool} {only : af} {A A2 : List au} {P P2 : List cE} {va vb vp vq v' : Value} {Af : Option Addr} {nf cf : Nat}
theorem gB.below (h:gB B w mb nm l sm only A A2 P P2 va vb vp vq Af nf cf wr) (hb:Below wr.heap.size wr w2):gB B w mb nm l sm only A A2 P P2 va vb vp vq Af nf cf w2 :=
  ⟨h.hB,h.env.below hb,h.ry.below hb,h.v4.below hb,Nat.le_trans h.sz hb.size,h.lo,h.res.below hb,h.set.keep (ag.below hb (fun _ h _=>h))⟩
theorem gB.alloc (h:gB B w mb nm l sm only A A2 P P2 va vb vp vq Af nf cf wr) (o:Obj):gB B w mb nm l sm only A A2 P P2 va vb vp vq Af nf cf (wr.alloc o):=h.below ((Below.refl _ _).alloc (Nat.le_refl _) o)
theorem gB.drew (h:gB B w mb nm l sm only A A2 P P2 va vb vp vq Af nf cf wr):gB B w mb nm l sm only A A2 P P2 va vb vp vq Af nf cf wr.drew:=h.below (Below.refl _ _).drew
theorem jS.Pm {cf cb cr:Array Value} (h:jS w cf cb cr wr) {g i:Nat} {u:Value} (hg:w.heap.size+3≤g):jS w cf cb cr (wr.setCell ⟨g,i,none⟩ u) :=
  ⟨av h.1 (by omega),av h.2.1 (by omega),av h.2.2.1 (by omega),h.2.2.2.setCell (by simp only;omega) _⟩
theorem cL.rows (h:cL B (mb+5) A A2 P P2 va vb vp vq wr):(∀ b,va.ownBlock=some b→mb+5≤b∧b<wr.heap.size)∧(∀ b,vb.ownBlock=some b→mb+5≤b∧b<wr.heap.size)∧(∀ b,vp.ownBlock=some b→mb+5≤b∧b<wr.heap.size)∧(∀ b,vq.ownBlock=some b→mb+5≤b∧b<wr.heap.size):=by
 obtain⟨⟨_,_,_,_,o1⟩,⟨_,_,_,_,o2⟩,⟨_,_,_,_,o3⟩,⟨_,_,_,_,o4⟩,_⟩:=h;exact⟨fun b hb=>bG o1 hb,fun b hb=>bG o2 hb,fun b hb=>bG o3 hb,fun b hb=>bG o4 hb⟩
theorem gB.app (h:gB B w mb nm l sm only A A2 P P2 va vb vp vq Af nf cf wr) {e t:TypeId} {sz n m:Nat} {v:Value} {xs ys:List Value} {cs:Array Value} (ho:wr.ownsRow (mb+5) e sz v n xs)
    (h1 : 103 ≠ e) (h2 : 45 ≠ e) (h3 : 47 ≠ e) (h4 : 51 ≠ e) (ha:aS (mb+5) e sz v (wr.alloc (.cells cs t)) m ys v' w9) :
    fU w9 (· < B) mb nm l∧iN (mb+1) (mb+2) (mb+3) (mb+4) va vb vp vq w9∧jS w #[.bool sm,.slice Af nf cf,.slice none 0 0] aC #[.int .i64 0,.int .i64 0] w9∧mb+5≤w9.heap.size:=by
 have ha0:=h.alloc (.cells cs t);have Dp:=World.ownsRow.alloc ho (.cells cs t);have hlo:=h.lo;have hBw:=h.hB
 refine⟨fU.keep (ag.app ha (fun b hb e=>?_) (fun _ h _=>h)) (ha.2.1.block mb ha0.env.lt (fun e=>?_)) ha0.env,⟨bH ha0.v4.1 Dp h1 ha,bH ha0.v4.2.1 Dp h1 ha,bH ha0.v4.2.2.1 Dp h2 ha,bH ha0.v4.2.2.2 Dp h2 ha⟩,
   ⟨bH ha0.res.1 Dp h3 ha,bH ha0.res.2.1 Dp h3 ha,bH ha0.res.2.2.1 Dp h4 ha,ha0.res.2.2.2.trans (ha.below ha0.res.2.2.2.size (jD Dp (by omega)))⟩,Nat.le_trans ha0.sz ha.2.1.size⟩
 ·have:=(bG Dp e).1;omega
 have:=(bG Dp e.symm).1;omega
theorem od {lo:Nat} (UU:B≤lo) {t:TypeId} {cs:Array Value} {n m sz:Nat} {e:TypeId} {xs ys:List Value} (h4:wr.ownsRow lo e sz vp n xs) (ha:aS lo e sz vp (wr.alloc (.cells cs t)) m ys v' w9) :
    ag wr (bh B lo va vb vp vq) w9 (bh B lo va vb v' vq):=by
 intro b hb hl;have jR:b<(wr.alloc (.cells cs t)).heap.size:=(by simp;omega);have hne:vp.ownBlock≠some b:=by
  rcases hb with hb | hb
  ·intro e;have:=(bG h4 e).1;omega
  exact hb.2.2.2.1
 refine⟨(ha.2.1.block b jR (fun e=>hne e.symm)).trans (heap_alloc_old wr _ hl),hb.imp id (fun⟨a1,a2,a3,a4,a5⟩=>⟨a1,a2,a3,?_,a5⟩),Nat.lt_of_lt_of_le jR ha.2.1.size⟩;rcases ha.2.2 with e | e
 ·rw [e];exact a4
 rw [e];intro he;injection he with he;simp at he;omega
theorem ov {lo:Nat} (UU:B≤lo) {t:TypeId} {cs:Array Value} {n m sz:Nat} {e:TypeId} {xs ys:List Value} (h4:wr.ownsRow lo e sz va n xs) (ha:aS lo e sz va (wr.alloc (.cells cs t)) m ys v' w9) :
    ag wr (bh B lo va vb vp vq) w9 (bh B lo v' vb vp vq):=by
 intro b hb hl;have jR:b<(wr.alloc (.cells cs t)).heap.size:=(by simp;omega);have hne:va.ownBlock≠some b:=by
  rcases hb with hb | hb
  ·intro e;have:=(bG h4 e).1;omega
  exact hb.2.1
 refine⟨(ha.2.1.block b jR (fun e=>hne e.symm)).trans (heap_alloc_old wr _ hl),hb.imp id (fun⟨a1,a2,a3,a4,a5⟩=>⟨a1,?_,a3,a4,a5⟩),Nat.lt_of_lt_of_le jR ha.2.1.size⟩;rcases ha.2.2 with e | e
 ·rw [e];exact a2
 rw [e];intro he;injection he with he;simp at he;omega
theorem om {lo g i:Nat} {u:Value} (h1:B≤g) (h2:g<lo):ag wr (bh B lo va vb vp vq) (wr.setCell ⟨g,i,none⟩ u) (bh B lo va vb vp vq) :=
  ag.setCell u (fun b hb=>by rcases hb with h | h <;> dsimp only <;> omega) (fun _ h _=>h)
theorem gB.AA {css:List (List Value)} {p:cE} {cs:List Value} {t:TypeId} (h:gB B w mb nm l sm only A A2 P P2 va vb vp vq Af nf cf wr) (h1:css.length=P.length)
    (h2:∀ (i:Nat) (a:cE) (cs:List Value),P[i]? = some a→css[i]? = some cs→cR wr (bh B (mb+5) va vb vp vq) a cs) (h3:∀ cs∈css,cs.length=2) (h4:wr.ownsRow (mb+5) 105 2 vp P.length css.flatten)
    (hp:cR wr (bh B (mb+5) va vb vp vq) p cs) (hcs:cs.length=2) (ha:aS (mb+5) 105 2 vp (wr.alloc (.cells cs.toArray t)) (P.length+1) (css.flatten++cs) v' w9) :
    gB B w mb nm l sm only A A2 (P++[p]) P2 va vb v' vq Af nf cf (w9.setCell ⟨mb+3,0,none⟩ v'):=by
 have hlo:=h.lo;have hBw:=h.hB;obtain⟨g1,g2,g3,g4⟩:=h.app h4 (by decide) (by decide) (by decide) (by decide) ha;refine⟨hBw,g1.set (by omega) (by omega),(cL.AA (by omega) h.ry h1 h2 h3 h4 hp hcs ha).set (by omega) (by omega),⟨av g2.1 (by omega),av g2.2.1 (by omega),?_,av g2.2.2.2 (by omega)⟩,by simpa using g4,hlo,g3.Pm (by omega),(h.set.keep (od (by omega) h4 ha)).keep (om (by omega) (by omega))⟩;exact g2.2.2.1.put 0 _
theorem gB.Vr {css:List (List Value)} {p:cE} {cs:List Value} {t:TypeId} (h:gB B w mb nm l sm only A A2 P P2 va vb vp vq Af nf cf wr) (h1:css.length=P2.length)
    (h2:∀ (i:Nat) (a:cE) (cs:List Value),P2[i]? = some a→css[i]? = some cs→cR wr (bh B (mb+5) va vb vp vq) a cs) (h3:∀ cs∈css,cs.length=2) (h4:wr.ownsRow (mb+5) 105 2 vq P2.length css.flatten)
    (hp:cR wr (bh B (mb+5) va vb vp vq) p cs) (hcs:cs.length=2) (ha:aS (mb+5) 105 2 vq (wr.alloc (.cells cs.toArray t)) (P2.length+1) (css.flatten++cs) v' w9) :
    gB B w mb nm l sm only A A2 P (P2++[p]) va vb vp v' Af nf cf (w9.setCell ⟨mb+4,0,none⟩ v'):=by
 have hlo:=h.lo;have hBw:=h.hB;obtain⟨g1,g2,g3,g4⟩:=h.app h4 (by decide) (by decide) (by decide) (by decide) ha;have hk:ag wr (bh B (mb+5) va vb vp vq) wr (bh B (mb+5) va vb vq vp):=ag.refl (fun _ h=>h.uv);have hk2:ag w9 (bh B (mb+5) va vb v' vp) w9 (bh B (mb+5) va vb vp v'):=ag.refl (fun _ h=>h.uv)
 refine⟨hBw,g1.set (by omega) (by omega),(cL.AA (by omega) h.ry.uv h1 (fun i a cs x y=>(h2 i a cs x y).keep hk) h3 h4 (hp.keep hk) hcs ha).uv.set (by omega) (by omega),⟨av g2.1 (by omega),av g2.2.1 (by omega),av g2.2.2.1 (by omega),?_⟩,by simpa using g4,hlo,g3.Pm (by omega),
   ((h.set.keep (hk.trans (od (by omega) h4 ha))).keep hk2).keep (om (by omega) (by omega))⟩
 exact g2.2.2.2.put 0 _
theorem gB.Ij {css:List (List Value)} {r:au} {cs:List Value} {t:TypeId} (h:gB B w mb nm l sm only A A2 P P2 va vb vp vq Af nf cf wr) (h1:css.length=A.length)
    (h2:∀ (i:Nat) (a:au) (cs:List Value),A[i]? = some a→css[i]? = some cs→bE wr (bh B (mb+5) va vb vp vq) a cs) (h3:∀ cs∈css,cs.length=7) (h4:wr.ownsRow (mb+5) 136 7 va A.length css.flatten)
    (hp:bE wr (bh B (mb+5) va vb vp vq) r cs) (hcs:cs.length=7) (ha:aS (mb+5) 136 7 va (wr.alloc (.cells cs.toArray t)) (A.length+1) (css.flatten++cs) v' w9) :
    gB B w mb nm l sm only (A++[r]) A2 P P2 v' vb vp vq Af nf cf (w9.setCell ⟨mb+1,0,none⟩ v'):=by
 have hlo:=h.lo;have hBw:=h.hB;obtain⟨g1,g2,g3,g4⟩:=h.app h4 (by decide) (by decide) (by decide) (by decide) ha;refine⟨hBw,g1.set (by omega) (by omega),(cL.Ij (by omega) h.ry h1 h2 h3 h4 hp hcs ha).set (by omega) (by omega),⟨?_,av g2.2.1 (by omega),av g2.2.2.1 (by omega),av g2.2.2.2 (by omega)⟩,by simpa using g4,hlo,g3.Pm (by omega),(h.set.keep (ov (by omega) h4 ha)).keep (om (by omega) (by omega))⟩;exact g2.1.put 0 _
theorem gB.VQ {css:List (List Value)} {r:au} {cs:List Value} {t:TypeId} (h:gB B w mb nm l sm only A A2 P P2 va vb vp vq Af nf cf wr) (h1:css.length=A2.length)
    (h2:∀ (i:Nat) (a:au) (cs:List Value),A2[i]? = some a→css[i]? = some cs→bE wr (bh B (mb+5) va vb vp vq) a cs) (h3:∀ cs∈css,cs.length=7) (h4:wr.ownsRow (mb+5) 136 7 vb A2.length css.flatten)
    (hp:bE wr (bh B (mb+5) va vb vp vq) r cs) (hcs:cs.length=7) (ha:aS (mb+5) 136 7 vb (wr.alloc (.cells cs.toArray t)) (A2.length+1) (css.flatten++cs) v' w9) :
    gB B w mb nm l sm only A (A2++[r]) P P2 va v' vp vq Af nf cf (w9.setCell ⟨mb+2,0,none⟩ v'):=by
 have hlo:=h.lo;have hBw:=h.hB;obtain⟨g1,g2,g3,g4⟩:=h.app h4 (by decide) (by decide) (by decide) (by decide) ha;have hk:ag wr (bh B (mb+5) va vb vp vq) wr (bh B (mb+5) vb va vp vq):=ag.refl (fun _ h=>h.xe);have hk2:ag w9 (bh B (mb+5) v' va vp vq) w9 (bh B (mb+5) va v' vp vq):=ag.refl (fun _ h=>h.xe)
 refine⟨hBw,g1.set (by omega) (by omega),(cL.Ij (by omega) h.ry.xe h1 (fun i a cs x y=>(h2 i a cs x y).keep hk) h3 h4 (hp.keep hk) hcs ha).xe.set (by omega) (by omega),⟨av g2.1 (by omega),?_,av g2.2.2.1 (by omega),av g2.2.2.2 (by omega)⟩,by simpa using g4,hlo,g3.Pm (by omega),
   ((h.set.keep (hk.trans (ov (by omega) h4 ha))).keep hk2).keep (om (by omega) (by omega))⟩
 exact g2.2.1.put 0 _
theorem gB.close {H6 Fj:Value} {A' A2':List au} {P' P2':List cE} (h:gB B w mb nm l sm only A A2 P P2 va vb vp vq Af nf cf wr) (wJ:cL B (mb+5) A' A2' P' P2' (.slice none 0 0) (.slice none 0 0) H6 Fj w2)
    (hv:iN (mb+1) (mb+2) (mb+3) (mb+4) (.slice none 0 0) (.slice none 0 0) H6 Fj w2) (hb:E5 (mb+1) (mb+2) (mb+3) (mb+4) vp vq wr w2)
    (hg1:∀ k,H6.ownBlock=some k→vp.ownBlock=some k∨wr.heap.size≤k) (hg2:∀ k,Fj.ownBlock=some k→vq.ownBlock=some k∨wr.heap.size≤k) :
    gB B w mb nm l sm only A' A2' P' P2' (.slice none 0 0) (.slice none 0 0) H6 Fj Af nf cf w2:=by
 have hlo:=h.lo;have hBw:=h.hB;have hsz:=h.sz;obtain⟨_,_,r3,r4⟩:=h.ry.rows;obtain⟨b1,b2,b3,b4,b5⟩:=hb;have qX:∀ k,k<mb+1→w2.heap[k]? = wr.heap[k]?:=fun k hk=>b5 k (by omega) (by omega) (by omega) (by omega) (by omega) (fun e=>by have:=(r3 k e).1;omega) (fun e=>by have:=(r4 k e).1;omega);have hB:Below w.heap.size wr w2:=⟨b1,b2,b3,b4,fun k hk=>qX k (by omega)⟩;refine⟨hBw,fU.keep (fun b (hb:b<B) hl=>⟨qX b (by omega),hb,Nat.lt_of_lt_of_le hl b4⟩) (qX mb (by omega)) h.env,wJ,hv,Nat.le_trans hsz b4,hlo,⟨(qX _ (by omega)).trans h.res.1,(qX _ (by omega)).trans h.res.2.1,(qX _ (by omega)).trans h.res.2.2.1,h.res.2.2.2.trans hB⟩,h.set.keep ?_⟩;intro b hb hl;rcases hb with hb | ⟨hb,h1,h2,h3,h4⟩;exact⟨qX b (by omega),.inl hb,Nat.lt_of_lt_of_le hl b4⟩;refine⟨b5 b hl (by omega) (by omega) (by omega) (by omega) h3 h4,.inr ⟨hb,by simp [Value.ownBlock],by simp [Value.ownBlock],fun e=>?_,fun e=>?_⟩,Nat.lt_of_lt_of_le hl b4⟩
 ·rcases hg1 b e with e | e;exact h3 e;omega
 rcases hg2 b e with e | e;exact h4 e;omega
theorem E5.blk {ga gb gp gq g:Nat} {t:TypeId} {cs:Array Value} (h:E5 ga gb gp gq vp vq wr w2) (hb:ak wr g t cs) (h1:g≠ga) (h2:g≠gb) (h3:g≠gp) (h4:g≠gq) (h5:vp.ownBlock≠some g) (h6:vq.ownBlock≠some g):ak w2 g t cs :=
  (h.2.2.2.2 g hb.lt h1 h2 h3 h4 h5 h6).trans hb
theorem cL.neP {lo:Nat} (h:cL B lo A A2 P P2 va vb vp vq wr) {g:Nat} {t:TypeId} {cs:Array Value} (hb:ak wr g t cs) (ht:t ≠ 105):vp.ownBlock≠some g∧vq.ownBlock≠some g:=by
 obtain⟨_,_,⟨_,_,_,_,o3⟩,⟨_,_,_,_,o4⟩,_⟩:=h;exact⟨qG o3 hb ht,qG o4 hb ht⟩
end
theorem xH {l:List aI} (h:∀ p∈l,gX p=0) (k:Nat):∀ s set,fY (l.take k) s=some set→set.length≤200:=by
 intro s set;have h2:∀ p∈l.take k,gX p=0:=fun p hp=>h p (List.mem_of_mem_take hp);generalize l.take k=m at h2 ⊢;induction m with
 | nil=>intro e;cases e
 | cons p m ih=>
  intro e;rw [fY]at e;by_cases hp:p.kind=1∧p.name=s
  ·rw [if_pos hp]at e;injection e with e;subst e;rcases qT (h2 p (by simp))with ⟨_,_,h3⟩ | ⟨h1,_⟩ | ⟨h1,_⟩ | ⟨h1,_⟩;exact pn h3
   ·rw [hp.1]at h1;cases h1
   ·rw [hp.1]at h1;cases h1
   rw [hp.1]at h1;cases h1
  rw [if_neg hp]at e;exact ih (fun q hq=>h2 q (by simp [hq])) e
theorem R4 {cs:List Value} (h:cs.length=7):∃ u0 u1 u2 u3 u4 u5 u6,cs = [u0,u1,u2,u3,u4,u5,u6]:=by
 match cs,h with
 | [u0,u1,u2,u3,u4,u5,u6],_=>exact⟨_,_,_,_,_,_,_,rfl⟩
theorem AU (w:World) (X:Nat→Prop) (nm:ByteArray):cR w X ⟨nm,[]⟩ [.string nm,.slice none 0 0] :=
  ⟨_,rfl,none,0,0,rfl,⟨[],rfl,rfl,by simp,by simp,rfl,fun h=>absurd h (Nat.lt_irrefl 0)⟩,Nat.zero_le _⟩
theorem wP {B lo g:Nat} {va vb vp vq:Value} (h1:∀ b,va.ownBlock=some b→b<g) (h2:∀ b,vb.ownBlock=some b→b<g) (h3:∀ b,vp.ownBlock=some b→b<g) (h4:∀ b,vq.ownBlock=some b→b<g) (hg:lo≤g):∀ b,Fr B g b→bh B lo va vb vp vq b:=by
 intro b hb;rcases hb with hb | hb;exact .inl hb;exact .inr ⟨by omega,fun e=>by have:=h1 b e;omega,fun e=>by have:=h2 b e;omega,fun e=>by have:=h3 b e;omega,fun e=>by have:=h4 b e;omega⟩
end Go.Proofs.YtapechjebkjidaaGreatDoor
namespace Go.Proofs.YtapechjebkjidaaGreatDoor
open Go.RowKit Go.Maps
theorem J5 {l:List aI} (h:∀ p∈l,gX p=0) (back:Bool):∀ k s,dI back l k=.ok s→s.only.length≤200:=by
 intro k;induction k with
 | zero=>intro s e;rw [dI]at e;cases e;simp
 | succ k ih=>
  intro s e;cases h0:dI back l k with
  | error e'=>rw [dI,h0]at e;cases e
  | ok t=>
   cases hp:l[k]? with
   | none=>
    rw [dI,h0]at e;simp only [hp]at e;cases e;exact ih _ h0
   | some p=>
    rw [kK h0 hp]at e;have ht:=ih _ h0;unfold je at e;by_cases k1:p.kind=1
    ·rw [if_pos k1]at e;cases hl:fY (l.take k) p.name with
     | some x=>rw [hl]at e;cases e
     | none=>rw [hl]at e;cases e;exact ht
    rw [if_neg k1]at e;by_cases k3:p.kind=3
    ·rw [if_pos k3]at e;by_cases hs:t.some? = true
     ·rw [if_pos hs]at e;cases e
     rw [if_neg hs]at e;cases e;rcases qT (h p (List.mem_of_getElem? hp))with ⟨h1,_⟩ | ⟨_,h3⟩ | ⟨h1,_⟩ | ⟨h1,_⟩;exact absurd h1 k1;exact pn h3
     ·rw [k3]at h1;cases h1
     rw [k3]at h1;cases h1
    rw [if_neg k3]at e;by_cases k4:p.kind=4
    ·rw [if_pos k4]at e;cases e;exact ht
    rw [if_neg k4]at e;cases hx:eX (l.take k) p.left p.right with
    | none=>rw [hx]at e;cases e
    | some x=>
     cases hy:eX (l.take k) p.right p.left with
     | none=>rw [hx,hy]at e;cases e
     | some y=>
      rw [hx,hy]at e;injection e with e;subst e;by_cases d:(back=true∧p.dir=1)∨(back=false∧p.dir=2)
      ·rw [if_pos d];exact ht
      rw [if_neg d];exact ht
section
variable {B : Nat} {w wr w2 : World} {mb nm : Nat} {l : List aI} {sm : Bool} {only : af} {A A2 : List au} {P Q : List cE} {va vb vp : Value} {Aq Af : Option Addr} {kq nf cf : Nat}
theorem FY {X:Nat→Prop} {css:List (List Value)} (h1:css.length=Q.length) (h2:∀ (i:Nat) (a:cE) (cs:List Value),Q[i]? = some a→css[i]? = some cs→cR wr X a cs) :
    ∀ cs∈css,∃ s A m c,cs = [.string s,.slice A m c]:=by
 intro cs hc;obtain⟨i,hi⟩:=List.getElem?_of_mem hc;have hlt:=(List.getElem?_eq_some_iff.1 hi).1;obtain⟨a,ha⟩:∃ a,Q[i]? = some a:=⟨_,List.getElem?_eq_getElem (by omega)⟩;obtain⟨u,rfl,A,n,c,rfl,_⟩:=h2 i a cs ha hi;exact⟨_,_,_,_,rfl⟩
theorem gB.reverse (h:gB B w mb nm l sm only A A2 P Q va vb vp (.slice Aq Q.length kq) Af nf cf wr) (hq:Q.length≤1000) :
    Calls Tryz.prog 91 #[.slice Aq Q.length kq] wr fun e w'=>e=.returned (.tuple #[])∧gB B w mb nm l sm only A A2 P Q.reverse va vb vp (.slice Aq Q.length kq) Af nf cf w':=by
 by_cases h0:Q.length=0
 ·have hQ:Q = []:=List.eq_nil_of_length_eq_zero h0;subst hQ;refine(tA Aq kq wr).mono ?_;rintro e w' ⟨rfl,rfl⟩;exact⟨rfl,h⟩
 have hlo:=h.lo;have hBw:=h.hB;have wJ:=h.ry;obtain⟨⟨ca,a1,a2,a3,a4⟩,⟨cb,b1,b2,b3,b4⟩,⟨cp,p1,p2,p3,p4⟩,⟨css,q1,q2,q3,q4⟩,e1,e2⟩:=wJ;obtain⟨g,c,hv,_,hg1,hg2⟩:=oA q4 (by omega);injection hv with hv _ ng;subst hv ng;refine(CW (mb+5) g Q.length kq css wr (by omega) hq q1 (FY q1 q2) q4).mono ?_;rintro e w' ⟨rfl,ho,zo⟩;have hK:ag wr (bh B (mb+5) va vb vp (.slice (some ⟨g,0,none⟩) Q.length kq)) w' (bh B (mb+5) va vb vp (.slice (some ⟨g,0,none⟩) Q.length kq)):=by
  intro b hb hl;have hne:b≠g:=by
   rcases hb with hb | hb;omega;intro e;exact hb.2.2.2.2 (by rw [e];rfl)
  exact⟨zo.block b hl (fun e=>hne (by injection e)),hb,Nat.lt_of_lt_of_le hl zo.size⟩
 have eO:∀ k,k<mb+5→w'.heap[k]? = wr.heap[k]?:=fun k hk=>zo.block k (by have:=h.sz;omega) (fun e=>by injection e with e;omega);have kv:∀ {t:TypeId} {sz n:Nat} {v:Value} {xs:List Value},v.ownBlock≠some g→wr.ownsRow (mb+5) t sz v n xs→w'.ownsRow (mb+5) t sz v n xs:=by
  intro t sz n v xs hne ho;exact World.ownsRow.kept ho zo (.inr hne)
 have na:va.ownBlock≠some g:=fun e=>by
  rcases a4.2 with ⟨hv,_⟩ | ⟨g',cap,cur,hv,_,hg,_⟩
  ·rw [hv]at e;simp [Value.ownBlock]at e
  rw [hv]at e;simp only [Value.ownBlock,Option.some.injEq]at e;subst e;exact lI q4 hg (by decide) rfl
 have nb:vb.ownBlock≠some g:=fun e=>by
  rcases b4.2 with ⟨hv,_⟩ | ⟨g',cap,cur,hv,_,hg,_⟩
  ·rw [hv]at e;simp [Value.ownBlock]at e
  rw [hv]at e;simp only [Value.ownBlock,Option.some.injEq]at e;subst e;exact lI q4 hg (by decide) rfl
 have np:vp.ownBlock≠some g:=fun e=>e2 g e rfl
 refine⟨rfl,⟨hBw,fU.keep (fun b (hb:b<B) hl=>⟨eO b (by omega),hb,Nat.lt_of_lt_of_le hl zo.size⟩) (eO mb (by omega)) h.env,
   ⟨⟨ca,a1,fun i a cs x y=>(a2 i a cs x y).keep hK,a3,kv na a4⟩,⟨cb,b1,fun i a cs x y=>(b2 i a cs x y).keep hK,b3,kv nb b4⟩,⟨cp,p1,fun i a cs x y=>(p2 i a cs x y).keep hK,p3,kv np p4⟩,⟨css.reverse,by simp [q1],?_,fun cs hc=>q3 cs (List.mem_reverse.1 hc),by rw [List.length_reverse];exact ho⟩,e1,e2⟩,
   ⟨(eO _ (by omega)).trans h.v4.1,(eO _ (by omega)).trans h.v4.2.1,(eO _ (by omega)).trans h.v4.2.2.1,(eO _ (by omega)).trans h.v4.2.2.2⟩,Nat.le_trans h.sz zo.size,hlo,
   ⟨(eO _ (by omega)).trans h.res.1,(eO _ (by omega)).trans h.res.2.1,(eO _ (by omega)).trans h.res.2.2.1,h.res.2.2.2.trans ⟨zo.os,zo.tape,zo.output,zo.size,fun k hk=>eO k (by omega)⟩⟩,h.set.keep hK⟩⟩
 intro i a cs x y;have hi:i<Q.length:=by
  have:=(List.getElem?_eq_some_iff.1 x).1;simpa using this
 rw [List.getElem?_reverse hi]at x;rw [List.getElem?_reverse (by omega),q1]at y;exact(q2 _ a cs x y).keep hK
def X3 (B g:Nat) (b:Nat):Prop:=b<B∨g+3≤b
theorem gB.read (h:gB B w mb nm l sm only A A2 P Q va vb vp (.slice Aq Q.length kq) Af nf cf wr) (hp:P.length≤maxLen) (hq:Q.length≤maxLen) :
    iQ wr (X3 B w.heap.size) only (.slice Af nf cf)∧lJ wr (X3 B w.heap.size) P vp∧lJ wr (X3 B w.heap.size) Q (.slice Aq Q.length kq):=by
 have hlo:=h.lo;have hBw:=h.hB;have hK:ag wr (bh B (mb+5) va vb vp (.slice Aq Q.length kq)) wr (X3 B w.heap.size):=ag.refl (fun b hb=>by
  rcases hb with hb | hb;exact .inl hb;exact .inr (by omega))
 obtain⟨_,_,r3,r4⟩:=h.ry.rows;obtain⟨Ap,kp,rfl,_⟩:=h.ry.2.2.1.form;exact⟨h.set.keep hK,⟨Ap,P.length,kp,rfl,dD.done h.ry.2.2.1 (fun _ _=>cR.keep hK) (fun b hb=>.inr (by have:=(r3 b hb).1;omega)),hp⟩,⟨Aq,Q.length,kq,rfl,dD.done h.ry.2.2.2.1 (fun _ _=>cR.keep hK) (fun b hb=>.inr (by have:=(r4 b hb).1;omega)),hq⟩⟩
end
theorem jW {w:World} {B s g i:Nat} {u:Value} (h0:B≤g) (h2:g<s+3):ag w (X3 B s) (w.setCell ⟨g,i,none⟩ u) (X3 B s) :=
  ag.setCell u (fun b hb=>by rcases hb with h | h <;> dsimp only <;> omega) (fun _ h _=>h)
theorem LL {B lo:Nat} {l:List aI} {W W':World} {X:Nat→Prop} {sm:Bool} {only:af} {P Q:List cE} {u1 u2 v1 v2:Value} (h1:cT false l=(⟨sm,only,P⟩,(0,0))) (h2:cT true l=(⟨sm,only,Q⟩,(0,0)))
    (hs:iQ W X only u1) (hp:lJ W X P u2) (ht:iQ W X only v1) (hq:lJ W X Q v2) (hk:ag W X W' (Fr B lo)) :
    sU B lo W' l (.returned (.tuple #[.agg #[.bool sm,u1,u2],.agg #[.bool sm,v1,v2],.agg #[.int .i64 0,.int .i64 0]])) :=
  ⟨[.bool sm,u1,u2],[.bool sm,v1,v2],rfl,rfl,by rw [h1],by rw [h1];exact⟨_,_,rfl,hs.keep hk,hp.keep hk⟩,by rw [h2];exact⟨_,_,rfl,ht.keep hk,hq.keep hk⟩⟩
end Go.Proofs.YtapechjebkjidaaGreatDoor
namespace Go.Proofs.YtapechjebkjidaaGreatDoor
open Go.RowKit Go.Maps
def KV (B lo:Nat) (va:Value) (A:List au) (P:List cE) (vp:Value) (wx:World):Prop :=
  dD (bE wx (bh B lo va (.slice none 0 0) vp (.slice none 0 0))) 136 7 wx lo va A ∧
  ∃ css:List (List Value),css.length=P.length∧(∀ (i:Nat) (a:cE) (cs:List Value),P[i]? = some a→css[i]? = some cs→cR wx (bh B lo va (.slice none 0 0) vp (.slice none 0 0)) a cs)∧(∀ cs∈css,cs.length=2) ∧
    wx.ownsRow lo 105 2 vp (P.length+1) (css.flatten++[.string ⟨#[]⟩,va])
abbrev ClD (B lo:Nat) (P:List cE) (vp:Value) (wx:World):Prop:=cL B lo [] [] P [] (.slice none 0 0) (.slice none 0 0) vp (.slice none 0 0) wx
section
variable {B lo g i : Nat} {va vp v' u : Value} {A : List au} {P : List cE} {wx w2 w9 : World}
theorem KV.kept (hk:ag wx (bh B lo va (.slice none 0 0) vp (.slice none 0 0)) w2 (bh B lo va (.slice none 0 0) vp (.slice none 0 0))) (ho:∀ (e:TypeId) (sz n:Nat) (v:Value) (xs:List Value),wx.ownsRow lo e sz v n xs→w2.ownsRow lo e sz v n xs)
    (h:KV B lo va A P vp wx):KV B lo va A P vp w2:=by
 obtain⟨h1,css,h2,h3,h4,h5⟩:=h;exact⟨h1.kept (ho _ _ · _ ·) (fun _ _=>bE.keep hk),css,h2,fun i a cs x y=>(h3 i a cs x y).keep hk,h4,ho _ _ _ _ _ h5⟩
theorem KV.below (h:KV B lo va A P vp wx) (hb:Below wx.heap.size wx w2):KV B lo va A P vp w2 :=
  KV.kept (ag.below hb (fun _ h _=>h)) (fun _ _ _ _ _ h=>cS h hb) h
theorem KV.set (h:KV B lo va A P vp wx) (h1:B≤g) (h2:g<lo):KV B lo va A P vp (wx.setCell ⟨g,i,none⟩ u) :=
  KV.kept (ag.setCell u (fun b hb=>by rcases hb with h | h <;> dsimp only <;> omega) (fun _ h _=>h)) (fun _ _ _ _ _ h=>qZ h h2) h
theorem ClD.start (UU:B≤lo) {css:List (List Value)} {t:TypeId} (h1:css.length=P.length)
    (h2:∀ (i:Nat) (a:cE) (cs:List Value),P[i]? = some a→css[i]? = some cs→cR wx (bh B lo (.slice none 0 0) (.slice none 0 0) vp (.slice none 0 0)) a cs) (h3:∀ cs∈css,cs.length=2) (h4:wx.ownsRow lo 105 2 vp P.length css.flatten)
    (ha:aS lo 105 2 vp (wx.alloc (.cells #[.string ⟨#[]⟩,.slice none 0 0] t)) (P.length+1) (css.flatten++[.string ⟨#[]⟩,.slice none 0 0]) v' w9):KV B lo (.slice none 0 0) [] P v' w9:=by
 have hk:=od (va:=.slice none 0 0) (vb:=.slice none 0 0) (vq:=.slice none 0 0) UU h4 ha;exact⟨dD.nil _ _,css,h1,fun i a cs x y=>(h2 i a cs x y).keep hk,h3,ha.own⟩
end
end Go.Proofs.YtapechjebkjidaaGreatDoor
namespace Go.Proofs.YtapechjebkjidaaGreatDoor
open Go.RowKit
def Sv (w:World) (s:af) (out i:Value) (wr:World):Prop :=
  ∃ j:Nat,j≤s.length∧i=.int .i64 ((2*j:Nat):Int)∧wr.ownsRow w.heap.size 112 2 out j (aj (s.take j))∧Below w.heap.size w wr
theorem FE (b off c:Nat) (s:af) (N:Nat) (w:World) (hN:N=2*s.length) (hn:N≤1000) (hb:b<w.heap.size) (hr:∀ j u,(aj s)[j]? = some u→w.cell? ⟨b,off+j,none⟩=some u) :
    Calls Tryz.prog 146 #[.slice (some ⟨b,off,none⟩) N c] w (dy w s 1000):=by
 obtain⟨i0,hi,y0,y1,y2⟩:=info_parts jB;have HR:=Lib.hid hr;have Yh:=Lib.hid hN;clear hr hN;go_enter Tryz.func146,Tryz.ntmps146;go_wp2_with fail;go_loopw [3,4] (Sv w s) (fun _ i _=>N - (intOf i).toNat);(case atStart=>exact⟨0,Nat.zero_le _,rfl,World.ownsRow_nil _ _ _ _,Below.refl _ _⟩);obtain⟨j,hj,rfl,hown,eO⟩:=hrel;have hz:=eO.size;obtain⟨Av,cv,rfl,sZ⟩:=aH hown;by_cases hlt:j<s.length
 ·have afN:2*j+1<N:=(by have:=Yh.out;omega);have Zx:j+1≤1000:=(by have:=Yh.out;omega);obtain⟨⟨x,y⟩,hx⟩:∃ z,s[j]? = some z:=⟨_,List.getElem?_eq_getElem hlt⟩;obtain⟨q0,q1⟩:=kz s j x y hx;rw [Nat.mul_comm j 2]at q0 q1;have d0:=(eO.cell (p:=⟨b,off+2*j,none⟩) hb).trans (HR.out _ _ q0);have d1:=(eO.cell (p:=⟨b,off+(2*j+1),none⟩) hb).trans (HR.out _ _ q1);have HT:=Lib.hid (show s.take (j+1)=s.take j++[(x,y)] by rw [List.take_add_one,hx];rfl);have AI:=Lib.hid (World.ownsRow.alloc hown (.cells #[.int .i32 x,.int .i32 y] 112));have bT:=Lib.hid (eO.alloc hz (.cells #[.int .i32 x,.int .i32 y] 112));have HN:=Lib.hid (Rd.new wr 112 2 1 [.int .i32 x,.int .i32 y] rfl);generalize hm:2*j=m at *;have HM:=Lib.hid hm;clear hx q0 q1 hown eO hm;have hg:decide ((m:Int)<(N:Int))=true:=decide_eq_true (by omega);have hw1:IntKind.i64.wrap ((m:Int)+1)=((m+1:Nat):Int):=(by rw [wrap_small _ (by omega) (by omega)];omega);have k0:(0:Int)≤(m:Int):=(by omega);have k1:(m:Int)<(N:Int):=(by omega);have k2:(0:Int)≤(m:Int)+1:=(by omega);have k3:(m:Int)+1<(N:Int):=(by omega);go_upto_region 5 with fail;refine aB (S:=(fun w'=>w'.cell? ⟨b,off+m,none⟩=some (.int .i32 x)∧w'.cell? ⟨b,off+(m+1),none⟩=some (.int .i32 y))) [4,9] (by kernel_rfl) ⟨d0,d1⟩ (fun bt=>?_);apply tp 0 11 rfl (by kernel_rfl) (fun _ _ _ h=>h) (by rfl)
  ·intro wq _;go_simp;(try with_reducible rfl)
  (try simp only [zp,za,z0,zs]);apply tp 1 12 rfl (by kernel_rfl) (fun _ _ _ h=>h) (by rfl)
  ·intro wq _;go_simp;(try with_reducible rfl)
  (try simp only [zp,za,z0,zs]);apply tp 2 13 rfl (by kernel_rfl) (fun _ _ _ h=>h) (by rfl)
  ·intro wq _;go_simp;(try with_reducible rfl)
  (try simp only [zp,za,z0,zs]);apply tp 3 14 rfl (by kernel_rfl) (fun _ _ _ h=>h) (by rfl)
  ·intro wq _;go_simp;(try with_reducible rfl)
  (try simp only [zp,za,z0,zs]);apply tt 4 15 rfl (by kernel_rfl) (fun _ _ _ h=>h) (by rfl) (by assumption)
  ·intro wq bR;(try dsimp only at bR);go_simp;(try with_reducible rfl)
  (try simp only [zp,za,z0,zs]);apply tp 5 16 rfl (by kernel_rfl) (fun _ _ _ h=>h) (by rfl)
  ·intro wq _;go_simp;(try with_reducible rfl)
  (try simp only [zp,za,z0,zs]);apply tp 6 17 rfl (by kernel_rfl) (fun _ _ _ h=>h) (by rfl)
  ·intro wq _;go_simp;(try with_reducible rfl)
  (try simp only [zp,za,z0,zs]);apply tp 7 18 rfl (by kernel_rfl) (fun _ _ _ h=>h) (by rfl)
  ·intro wq _;go_simp;(try with_reducible rfl)
  (try simp only [zp,za,z0,zs]);apply tp 8 19 rfl (by kernel_rfl) (fun _ _ _ h=>h) (by rfl)
  ·intro wq _;go_simp;(try with_reducible rfl)
  (try simp only [zp,za,z0,zs]);apply tt 9 20 rfl (by kernel_rfl) (fun _ _ _ h=>h) (by rfl) (by assumption)
  ·intro wq bR;(try dsimp only at bR);go_simp;(try with_reducible rfl)
  (try simp only [zp,za,z0,zs]);apply tp 10 21 rfl (by kernel_rfl) (fun _ _ _ h=>h) (by rfl)
  ·intro wq _;go_simp;(try with_reducible rfl)
  (try simp only [zp,za,z0,zs]);refine aD (i:=11) (o:=⟨some 22,_,_,_,_,_⟩) (by kernel_rfl) rfl (by kernel_rfl) (fun K hK=>?_);go_simp;(try dsimp only);refine hK.out _ _ ?_;clear hK K;(try simp only [zp,za,z0,zs]);refine aD (i:=12) (o:=⟨some 23,_,_,_,_,_⟩) (by kernel_rfl) rfl (by kernel_rfl) (fun K hK=>?_);refine cG _ rfl (.tmp 11) (.tmp 22) 44 rfl w.heap.size 112 i0 _ 2 8 Tryz.underlying44 hi y0 y1 y2 rfl (by decide) _ _ _ rfl AI.out (wr.heap.size+1) (some ⟨wr.heap.size,0,none⟩) 1 1 [.int .i32 x,.int .i32 y] rfl HN.out (mw _ _) (by simp only [maxLen];omega) (by omega) bT.out.size ?_;intro v' w9 an;(try dsimp only);refine hK.out _ _ ?_;clear hK K;have fN:=Lib.hid ((aE bT.out).trans (an.below (aE bT.out).size AI.out));have jw:=Lib.hid (show w9.ownsRow w.heap.size 112 2 v' (j+1) (aj (s.take (j+1))) by rw [HT.out,gK];exact an.own);clear an;(try simp only [zp,za,z0,zs]);apply tp 13 3 rfl (by kernel_rfl) (fun _ _ _ h=>h) (by rfl)
  ·intro wq _;go_simp;(try with_reducible rfl)
  (try simp only [zp,za,z0,zs]);refine aN (by kernel_rfl) ?_ _;go_simp;go_wp2_with fail;exact⟨⟨j+1,by omega,by rw [show((2*(j+1):Nat):Int)=(m:Int)+2 by have:=HM.out;omega],jw.out,fN.out⟩,by simp [intOf];omega⟩
 obtain rfl:j=s.length:=(by omega);have HF:=Lib.hid (show wr.ownsRow w.heap.size 112 2 (.slice Av s.length cv) s.length (aj s) by have:=hown;rwa [List.take_of_length_le (Nat.le_refl _)]at this);generalize hm:2*s.length=m at *;have hg:decide (m<N)=false:=decide_eq_false (by have:=Yh.out;omega);have Np:s.length≤1000:=(by have:=Yh.out;omega);generalize s.length=k at *;clear hown hm;go_wp2_with fail;go_ret;exact⟨Av,_,cv,rfl,di.cj HF.out (fun b hb=>(bG HF.out hb).1),Np,sZ,eO⟩
end Go.Proofs.YtapechjebkjidaaGreatDoor
