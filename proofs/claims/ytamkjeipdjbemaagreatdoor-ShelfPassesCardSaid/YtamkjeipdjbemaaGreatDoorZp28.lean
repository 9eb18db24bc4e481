import Derived.Test.YtamkjeipdjbemaaGreatDoorZpH
import Derived.Test.YtamkjeipdjbemaaGreatDoorProg
import Derived.Test.YtamkjeipdjbemaaGreatDoorZp3
import Derived.Sort.AssemblyPlain
import Derived.WalkKit
import Derived.BigGuard
import Derived.BigCall
import Derived.CellFam
import Derived.Deep.Draws
import Derived.Deep.QuietTactic
import Derived.BigQuiet
import Derived.Lib.Hide
import Derived.Deep.DeepCutAuto
import Derived.Deep.CutBlock
import Derived.Test.YtamkjeipdjbemaaGreatDoorShelfM
import Derived.Lib.ItoaNum
set_option maxHeartbeats 3200000
set_option maxRecDepth 100000
namespace Go.Proofs.YtamkjeipdjbemaaGreatDoor
open Go.RowKit Go.Sort
def fO (w:World) (blk off:Nat) (d:Array Int):Prop:=∃ (c:Array Value) (e:TypeId),an w blk e c∧∀ j,j<d.size→c[off+j]? = some (.int .i32 d[j]!)
def Rest (w:World) (blk:Nat) (wr:World):Prop:=w.heap.size≤wr.heap.size∧wr.os=w.os∧wr.tape=w.tape∧wr.output=w.output∧∀ k,k<w.heap.size→k≠blk→wr.heap[k]? = w.heap[k]?
def aO (w:World) (blk off:Nat) (d:Array Int) (wr:World):Prop :=
  ∃ (c c':Array Value) (e:TypeId),an w blk e c∧an wr blk e c'∧c'.size=c.size∧(∀ j,j<d.size→c'[off+j]? = some (.int .i32 d[j]!))∧(∀ k,k<off∨off+d.size≤k→c'[k]? = c[k]?)∧Rest w blk wr
section
variable {w wr w2 : World} {blk off : Nat} {d d' : Array Int}
theorem Rest.refl (w:World) (blk:Nat):Rest w blk w:=⟨qql,rfl,rfl,rfl,fun _ _ _=>rfl⟩
theorem Rest.trans (h:Rest w blk wr) (h2:Rest wr blk w2):Rest w blk w2 :=
  ⟨Nat.le_trans h.1 h2.1,h2.2.1.trans h.2.1,h2.2.2.1.trans h.2.2.1,h2.2.2.2.1.trans h.2.2.2.1,fun k hk hne=>(h2.2.2.2.2 k (Nat.lt_of_lt_of_le hk h.1) hne).trans (h.2.2.2.2 k hk hne)⟩
theorem Rest.below (h:Rest w blk wr) (hb:Below wr.heap.size wr w2):Rest w blk w2 :=
  h.trans ⟨hb.size,hb.os,hb.tape,hb.output,fun k hk _=>hb.block k hk⟩
theorem aO.start (h:fO w blk off d):aO w blk off d w:=by
 obtain⟨c,e,h1,h2⟩:=h;exact⟨c,c,e,h1,h1,rfl,h2,fun _ _=>rfl,Rest.refl _ _⟩
theorem aO.row (h:aO w blk off d wr):fO wr blk off d:=by
 obtain⟨c,c',e,_,h1,_,h2,_⟩:=h;exact⟨c',e,h1,h2⟩
theorem aO.rest (h:aO w blk off d wr):Rest w blk wr:=by
 obtain⟨_,_,_,_,_,_,_,_,h⟩:=h;exact h
theorem aO.below (h:aO w blk off d wr) (hb:Below wr.heap.size wr w2):aO w blk off d w2:=by
 obtain⟨c,c',e,h1,h2,h3,h4,h5,h6⟩:=h;exact⟨c,c',e,h1,an.below h2 hb h2.lt,h3,h4,h5,h6.below hb⟩
theorem aO.drewN (h:aO w blk off d wr) (q:Nat):aO w blk off d (wr.drewN q):=by
 obtain⟨c,c',e,h1,h2,h3,h4,h5,h6⟩:=h;exact⟨c,c',e,h1,h2,h3,h4,h5,h6⟩
theorem aO.cells (h:aO w blk off d wr) {n:Nat} (hs:d.size=n) :
    ∃ G:Nat→Int,(∀ t,G t=d[t]!)∧(∀ t,t<n→wr.cell? ⟨blk,off+t,none⟩=some (.int .i32 (G t)))∧(∀ t,t<n→wr.frozen? ⟨blk,off+t,none⟩=false):=by
 obtain⟨c,c',e,h1,h2,h3,h4,h5,h6⟩:=h;exact⟨fun t=>d[t]!,fun _=>rfl,fun t ht=>(h2.cell _).trans (h4 t (by omega)),fun t _=>h2.frozen _⟩
theorem aO.trans (h:aO w blk off d wr) (h':aO wr blk off d' w2) (hs:d'.size=d.size):aO w blk off d' w2:=by
 obtain⟨c,c',e,h1,h2,h3,h4,h5,h6⟩:=h;obtain⟨k,k',e',g1,g2,g3,g4,g5,g6⟩:=h';have he:some (Obj.cells c' e (0,0))=some (Obj.cells k e' (0,0)):=h2.symm.trans g1;injection he with he;injection he with he1 he2;subst he1 he2;exact⟨c,k',e,h1,g2,g3.trans h3,g4,fun i hi=>(g5 i hi).trans (h5 i (by omega)),h6.trans g6⟩
theorem aO.swap {G:Nat→Int} (h:aO w blk off d wr) (hG:∀ t,G t=d[t]!) {j k:Nat} (hj:j<d.size) (hk:k<d.size) :
    aO w blk off (swp d j k) ((wr.setCell ⟨blk,off+j,none⟩ (.int .i32 (G k))).setCell ⟨blk,off+k,none⟩ (.int .i32 (G j))):=by
 obtain⟨c,c',e,h1,h2,h3,h4,h5,h6⟩:=h;have p1:=h2.put (off+j) (.int .i32 (G k));have p2:=p1.put (off+k) (.int .i32 (G j));have hsz:∀ i,i<d.size→off+i<c'.size:=fun i hi=>(Array.getElem?_eq_some_iff.1 (h4 i hi)).1;refine⟨c,_,e,h1,p2,by simpa using h3,fun i hi=>?_,fun i hi=>?_,?_⟩
 ·have hi':i<d.size:=(by simpa [swp] using hi);have ZK:=hsz j hj;have hks:=hsz k hk;rw [swp_get d hj hk];simp only [Array.getElem?_setIfInBounds,Array.size_setIfInBounds];by_cases hik:i=k
  ·subst hik;rw [if_pos rfl,if_pos hks,hG];by_cases hij:i=j
   ·subst hij;simp
   simp
  by_cases hij:i=j
  ·subst hij;rw [if_neg (by omega),if_pos rfl,if_pos ZK,hG];simp [hik]
  rw [if_neg (by omega),if_neg (by omega),h4 i hi'];simp [hik,hij]
 ·have hs':(swp d j k).size=d.size:=(by simp [swp]);rw [hs']at hi;simp only [Array.getElem?_setIfInBounds,Array.size_setIfInBounds];rw [if_neg (by omega),if_neg (by omega)];exact h5 i hi
 refine⟨by simpa using h6.1,h6.2.1,h6.2.2.1,h6.2.2.2.1,fun i hi hne=>?_⟩;rw [Below.heap_setCell _ _ _ _ hne,Below.heap_setCell _ _ _ _ hne];exact h6.2.2.2.2 i hi hne
end
theorem PZ (x:Int) (w:World):Calls Tryz.prog 154 #[.int .i32 x] w fun e w'=>e=.returned (.bool false)∧w'=w:=by
 go_enter Tryz.func154,Tryz.ntmps154;go_wp2;go_ret;simp
theorem bY (x y:Int) (w:World):Calls Tryz.prog 183 #[.int .i32 x,.int .i32 y] w fun e w'=>e=.returned (.bool (ltInt x y))∧w'=w:=by
 go_enter Tryz.func183,Tryz.ntmps183;go_wp2_with fail;refine(PZ x _).mono ?_;rintro e w1 ⟨rfl,rfl⟩;go_wp2_with fail;go_ret;exact⟨rfl,rfl⟩
section
variable {α : Type} [Inhabited α] (lt : α → α → Bool)
theorem MQ (a j:Nat) (d:Array α) (hj:a<j) (hl:lt d[j]! d[j - 1]! = true):insInner lt a j d=insInner lt a (j - 1) (swp d j (j - 1)):=by
 cases j with
 | zero=>omega
 | succ k=>
  rw [insInner];simp only [Nat.add_sub_cancel]at hl ⊢;rw [hl];simp [hj]
theorem Hq (a j:Nat) (d:Array α) (h:j≤a∨lt d[j]! d[j - 1]! = false):insInner lt a j d=d:=by
 cases j with
 | zero=>rw [insInner]
 | succ k=>
  rw [insInner];simp only [Nat.add_sub_cancel]at h;rcases h with h | h
  ·simp [show ¬ a<k+1 by omega]
  simp [h]
theorem CV (a b i:Nat) (d:Array α) (h:i<b):insOuter lt a b i d=insOuter lt a b (i+1) (insInner lt a i d):=by
 rw [insOuter,if_pos h]
theorem Qb (a b i:Nat) (d:Array α) (h:¬ i<b):insOuter lt a b i d=d:=by rw [insOuter,if_neg h]
end
def aat (w:World) (blk off a b:Nat) (d:Array Int) (vi:Value) (wr:World):Prop :=
  ∃ (i:Nat) (dk:Array Int),vi=.int .i64 i∧a<i∧i≤b+1∧dk.size=d.size∧aO w blk off dk wr∧insOuter ltInt a b i dk=insertionSort ltInt d a b
def aaw (w:World) (blk off a i:Nat) (d dk:Array Int) (vj:Value) (wr:World):Prop :=
  ∃ (j:Nat) (dj:Array Int),vj=.int .i64 j∧a≤j∧j≤i∧dj.size=d.size∧aO w blk off dj wr∧insInner ltInt a j dj=insInner ltInt a i dk
theorem M5 (blk off cap a b:Nat) (d:Array Int) (w:World) (hH:fO w blk off d) (hab:a≤b) (hb:b≤d.size) (hsz:d.size<4611686018427387904) :
    Calls Tryz.prog 177 #[.slice (some ⟨blk,off,none⟩) d.size cap,.int .i64 a,.int .i64 b] w fun e w'=>e=.returned (.tuple #[])∧aO w blk off (insertionSort ltInt d a b) w':=by
 have HH:=qqh hH;clear hH;go_enter Tryz.func177,Tryz.ntmps177;go_wp2;go_loopw [6] (aat w blk off a b d) (fun vi _=>b+1 - (intOf vi).toNat);(case atStart=>exact⟨a+1,d,by go_num,by omega,by omega,rfl,aO.start HH.out,rfl⟩);obtain⟨i,dk,rfl,hai,hib,zL,hrow,hO⟩:=hrel;have HR:=qqh hrow;have HO:=qqh hO;clear hrow hO;by_cases hlt:i<b
 ·go_wp2;go_loopw [7] (aaw w blk off a i d dk) (fun vj _=>(intOf vj).toNat);(case atStart=>exact⟨i,dk,rfl,by omega,qql,zL,HR.out,rfl⟩);obtain⟨j,dj,rfl,haj,hji,hsj,hrow,hI⟩:=hrel;obtain⟨G,hG,j7,nj⟩:=hrow.cells hsj;have iz:=qqh hrow;have HG:=qqh hG;have HI:=qqh hI;clear hrow hG hI;go_wp2;by_cases Pd:a<j
  ·go_quiet (first | (go_at_call 183;refine Calls.quiet_of_same (bY _ _ _)));cases hl:ltInt (G j) (G (j - 1))with
   | true=>
    have hd:ltInt dj[j]! dj[j - 1]! = true:=(by rw [← HG.out,← HG.out];exact hl);have HM:=qqh (MQ ltInt a j dj Pd hd);go_wp2;go_region;(all_goals go_wp2)
    all_goals
      refine⟨⟨j - 1,swp dj j (j - 1),by go_num,by omega,by omega,by rw [Sort.swp_size];exact hsj,(iz.out.drewN (nq+1)).swap HG.out (by omega) (by omega),by rw [← HM.out];exact HI.out⟩,by simp only [intOf];omega⟩
   | false=>
    have hd:ltInt dj[j]! dj[j - 1]! = false:=(by rw [← HG.out,← HG.out];exact hl);have HM:=qqh (Hq ltInt a j dj (.inr hd));go_wp2;exact⟨⟨i+1,dj,by go_num,by omega,by omega,hsj,iz.out.drewN nq,by rw [← HO.out,CV ltInt a b i dk hlt,← HI.out,HM.out]⟩,by simp only [intOf];omega⟩
  have HM:=qqh (Hq ltInt a j dj (.inl (by omega)));have hdf:decide ((a:Int)<(j:Int))=false:=(by simp;omega);go_quiet (first | (go_at_call 183;refine Calls.quiet_of_same (bY _ _ _)));go_wp2;exact⟨⟨i+1,dj,by go_num,by omega,by omega,hsj,iz.out.drewN nq,by rw [← HO.out,CV ltInt a b i dk hlt,← HI.out,HM.out]⟩,by simp only [intOf];omega⟩
 have HM:=qqh (Qb ltInt a b i dk hlt);go_wp2;go_end0;exact⟨rfl,by rw [← HO.out,HM.out];exact HR.out⟩
def PA (w:World) (blk off a b:Nat) (d:Array Int) (vi vj:Value) (wr:World):Prop :=
  ∃ (i j:Nat) (dk:Array Int),vi=.int .i64 i∧vj=.int .i64 j∧a≤i∧i≤b∧j<b∧dk.size=d.size∧aO w blk off dk wr∧reverseLoop i j dk=reverseRange d a b
theorem NX (blk off cap a b:Nat) (d:Array Int) (w:World) (hH:fO w blk off d) (hab:a<b) (hb:b≤d.size) (hsz:d.size<4611686018427387904) :
    Calls Tryz.prog 181 #[.slice (some ⟨blk,off,none⟩) d.size cap,.int .i64 a,.int .i64 b] w fun e w'=>e=.returned (.tuple #[])∧aO w blk off (reverseRange d a b) w':=by
 have HH:=qqh hH;clear hH;go_enter Tryz.func181,Tryz.ntmps181;go_wp2;go_loopw [6,7] (PA w blk off a b d) (fun vi _ _=>b - (intOf vi).toNat);(case atStart=>exact⟨a,b - 1,d,rfl,by go_num,qql,by omega,by omega,rfl,aO.start HH.out,rfl⟩);obtain⟨i,j,dk,rfl,rfl,hai,hib,hjb,zL,hrow,hO⟩:=hrel;have HR:=qqh hrow;by_cases hij:i<j
 ·obtain⟨G,hG,j7,nj⟩:=hrow.cells zL;have HG:=qqh hG;have HM:=qqh (show reverseLoop (i+1) (j - 1) (swp dk i j)=reverseRange d a b by rw [← hO];conv=>rhs;rw [reverseLoop];simp [hij]);clear hrow hO hG;go_wp2;go_region;(all_goals go_wp2)
  all_goals
    exact⟨⟨i+1,j - 1,swp dk i j,by go_num,by go_num,by omega,by omega,by omega,by rw [Sort.swp_size];exact zL,(HR.out.drewN _).swap HG.out (by omega) (by omega),HM.out⟩,by simp only [intOf];omega⟩
 have HM:=qqh (show dk=reverseRange d a b by rw [← hO,reverseLoop,if_neg hij]);clear hrow hO;go_wp2;go_end0;exact⟨rfl,by rw [← HM.out];exact HR.out⟩
section
variable {α : Type} [Inhabited α] {lt : α → α → Bool} {hi F r : Nat} {d : Array α}
theorem Ej (h:¬ 2*r+1≥hi) (h2:2*r+1+1<hi) (hl:lt d[F+(2*r+1)]! d[F+(2*r+1)+1]! = true):siftDown lt hi F r d=if lt d[F+r]! d[F+(2*r+2)]! = true then siftDown lt hi F (2*r+2) (swp d (F+r) (F+(2*r+2)))else d:=by
 rw [siftDown,dif_neg h,if_pos (by rw [hl];simpa using h2),dif_pos (by omega)];cases lt d[F+r]! d[F+(2*r+2)]! <;> simp
theorem sY (h:¬ 2*r+1≥hi) (hl:¬(2*r+1+1<hi∧lt d[F+(2*r+1)]! d[F+(2*r+1)+1]! = true)):siftDown lt hi F r d=if lt d[F+r]! d[F+(2*r+1)]! = true then siftDown lt hi F (2*r+1) (swp d (F+r) (F+(2*r+1)))else d:=by
 rw [siftDown,dif_neg h,if_neg (by simpa using hl)];cases lt d[F+r]! d[F+(2*r+1)]! <;> simp
end
def Xo (w:World) (blk off lo hi first:Nat) (d:Array Int) (vr:Value) (wr:World):Prop :=
  ∃ (r:Nat) (dk:Array Int),vr=.int .i64 r∧r≤hi∧dk.size=d.size∧aO w blk off dk wr∧siftDown ltInt hi first r dk=siftDown ltInt hi first lo d
theorem J' (blk off cap lo hi first:Nat) (d:Array Int) (w:World) (hH:fO w blk off d) (hlo:lo≤hi) (hb:first+hi≤d.size) (hsz:d.size<2305843009213693952) :
    Calls Tryz.prog 198 #[.slice (some ⟨blk,off,none⟩) d.size cap,.int .i64 lo,.int .i64 hi,.int .i64 first] w fun e w'=>e=.returned (.tuple #[])∧aO w blk off (siftDown ltInt hi first lo d) w':=by
 have HH:=qqh hH;clear hH;go_enter Tryz.func198,Tryz.ntmps198;go_wp2;go_loopw [8] (Xo w blk off lo hi first d) (fun vr _=>hi - (intOf vr).toNat);(case atStart=>exact⟨lo,d,rfl,hlo,rfl,aO.start HH.out,rfl⟩);obtain⟨r,dk,rfl,hrh,zL,hrow,hO⟩:=hrel;have HR:=qqh hrow;by_cases hch:2*r+1≥hi
 ·have HM:=qqh (show dk=siftDown ltInt hi first lo d by rw [← hO,siftDown,dif_pos hch]);clear hrow hO;go_wp2;go_end0;exact⟨rfl,by rw [← HM.out];exact HR.out⟩
 obtain⟨G,hG,j7,nj⟩:=hrow.cells zL;have HG:=qqh hG;have HO:=qqh hO;clear hrow hO hG;have Bw:r<hi:=(by omega);by_cases h2:2*r+1+1<hi
 ·go_wp2;have hdt:decide (2*(r:Int)+1+1<(hi:Int))=true:=(by simp;omega);go_quiet (first | (go_at_call 183;refine Calls.quiet_of_same (bY _ _ _)));cases hl:ltInt (G (first+2*r+1)) (G (first+2*r+2))with
  | true=>
   have X9:∀ t,t<d.size→(wr.drewN nq).cell? ⟨blk,off+t,none⟩=some (.int .i32 (G t)):=j7;have Yg:∀ t,t<d.size→(wr.drewN nq).frozen? ⟨blk,off+t,none⟩=false:=nj;have Ij:=qqh (HR.out.drewN nq);generalize wr.drewN nq=wq at *;clear j7 nj HR;have HE:=qqh (Ej (lt:=ltInt) (F:=first) (d:=dk) hch h2 (by rw [← HG.out,← HG.out];exact hl));go_wp2;go_quiet (first | (go_at_call 183;refine Calls.quiet_of_same (bY _ _ _)));cases hs:ltInt (G (first+r)) (G (first+2*r+2))with
   | true=>
    have HM:=qqh (show siftDown ltInt hi first (2*r+2) (swp dk (first+r) (first+(2*r+2)))=siftDown ltInt hi first lo d by rw [← HO.out,HE.out,if_pos (by rw [← HG.out,← HG.out];exact hs)]);go_wp2;go_region;(all_goals go_wp2)
    all_goals
      exact⟨⟨(2*r+2),swp dk (first+r) (first+(2*r+2)),by go_num,by omega,by rw [Sort.swp_size];exact zL,(Ij.out.drewN _).swap HG.out (by omega) (by omega),HM.out⟩,by simp only [intOf];omega⟩
   | false=>
    have HM:=qqh (show dk=siftDown ltInt hi first lo d by rw [← HO.out,HE.out,if_neg (by rw [← HG.out,← HG.out,show first+(2*r+2)=first+2*r+2 by omega,hs];simp)]);go_wp2;refine bodyPost_ret (results_none (by rfl) _ _ _) (by rfl) ⟨rfl,?_⟩;rw [← HM.out];exact Ij.out.drewN _
  | false=>
   have X9:∀ t,t<d.size→(wr.drewN nq).cell? ⟨blk,off+t,none⟩=some (.int .i32 (G t)):=j7;have Yg:∀ t,t<d.size→(wr.drewN nq).frozen? ⟨blk,off+t,none⟩=false:=nj;have Ij:=qqh (HR.out.drewN nq);generalize wr.drewN nq=wq at *;clear j7 nj HR;have HE:=qqh (sY (lt:=ltInt) (F:=first) (d:=dk) hch (by rw [← HG.out,← HG.out];intro h;have:=hl.symm.trans h.2;cases this));go_wp2;go_quiet (first | (go_at_call 183;refine Calls.quiet_of_same (bY _ _ _)));cases hs:ltInt (G (first+r)) (G (first+2*r+1))with
   | true=>
    have HM:=qqh (show siftDown ltInt hi first (2*r+1) (swp dk (first+r) (first+(2*r+1)))=siftDown ltInt hi first lo d by rw [← HO.out,HE.out,if_pos (by rw [← HG.out,← HG.out];exact hs)]);go_wp2;go_region;(all_goals go_wp2)
    all_goals
      exact⟨⟨(2*r+1),swp dk (first+r) (first+(2*r+1)),by go_num,by omega,by rw [Sort.swp_size];exact zL,(Ij.out.drewN _).swap HG.out (by omega) (by omega),HM.out⟩,by simp only [intOf];omega⟩
   | false=>
    have HM:=qqh (show dk=siftDown ltInt hi first lo d by rw [← HO.out,HE.out,if_neg (by rw [← HG.out,← HG.out,show first+(2*r+1)=first+2*r+1 by omega,hs];simp)]);go_wp2;refine bodyPost_ret (results_none (by rfl) _ _ _) (by rfl) ⟨rfl,?_⟩;rw [← HM.out];exact Ij.out.drewN _
 go_wp2;have hdt:decide (2*(r:Int)+1+1<(hi:Int))=false:=(by simp;omega);go_quiet (first | (go_at_call 183;refine Calls.quiet_of_same (bY _ _ _)));have X9:∀ t,t<d.size→(wr.drewN nq).cell? ⟨blk,off+t,none⟩=some (.int .i32 (G t)):=j7;have Yg:∀ t,t<d.size→(wr.drewN nq).frozen? ⟨blk,off+t,none⟩=false:=nj;have Ij:=qqh (HR.out.drewN nq);generalize wr.drewN nq=wq at *;clear j7 nj HR;have HE:=qqh (sY (lt:=ltInt) (F:=first) (d:=dk) hch (fun h=>h2 h.1));go_wp2;go_quiet (first | (go_at_call 183;refine Calls.quiet_of_same (bY _ _ _)));cases hs:ltInt (G (first+r)) (G (first+2*r+1))with
 | true=>
  have HM:=qqh (show siftDown ltInt hi first (2*r+1) (swp dk (first+r) (first+(2*r+1)))=siftDown ltInt hi first lo d by rw [← HO.out,HE.out,if_pos (by rw [← HG.out,← HG.out];exact hs)]);go_wp2;go_region;(all_goals go_wp2)
  all_goals
    exact⟨⟨(2*r+1),swp dk (first+r) (first+(2*r+1)),by go_num,by omega,by rw [Sort.swp_size];exact zL,(Ij.out.drewN _).swap HG.out (by omega) (by omega),HM.out⟩,by simp only [intOf];omega⟩
 | false=>
  have HM:=qqh (show dk=siftDown ltInt hi first lo d by rw [← HO.out,HE.out,if_neg (by rw [← HG.out,← HG.out,show first+(2*r+1)=first+2*r+1 by omega,hs];simp)]);go_wp2;refine bodyPost_ret (results_none (by rfl) _ _ _) (by rfl) ⟨rfl,?_⟩;rw [← HM.out];exact Ij.out.drewN _
theorem oI (lt:Int→Int→Bool) (hi F:Nat):∀ (n r:Nat) (d:Array Int),hi - r≤n→(siftDown lt hi F r d).size=d.size:=by
 intro n;induction n with
 | zero=>
  intro r d h;rw [siftDown,dif_pos (by omega)]
 | succ n ih=>
  intro r d h;by_cases hc:2*r+1≥hi
  ·rw [siftDown,dif_pos hc]
  by_cases hl:2*r+1+1<hi∧lt d[F+(2*r+1)]! d[F+(2*r+1)+1]! = true
  ·rw [Ej hc hl.1 hl.2];by_cases hs:lt d[F+r]! d[F+(2*r+2)]! = true
   ·rw [if_pos hs,ih _ _ (by omega),Sort.swp_size]
   rw [if_neg hs]
  rw [sY hc hl];by_cases hs:lt d[F+r]! d[F+(2*r+1)]! = true
  ·rw [if_pos hs,ih _ _ (by omega),Sort.swp_size]
  rw [if_neg hs]
def U5 (w:World) (blk off a n:Nat) (d:Array Int) (vi:Value) (wr:World):Prop :=
  ∃ (k:Nat) (v:Int) (dk:Array Int),vi=.int .i64 v∧v=(k:Int) - 1∧k≤(n - 1) / 2+1∧dk.size=d.size∧aO w blk off dk wr∧heapBuild ltInt n a k dk=heapBuild ltInt n a ((n - 1) / 2+1) d
def VI (w:World) (blk off a n:Nat) (d:Array Int) (vi:Value) (wr:World):Prop :=
  ∃ (k:Nat) (v:Int) (dk:Array Int),vi=.int .i64 v∧v=(k:Int) - 1∧k≤n∧dk.size=d.size∧aO w blk off dk wr∧heapPop ltInt a k dk=heapPop ltInt a n (heapBuild ltInt n a ((n - 1) / 2+1) d)
theorem Kl (blk off cap a b n:Nat) (d:Array Int) (w:World) (hH:fO w blk off d) (hn:0<n) (IS:b=a+n) (hb:a+n≤d.size) (hsz:d.size<2305843009213693952) :
    Calls Tryz.prog 178 #[.slice (some ⟨blk,off,none⟩) d.size cap,.int .i64 a,.int .i64 b] w fun e w'=>e=.returned (.tuple #[])∧aO w blk off (heapSort ltInt d a b) w':=by
 have HH:=qqh hH;clear hH;have nQ:=qqh (show heapSort ltInt d a b=heapPop ltInt a n (heapBuild ltInt n a ((n - 1) / 2+1) d) by unfold heapSort;rw [IS,Nat.add_sub_cancel_left]);have EX:=qqh (fun(k hi:Nat) (dk:Array Int) (w':World) (hs:dk.size=d.size) (h:fO w' blk off dk) (hk:k≤hi) (hh:hi≤n)=>(show Calls Tryz.prog 198 #[.slice (some ⟨blk,off,none⟩) d.size cap,.int .i64 k,.int .i64 hi,.int .i64 a] w' fun e w2=>e=.returned (.tuple #[])∧aO w' blk off (siftDown ltInt hi a k dk) w2 by have:=J' blk off cap k hi a dk w' h hk (by omega) (by omega);rw [hs]at this;exact this));have ae8:b≤a+n:=(by omega);have afh:a+n≤b:=(by omega);clear IS;go_enter Tryz.func178,Tryz.ntmps178;go_wp2;simp only [show((b:Int) - (a:Int))=(n:Int) by omega];go_loopw [9] (U5 w blk off a n d) (fun vi _=>((intOf vi)+1).toNat);case atStart=>
  exact⟨(n - 1) / 2+1,_,d,rfl,by omega,qql,rfl,aO.start HH.out,rfl⟩
 obtain⟨k,v,dk,rfl,hv,hk,zL,hrow,hO⟩:=hrel;have HR:=qqh hrow;have HO:=qqh hO;clear hrow hO;cases k with
 | zero=>
  have hv0:v<0:=(by omega);clear hv;have rC:=qqh (show dk=heapBuild ltInt n a ((n - 1) / 2+1) d by rw [← HO.out,heapBuild]);go_wp2;go_loopw [10] (VI w blk off a n d) (fun vi _=>((intOf vi)+1).toNat);case atStart=>
   exact⟨n,_,dk,rfl,rfl,qql,zL,HR.out,by rw [← rC.out]⟩
  obtain⟨k,v2,dj,rfl,rK,hk,hsj,hrow,hP⟩:=hrel;cases k with
  | zero=>
   have hv0:v2<0:=(by omega);clear rK;have HM:=qqh (show dj=heapSort ltInt d a b by rw [nQ.out,← hP,heapPop]);have iz:=qqh hrow;clear hrow hP;go_wp2;go_end0;exact⟨rfl,by rw [← HM.out];exact iz.out⟩
  | succ k=>
   obtain rfl:v2=(k:Int):=(by omega);clear rK;obtain⟨G,hG,j7,nj⟩:=hrow.cells hsj;have iz:=qqh hrow;have HG:=qqh hG;have HP:=qqh hP;clear hrow hP hG;have HM:=qqh (show heapPop ltInt a k (siftDown ltInt k a 0 (swp dj a (a+k)))=heapPop ltInt a n (heapBuild ltInt n a ((n - 1) / 2+1) d) by rw [← HP.out];rfl);have pT:(wr.setCell ⟨blk,off+a,none⟩ (.int .i32 (G (a+k)))).cell? ⟨blk,off+(a+k),none⟩=some (.int .i32 (G (a+k))):=by
    rcases Nat.eq_zero_or_pos k with hk0 | hk0
    ·subst hk0;exact World.cell?_setCell_same _ _ _ (j7 a (by omega))
    rw [World.cell?_setCell_other _ _ _ _ (by intro h;injection h with _ h2 _;omega)];exact j7 (a+k) (by omega)
   have H6:(wr.setCell ⟨blk,off+a,none⟩ (.int .i32 (G (a+k)))).drew.cell? ⟨blk,off+(a+k),none⟩=some (.int .i32 (G (a+k))):=pT;go_wp2;go_region
   all_goals
     have qD:=qqh (show aO w blk off (swp dj a (a+k)) _ from(iz.out.drewN 1).swap HG.out (j:=a) (k:=a+k) (by omega) (by omega))
     go_wp2_with fail
     refine(EX.out 0 k (swp dj a (a+k)) _ (by rw [Sort.swp_size];exact hsj) qD.out.row (by omega) (by omega)).mono ?_
     rintro e w1 ⟨rfl,h1⟩
     have gX:=qqh (qD.out.trans h1 (oI ltInt k a _ 0 _ qql))
     have hs1:(siftDown ltInt k a 0 (swp dj a (a+k))).size=d.size:=by rw [oI ltInt k a _ 0 _ qql,Sort.swp_size];exact hsj
     clear h1
     go_wp2_with fail
     exact⟨⟨k,_,_,rfl,by omega,by omega,hs1,gX.out,HM.out⟩,by simp only [intOf];omega⟩
 | succ k=>
  obtain rfl:v=(k:Int):=(by omega);clear hv;have HM:=qqh (show heapBuild ltInt n a k (siftDown ltInt n a k dk)=heapBuild ltInt n a ((n - 1) / 2+1) d by rw [← HO.out];rfl);go_wp2_with fail;refine(EX.out k n dk _ zL HR.out.row (by omega) qql).mono ?_;rintro e w1 ⟨rfl,h1⟩;have gX:=qqh (HR.out.trans h1 (oI ltInt n a _ k dk qql));have hs1:(siftDown ltInt n a k dk).size=d.size:=(by rw [oI ltInt n a _ k dk qql];exact zL);clear h1;go_wp2_with fail;exact⟨⟨k,_,_,rfl,by omega,by omega,hs1,gX.out,HM.out⟩,by simp only [intOf];omega⟩
def qC (w:World) (sb:Nat) (wr:World):Prop:=(∃ v:Int,an wr sb 3 #[.int .i64 v])∧Rest w sb wr
theorem qC.trans {w wr w2:World} {sb:Nat} (h:qC w sb wr) (h2:qC wr sb w2):qC w sb w2:=⟨h2.1,h.2.trans h2.2⟩
theorem Rest.row {w wr:World} {sb blk off:Nat} {d:Array Int} (h:Rest w sb wr) (hr:fO w blk off d) (hne:blk≠sb):fO wr blk off d:=by
 obtain⟨c,e,h1,h2⟩:=hr;exact⟨c,e,(h.2.2.2.2 blk h1.lt hne).trans h1,h2⟩
theorem Rest.drewN {w wr:World} {sb:Nat} (h:Rest w sb wr) (q:Nat):Rest w sb (wr.drewN q):=h
theorem Rest.set {w wr:World} {sb i:Nat} {v:Value} (h:Rest w sb wr):Rest w sb (wr.setCell ⟨sb,i,none⟩ v) :=
  ⟨by simpa using h.1,h.2.1,h.2.2.1,h.2.2.2.1,fun k hk hne=>by rw [Below.heap_setCell _ _ _ _ hne];exact h.2.2.2.2 k hk hne⟩
theorem Fp (blk off cap a b sb sz:Nat) (d:Array Int) (w:World) (hs:d.size=sz) (hH:fO w blk off d) (ha:a<sz) (hb:b<sz) (hv:∃ v:Int,an w sb 3 #[.int .i64 v]) :
    Calls Tryz.prog 208 #[.slice (some ⟨blk,off,none⟩) sz cap,.int .i64 a,.int .i64 b,.pointer (some ⟨sb,0,none⟩)] w fun e w'=>∃ x y:Nat,e=.returned (.tuple #[.int .i64 x,.int .i64 y])∧(x=a∧y=b∨x=b∧y=a)∧qC w sb w':=by
 obtain⟨G,hG,j7,nj⟩:=(aO.start hH).cells hs;obtain⟨v,hv⟩:=hv;have c0:w.cell? ⟨sb,0,none⟩=some (.int .i64 v):=hv.cell 0;have f0:=hv.frozen 0;have HV:=qqh hv;clear hG hH hv hs;go_enter Tryz.func208,Tryz.ntmps208;go_wp2;go_quiet (first | (go_at_call 183;refine Calls.quiet_of_same (bY _ _ _)));cases hl:ltInt (G b) (G a)with
 | true=>
  go_wp2;refine bodyPost_ret (v:=.tuple #[.int .i64 b,.int .i64 a]) (by simp [results,Tryz.results208,go_sem]) (by rfl) ?_;exact⟨b,a,rfl,.inr ⟨rfl,rfl⟩,⟨_,HV.out.put 0 _⟩,Rest.set (Rest.refl w sb)⟩
 | false=>
  go_wp2;refine bodyPost_ret (v:=.tuple #[.int .i64 a,.int .i64 b]) (by simp [results,Tryz.results208,go_sem]) (by rfl) ?_;exact⟨a,b,rfl,.inl ⟨rfl,rfl⟩,⟨_,HV.out⟩,Rest.refl w sb⟩
theorem ue (blk off cap a b c sb sz:Nat) (d:Array Int) (w:World) (hs:d.size=sz) (hH:fO w blk off d) (ha:a<sz) (hb:b<sz) (hc:c<sz) (hv:∃ v:Int,an w sb 3 #[.int .i64 v]) (hne:blk≠sb) :
    Calls Tryz.prog 200 #[.slice (some ⟨blk,off,none⟩) sz cap,.int .i64 a,.int .i64 b,.int .i64 c,.pointer (some ⟨sb,0,none⟩)] w fun e w'=>∃ x:Nat,e=.returned (.int .i64 x)∧(x=a∨x=b∨x=c)∧qC w sb w':=by
 have HO:=qqh (fun(a b:Nat) (w':World) (ha:a<sz) (hb:b<sz) (h:qC w sb w')=>Fp blk off cap a b sb sz d w' hs (Rest.row h.2 hH hne) ha hb h.1);have HS:=qqh (show qC w sb w from⟨hv,Rest.refl _ _⟩);clear hs hH hv;go_enter Tryz.func200,Tryz.ntmps200;go_wp2_with fail;refine(HO.out a b _ ha hb HS.out).mono ?_;rintro e w1 ⟨a1,b1,rfl,h1,hs1⟩;have eN:=qqh (HS.out.trans hs1);clear hs1;have mI:a1<sz:=(by omega);have aP:b1<sz:=(by omega);have h1':(a1≤a∧a≤a1∧b1≤b∧b≤b1)∨(a1≤b∧b≤a1∧b1≤a∧a≤b1):=(by omega);clear h1;go_wp2_with fail;refine(HO.out b1 c _ aP hc eN.out).mono ?_;rintro e w2 ⟨b2,c2,rfl,h2,vB⟩;have lC:=qqh (eN.out.trans vB);clear vB;have aX:b2<sz:=(by omega);have h2':(b2≤b1∧b1≤b2)∨(b2≤c∧c≤b2):=(by omega);clear h2;go_wp2_with fail;refine(HO.out a1 b2 _ mI aX lC.out).mono ?_;rintro e w3 ⟨a3,b3,rfl,h3,Ot⟩;have KD:=qqh (lC.out.trans Ot);clear Ot;have h3':b3=a∨b3=b∨b3=c:=(by omega);have H3:=qqh h3';clear h3 h3';go_wp2_with fail;go_ret;exact⟨b3,rfl,H3.out,KD.out⟩
theorem M9 (blk off cap a sb sz:Nat) (d:Array Int) (w:World) (hs:d.size=sz) (hH:fO w blk off d) (ha:1≤a) (ha2:a+1<sz) (hv:∃ v:Int,an w sb 3 #[.int .i64 v]) (hne:blk≠sb) (hsz:sz<2305843009213693952) :
    Calls Tryz.prog 199 #[.slice (some ⟨blk,off,none⟩) sz cap,.int .i64 a,.pointer (some ⟨sb,0,none⟩)] w fun e w'=>∃ x:Nat,e=.returned (.int .i64 x)∧(a≤x+1∧x≤a+1)∧qC w sb w':=by
 obtain⟨p,hp1,hp2⟩:∃ p,p+1≤a∧a≤p+1:=⟨a - 1,by omega,by omega⟩;have hm:((a:Int) - 1)=(p:Int):=(by omega);have HO:=qqh (ue blk off cap p a (a+1) sb sz d w hs hH (by omega) (by omega) ha2 hv hne);clear hs hH hv;go_enter Tryz.func199,Tryz.ntmps199;go_wp2_with fail;(first | rw [hm] | skip);refine HO.out.mono ?_;rintro e w1 ⟨x,rfl,h1,hs1⟩;have H1:=qqh (show a≤x+1∧x≤a+1 by omega);have eN:=qqh hs1;clear h1 hs1;go_wp2_with fail;go_ret;exact⟨x,rfl,H1.out,eN.out⟩
theorem Gt (blk off cap a b sz:Nat) (d:Array Int) (w:World) (hs:d.size=sz) (hH:fO w blk off d) (hab:a+12<b) (hb:b≤sz) (hsz:sz<2305843009213693952) :
    Calls Tryz.prog 180 #[.slice (some ⟨blk,off,none⟩) sz cap,.int .i64 a,.int .i64 b] w fun e w'=>(∃ p h:Nat,e=.returned (.tuple #[.int .i64 p,.int .i64 h])∧a≤p∧p<b)∧Below w.heap.size w w':=by
 obtain⟨l,iJ,gh⟩:∃ l,b≤a+l∧a+l≤b:=⟨b - a,by omega,by omega⟩;obtain⟨q,hq1,C8⟩:∃ q,4*q≤l∧l≤4*q+3:=⟨l / 4,by omega,by omega⟩;have hba:((b:Int) - (a:Int))=(l:Int):=(by omega);have Zw:((l:Int) / 4)=(q:Int):=(by omega);have IX:=(show blk<w.heap.size by obtain⟨c,e,h1,_⟩:=hH;exact h1.lt);have hW:qC (w.alloc (.cells #[.int .i64 0] 3)) w.heap.size (w.alloc (.cells #[.int .i64 0] 3)):=⟨⟨0,an.new _ _ _⟩,Rest.refl _ _⟩;have hR:fO (w.alloc (.cells #[.int .i64 0] 3)) blk off d:=by
  obtain⟨c,e,h1,h2⟩:=hH;exact⟨c,e,an.alloc h1 _,h2⟩
 have hB:∀ w',qC (w.alloc (.cells #[.int .i64 0] 3)) w.heap.size w'→Below w.heap.size w w':=fun w' h=>by
  obtain⟨_,h1,h2,h3,h4,h5⟩:=h;have hz:(w.alloc (.cells #[.int .i64 0] 3)).heap.size=w.heap.size+1:=(by simp);exact⟨h2,h3,h4,by omega,fun k hk=>(h5 k (by omega) (by omega)).trans (Below.heap_alloc w _ k hk)⟩
 have HA:=qqh (fun(x:Nat) (vx:Int) (hx:vx=x) (w':World) (h1:1≤x) (h2:x+1<sz) (h:qC (w.alloc (.cells #[.int .i64 0] 3)) w.heap.size w')=>(show Calls Tryz.prog 199 #[.slice (some ⟨blk,off,none⟩) sz cap,.int .i64 vx,.pointer (some ⟨w.heap.size,0,none⟩)] w' fun e w2=>∃ y:Nat,e=.returned (.int .i64 y)∧(x≤y+1∧y≤x+1)∧qC w' w.heap.size w2 by subst hx;exact M9 blk off cap x w.heap.size sz d w' hs (Rest.row h.2 hR (by omega)) h1 h2 h.1 (by omega) hsz));have HM:=qqh (fun(x y z:Nat) (vx vy vz:Int) (hx:vx=x) (hy:vy=y) (hz:vz=z) (w':World) (h1:x<sz) (h2:y<sz) (h3:z<sz) (h:qC (w.alloc (.cells #[.int .i64 0] 3)) w.heap.size w')=>(show Calls Tryz.prog 200 #[.slice (some ⟨blk,off,none⟩) sz cap,.int .i64 vx,.int .i64 vy,.int .i64 vz,.pointer (some ⟨w.heap.size,0,none⟩)] w' fun e w2=>∃ u:Nat,e=.returned (.int .i64 u)∧(u=x∨u=y∨u=z)∧qC w' w.heap.size w2 by subst hx hy hz;exact ue blk off cap x y z w.heap.size sz d w' hs (Rest.row h.2 hR (by omega)) h1 h2 h3 h.1 (by omega)));have HW:=qqh hW;have HB:=qqh hB;clear hs hH hW hR hB;go_enter Tryz.func180,Tryz.ntmps180;by_cases h50:50≤l
 ·go_wp2_with fail;refine(HA.out (a+q) _ (by omega) _ (by omega) (by omega) HW.out).mono ?_;rintro e w1 ⟨i1,rfl,hi1,hs1⟩;have eN:=qqh (HW.out.trans hs1);clear hs1;go_wp2_with fail;refine(HA.out (a+q*2) _ (by omega) _ (by omega) (by omega) eN.out).mono ?_;rintro e w2 ⟨i2,rfl,hi2,vB⟩;have lC:=qqh (eN.out.trans vB);clear vB;go_wp2_with fail;refine(HA.out (a+q*3) _ (by omega) _ (by omega) (by omega) lC.out).mono ?_;rintro e w3 ⟨i3,rfl,hi3,Ot⟩;have KD:=qqh (lC.out.trans Ot);clear Ot;go_wp2_with fail;refine(HM.out i1 i2 i3 _ _ _ rfl rfl rfl _ (by omega) (by omega) (by omega) KD.out).mono ?_;rintro e w4 ⟨p,rfl,hp,hs4⟩;have jo:=qqh (KD.out.trans hs4);clear hs4;have hpa:a≤p:=(by omega);have hpb:p<b:=(by omega);obtain⟨⟨v,hv⟩,_⟩:=jo.out;have sP:w4.cell? ⟨w.heap.size,0,none⟩=some (.int .i64 v):=hv.cell 0;clear hv;by_cases h0:v=0
  ·have k0:(v == 0)=true:=(by simpa using h0);clear h0;go_wp2_with fail;refine bodyPost_ret (v:=.tuple #[.int .i64 p,.int .i64 1]) (by simp [results,Tryz.results180,go_sem]) (by rfl) ⟨⟨p,1,rfl,hpa,hpb⟩,HB.out _ jo.out⟩
  have k0:(v == 0)=false:=(by simpa using h0);clear h0;by_cases h12:v=12
  ·have k1:(v == 12)=true:=(by simpa using h12);clear h12;go_wp2_with fail;refine bodyPost_ret (v:=.tuple #[.int .i64 p,.int .i64 2]) (by simp [results,Tryz.results180,go_sem]) (by rfl) ⟨⟨p,2,rfl,hpa,hpb⟩,HB.out _ jo.out⟩
  have k1:(v == 12)=false:=(by simpa using h12);clear h12;go_wp2_with fail;refine bodyPost_ret (v:=.tuple #[.int .i64 p,.int .i64 0]) (by simp [results,Tryz.results180,go_sem]) (by rfl) ⟨⟨p,0,rfl,hpa,hpb⟩,HB.out _ jo.out⟩
 go_wp2_with fail;refine(HM.out (a+q) (a+q*2) (a+q*3) _ _ _ (by omega) (by omega) (by omega) _ (by omega) (by omega) (by omega) HW.out).mono ?_;rintro e w4 ⟨p,rfl,hp,hs4⟩;have jo:=qqh (HW.out.trans hs4);clear hs4;have hpa:a≤p:=(by omega);have hpb:p<b:=(by omega);obtain⟨⟨v,hv⟩,_⟩:=jo.out;have sP:w4.cell? ⟨w.heap.size,0,none⟩=some (.int .i64 v):=hv.cell 0;clear hv;by_cases h0:v=0
 ·have k0:(v == 0)=true:=(by simpa using h0);clear h0;go_wp2_with fail;refine bodyPost_ret (v:=.tuple #[.int .i64 p,.int .i64 1]) (by simp [results,Tryz.results180,go_sem]) (by rfl) ⟨⟨p,1,rfl,hpa,hpb⟩,HB.out _ jo.out⟩
 have k0:(v == 0)=false:=(by simpa using h0);clear h0;by_cases h12:v=12
 ·have k1:(v == 12)=true:=(by simpa using h12);clear h12;go_wp2_with fail;refine bodyPost_ret (v:=.tuple #[.int .i64 p,.int .i64 2]) (by simp [results,Tryz.results180,go_sem]) (by rfl) ⟨⟨p,2,rfl,hpa,hpb⟩,HB.out _ jo.out⟩
 have k1:(v == 12)=false:=(by simpa using h12);clear h12;go_wp2_with fail;refine bodyPost_ret (v:=.tuple #[.int .i64 p,.int .i64 0]) (by simp [results,Tryz.results180,go_sem]) (by rfl) ⟨⟨p,0,rfl,hpa,hpb⟩,HB.out _ jo.out⟩
section
variable {α : Type} [Inhabited α] (lt : α → α → Bool)
theorem MV:∀ (j:Nat) (d:Array α),(shiftDown lt j d).size=d.size:=by
 intro j;induction j with
 | zero=>intro d;rfl
 | succ j ih=>
  intro d;rw [shiftDown];by_cases h:(!lt d[j+1]! d[j]!)=true
  ·rw [if_pos h]
  rw [if_neg h,ih,Sort.swp_size]
theorem Me {j:Nat} {d:Array α} (hj:1≤j) (hl:lt d[j]! d[j - 1]! = true):shiftDown lt j d=shiftDown lt (j - 1) (swp d j (j - 1)):=by
 obtain⟨k,rfl⟩:∃ k,j=k+1:=⟨j - 1,by omega⟩;simp only [Nat.add_sub_cancel]at hl ⊢;rw [shiftDown,if_neg (by rw [hl];simp)]
theorem Ht {j:Nat} {d:Array α} (h:j<1∨lt d[j]! d[j - 1]! = false):shiftDown lt j d=d:=by
 cases j with
 | zero=>rfl
 | succ k=>
  simp only [Nat.add_sub_cancel]at h;rcases h with h | h;omega;rw [shiftDown,if_pos (by rw [h];rfl)]
theorem NY {b j:Nat} {d:Array α} (hj:j<b) (hl:lt d[j]! d[j - 1]! = true):shiftUp lt b j d=shiftUp lt b (j+1) (swp d j (j - 1)):=by
 rw [shiftUp,if_pos hj,if_neg (by rw [hl];simp)]
theorem G7 {b j:Nat} {d:Array α} (h:¬ j<b∨lt d[j]! d[j - 1]! = false):shiftUp lt b j d=d:=by
 rw [shiftUp];by_cases hj:j<b
 ·rw [if_pos hj,if_pos (by rw [h.resolve_left (fun h=>h hj)];rfl)]
 rw [if_neg hj]
end
def P0 (w:World) (blk off a b i0:Nat) (dk:Array Int) (vi:Value) (wr:World):Prop :=
  ∃ i:Nat,vi=.int .i64 i∧a<i∧i0≤i∧i≤b∧aO w blk off dk wr∧scanSorted ltInt dk b i=scanSorted ltInt dk b i0
def PK (w:World) (blk off b i0 sz:Nat) (d1:Array Int) (vj:Value) (wr:World):Prop :=
  ∃ (j:Nat) (dj:Array Int),vj=.int .i64 j∧j<b∧dj.size=sz∧aO w blk off dj wr∧shiftDown ltInt j dj=shiftDown ltInt (i0 - 1) d1
def Xn (w:World) (blk off b i0 sz:Nat) (d1:Array Int) (vj:Value) (wr:World):Prop :=
  ∃ (j:Nat) (dj:Array Int),vj=.int .i64 j∧1≤j∧j≤b∧dj.size=sz∧aO w blk off dj wr∧shiftUp ltInt b j dj=shiftUp ltInt b (i0+1) d1
def Xb (w:World) (blk off a b:Nat) (d:Array Int) (vi vj:Value) (wr:World):Prop :=
  ∃ (s i:Nat) (v:Int) (dk:Array Int),vi=.int .i64 i∧vj=.int .i64 v∧v+s=5∧0≤v∧a<i∧i≤b∧dk.size=d.size∧aO w blk off dk wr∧partialIns ltInt a b s i dk=partialInsertionSort ltInt d a b
theorem Ix (blk off cap a b:Nat) (d:Array Int) (w:World) (hH:fO w blk off d) (hab:a<b) (hb:b≤d.size) (hsz:d.size<2305843009213693952) :
    Calls Tryz.prog 182 #[.slice (some ⟨blk,off,none⟩) d.size cap,.int .i64 a,.int .i64 b] w fun e w'=>e=.returned (.bool (partialInsertionSort ltInt d a b).2)∧aO w blk off (partialInsertionSort ltInt d a b).1 w':=by
 have HH:=qqh hH;clear hH;go_enter Tryz.func182,Tryz.ntmps182;go_wp2;go_loopw [7,8] (Xb w blk off a b d) (fun _ vj _=>(5 - (intOf vj)).toNat);(case atStart=>exact⟨5,a+1,0,d,by go_num,rfl,by omega,by omega,by omega,by omega,rfl,aO.start HH.out,rfl⟩);obtain⟨s,i,v,dk,rfl,rfl,hv,hv0,hai,hib,zL,hrow,hO⟩:=hrel;have HR:=qqh hrow;have HO:=qqh hO;clear hrow hO;cases s with
 | zero=>
  have Zb:¬ v<5:=(by omega);have HM:=qqh (show partialInsertionSort ltInt d a b=(dk,false) by rw [← HO.out,partialIns]);clear hv;go_wp2_with fail;go_ret;rw [HM.out];exact⟨rfl,HR.out⟩
 | succ s=>
  have Zb:v<5:=(by omega);have hv6:v+s≤4:=(by omega);have hv7:4≤v+s:=(by omega);clear hv;go_upto_block 2 with fail;go_cut [7] (fun s7 wx=>∃ i2:Nat,s7=.int .i64 i2∧a<i2∧i2≤b∧aO w blk off dk wx∧scanSorted ltInt dk b i=i2);case first=>
   go_wp2;go_loopw [7] (P0 w blk off a b i dk) (fun vi _=>b - (intOf vi).toNat);(case atStart=>exact⟨i,rfl,hai,qql,hib,HR.out,rfl⟩);obtain⟨i2,rfl,Iq,hi2,JS,hrow,hS⟩:=hrel;obtain⟨G,hG,j7,nj⟩:=hrow.cells zL;have iz:=qqh hrow;have HG:=qqh hG;have HS:=qqh hS;clear hrow hG hS;go_wp2;by_cases hlt:i2<b
   ·go_quiet (first | (go_at_call 183;refine Calls.quiet_of_same (bY _ _ _)));cases hl:ltInt (G i2) (G (i2 - 1))with
    | false=>
     have HM:=qqh (show scanSorted ltInt dk b (i2+1)=scanSorted ltInt dk b i by rw [← HS.out];conv=>rhs;rw [scanSorted];rw [if_pos (by rw [← HG.out,← HG.out,hl];simpa using hlt)]);go_wp2;exact⟨⟨i2+1,by go_num,by omega,by omega,by omega,iz.out.drewN _,HM.out⟩,by simp only [intOf];omega⟩
    | true=>
     have HM:=qqh (show scanSorted ltInt dk b i=i2 by rw [← HS.out,scanSorted,if_neg (by rw [← HG.out,← HG.out,hl];simp)]);go_wp2;go_meet;exact⟨i2,rfl,Iq,JS,iz.out.drewN _,HM.out⟩
   have HM:=qqh (show scanSorted ltInt dk b i=i2 by rw [← HS.out,scanSorted,if_neg (by simpa using fun h=>absurd h hlt)]);have hdf:decide ((i2:Int)<(b:Int))=false:=(by simp;omega);go_quiet (first | (go_at_call 183;refine Calls.quiet_of_same (bY _ _ _)));go_wp2;go_meet;exact⟨i2,rfl,Iq,JS,iz.out.drewN _,HM.out⟩
  case rest=>
  obtain⟨i2,rfl,Iq,JS,hrow,hS⟩:=hcut;have iz:=qqh hrow;by_cases Jh:i2=b
  ·have HM:=qqh (show partialInsertionSort ltInt d a b=(dk,true) by rw [← HO.out,partialIns];simp only [hS];rw [if_pos Jh]);have abu:((i2:Int) ==(b:Int))=true:=(by simp;omega);clear hS hrow Jh;go_wp2_with fail;go_ret;rw [HM.out];exact⟨rfl,iz.out⟩
  have abu:((i2:Int) ==(b:Int))=false:=(by simp;omega);have ago:i2<b:=(by omega);by_cases h50:b - a<50
  ·have HM:=qqh (show partialInsertionSort ltInt d a b=(dk,false) by rw [← HO.out,partialIns];simp only [hS];rw [if_neg Jh,if_pos h50]);have h51:(b:Int) - (a:Int)<50:=(by omega);clear hS hrow Jh;go_wp2_with fail;go_ret;rw [HM.out];exact⟨rfl,iz.out⟩
  have ZP:=qqh (show partialIns ltInt a b s i2 (if b - i2≥2 then shiftUp ltInt b (i2+1) (if i2 - a≥2 then shiftDown ltInt (i2 - 1) (swp dk i2 (i2 - 1))else swp dk i2 (i2 - 1))else (if i2 - a≥2 then shiftDown ltInt (i2 - 1) (swp dk i2 (i2 - 1))else swp dk i2 (i2 - 1)))=partialInsertionSort ltInt d a b by rw [← HO.out];conv=>rhs;rw [partialIns];simp only [hS];rw [if_neg Jh,if_neg h50]);have h51:¬(b:Int) - (a:Int)<50:=(by omega);obtain⟨G,hG,j7,nj⟩:=hrow.cells zL;have HG:=qqh hG;clear hS hrow Jh hG;go_upto_region 11 with fail;go_cut [] (fun wx=>aO w blk off (swp dk i2 (i2 - 1)) wx);case first=>
   go_region
   all_goals
     go_wp2
     go_meet
     exact(iz.out.drewN _).swap HG.out (by omega) (by omega)
  case rest=>
  have hs1:(swp dk i2 (i2 - 1)).size=d.size:=(by rw [Sort.swp_size];exact zL);have qD:=qqh hcut;clear hcut j7 nj iz HG;generalize swp dk i2 (i2 - 1)=d1 at *;go_upto_if 61 with fail;go_cut [] (fun wx=>aO w blk off (if i2 - a≥2 then shiftDown ltInt (i2 - 1) d1 else d1) wx);case first=>
   by_cases h2:i2 - a≥2
   ·have KO:=qqh (show(if i2 - a≥2 then shiftDown ltInt (i2 - 1) d1 else d1)=shiftDown ltInt (i2 - 1) d1 from if_pos h2);have h3:2≤(i2:Int) - (a:Int):=(by omega);clear h2;go_wp2;go_loopw [9] (PK w blk off b i2 d.size d1) (fun vj _=>(intOf vj).toNat);(case atStart=>exact⟨i2 - 1,d1,by go_num,by omega,hs1,qD.out,rfl⟩);obtain⟨j,dj,rfl,hjb,hsj,hrow,hS⟩:=hrel;have yS:=qqh hrow;have Tl:=qqh hS;by_cases hj:1≤j
    ·obtain⟨G,hG,j7,nj⟩:=hrow.cells hsj;have HG:=qqh hG;clear hrow hS hG;go_wp2;go_quiet (first | (go_at_call 183;refine Calls.quiet_of_same (bY _ _ _)));have X9:∀ t,t<d.size→(wr.drewN nq).cell? ⟨blk,off+t,none⟩=some (.int .i32 (G t)):=j7;have Yg:∀ t,t<d.size→(wr.drewN nq).frozen? ⟨blk,off+t,none⟩=false:=nj;have Ij:=qqh (yS.out.drewN nq);generalize wr.drewN nq=wq at *;clear j7 nj yS;cases hl:ltInt (G j) (G (j - 1))with
     | true=>
      have HM:=qqh ((Me ltInt (d:=dj) hj (by rw [← HG.out,← HG.out];exact hl)).symm.trans Tl.out);go_wp2;go_region;(all_goals go_wp2)
      all_goals
        exact⟨⟨j - 1,swp dj j (j - 1),by go_num,by omega,by rw [Sort.swp_size];exact hsj,(Ij.out.drewN _).swap HG.out (by omega) (by omega),HM.out⟩,by simp only [intOf];omega⟩
     | false=>
      have HM:=qqh ((Ht ltInt (d:=dj) (.inr (by rw [← HG.out,← HG.out];exact hl))).symm.trans Tl.out);go_wp2;go_meet;rw [KO.out,← HM.out];exact Ij.out
    have HM:=qqh ((Ht ltInt (d:=dj) (.inl (by omega))).symm.trans Tl.out);clear hrow hS;go_wp2;go_meet;rw [KO.out,← HM.out];exact yS.out
   have KO:=qqh (show(if i2 - a≥2 then shiftDown ltInt (i2 - 1) d1 else d1)=d1 from if_neg h2);have h3:¬(2≤(i2:Int) - (a:Int)):=(by omega);clear h2;go_wp2;go_meet;rw [KO.out];exact qD.out
  case rest=>
  have EN:=qqh hcut;clear hcut qD;have vB:(if i2 - a≥2 then shiftDown ltInt (i2 - 1) d1 else d1).size=d.size:=by
   by_cases h2:i2 - a≥2
   ·rw [if_pos h2,MV];exact hs1
   rw [if_neg h2];exact hs1
  generalize (if i2 - a≥2 then shiftDown ltInt (i2 - 1) d1 else d1)=d2 at *;go_upto_if 98 with fail;by_cases h2:b - i2≥2
  ·have KO:=qqh (show(if b - i2≥2 then shiftUp ltInt b (i2+1) d2 else d2)=shiftUp ltInt b (i2+1) d2 from if_pos h2);have h3:2≤(b:Int) - (i2:Int):=(by omega);clear h2;go_wp2;go_loopw [10] (Xn w blk off b i2 d.size d2) (fun vj _=>b - (intOf vj).toNat);(case atStart=>exact⟨i2+1,d2,by go_num,by omega,by omega,vB,EN.out,rfl⟩);obtain⟨j,dj,rfl,OO,hjb,hsj,hrow,hS⟩:=hrel;have yS:=qqh hrow;have Tl:=qqh hS;by_cases hj:j<b
   ·obtain⟨G,hG,j7,nj⟩:=hrow.cells hsj;have HG:=qqh hG;clear hrow hS hG;go_wp2;go_quiet (first | (go_at_call 183;refine Calls.quiet_of_same (bY _ _ _)));have X9:∀ t,t<d.size→(wr.drewN nq).cell? ⟨blk,off+t,none⟩=some (.int .i32 (G t)):=j7;have Yg:∀ t,t<d.size→(wr.drewN nq).frozen? ⟨blk,off+t,none⟩=false:=nj;have Ij:=qqh (yS.out.drewN nq);generalize wr.drewN nq=wq at *;clear j7 nj yS;cases hl:ltInt (G j) (G (j - 1))with
    | true=>
     have HM:=qqh ((NY ltInt (d:=dj) hj (by rw [← HG.out,← HG.out];exact hl)).symm.trans Tl.out);go_wp2;go_region;(all_goals go_wp2)
     all_goals
       exact⟨⟨j+1,swp dj j (j - 1),by go_num,by omega,by omega,by rw [Sort.swp_size];exact hsj,(Ij.out.drewN _).swap HG.out (by omega) (by omega),HM.out⟩,by simp only [intOf];omega⟩
    | false=>
     have HM:=qqh ((G7 ltInt (d:=dj) (.inr (by rw [← HG.out,← HG.out];exact hl))).symm.trans Tl.out);go_wp2;exact⟨⟨s,i2,v+1,dj,rfl,rfl,by omega,by omega,Iq,JS,hsj,Ij.out,by rw [HM.out,← KO.out];exact ZP.out⟩,by simp only [intOf];omega⟩
   have HM:=qqh ((G7 ltInt (d:=dj) (.inl (by omega))).symm.trans Tl.out);clear hrow hS;go_wp2;exact⟨⟨s,i2,v+1,dj,rfl,rfl,by omega,by omega,Iq,JS,hsj,yS.out,by rw [HM.out,← KO.out];exact ZP.out⟩,by simp only [intOf];omega⟩
  have KO:=qqh (show(if b - i2≥2 then shiftUp ltInt b (i2+1) d2 else d2)=d2 from if_neg h2);have h3:¬(2≤(b:Int) - (i2:Int)):=(by omega);clear h2;go_wp2;exact⟨⟨s,i2,v+1,d2,rfl,rfl,by omega,by omega,Iq,JS,vB,EN.out,by have:=ZP.out;rw [KO.out]at this;exact this⟩,by simp only [intOf];omega⟩
section
variable {p : Int → Bool} {d : Array Int} {i j x : Nat}
theorem AL (h:x≤j) (hp:p d[x]! = true):scanUp p d j x=scanUp p d j (x+1):=by
 (conv=>lhs;rw [scanUp]);rw [if_pos (by rw [hp];simpa using h)]
theorem tJ (h:¬ x≤j∨p d[x]! = false):scanUp p d j x=x:=by
 rw [scanUp];rcases h with h | h
 ·rw [if_neg (by simp [h])]
 rw [if_neg (by simp [h])]
theorem xP (h:i≤x) (h1:1≤x) (hp:p d[x]! = true):scanDown p d i x=scanDown p d i (x - 1):=by
 obtain⟨k,rfl⟩:∃ k,x=k+1:=⟨x - 1,by omega⟩;rw [Nat.add_sub_cancel];(conv=>lhs;rw [scanDown]);rw [if_pos (by rw [hp];simpa using h)]
theorem o8 (h:¬ i≤x∨p d[x]! = false):scanDown p d i x=x:=by
 cases x with
 | zero=>rfl
 | succ k=>
  rw [scanDown];rcases h with h | h
  ·rw [if_neg (by simp [h])]
  rw [if_neg (by simp [h])]
end
section
variable {lt : Int → Int → Bool} {a i j i3 j3 : Nat} {d : Array Int}
theorem RZ (h1:scanUp (fun x=>lt x d[a]!) d j i=i3) (h2:scanDown (fun x=>!lt x d[a]!) d i3 j=j3) (h:i3 > j3):partLoop lt a i j d=(j3,d):=by
 rw [partLoop];simp only [h1,h2];rw [if_pos h]
theorem PR (h1:scanUp (fun x=>lt x d[a]!) d j i=i3) (h2:scanDown (fun x=>!lt x d[a]!) d i3 j=j3) (h:¬ i3 > j3) (hi:i≤i3) (hj:j3≤j):partLoop lt a i j d=partLoop lt a (i3+1) (j3 - 1) (swp d i3 j3):=by
 rw [partLoop];simp only [h1,h2];rw [if_neg h,dif_pos (by omega)]
theorem Tz (h1:scanUp (fun x=>!lt d[a]! x) d j i=i3) (h2:scanDown (fun x=>lt d[a]! x) d i3 j=j3) (h:i3 > j3):partEqLoop lt a i j d=(i3,d):=by
 rw [partEqLoop];simp only [h1,h2];rw [if_pos h]
theorem PE (h1:scanUp (fun x=>!lt d[a]! x) d j i=i3) (h2:scanDown (fun x=>lt d[a]! x) d i3 j=j3) (h:¬ i3 > j3) (hi:i≤i3) (hj:j3≤j):partEqLoop lt a i j d=partEqLoop lt a (i3+1) (j3 - 1) (swp d i3 j3):=by
 rw [partEqLoop];simp only [h1,h2];rw [if_neg h,dif_pos (by omega)]
end
def O4 (w:World) (blk off a b sz:Nat) (res:Nat × Array Int) (vi vj:Value) (wr:World):Prop :=
  ∃ (i j:Nat) (dj:Array Int),vi=.int .i64 i∧vj=.int .i64 j∧a+1<i∧i≤j+2∧j<b∧dj.size=sz∧aO w blk off dj wr∧partLoop ltInt a i j dj=res
def Xh (w:World) (blk off a b sz:Nat) (res:Nat × Array Int) (vi vj:Value) (wr:World):Prop :=
  ∃ (i j:Nat) (dj:Array Int),vi=.int .i64 i∧vj=.int .i64 j∧a<i∧i≤j+2∧j<b∧dj.size=sz∧aO w blk off dj wr∧partEqLoop ltInt a i j dj=res
theorem lU {wr:World} {blk off n u v:Nat} {G:Nat→Int} (j7:∀ t,t<n→wr.cell? ⟨blk,off+t,none⟩=some (.int .i32 (G t))) (hu:u<n) (hv:v<n):(wr.setCell ⟨blk,off+u,none⟩ (.int .i32 (G v))).cell? ⟨blk,off+v,none⟩=some (.int .i32 (G v)):=by
 by_cases h:u=v
 ·subst h;exact World.cell?_setCell_same _ _ _ (j7 u hu)
 rw [World.cell?_setCell_other _ _ _ _ (by intro e;injection e with _ h2 _;omega)];exact j7 v hv
theorem xo (blk off cap a b pv:Nat) (d:Array Int) (w:World) (hH:fO w blk off d) (hp1:a≤pv) (hp2:pv<b) (hb:b≤d.size) (hsz:d.size<2305843009213693952) :
    Calls Tryz.prog 185 #[.slice (some ⟨blk,off,none⟩) d.size cap,.int .i64 a,.int .i64 b,.int .i64 pv] w fun e w'=>e=.returned (.tuple #[.int .i64 (partition ltInt d a b pv).1,.bool (partition ltInt d a b pv).2.1])∧aO w blk off (partition ltInt d a b pv).2.2 w':=by
 have fW:=qqh (aO.start hH);obtain⟨j0,OO,hj2⟩:∃ j0,j0+1≤b∧b≤j0+1:=⟨b - 1,by omega,by omega⟩;have hjb:b - 1=j0:=(by omega);have HJB:=qqh hjb;clear hH hjb;go_enter Tryz.func185,Tryz.ntmps185;obtain⟨G,hG,j7,nj⟩:=fW.out.cells rfl;have HG:=qqh hG;clear hG;have pT:(w.setCell ⟨blk,off+a,none⟩ (.int .i32 (G pv))).cell? ⟨blk,off+pv,none⟩=some (.int .i32 (G pv)):=lU j7 (by omega) (by omega);have H6:(w.setCell ⟨blk,off+a,none⟩ (.int .i32 (G pv))).drew.cell? ⟨blk,off+pv,none⟩=some (.int .i32 (G pv)):=pT;go_upto_region 1 with fail;go_cut [] (fun wx=>aO w blk off (swp d a pv) wx);case first=>
  go_region
  all_goals
    go_wp2
    go_meet
    exact(fW.out.drewN _).swap HG.out (j:=a) (k:=pv) (by omega) (by omega)
 case rest=>
 have gX:=qqh hcut;clear hcut j7 nj pT H6 HG;have yf:(swp d a pv).size=d.size:=(by rw [Sort.swp_size]);generalize tY:swp d a pv=d1 at *;have HDD:=qqh tY;clear tY fW;have B8:((b:Int) - 1)=(j0:Int):=(by omega);go_upto_block 0 with fail;go_cut [10] (fun s wx=>∃ x:Nat,s=.int .i64 x∧(a+1)≤x∧x≤j0+1∧aO w blk off d1 wx∧scanUp (fun x=>ltInt x d1[a]!) d1 j0 (a+1)=x);case first=>
  go_wp2;go_loopw [10] (fun vi wx=>∃ x:Nat,vi=.int .i64 x∧(a+1)≤x∧x≤j0+1∧aO w blk off d1 wx∧scanUp (fun x=>ltInt x d1[a]!) d1 j0 x=scanUp (fun x=>ltInt x d1[a]!) d1 j0 (a+1)) (fun vi _=>j0+1 - (intOf vi).toNat);(case atStart=>exact⟨(a+1),rfl,qql,by omega,gX.out,rfl⟩);obtain⟨x,rfl,hx1,hx2,hrow,hS⟩:=hrel;obtain⟨G,hG,j7,nj⟩:=hrow.cells yf;have eU:=qqh hrow;have HG:=qqh hG;have HS:=qqh hS;clear hrow hG hS;go_wp2;by_cases hij:x≤j0
  ·go_quiet (first | (go_at_call 183;refine Calls.quiet_of_same (bY _ _ _)));cases hl:ltInt (G x) (G a)with
   | true=>
    have HM:=qqh ((AL (p:=(fun x=>ltInt x d1[a]!)) (d:=d1) hij (by show ltInt d1[x]! d1[a]! = true;rw [← HG.out,← HG.out,hl])).symm.trans HS.out);go_wp2;exact⟨⟨x+1,by go_num,by omega,by omega,eU.out.drewN _,HM.out⟩,by simp only [intOf];omega⟩
   | false=>
    have HM:=qqh ((HS.out.symm.trans (tJ (p:=(fun x=>ltInt x d1[a]!)) (d:=d1) (.inr (by show ltInt d1[x]! d1[a]! = false;rw [← HG.out,← HG.out,hl])))));go_wp2;go_meet;exact⟨x,rfl,hx1,hx2,eU.out.drewN _,HM.out⟩
  have hdf:decide ((x:Int)≤(j0:Int))=false:=(by simp;omega);have HM:=qqh ((HS.out.symm.trans (tJ (p:=(fun x=>ltInt x d1[a]!)) (d:=d1) (.inl hij))));go_quiet (first | (go_at_call 183;refine Calls.quiet_of_same (bY _ _ _)));go_wp2;go_meet;exact⟨x,rfl,hx1,hx2,eU.out.drewN _,HM.out⟩
 case rest=>
 obtain⟨i2,rfl,agE,afk,hrow,U8⟩:=hcut;have iz:=qqh hrow;clear hrow;go_upto_block 2 with fail;go_cut [11] (fun s wx=>∃ x:Nat,s=.int .i64 x∧i2≤x+1∧x≤j0∧aO w blk off d1 wx∧scanDown (fun x=>!ltInt x d1[a]!) d1 i2 j0=x);case first=>
  go_wp2;go_loopw [11] (fun vi wx=>∃ x:Nat,vi=.int .i64 x∧i2≤x+1∧x≤j0∧aO w blk off d1 wx∧scanDown (fun x=>!ltInt x d1[a]!) d1 i2 x=scanDown (fun x=>!ltInt x d1[a]!) d1 i2 j0) (fun vi _=>(intOf vi).toNat);(case atStart=>exact⟨j0,rfl,by omega,qql,iz.out,rfl⟩);obtain⟨x,rfl,hx1,hx2,hrow,hS⟩:=hrel;obtain⟨G,hG,j7,nj⟩:=hrow.cells yf;have eU:=qqh hrow;have HG:=qqh hG;have HS:=qqh hS;clear hrow hG hS;go_wp2;by_cases hij:i2≤x
  ·go_quiet (first | (go_at_call 183;refine Calls.quiet_of_same (bY _ _ _)));cases hl:ltInt (G x) (G a)with
   | false=>
    have HM:=qqh ((xP (p:=(fun x=>!ltInt x d1[a]!)) (d:=d1) hij (by omega) (by show(!ltInt d1[x]! d1[a]!)=true;rw [← HG.out,← HG.out,hl];rfl)).symm.trans HS.out);go_wp2;exact⟨⟨x - 1,by go_num,by omega,by omega,eU.out.drewN _,HM.out⟩,by simp only [intOf];omega⟩
   | true=>
    have HM:=qqh ((HS.out.symm.trans (o8 (p:=(fun x=>!ltInt x d1[a]!)) (d:=d1) (.inr (by show(!ltInt d1[x]! d1[a]!)=false;rw [← HG.out,← HG.out,hl];rfl)))));go_wp2;go_meet;exact⟨x,rfl,hx1,hx2,eU.out.drewN _,HM.out⟩
  have hdf:decide ((i2:Int)≤(x:Int))=false:=(by simp;omega);have HM:=qqh ((HS.out.symm.trans (o8 (p:=(fun x=>!ltInt x d1[a]!)) (d:=d1) (.inl hij))));go_quiet (first | (go_at_call 183;refine Calls.quiet_of_same (bY _ _ _)));go_wp2;go_meet;exact⟨x,rfl,hx1,hx2,eU.out.drewN _,HM.out⟩
 case rest=>
 obtain⟨j2,rfl,aeA,af6,hrow,XH⟩:=hcut;have qD:=qqh hrow;clear hrow;have E0:=qqh (show partition ltInt d a b pv=if i2 > j2 then (j2,true,swp d1 j2 a)else ((partLoop ltInt a (i2+1) (j2 - 1) (swp d1 i2 j2)).1,false,swp (partLoop ltInt a (i2+1) (j2 - 1) (swp d1 i2 j2)).2 (partLoop ltInt a (i2+1) (j2 - 1) (swp d1 i2 j2)).1 a) by unfold partition;simp only [HDD.out,HJB.out,U8,XH]);clear U8 XH iz gX;by_cases hgt:j2<i2
 ·have vg:=qqh (E0.out.trans (if_pos hgt));obtain⟨G,hG,j7,nj⟩:=qD.out.cells yf;have HG:=qqh hG;clear hG;have pT:(wc.setCell ⟨blk,off+j2,none⟩ (.int .i32 (G a))).cell? ⟨blk,off+a,none⟩=some (.int .i32 (G a)):=lU j7 (by omega) (by omega);have H6:(wc.setCell ⟨blk,off+j2,none⟩ (.int .i32 (G a))).drew.cell? ⟨blk,off+a,none⟩=some (.int .i32 (G a)):=pT;go_upto_region 8 with fail;go_region
  all_goals
    have ET:=qqh (show aO w blk off (swp d1 j2 a) _ from(qD.out.drewN 1).swap HG.out (j:=j2) (k:=a) (by omega) (by omega))
    go_wp2_with fail
    refine bodyPost_ret (v:=.tuple #[.int .i64 j2,.bool true]) (by simp [results,Tryz.results185,go_sem]) (by rfl) ?_
    rw [vg.out]
    exact⟨rfl,ET.out⟩
 have vg:=qqh (E0.out.trans (if_neg hgt));obtain⟨G,hG,j7,nj⟩:=qD.out.cells yf;have HG:=qqh hG;clear hG;have pT:(wc.setCell ⟨blk,off+i2,none⟩ (.int .i32 (G j2))).cell? ⟨blk,off+j2,none⟩=some (.int .i32 (G j2)):=lU j7 (by omega) (by omega);have H6:(wc.setCell ⟨blk,off+i2,none⟩ (.int .i32 (G j2))).drew.cell? ⟨blk,off+j2,none⟩=some (.int .i32 (G j2)):=pT;go_upto_region 10 with fail;go_cut [] (fun wx=>aO w blk off (swp d1 i2 j2) wx);case first=>
  go_region
  all_goals
    go_wp2
    go_meet
    exact(qD.out.drewN _).swap HG.out (j:=i2) (k:=j2) (by omega) (by omega)
 case rest=>
 have EN:=qqh hcut;clear hcut j7 nj pT H6 HG;have yf:(swp d1 i2 j2).size=d.size:=(by rw [Sort.swp_size];exact yf);generalize DB:partLoop ltInt a (i2+1) (j2 - 1) (swp d1 i2 j2)=res at vg;generalize swp d1 i2 j2=d2 at *;have j6:=qqh DB;clear DB;go_upto_block 4 with fail;go_cut [11] (fun Va wx=>∃ (jf:Nat) (df:Array Int),Va=.int .i64 jf∧a≤jf∧jf<b∧df.size=d.size∧aO w blk off df wx∧res=(jf,df));case first=>
  go_wp2;go_loopw [10,11] (O4 w blk off a b d.size res) (fun vi vj _=>((intOf vj)+1 - (intOf vi)).toNat);(case atStart=>exact⟨i2+1,j2 - 1,d2,by go_num,by go_num,by omega,by omega,by omega,yf,EN.out,j6.out⟩);obtain⟨i,j,dj,rfl,rfl,hai,aa1,hjb,yf,hrow,hP⟩:=hrel;have yj:=qqh hrow;have HP:=qqh hP;clear hrow hP;go_upto_block 6 with fail;go_cut [10] (fun s wx=>∃ x:Nat,s=.int .i64 x∧i≤x∧x≤j+2∧aO w blk off dj wx∧scanUp (fun x=>ltInt x dj[a]!) dj j i=x);case first=>
   go_wp2;go_loopw [10] (fun vi wx=>∃ x:Nat,vi=.int .i64 x∧i≤x∧x≤j+2∧aO w blk off dj wx∧scanUp (fun x=>ltInt x dj[a]!) dj j x=scanUp (fun x=>ltInt x dj[a]!) dj j i) (fun vi _=>j+1 - (intOf vi).toNat);(case atStart=>exact⟨i,rfl,qql,by omega,yj.out,rfl⟩);obtain⟨x,rfl,hx1,hx2,hrow,hS⟩:=hrel;obtain⟨G,hG,j7,nj⟩:=hrow.cells yf;have eU:=qqh hrow;have HG:=qqh hG;have HS:=qqh hS;clear hrow hG hS;go_wp2;by_cases hij:x≤j
   ·go_quiet (first | (go_at_call 183;refine Calls.quiet_of_same (bY _ _ _)));cases hl:ltInt (G x) (G a)with
    | true=>
     have HM:=qqh ((AL (p:=(fun x=>ltInt x dj[a]!)) (d:=dj) hij (by show ltInt dj[x]! dj[a]! = true;rw [← HG.out,← HG.out,hl])).symm.trans HS.out);go_wp2;exact⟨⟨x+1,by go_num,by omega,by omega,eU.out.drewN _,HM.out⟩,by simp only [intOf];omega⟩
    | false=>
     have HM:=qqh ((HS.out.symm.trans (tJ (p:=(fun x=>ltInt x dj[a]!)) (d:=dj) (.inr (by show ltInt dj[x]! dj[a]! = false;rw [← HG.out,← HG.out,hl])))));go_wp2;go_meet;exact⟨x,rfl,hx1,hx2,eU.out.drewN _,HM.out⟩
   have hdf:decide ((x:Int)≤(j:Int))=false:=(by simp;omega);have HM:=qqh ((HS.out.symm.trans (tJ (p:=(fun x=>ltInt x dj[a]!)) (d:=dj) (.inl hij))));go_quiet (first | (go_at_call 183;refine Calls.quiet_of_same (bY _ _ _)));go_wp2;go_meet;exact⟨x,rfl,hx1,hx2,eU.out.drewN _,HM.out⟩
  case rest=>
  obtain⟨i3,rfl,SN,ab6,hrow,Bk⟩:=hcut;have pV:=qqh hrow;clear hrow;go_upto_block 8 with fail;go_cut [11] (fun s wx=>∃ x:Nat,s=.int .i64 x∧i3≤x+2∧x≤j∧aO w blk off dj wx∧scanDown (fun x=>!ltInt x dj[a]!) dj i3 j=x);case first=>
   go_wp2;go_loopw [11] (fun vi wx=>∃ x:Nat,vi=.int .i64 x∧i3≤x+2∧x≤j∧aO w blk off dj wx∧scanDown (fun x=>!ltInt x dj[a]!) dj i3 x=scanDown (fun x=>!ltInt x dj[a]!) dj i3 j) (fun vi _=>(intOf vi).toNat);(case atStart=>exact⟨j,rfl,by omega,qql,pV.out,rfl⟩);obtain⟨x,rfl,hx1,hx2,hrow,hS⟩:=hrel;obtain⟨G,hG,j7,nj⟩:=hrow.cells yf;have eU:=qqh hrow;have HG:=qqh hG;have HS:=qqh hS;clear hrow hG hS;go_wp2;by_cases hij:i3≤x
   ·go_quiet (first | (go_at_call 183;refine Calls.quiet_of_same (bY _ _ _)));cases hl:ltInt (G x) (G a)with
    | false=>
     have HM:=qqh ((xP (p:=(fun x=>!ltInt x dj[a]!)) (d:=dj) hij (by omega) (by show(!ltInt dj[x]! dj[a]!)=true;rw [← HG.out,← HG.out,hl];rfl)).symm.trans HS.out);go_wp2;exact⟨⟨x - 1,by go_num,by omega,by omega,eU.out.drewN _,HM.out⟩,by simp only [intOf];omega⟩
    | true=>
     have HM:=qqh ((HS.out.symm.trans (o8 (p:=(fun x=>!ltInt x dj[a]!)) (d:=dj) (.inr (by show(!ltInt dj[x]! dj[a]!)=false;rw [← HG.out,← HG.out,hl];rfl)))));go_wp2;go_meet;exact⟨x,rfl,hx1,hx2,eU.out.drewN _,HM.out⟩
   have hdf:decide ((i3:Int)≤(x:Int))=false:=(by simp;omega);have HM:=qqh ((HS.out.symm.trans (o8 (p:=(fun x=>!ltInt x dj[a]!)) (d:=dj) (.inl hij))));go_quiet (first | (go_at_call 183;refine Calls.quiet_of_same (bY _ _ _)));go_wp2;go_meet;exact⟨x,rfl,hx1,hx2,eU.out.drewN _,HM.out⟩
  case rest=>
  obtain⟨j3,rfl,aam,Sg,hrow,By⟩:=hcut;have TB:=qqh hrow;clear hrow;by_cases Ni:j3<i3
  ·have HM:=qqh (show res=(j3,dj) by rw [← HP.out];exact RZ Bk By Ni);clear Bk By;go_wp2;go_meet;exact⟨j3,dj,rfl,by omega,by omega,yf,TB.out,HM.out⟩
  have HM:=qqh (show partLoop ltInt a (i3+1) (j3 - 1) (swp dj i3 j3)=res by rw [← HP.out];exact(PR Bk By Ni SN Sg).symm);clear Bk By;obtain⟨G,hG,j7,nj⟩:=TB.out.cells yf;have HG:=qqh hG;clear hG;have pT:(wc.setCell ⟨blk,off+i3,none⟩ (.int .i32 (G j3))).cell? ⟨blk,off+j3,none⟩=some (.int .i32 (G j3)):=lU j7 (by omega) (by omega);have H6:(wc.setCell ⟨blk,off+i3,none⟩ (.int .i32 (G j3))).drew.cell? ⟨blk,off+j3,none⟩=some (.int .i32 (G j3)):=pT;go_upto_region 18 with fail;go_cut [] (fun wx=>aO w blk off (swp dj i3 j3) wx);case first=>
   go_region
   all_goals
     go_wp2
     go_meet
     exact(TB.out.drewN _).swap HG.out (j:=i3) (k:=j3) (by omega) (by omega)
  case rest=>
  have nP:=qqh hcut;clear hcut j7 nj pT H6 HG;have hsE:(swp dj i3 j3).size=d.size:=(by rw [Sort.swp_size];exact yf);go_wp2_with fail;exact⟨⟨i3+1,j3 - 1,_,by go_num,by go_num,by omega,by omega,by omega,hsE,nP.out,HM.out⟩,by simp only [intOf];omega⟩
 case rest=>
 obtain⟨jf,df,rfl,agF,afE,yf,hrow,hres⟩:=hcut;have uL:=qqh hrow;have Ic:=qqh (show partition ltInt d a b pv=(jf,false,swp df jf a) by rw [vg.out,hres]);clear hrow hres;obtain⟨G,hG,j7,nj⟩:=uL.out.cells yf;have HG:=qqh hG;clear hG;have pT:(wc.setCell ⟨blk,off+jf,none⟩ (.int .i32 (G a))).cell? ⟨blk,off+a,none⟩=some (.int .i32 (G a)):=lU j7 (by omega) (by omega);have H6:(wc.setCell ⟨blk,off+jf,none⟩ (.int .i32 (G a))).drew.cell? ⟨blk,off+a,none⟩=some (.int .i32 (G a)):=pT;go_upto_region 21 with fail;go_region
 all_goals
   have ET:=qqh (show aO w blk off (swp df jf a) _ from(uL.out.drewN 1).swap HG.out (j:=jf) (k:=a) (by omega) (by omega))
   go_wp2_with fail
   refine bodyPost_ret (v:=.tuple #[.int .i64 jf,.bool false]) (by simp [results,Tryz.results185,go_sem]) (by rfl) ?_
   rw [Ic.out]
   exact⟨rfl,ET.out⟩
theorem DW (blk off cap a b pv:Nat) (d:Array Int) (w:World) (hH:fO w blk off d) (hp1:a≤pv) (hp2:pv<b) (hb:b≤d.size) (hsz:d.size<2305843009213693952) :
    Calls Tryz.prog 184 #[.slice (some ⟨blk,off,none⟩) d.size cap,.int .i64 a,.int .i64 b,.int .i64 pv] w fun e w'=>e=.returned (.int .i64 (partitionEqual ltInt d a b pv).1)∧aO w blk off (partitionEqual ltInt d a b pv).2 w':=by
 have fW:=qqh (aO.start hH);obtain⟨j0,OO,hj2⟩:∃ j0,j0+1≤b∧b≤j0+1:=⟨b - 1,by omega,by omega⟩;have hjb:b - 1=j0:=(by omega);have E0:=qqh (show partitionEqual ltInt d a b pv=partEqLoop ltInt a (a+1) j0 (swp d a pv) by unfold partitionEqual;rw [hjb]);clear hH hjb;go_enter Tryz.func184,Tryz.ntmps184;obtain⟨G,hG,j7,nj⟩:=fW.out.cells rfl;have HG:=qqh hG;clear hG;have pT:(w.setCell ⟨blk,off+a,none⟩ (.int .i32 (G pv))).cell? ⟨blk,off+pv,none⟩=some (.int .i32 (G pv)):=lU j7 (by omega) (by omega);have H6:(w.setCell ⟨blk,off+a,none⟩ (.int .i32 (G pv))).drew.cell? ⟨blk,off+pv,none⟩=some (.int .i32 (G pv)):=pT;go_upto_region 1 with fail;go_cut [] (fun wx=>aO w blk off (swp d a pv) wx);case first=>
  go_region
  all_goals
    go_wp2
    go_meet
    exact(fW.out.drewN _).swap HG.out (j:=a) (k:=pv) (by omega) (by omega)
 case rest=>
 have gX:=qqh hcut;clear hcut j7 nj pT H6 HG;have yf:(swp d a pv).size=d.size:=(by rw [Sort.swp_size]);generalize DB:partEqLoop ltInt a (a+1) j0 (swp d a pv)=res at E0;generalize swp d a pv=d1 at *;have j6:=qqh DB;clear DB fW;have B8:((b:Int) - 1)=(j0:Int):=(by omega);go_wp2;go_loopw [9,10] (Xh w blk off a b d.size res) (fun vi vj _=>((intOf vj)+1 - (intOf vi)).toNat);(case atStart=>exact⟨a+1,j0,d1,by go_num,by go_num,by omega,by omega,by omega,yf,gX.out,j6.out⟩);obtain⟨i,j,dj,rfl,rfl,hai,aa1,hjb,yf,hrow,hP⟩:=hrel;have yj:=qqh hrow;have HP:=qqh hP;clear hrow hP;go_upto_block 2 with fail;go_cut [9] (fun s wx=>∃ x:Nat,s=.int .i64 x∧i≤x∧x≤j+2∧aO w blk off dj wx∧scanUp (fun x=>!ltInt dj[a]! x) dj j i=x);case first=>
  go_wp2;go_loopw [9] (fun vi wx=>∃ x:Nat,vi=.int .i64 x∧i≤x∧x≤j+2∧aO w blk off dj wx∧scanUp (fun x=>!ltInt dj[a]! x) dj j x=scanUp (fun x=>!ltInt dj[a]! x) dj j i) (fun vi _=>j+1 - (intOf vi).toNat);(case atStart=>exact⟨i,rfl,qql,by omega,yj.out,rfl⟩);obtain⟨x,rfl,hx1,hx2,hrow,hS⟩:=hrel;obtain⟨G,hG,j7,nj⟩:=hrow.cells yf;have eU:=qqh hrow;have HG:=qqh hG;have HS:=qqh hS;clear hrow hG hS;go_wp2;by_cases hij:x≤j
  ·go_quiet (first | (go_at_call 183;refine Calls.quiet_of_same (bY _ _ _)));cases hl:ltInt (G a) (G x)with
   | false=>
    have HM:=qqh ((AL (p:=(fun x=>!ltInt dj[a]! x)) (d:=dj) hij (by show(!ltInt dj[a]! dj[x]!)=true;rw [← HG.out,← HG.out,hl];rfl)).symm.trans HS.out);go_wp2;exact⟨⟨x+1,by go_num,by omega,by omega,eU.out.drewN _,HM.out⟩,by simp only [intOf];omega⟩
   | true=>
    have HM:=qqh ((HS.out.symm.trans (tJ (p:=(fun x=>!ltInt dj[a]! x)) (d:=dj) (.inr (by show(!ltInt dj[a]! dj[x]!)=false;rw [← HG.out,← HG.out,hl];rfl)))));go_wp2;go_meet;exact⟨x,rfl,hx1,hx2,eU.out.drewN _,HM.out⟩
  have hdf:decide ((x:Int)≤(j:Int))=false:=(by simp;omega);have HM:=qqh ((HS.out.symm.trans (tJ (p:=(fun x=>!ltInt dj[a]! x)) (d:=dj) (.inl hij))));go_quiet (first | (go_at_call 183;refine Calls.quiet_of_same (bY _ _ _)));go_wp2;go_meet;exact⟨x,rfl,hx1,hx2,eU.out.drewN _,HM.out⟩
 case rest=>
 obtain⟨i3,rfl,SN,ab6,hrow,Bk⟩:=hcut;have pV:=qqh hrow;clear hrow;go_upto_block 4 with fail;go_cut [10] (fun s wx=>∃ x:Nat,s=.int .i64 x∧i3≤x+2∧x≤j∧aO w blk off dj wx∧scanDown (fun x=>ltInt dj[a]! x) dj i3 j=x);case first=>
  go_wp2;go_loopw [10] (fun vi wx=>∃ x:Nat,vi=.int .i64 x∧i3≤x+2∧x≤j∧aO w blk off dj wx∧scanDown (fun x=>ltInt dj[a]! x) dj i3 x=scanDown (fun x=>ltInt dj[a]! x) dj i3 j) (fun vi _=>(intOf vi).toNat);(case atStart=>exact⟨j,rfl,by omega,qql,pV.out,rfl⟩);obtain⟨x,rfl,hx1,hx2,hrow,hS⟩:=hrel;obtain⟨G,hG,j7,nj⟩:=hrow.cells yf;have eU:=qqh hrow;have HG:=qqh hG;have HS:=qqh hS;clear hrow hG hS;go_wp2;by_cases hij:i3≤x
  ·go_quiet (first | (go_at_call 183;refine Calls.quiet_of_same (bY _ _ _)));cases hl:ltInt (G a) (G x)with
   | true=>
    have HM:=qqh ((xP (p:=(fun x=>ltInt dj[a]! x)) (d:=dj) hij (by omega) (by show ltInt dj[a]! dj[x]! = true;rw [← HG.out,← HG.out,hl])).symm.trans HS.out);go_wp2;exact⟨⟨x - 1,by go_num,by omega,by omega,eU.out.drewN _,HM.out⟩,by simp only [intOf];omega⟩
   | false=>
    have HM:=qqh ((HS.out.symm.trans (o8 (p:=(fun x=>ltInt dj[a]! x)) (d:=dj) (.inr (by show ltInt dj[a]! dj[x]! = false;rw [← HG.out,← HG.out,hl])))));go_wp2;go_meet;exact⟨x,rfl,hx1,hx2,eU.out.drewN _,HM.out⟩
  have hdf:decide ((i3:Int)≤(x:Int))=false:=(by simp;omega);have HM:=qqh ((HS.out.symm.trans (o8 (p:=(fun x=>ltInt dj[a]! x)) (d:=dj) (.inl hij))));go_quiet (first | (go_at_call 183;refine Calls.quiet_of_same (bY _ _ _)));go_wp2;go_meet;exact⟨x,rfl,hx1,hx2,eU.out.drewN _,HM.out⟩
 case rest=>
 obtain⟨j3,rfl,aam,Sg,hrow,By⟩:=hcut;have TB:=qqh hrow;clear hrow;by_cases Ni:j3<i3
 ·have HM:=qqh (show partitionEqual ltInt d a b pv=(i3,dj) by rw [E0.out,← HP.out];exact Tz Bk By Ni);clear Bk By;go_wp2_with fail;go_ret;rw [HM.out];exact⟨rfl,TB.out⟩
 have HM:=qqh (show partEqLoop ltInt a (i3+1) (j3 - 1) (swp dj i3 j3)=res by rw [← HP.out];exact(PE Bk By Ni SN Sg).symm);clear Bk By;obtain⟨G,hG,j7,nj⟩:=TB.out.cells yf;have HG:=qqh hG;clear hG;have pT:(wc.setCell ⟨blk,off+i3,none⟩ (.int .i32 (G j3))).cell? ⟨blk,off+j3,none⟩=some (.int .i32 (G j3)):=lU j7 (by omega) (by omega);have H6:(wc.setCell ⟨blk,off+i3,none⟩ (.int .i32 (G j3))).drew.cell? ⟨blk,off+j3,none⟩=some (.int .i32 (G j3)):=pT;go_upto_region 8 with fail;go_cut [] (fun wx=>aO w blk off (swp dj i3 j3) wx);case first=>
  go_region
  all_goals
    go_wp2
    go_meet
    exact(TB.out.drewN _).swap HG.out (j:=i3) (k:=j3) (by omega) (by omega)
 case rest=>
 have nP:=qqh hcut;clear hcut j7 nj pT H6 HG;have hsE:(swp dj i3 j3).size=d.size:=(by rw [Sort.swp_size];exact yf);go_wp2_with fail;exact⟨⟨i3+1,j3 - 1,_,by go_num,by go_num,by omega,by omega,by omega,hsE,nP.out,HM.out⟩,by simp only [intOf];omega⟩
def tQ:Prop:=∀ (blk off cap a b sz:Nat) (d:Array Int) (w:World),d.size=sz→fO w blk off d→a+12<b→b≤sz→sz<2305843009213693952 →
  Calls Tryz.prog 179 #[.slice (some ⟨blk,off,none⟩) sz cap,.int .i64 a,.int .i64 b] w fun e w'=>e=.returned (.tuple #[])∧∃ d',PermIn a b d d'∧aO w blk off d' w'
def Bj (m:Nat):Prop:=∀ (blk off cap a b ej sz:Nat) (d:Array Int) (w:World),b≤a+m→d.size=sz→fO w blk off d→a≤b→b≤sz→sz<2305843009213693952→ej<2305843009213693952→Sort.Below ltInt a b d →
  Calls Tryz.prog 157 #[.slice (some ⟨blk,off,none⟩) sz cap,.int .i64 a,.int .i64 b,.int .i64 ej] w fun e w'=>e=.returned (.tuple #[])∧∃ d',PermIn a b d d'∧SortedIn ltInt a b d'∧aO w blk off d' w'
def VD (w:World) (blk off a b sz:Nat) (d:Array Int) (va vb vl v8 v9:Value) (wr:World):Prop :=
  ∃ (a1 b1 l1:Nat) (wb wp:Bool) (d1:Array Int),va=.int .i64 a1∧vb=.int .i64 b1∧vl=.int .i64 l1∧v8=.bool wb∧v9=.bool wp∧a≤a1∧a1≤b1∧b1≤b∧d1.size=sz∧l1<2305843009213693952∧Sort.Below ltInt a1 b1 d1∧aO w blk off d1 wr ∧
    ∀ R,PermIn a1 b1 d1 R→SortedIn ltInt a1 b1 R→PermIn a b d R∧SortedIn ltInt a b R
theorem rI:SWO ltInt where
  irrefl:=fun x=>by simp [ltInt]
  trans:=fun x y z h1 h2=>by simp [ltInt]at *;omega
  ntrans:=fun x y z h1 h2=>by simp [ltInt]at *;omega
theorem N1 (AQ:tQ) (m:Nat) (ih:∀ k,k<m→Bj k):Bj m:=by
 intro blk off cap a b ej sz d w hm hs hH hab hb hsz sB hB;have Y0:=qqh AQ;have Ub:=qqh ih;have fW:=qqh (aO.start hH);have cy:=qqh hB;have HS0:=qqh hs;clear AQ ih hH hB hs;go_enter Tryz.func157,Tryz.ntmps157;go_wp2;go_loopw [1,2,3,8,9] (VD w blk off a b sz d) (fun va vb _ _ _ _=>((intOf vb) - (intOf va)).toNat);(case atStart=>exact⟨a,b,ej,true,true,d,rfl,rfl,rfl,rfl,rfl,qql,hab,qql,HS0.out,sB,cy.out,fW.out,fun R h1 h2=>⟨h1,h2⟩⟩);obtain⟨a1,b1,l1,wb,wp,d1,rfl,rfl,rfl,rfl,rfl,mI,P5,aP,hs1,iJ,TH,hrow,hR⟩:=hrel;have gX:=qqh hrow;have oH:=qqh TH;have iT:=qqh hR;have eN:=qqh hs1;clear hrow TH hR hs1 fW cy;obtain⟨n,TU,hn2⟩:∃ n,a1+n≤b1∧b1≤a1+n:=⟨b1 - a1,by omega,by omega⟩;have hba:((b1:Int) - (a1:Int))=(n:Int):=(by omega);by_cases h12:n≤12
 ·have HI:=qqh (show Calls Tryz.prog 177 #[.slice (some ⟨blk,off,none⟩) sz cap,.int .i64 a1,.int .i64 b1] wr fun e w'=>e=.returned (.tuple #[])∧aO wr blk off (insertionSort ltInt d1 a1 b1) w' by
   have:=M5 blk off cap a1 b1 d1 wr gX.out.row P5 (by rw [eN.out];omega) (by rw [eN.out];omega);rwa [eN.out]at this)
  have hsp:=insertionSort_holds (lt:=ltInt) rI d1 a1 b1 P5 (by rw [eN.out];omega);have mF:=qqh (iT.out _ hsp.1 hsp.2);have HSZ:=qqh hsp.1.1;clear hsp;go_wp2_with fail;refine HI.out.mono ?_;rintro e w2 ⟨rfl,hr⟩;have pR:=qqh (gX.out.trans hr HSZ.out);clear hr;go_wp2_with fail;refine bodyPost_ret (results_none (by rfl) _ _ _) (by rfl) ⟨rfl,_,mF.out.1,mF.out.2,pR.out⟩
 by_cases Ck:l1=0
 ·have aaU:((l1:Int) == 0)=true:=(by simp;omega);have HI:=qqh (show Calls Tryz.prog 178 #[.slice (some ⟨blk,off,none⟩) sz cap,.int .i64 a1,.int .i64 b1] wr fun e w'=>e=.returned (.tuple #[])∧aO wr blk off (heapSort ltInt d1 a1 b1) w' by
   have:=Kl blk off cap a1 b1 n d1 wr gX.out.row (by omega) (by omega) (by rw [eN.out];omega) (by rw [eN.out];omega);rwa [eN.out]at this)
  have hsp:=heapSort_holds (lt:=ltInt) rI d1 a1 b1 P5 (by rw [eN.out];omega);have mF:=qqh (iT.out _ hsp.1 hsp.2);have HSZ:=qqh hsp.1.1;clear hsp Ck;go_wp2_with fail;refine HI.out.mono ?_;rintro e w2 ⟨rfl,hr⟩;have pR:=qqh (gX.out.trans hr HSZ.out);clear hr;go_wp2_with fail;refine bodyPost_ret (results_none (by rfl) _ _ _) (by rfl) ⟨rfl,_,mF.out.1,mF.out.2,pR.out⟩
 have aaU:((l1:Int) == 0)=false:=(by simp;omega);have hlp:1≤l1:=(by omega);clear Ck;go_upto_if 35 with fail;go_cut [3] (fun s3 wx=>∃ (l2:Nat) (d2:Array Int),s3=.int .i64 l2∧l2<2305843009213693952∧PermIn a1 b1 d1 d2∧aO w blk off d2 wx);case first=>
  cases wb with
  | true=>
   go_wp2_with fail;go_meet;exact⟨l1,d1,rfl,iJ,permIn_refl _ _ _,gX.out⟩
  | false=>
   have HI:=qqh (Y0.out blk off cap a1 b1 sz d1 wr eN.out gX.out.row (by omega) (by omega) hsz);go_wp2_with fail;refine HI.out.mono ?_;rintro e w2 ⟨rfl,d2,hp2,hr⟩;have pR:=qqh (gX.out.trans hr hp2.1);have KZ:=qqh hp2;clear hr hp2;go_wp2_with fail;go_meet;exact⟨l1 - 1,d2,by go_num,by omega,KZ.out,pR.out⟩
 case rest=>
 obtain⟨l2,d2,rfl,gh,hp2,hrow⟩:=hcut;have iz:=qqh hrow;have kz:=qqh hp2;have lC:=qqh (hp2.1.trans eN.out);clear hrow hp2;have VR:=qqh (Gt blk off cap a1 b1 sz d2 wc lC.out iz.out.row (by omega) (by omega) hsz);go_wp2_with fail;refine VR.out.mono ?_;rintro e w3 ⟨⟨pv,hnt,rfl,abz,tv⟩,bM⟩;have qD:=qqh (iz.out.below bM);clear bM;go_upto_if 50 with fail;go_cut [11,12] (fun Va s12 wx=>∃ (p2 h2:Nat) (d3:Array Int),Va=.int .i64 p2∧s12=.int .i64 h2∧a1≤p2∧p2<b1∧PermIn a1 b1 d2 d3∧aO w blk off d3 wx);case first=>
  by_cases hh:hnt=2
  ·have hh':((hnt:Int) == 2)=true:=(by simp;omega);have HI:=qqh (show Calls Tryz.prog 181 #[.slice (some ⟨blk,off,none⟩) sz cap,.int .i64 a1,.int .i64 b1] w3 fun e w'=>e=.returned (.tuple #[])∧aO w3 blk off (reverseRange d2 a1 b1) w' by
    have:=NX blk off cap a1 b1 d2 w3 qD.out.row (by omega) (by rw [lC.out];omega) (by rw [lC.out];omega);rwa [lC.out]at this)
   have KZ:=qqh (reverseRange_holds d2 a1 b1 P5 (by rw [lC.out];omega));clear hh;go_wp2_with fail;refine HI.out.mono ?_;rintro e w4 ⟨rfl,hr⟩;have pR:=qqh (qD.out.trans hr KZ.out.1);clear hr;go_wp2_with fail;go_meet;exact⟨b1 - 1 - (pv - a1),1,_,by congr 1;omega,rfl,by omega,by omega,KZ.out,pR.out⟩
  have hh':((hnt:Int) == 2)=false:=(by simp;omega);clear hh;go_wp2_with fail;go_meet;exact⟨pv,hnt,d2,rfl,rfl,abz,tv,permIn_refl _ _ _,qD.out⟩
 case rest=>
 obtain⟨p2,h2,d3,rfl,rfl,Qi,Qd,Ue,hrow⟩:=hcut;have EN:=qqh hrow;have i7:=qqh (permIn_trans _ _ _ _ _ kz.out Ue);have KD:=qqh (Ue.1.trans lC.out);have bN:=qqh (oH.out.perm (by rw [eN.out];omega) i7.out);clear hrow Ue iz qD kz VR lC;go_upto_region 15 with fail;go_cut [68] (fun s68 wx=>∃ q:Bool,s68=.bool q∧wx=wc);case first=>
  by_cases hh:h2=1
  ·have hh':((h2:Int) == 1)=true:=(by simp;omega);clear hh;cases wb <;> cases wp
   all_goals
     go_wp2_with fail
     go_meet
     exact⟨_,rfl,rfl⟩
  have hh':((h2:Int) == 1)=false:=(by simp;omega);clear hh;cases wb <;> cases wp
  all_goals
    go_wp2_with fail
    go_meet
    exact⟨_,rfl,rfl⟩
 case rest=>
 obtain⟨q,rfl,rfl⟩:=hcut;go_upto_if 68 with fail;go_cut [] (fun wx=>∃ d4:Array Int,PermIn a1 b1 d3 d4∧aO w blk off d4 wx);case first=>
  cases q with
  | false=>
   go_wp2_with fail;go_meet;exact⟨d3,permIn_refl _ _ _,EN.out⟩
  | true=>
   have HI:=qqh (show Calls Tryz.prog 182 #[.slice (some ⟨blk,off,none⟩) sz cap,.int .i64 a1,.int .i64 b1] wc fun e w'=>e=.returned (.bool (partialInsertionSort ltInt d3 a1 b1).2)∧aO wc blk off (partialInsertionSort ltInt d3 a1 b1).1 w' by
    have:=Ix blk off cap a1 b1 d3 wc EN.out.row (by omega) (by rw [KD.out];omega) (by rw [KD.out];omega);rwa [KD.out]at this)
   have pS:=qqh (partialInsertionSort_holds (lt:=ltInt) rI d3 a1 b1 (by omega) (by rw [KD.out];omega) bN.out);generalize partialInsertionSort ltInt d3 a1 b1=res at *;obtain⟨d4,fin⟩:=res;dsimp only at *;go_wp2_with fail;refine HI.out.mono ?_;rintro e w5 ⟨rfl,hr⟩;have pR:=qqh (EN.out.trans hr pS.out.1.1);clear hr HI;cases fin with
   | true=>
    have mF:=qqh (iT.out d4 (permIn_trans _ _ _ _ _ i7.out pS.out.1) (pS.out.2 rfl));go_wp2_with fail;refine bodyPost_ret (results_none (by rfl) _ _ _) (by rfl) ⟨rfl,_,mF.out.1,mF.out.2,pR.out⟩
   | false=>
    go_wp2_with fail;go_meet;exact⟨d4,pS.out.1,pR.out⟩
 case rest=>
 obtain⟨d4,Zh,hrow⟩:=hcut;have uL:=qqh hrow;have Sz:=qqh (permIn_trans _ _ _ _ _ i7.out Zh);have xq:=qqh (Zh.1.trans KD.out);have bW:=qqh (oH.out.perm (by rw [eN.out];omega) Sz.out);clear hrow Zh EN i7 KD bN;go_upto_region 17 with fail;go_cut [87] (fun s87 wx=>∃ q:Bool,s87=.bool q∧aO w blk off d4 wx∧(q=true→0<a1∧ltInt d4[a1 - 1]! d4[p2]! = false));case first=>
  obtain⟨G,hG,j7,nj⟩:=uL.out.cells xq.out;have HG:=qqh hG;clear hG;by_cases ha0:0<a1
  ·have hdf:decide ((0:Int)<(a1:Int))=true:=(by simp;omega);go_quiet (first | (go_at_call 183;refine Calls.quiet_of_same (bY _ _ _)));go_wp2;go_meet;refine⟨!(ltInt (G (a1 - 1)) (G p2)),rfl,uL.out.drewN _,fun h=>⟨ha0,?_⟩⟩;rw [← HG.out,← HG.out];simpa using h
  have hdf:decide ((0:Int)<(a1:Int))=false:=(by simp;omega);go_quiet (first | (go_at_call 183;refine Calls.quiet_of_same (bY _ _ _)));go_wp2;go_meet;exact⟨false,rfl,uL.out.drewN _,fun h=>by cases h⟩
 case rest=>
 obtain⟨q,rfl,hrow,hq⟩:=hcut;have TW:=qqh hrow;clear hrow uL;cases q with
 | true=>
  obtain⟨ha0,hnl⟩:=hq rfl;have HI:=qqh (show Calls Tryz.prog 184 #[.slice (some ⟨blk,off,none⟩) sz cap,.int .i64 a1,.int .i64 b1,.int .i64 p2] wc fun e w'=>e=.returned (.int .i64 (partitionEqual ltInt d4 a1 b1 p2).1)∧aO wc blk off (partitionEqual ltInt d4 a1 b1 p2).2 w' by
   have:=DW blk off cap a1 b1 p2 d4 wc TW.out.row Qi Qd (by rw [xq.out];omega) (by rw [xq.out];omega);rwa [xq.out]at this)
  generalize hx:partitionEqual ltInt d4 a1 b1 p2=res at *;obtain⟨mid,d5⟩:=res;dsimp only at *;have Ur:=round_eq rI (partitionEqual_holds ltInt) ha0 Qi Qd (by rw [xq.out];omega) bW.out hnl hx;obtain⟨Tr,hm2,KW,eS,Fs⟩:=Ur;have uB:=qqh (KW.trans xq.out);have R9:=qqh KW;have eD:=qqh eS;have lF:=qqh (fun R h1 h2=>iT.out R (permIn_trans _ _ _ _ _ Sz.out (Fs R h1 h2).1) (Fs R h1 h2).2);clear hx KW eS Fs hq hnl;go_wp2_with fail;refine HI.out.mono ?_;rintro e w5 ⟨rfl,hr⟩;have pR:=qqh (TW.out.trans hr R9.out);clear hr;go_wp2_with fail;exact⟨⟨mid,b1,l2,wb,wp,d5,rfl,rfl,rfl,rfl,rfl,by omega,hm2,aP,uB.out,gh,eD.out,pR.out,lF.out⟩,by simp only [intOf];omega⟩
 | false=>
  have HI:=qqh (show Calls Tryz.prog 185 #[.slice (some ⟨blk,off,none⟩) sz cap,.int .i64 a1,.int .i64 b1,.int .i64 p2] wc fun e w'=>e=.returned (.tuple #[.int .i64 (partition ltInt d4 a1 b1 p2).1,.bool (partition ltInt d4 a1 b1 p2).2.1])∧aO wc blk off (partition ltInt d4 a1 b1 p2).2.2 w' by
   have:=xo blk off cap a1 b1 p2 d4 wc TW.out.row Qi Qd (by rw [xq.out];omega) (by rw [xq.out];omega);rwa [xq.out]at this)
  generalize hx:partition ltInt d4 a1 b1 p2=res at *;obtain⟨mid,ap,d5⟩:=res;dsimp only at *;have Ur:=round_part rI (partition_holds ltInt) Qi Qd (by rw [xq.out];omega) bW.out hx;obtain⟨Tr,hm2,KW,eP,UN,htl,htr⟩:=Ur;have uB:=qqh (KW.trans xq.out);have R9:=qqh KW;have vv:=qqh eP;have QJ:=qqh UN;have Ie:=qqh htl;have qz:=qqh htr;clear hx KW eP UN htl htr hq;go_wp2_with fail;refine HI.out.mono ?_;rintro e w5 ⟨rfl,hr⟩;have pR:=qqh (TW.out.trans hr R9.out);clear hr;by_cases hlr:mid - a1<b1 - mid
  ·have hdl:(mid:Int) - (a1:Int)<(b1:Int) - (mid:Int):=(by omega);obtain⟨q8,h81,h82⟩:∃ q8,8*q8≤n∧n≤8*q8+7:=⟨n / 8,by omega,by omega⟩;have X8:(n:Int) / 8=(q8:Int):=(by omega);have Tt:=qqh (fun(va:Int) (OU:va=((a1:Nat):Int)) (w':World) (hw:fO w' blk off d5)=>(show Calls Tryz.prog 157 #[.slice (some ⟨blk,off,none⟩) sz cap,.int .i64 va,.int .i64 mid,.int .i64 l2] w' fun e w2=>e=.returned (.tuple #[])∧∃ d',PermIn (a1) mid d5 d'∧SortedIn ltInt (a1) mid d'∧aO w' blk off d' w2 by subst OU;exact Ub.out (mid - a1) (by omega) blk off cap (a1) mid l2 sz d5 w' (by omega) uB.out hw (by omega) (by omega) hsz gh vv.out));clear hlr;go_wp2_with fail;refine(Tt.out _ (by first | rfl | omega) _ pR.out.row).mono ?_;rintro e w6 ⟨rfl,d6,Et,MJ,Pk⟩;have RR:=qqh (pR.out.trans Pk Et.1);have Fz:=qqh (Et.1.trans uB.out);obtain⟨fG,TJ⟩:=Ie.out d6 Et MJ;have iQ:=qqh fG;have lF:=qqh (fun R h1 h2=>iT.out R (permIn_trans _ _ _ _ _ Sz.out (TJ R h1 h2).1) (TJ R h1 h2).2);clear Et MJ Pk fG TJ;go_wp2_with fail;exact⟨⟨mid+1,b1,l2,_,ap,d6,by go_num,rfl,rfl,rfl,rfl,by omega,by omega,aP,Fz.out,gh,iQ.out,RR.out,lF.out⟩,by simp only [intOf];omega⟩
  have hdl:¬(mid:Int) - (a1:Int)<(b1:Int) - (mid:Int):=(by omega);obtain⟨q8,h81,h82⟩:∃ q8,8*q8≤n∧n≤8*q8+7:=⟨n / 8,by omega,by omega⟩;have X8:(n:Int) / 8=(q8:Int):=(by omega);have Tt:=qqh (fun(va:Int) (OU:va=((mid+1:Nat):Int)) (w':World) (hw:fO w' blk off d5)=>(show Calls Tryz.prog 157 #[.slice (some ⟨blk,off,none⟩) sz cap,.int .i64 va,.int .i64 b1,.int .i64 l2] w' fun e w2=>e=.returned (.tuple #[])∧∃ d',PermIn (mid+1) b1 d5 d'∧SortedIn ltInt (mid+1) b1 d'∧aO w' blk off d' w2 by subst OU;exact Ub.out (b1 - (mid+1)) (by omega) blk off cap (mid+1) b1 l2 sz d5 w' (by omega) uB.out hw (by omega) (by omega) hsz gh QJ.out));clear hlr;go_wp2_with fail;refine(Tt.out _ (by first | rfl | omega) _ pR.out.row).mono ?_;rintro e w6 ⟨rfl,d6,Et,MJ,Pk⟩;have RR:=qqh (pR.out.trans Pk Et.1);have Fz:=qqh (Et.1.trans uB.out);obtain⟨fG,TJ⟩:=qz.out d6 Et MJ;have iQ:=qqh fG;have lF:=qqh (fun R h1 h2=>iT.out R (permIn_trans _ _ _ _ _ Sz.out (TJ R h1 h2).1) (TJ R h1 h2).2);clear Et MJ Pk fG TJ;go_wp2_with fail;exact⟨⟨a1,mid,l2,_,ap,d6,rfl,rfl,rfl,rfl,rfl,mI,by omega,by omega,Fz.out,gh,iQ.out,RR.out,lF.out⟩,by simp only [intOf];omega⟩
theorem Ng (AQ:tQ):∀ m,Bj m:=by
 intro m;induction m using Nat.strongRecOn with
 | _ m ih=>exact N1 AQ m (fun k hk=>ih k hk)
theorem wrap_u64 {x:Int} (h0:0≤x) (h1:x<18446744073709551616):IntKind.u64.wrap x=x:=by
 simp [IntKind.wrap,IntKind.bits,IntKind.signed];omega
theorem Nl (n:Nat) (w:World) (h1:0<n) (h2:n<2305843009213693952):Calls Tryz.prog 188 #[.int .i64 n] w fun e w'=>(∃ p:Nat,e=.returned (.int .u64 p)∧1≤p∧p≤2*n)∧w'=w:=by
 have HL:=qqh (Tryz.bits_Len (n:Int) w (by omega) (by omega));obtain⟨b1,b2,b3⟩:=Lib.bitLenAux_bounds 64 n (by omega) (by omega);obtain⟨p,hp⟩:∃ p:Nat,p=2 ^ Lib.bitLen n:=⟨_,rfl⟩;have hk:Lib.bitLen n≤61:=Lib.bitLen_le n 61 (by omega) (by omega);have hpb:p≤2*n:=by
  have e:Lib.bitLen n=(Lib.bitLen n - 1)+1:=by
   have:1≤Lib.bitLen n:=b1;omega
  rw [hp,e,Nat.pow_succ];have:2 ^ (Lib.bitLen n - 1)≤n:=b2;omega
 have hp1:1≤p:=(by rw [hp];exact Nat.one_le_two_pow);have HW:=qqh (show IntKind.u64.wrap ((2:Int) ^ min (Lib.bitLen n) 64)=(p:Int) by
  rw [show min (Lib.bitLen n) 64=Lib.bitLen n by omega];have e:((2:Int) ^ Lib.bitLen n)=(p:Int):=(by rw [hp];push_cast;rfl);rw [e];exact wrap_u64 (by omega) (by omega))
 clear b1 b2 b3 hp hk;go_enter Tryz.func188,Tryz.ntmps188;go_wp2_with fail;refine HL.out.mono ?_;rintro e w1 ⟨rfl,rfl⟩;go_wp2_with fail;go_ret;exact⟨⟨p,by rw [HW.out];rfl,hp1,hpb⟩,rfl⟩
theorem MP (rb:Nat) (v:Int) (w:World) (hb:an w rb 240 #[.int .u64 v]):Calls Tryz.prog 189 #[.pointer (some ⟨rb,0,none⟩)] w fun e w'=>∃ r:Int,e=.returned (.int .u64 r)∧an w' rb 240 #[.int .u64 r]∧Rest w rb w':=by
 have HB:=qqh hb;have HT:=qqh (Rest.refl w rb);clear hb;go_enter Tryz.func189,Tryz.ntmps189;go_upto_region 1 with fail;go_cut [] (fun wx=>∃ r:Int,an wx rb 240 #[.int .u64 r]∧Rest w rb wx);case first=>
  have c0:w.cell? ⟨rb,0,none⟩=some (.int .u64 v):=HB.out.cell 0;have f0:=HB.out.frozen 0;go_region
  all_goals
    go_wp2
    go_meet
    exact⟨_,(HB.out.drewN 1).put 0 _,Rest.set (Rest.drewN HT.out 1)⟩
 case rest=>
 clear HB HT;obtain⟨v,hb,ht⟩:=hcut;have HB:=qqh hb;have HT:=qqh ht;clear hb ht;go_upto_region 2 with fail;go_cut [] (fun wx=>∃ r:Int,an wx rb 240 #[.int .u64 r]∧Rest w rb wx);case first=>
  have c0:wc.cell? ⟨rb,0,none⟩=some (.int .u64 v):=HB.out.cell 0;have f0:=HB.out.frozen 0;go_region
  all_goals
    go_wp2
    go_meet
    exact⟨_,(HB.out.drewN 1).put 0 _,Rest.set (Rest.drewN HT.out 1)⟩
 case rest=>
 clear HB HT;obtain⟨v,hb,ht⟩:=hcut;have HB:=qqh hb;have HT:=qqh ht;clear hb ht;go_upto_region 3 with fail;go_cut [] (fun wx=>∃ r:Int,an wx rb 240 #[.int .u64 r]∧Rest w rb wx);case first=>
  have c0:wc.cell? ⟨rb,0,none⟩=some (.int .u64 v):=HB.out.cell 0;have f0:=HB.out.frozen 0;go_region
  all_goals
    go_wp2
    go_meet
    exact⟨_,(HB.out.drewN 1).put 0 _,Rest.set (Rest.drewN HT.out 1)⟩
 case rest=>
 clear HB HT;obtain⟨v,hb,ht⟩:=hcut;have HB:=qqh hb;have HT:=qqh ht;clear hb ht;have c0:wc.cell? ⟨rb,0,none⟩=some (.int .u64 v):=HB.out.cell 0;go_wp2_with fail;go_ret;exact⟨v,rfl,HB.out,HT.out⟩
theorem aO.WJ {w wr w2:World} {blk off rb:Nat} {d:Array Int} (h:aO w blk off d wr) (h2:Rest wr rb w2) (h3:w.heap.size≤rb) (h4:blk<w.heap.size):aO w blk off d w2:=by
 obtain⟨c,c',e,g1,g2,g3,g4,g5,g6⟩:=h;exact⟨c,c',e,g1,(h2.2.2.2.2 blk g2.lt (by omega)).trans g2,g3,g4,g5,Nat.le_trans g6.1 h2.1,h2.2.1.trans g6.2.1,h2.2.2.1.trans g6.2.2.1,h2.2.2.2.1.trans g6.2.2.2.1,fun k hk hne=>(h2.2.2.2.2 k (by have:=g6.1;omega) (by omega)).trans (g6.2.2.2.2 k hk hne)⟩
theorem Jr (r:Int) {m:Nat} (hm:m<18446744073709551616):0≤bits .and .u64 r m∧bits .and .u64 r m≤m:=by
 have h1:(BitVec.ofInt 64 r &&& BitVec.ofInt 64 (m:Int)).toNat≤(BitVec.ofInt 64 (m:Int)).toNat:=by
  rw [BitVec.toNat_and];exact Nat.and_le_right
 have h2:(BitVec.ofInt 64 (m:Int)).toNat=m:=by
  rw [BitVec.toNat_ofInt];omega
 have h3:bits .and .u64 r m=((BitVec.ofInt 64 r &&& BitVec.ofInt 64 (m:Int)).toNat:Int):=by
  show IntKind.u64.wrap ((BitVec.ofInt 64 r &&& BitVec.ofInt 64 (m:Int)).toNat:Int)=_;exact wrap_u64 (by omega) (by omega)
 rw [h3];omega
theorem uu {w:World} {g g2 i:Nat} {u:Value} {t:TypeId} {cs:Array Value} (h:an w g2 t cs) (hne:g2≠g):an (w.setCell ⟨g,i,none⟩ u) g2 t cs:=by
 unfold an at h ⊢;rw [Below.heap_setCell _ _ _ _ hne];exact h
def WM (w:World) (blk off a b sz rb i0:Nat) (d:Array Int) (vi:Value) (wr:World):Prop :=
  ∃ (t i:Nat) (d1:Array Int),vi=.int .i64 i∧i+t=i0+3∧i0≤i∧d1.size=sz∧PermIn a b d d1∧aO w blk off d1 wr∧∃ v:Int,an wr rb 240 #[.int .u64 v]
theorem Fm:tQ:=by
 intro blk off cap a b sz d w hs hH hab hb hsz;obtain⟨l,iJ,gh⟩:∃ l,b≤a+l∧a+l≤b:=⟨b - a,by omega,by omega⟩;obtain⟨q,hq1,C8⟩:∃ q,4*q≤l∧l≤4*q+3:=⟨l / 4,by omega,by omega⟩;have hba:((b:Int) - (a:Int))=(l:Int):=(by omega);have Zw:((l:Int) / 4)=(q:Int):=(by omega);obtain⟨i0,hi1,hi2⟩:∃ i0,i0+1≤a+q*2∧a+q*2≤i0+1:=⟨a+q*2 - 1,by omega,by omega⟩;have HS:=qqh hs;have IX:=(show blk<w.heap.size by obtain⟨c,e,h1,_⟩:=hH;exact h1.lt);have fW:=qqh (aO.start hH);have HNP:=qqh (fun w'=>Nl l w' (by omega) (by omega));clear hs hH;go_enter Tryz.func179,Tryz.ntmps179;go_wp2_with fail;refine(HNP.out _).mono ?_;rintro e w1 ⟨⟨p,rfl,hp1,hp2⟩,rfl⟩;have yj:=qqh (fW.out.below ((Below.refl w.heap.size w).alloc qql (.cells #[.int .u64 l] 240)));have vI:=qqh (an.new w 240 #[.int .u64 l]);clear fW HNP;go_wp2_with fail;go_loopw [9] (WM w blk off a b sz w.heap.size i0 d) (fun vi _=>i0+3 - (intOf vi).toNat);(case atStart=>exact⟨3,i0,d,by congr 1;omega,by omega,qql,HS.out,permIn_refl _ _ _,yj.out,_,vI.out⟩);obtain⟨t,i,d1,rfl,hit,hi0,hs1,hp,hrow,v,aP⟩:=hrel;have gX:=qqh hrow;have EU:=qqh hp;have eN:=qqh hs1;have HX:=qqh (MP w.heap.size v wr aP);clear hrow hp hs1 aP;by_cases ht:t=0
 ·have hgt:i0+3≤i:=(by omega);clear hit ht;go_wp2_with fail;go_end0;exact⟨rfl,d1,EU.out,gX.out⟩
 have hlt:i≤i0+2:=(by omega);clear ht;go_wp2_with fail;refine HX.out.mono ?_;rintro e w2 ⟨r,rfl,aX,i4⟩;have iz:=qqh (gX.out.WJ i4 qql IX);have bf:=qqh aX;clear aX i4;obtain⟨pm,afD,ahu⟩:∃ pm,pm+1≤p∧p≤pm+1:=⟨p - 1,by omega,by omega⟩;have hpe:((p:Int) - 1)=(pm:Int):=(by omega);have tT:=Jr r (m:=pm) (by omega);obtain⟨o,ho⟩:∃ o:Nat,bits .and .u64 r (pm:Int)=(o:Int):=⟨(bits .and .u64 r (pm:Int)).toNat,by omega⟩;have hol:o<2*l:=(by omega);clear tT;go_upto_if 43 with fail;go_cut [10] (fun LV wx=>∃ o1:Nat,LV=.int .i64 o1∧o1<l∧wx=w2);case first=>
  by_cases hge:l≤o
  ·go_wp2_with fail;go_meet;exact⟨o - l,by congr 1;omega,by omega,rfl⟩
  go_wp2_with fail;go_meet;exact⟨o,rfl,by omega,rfl⟩
 case rest=>
 obtain⟨o1,rfl,ZW,rfl⟩:=hcut;clear ho hpe;obtain⟨G,hG,j7,nj⟩:=iz.out.cells eN.out;have HG:=qqh hG;clear hG;have pT:(wc.setCell ⟨blk,off+i,none⟩ (.int .i32 (G (a+o1)))).cell? ⟨blk,off+(a+o1),none⟩=some (.int .i32 (G (a+o1))):=lU j7 (by omega) (by omega);have H6:(wc.setCell ⟨blk,off+i,none⟩ (.int .i32 (G (a+o1)))).drew.cell? ⟨blk,off+(a+o1),none⟩=some (.int .i32 (G (a+o1))):=pT;go_upto_region 10 with fail;have qW:=qqh (permIn_trans _ _ _ _ _ EU.out (swp_permIn d1 a b i (a+o1) (by omega) (by omega) (by omega) (by omega) (by rw [eN.out];omega)));have Oa:=qqh (show(swp d1 i (a+o1)).size=sz by rw [Sort.swp_size];exact eN.out);go_region
 all_goals
   have ET:=qqh (show aO w blk off (swp d1 i (a+o1)) _ from(iz.out.drewN 1).swap HG.out (j:=i) (k:=a+o1) (by have:=eN.out;omega) (by have:=eN.out;omega))
   have oH:=qqh (uu (uu (bf.out.drewN 1) (g:=blk) (i:=off+i) (u:=.int .i32 (G (a+o1))) (by omega)) (g:=blk) (i:=off+(a+o1)) (u:=.int .i32 (G i)) (by omega))
   go_wp2_with fail
   exact⟨⟨t - 1,i+1,_,by go_num,by omega,by omega,Oa.out,qW.out,ET.out,r,oH.out⟩,by simp only [intOf];omega⟩
theorem Gi (blk off cap sz:Nat) (d:Array Int) (w:World) (hs:d.size=sz) (hH:fO w blk off d) (hsz:sz<2305843009213693952) :
    Calls Tryz.prog 145 #[.slice (some ⟨blk,off,none⟩) sz cap] w fun e w'=>e=.returned (.tuple #[])∧∃ d',PermIn 0 sz d d'∧SortedIn ltInt 0 sz d'∧aO w blk off d' w':=by
 have hk:Lib.bitLen sz≤61:=Lib.bitLen_le sz 61 (by omega) (by omega);have HL:=qqh (fun w'=>Tryz.bits_Len (sz:Int) w' (by omega) (by omega));have HP:=qqh (fun ej (h:ej<2305843009213693952)=>Ng Fm sz blk off cap 0 sz ej sz d w (by omega) hs hH (Nat.zero_le _) qql hsz h (.inl rfl));clear hs hH;go_enter Tryz.func145,Tryz.ntmps145;go_wp2_with fail;refine(HL.out _).mono ?_;rintro e w1 ⟨rfl,rfl⟩;go_wp2_with fail;refine(HP.out (Lib.bitLen sz) (by omega)).mono ?_;rintro e w2 ⟨rfl,h⟩;have H:=qqh h;clear h;go_wp2_with fail;go_end0;exact⟨rfl,H.out⟩
end Go.Proofs.YtamkjeipdjbemaaGreatDoor
