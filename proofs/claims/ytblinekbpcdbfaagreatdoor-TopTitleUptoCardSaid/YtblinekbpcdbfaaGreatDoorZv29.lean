/- SortAll -/
import Derived.Test.YtblinekbpcdbfaaGreatDoorZvH
import Derived.Test.YtblinekbpcdbfaaGreatDoorProg
import Derived.Test.YtblinekbpcdbfaaGreatDoorZv4
import Derived.Sort.AssemblyPlain
import Derived.WalkKit
import Derived.BigGuard
import Derived.BigCall
import Derived.CellFam
import Derived.Deep.Draws
import Derived.Deep.QuietTactic
import Derived.BigQuiet
import Derived.Lib.Hide
import Derived.Deep.DeepCutAuto
import Derived.Deep.CutBlock
import Derived.Test.YtblinekbpcdbfaaGreatDoorShelfM
import Derived.Lib.ItoaNum
set_option maxHeartbeats 3200000
set_option maxRecDepth 100000
namespace Go.Proofs.YtblinekbpcdbfaaGreatDoor
open Go.RowKit Go.Sort
def cS (w:World) (blk off:Nat) (d:Array Int):Prop:=∃ (c:Array Value) (e:TypeId),aj w blk e c∧∀ j,j<d.size→c[off+j]? = some (.int .i32 d[j]!)
def Rest (w:World) (blk:Nat) (wr:World):Prop:=w.heap.size≤wr.heap.size∧wr.os=w.os∧wr.tape=w.tape∧wr.output=w.output∧∀ k,k<w.heap.size→k≠blk→wr.heap[k]? = w.heap[k]?
def aA (w:World) (blk off:Nat) (d:Array Int) (wr:World):Prop :=
  ∃ (c c':Array Value) (e:TypeId),aj w blk e c∧aj wr blk e c'∧c'.size=c.size∧(∀ j,j<d.size→c'[off+j]? = some (.int .i32 d[j]!))∧(∀ k,k<off∨off+d.size≤k→c'[k]? = c[k]?)∧Rest w blk wr
section
variable {w wr w2 : World} {blk off : Nat} {d d' : Array Int}
theorem Rest.refl (w:World) (blk:Nat):Rest w blk w:=⟨qql,rfl,rfl,rfl,fun _ _ _=>rfl⟩
theorem Rest.trans (h:Rest w blk wr) (h2:Rest wr blk w2):Rest w blk w2 :=
  ⟨Nat.le_trans h.1 h2.1,h2.2.1.trans h.2.1,h2.2.2.1.trans h.2.2.1,h2.2.2.2.1.trans h.2.2.2.1,fun k hk hne=>(h2.2.2.2.2 k (Nat.lt_of_lt_of_le hk h.1) hne).trans (h.2.2.2.2 k hk hne)⟩
theorem Rest.below (h:Rest w blk wr) (hb:Below wr.heap.size wr w2):Rest w blk w2 :=
  h.trans ⟨hb.size,hb.os,hb.tape,hb.output,fun k hk _=>hb.block k hk⟩
theorem aA.start (h:cS w blk off d):aA w blk off d w:=by
 obtain⟨c,e,h1,h2⟩:=h;exact⟨c,c,e,h1,h1,rfl,h2,fun _ _=>rfl,Rest.refl _ _⟩
theorem aA.row (h:aA w blk off d wr):cS wr blk off d:=by
 obtain⟨c,c',e,_,h1,_,h2,_⟩:=h;exact⟨c',e,h1,h2⟩
theorem aA.rest (h:aA w blk off d wr):Rest w blk wr:=by
 obtain⟨_,_,_,_,_,_,_,_,h⟩:=h;exact h
theorem aA.below (h:aA w blk off d wr) (hb:Below wr.heap.size wr w2):aA w blk off d w2:=by
 obtain⟨c,c',e,h1,h2,h3,h4,h5,h6⟩:=h;exact⟨c,c',e,h1,aj.below h2 hb h2.lt,h3,h4,h5,h6.below hb⟩
theorem aA.drewN (h:aA w blk off d wr) (q:Nat):aA w blk off d (wr.drewN q):=by
 obtain⟨c,c',e,h1,h2,h3,h4,h5,h6⟩:=h;exact⟨c,c',e,h1,h2,h3,h4,h5,h6⟩
theorem aA.cells (h:aA w blk off d wr) {n:Nat} (hs:d.size=n) :
    ∃ G:Nat→Int,(∀ t,G t=d[t]!)∧(∀ t,t<n→wr.cell? ⟨blk,off+t,none⟩=some (.int .i32 (G t)))∧(∀ t,t<n→wr.frozen? ⟨blk,off+t,none⟩=false):=by
 obtain⟨c,c',e,h1,h2,h3,h4,h5,h6⟩:=h;exact⟨fun t=>d[t]!,fun _=>rfl,fun t ht=>(h2.cell _).trans (h4 t (by omega)),fun t _=>h2.frozen _⟩
theorem aA.trans (h:aA w blk off d wr) (h':aA wr blk off d' w2) (hs:d'.size=d.size):aA w blk off d' w2:=by
 obtain⟨c,c',e,h1,h2,h3,h4,h5,h6⟩:=h;obtain⟨k,k',e',g1,g2,g3,g4,g5,g6⟩:=h';have he:some (Obj.cells c' e (0,0))=some (Obj.cells k e' (0,0)):=h2.symm.trans g1;injection he with he;injection he with T9 Yv;subst T9 Yv;exact⟨c,k',e,h1,g2,g3.trans h3,g4,fun i hi=>(g5 i hi).trans (h5 i (by omega)),h6.trans g6⟩
theorem aA.swap {G:Nat→Int} (h:aA w blk off d wr) (hG:∀ t,G t=d[t]!) {j k:Nat} (hj:j<d.size) (hk:k<d.size) :
    aA w blk off (swp d j k) ((wr.setCell ⟨blk,off+j,none⟩ (.int .i32 (G k))).setCell ⟨blk,off+k,none⟩ (.int .i32 (G j))):=by
 obtain⟨c,c',e,h1,h2,h3,h4,h5,h6⟩:=h;have p1:=h2.put (off+j) (.int .i32 (G k));have p2:=p1.put (off+k) (.int .i32 (G j));have hsz:∀ i,i<d.size→off+i<c'.size:=fun i hi=>(Array.getElem?_eq_some_iff.1 (h4 i hi)).1;refine⟨c,_,e,h1,p2,by simpa using h3,fun i hi=>?_,fun i hi=>?_,?_⟩
 ·have hi':i<d.size:=(by simpa [swp] using hi);have hjs:=hsz j hj;have hks:=hsz k hk;rw [swp_get d hj hk];simp only [Array.getElem?_setIfInBounds,Array.size_setIfInBounds];by_cases hik:i=k
  ·subst hik;rw [if_pos rfl,if_pos hks,hG];by_cases hij:i=j
   ·subst hij;simp
   simp
  by_cases hij:i=j
  ·subst hij;rw [if_neg (by omega),if_pos rfl,if_pos hjs,hG];simp [hik]
  rw [if_neg (by omega),if_neg (by omega),h4 i hi'];simp [hik,hij]
 ·have hs':(swp d j k).size=d.size:=(by simp [swp]);rw [hs']at hi;simp only [Array.getElem?_setIfInBounds,Array.size_setIfInBounds];rw [if_neg (by omega),if_neg (by omega)];exact h5 i hi
 refine⟨by simpa using h6.1,h6.2.1,h6.2.2.1,h6.2.2.2.1,fun i hi hne=>?_⟩;rw [Below.heap_setCell _ _ _ _ hne,Below.heap_setCell _ _ _ _ hne];exact h6.2.2.2.2 i hi hne
end
theorem O1 (x:Int) (w:World):Calls Tryz.prog 138 #[.int .i32 x] w fun e w'=>e=.returned (.bool false)∧w'=w:=by
 go_enter Tryz.func138,Tryz.ntmps138;go_wp2;go_ret;simp
theorem bG (x y:Int) (w:World):Calls Tryz.prog 185 #[.int .i32 x,.int .i32 y] w fun e w'=>e=.returned (.bool (ltInt x y))∧w'=w:=by
 go_enter Tryz.func185,Tryz.ntmps185;go_wp2_with fail;refine(O1 x _).mono ?_;rintro e w1 ⟨rfl,rfl⟩;go_wp2_with fail;go_ret;exact⟨rfl,rfl⟩
section
variable {α : Type} [Inhabited α] (lt : α → α → Bool)
theorem B6 (a j:Nat) (d:Array α) (hj:a<j) (hl:lt d[j]! d[j - 1]! = true):insInner lt a j d=insInner lt a (j - 1) (swp d j (j - 1)):=by
 cases j with
 | zero=>omega
 | succ k=>
  rw [insInner];simp only [Nat.add_sub_cancel]at hl ⊢;rw [hl];simp [hj]
theorem uY (a j:Nat) (d:Array α) (h:j≤a∨lt d[j]! d[j - 1]! = false):insInner lt a j d=d:=by
 cases j with
 | zero=>rw [insInner]
 | succ k=>
  rw [insInner];simp only [Nat.add_sub_cancel]at h;rcases h with h | h
  ·simp [show ¬ a<k+1 by omega]
  simp [h]
theorem ri (a b i:Nat) (d:Array α) (h:i<b):insOuter lt a b i d=insOuter lt a b (i+1) (insInner lt a i d):=by
 rw [insOuter,if_pos h]
theorem GS (a b i:Nat) (d:Array α) (h:¬ i<b):insOuter lt a b i d=d:=by rw [insOuter,if_neg h]
end
def aaC (w:World) (blk off a b:Nat) (d:Array Int) (vi:Value) (wr:World):Prop :=
  ∃ (i:Nat) (dk:Array Int),vi=.int .i64 i∧a<i∧i≤b+1∧dk.size=d.size∧aA w blk off dk wr∧insOuter ltInt a b i dk=insertionSort ltInt d a b
def Zl (w:World) (blk off a i:Nat) (d dk:Array Int) (vj:Value) (wr:World):Prop :=
  ∃ (j:Nat) (dj:Array Int),vj=.int .i64 j∧a≤j∧j≤i∧dj.size=d.size∧aA w blk off dj wr∧insInner ltInt a j dj=insInner ltInt a i dk
theorem MF (blk off cap a b:Nat) (d:Array Int) (w:World) (hH:cS w blk off d) (hab:a≤b) (hb:b≤d.size) (hsz:d.size<4611686018427387904) :
    Calls Tryz.prog 179 #[.slice (some ⟨blk,off,none⟩) d.size cap,.int .i64 a,.int .i64 b] w fun e w'=>e=.returned (.tuple #[])∧aA w blk off (insertionSort ltInt d a b) w':=by
 have HH:=qqh hH;clear hH;go_enter Tryz.func179,Tryz.ntmps179;go_wp2;go_loopw [6] (aaC w blk off a b d) (fun vi _=>b+1 - (intOf vi).toNat);(case atStart=>exact⟨a+1,d,by go_num,by omega,by omega,rfl,aA.start HH.out,rfl⟩);obtain⟨i,dk,rfl,hai,hib,lE,hrow,hO⟩:=hrel;have HR:=qqh hrow;have HO:=qqh hO;clear hrow hO;by_cases hlt:i<b
 ·go_wp2;go_loopw [7] (Zl w blk off a i d dk) (fun vj _=>(intOf vj).toNat);(case atStart=>exact⟨i,dk,rfl,by omega,qql,lE,HR.out,rfl⟩);obtain⟨j,dj,rfl,haj,hji,hsj,hrow,hI⟩:=hrel;obtain⟨G,hG,eB,gN⟩:=hrow.cells hsj;have dP:=qqh hrow;have HG:=qqh hG;have HI:=qqh hI;clear hrow hG hI;go_wp2;by_cases KZ:a<j
  ·go_quiet (first | (go_at_call 185;refine Calls.quiet_of_same (bG _ _ _)));cases hl:ltInt (G j) (G (j - 1))with
   | true=>
    have hd:ltInt dj[j]! dj[j - 1]! = true:=(by rw [← HG.out,← HG.out];exact hl);have HM:=qqh (B6 ltInt a j dj KZ hd);go_wp2;go_region;(all_goals go_wp2)
    all_goals
      refine⟨⟨j - 1,swp dj j (j - 1),by go_num,by omega,by omega,by rw [Sort.swp_size];exact hsj,(dP.out.drewN (nq+1)).swap HG.out (by omega) (by omega),by rw [← HM.out];exact HI.out⟩,by simp only [intOf];omega⟩
   | false=>
    have hd:ltInt dj[j]! dj[j - 1]! = false:=(by rw [← HG.out,← HG.out];exact hl);have HM:=qqh (uY ltInt a j dj (.inr hd));go_wp2;exact⟨⟨i+1,dj,by go_num,by omega,by omega,hsj,dP.out.drewN nq,by rw [← HO.out,ri ltInt a b i dk hlt,← HI.out,HM.out]⟩,by simp only [intOf];omega⟩
  have HM:=qqh (uY ltInt a j dj (.inl (by omega)));have hdf:decide ((a:Int)<(j:Int))=false:=(by simp;omega);go_quiet (first | (go_at_call 185;refine Calls.quiet_of_same (bG _ _ _)));go_wp2;exact⟨⟨i+1,dj,by go_num,by omega,by omega,hsj,dP.out.drewN nq,by rw [← HO.out,ri ltInt a b i dk hlt,← HI.out,HM.out]⟩,by simp only [intOf];omega⟩
 have HM:=qqh (GS ltInt a b i dk hlt);go_wp2;go_end0;exact⟨rfl,by rw [← HO.out,HM.out];exact HR.out⟩
def OY (w:World) (blk off a b:Nat) (d:Array Int) (vi vj:Value) (wr:World):Prop :=
  ∃ (i j:Nat) (dk:Array Int),vi=.int .i64 i∧vj=.int .i64 j∧a≤i∧i≤b∧j<b∧dk.size=d.size∧aA w blk off dk wr∧reverseLoop i j dk=reverseRange d a b
theorem LO (blk off cap a b:Nat) (d:Array Int) (w:World) (hH:cS w blk off d) (hab:a<b) (hb:b≤d.size) (hsz:d.size<4611686018427387904) :
    Calls Tryz.prog 183 #[.slice (some ⟨blk,off,none⟩) d.size cap,.int .i64 a,.int .i64 b] w fun e w'=>e=.returned (.tuple #[])∧aA w blk off (reverseRange d a b) w':=by
 have HH:=qqh hH;clear hH;go_enter Tryz.func183,Tryz.ntmps183;go_wp2;go_loopw [6,7] (OY w blk off a b d) (fun vi _ _=>b - (intOf vi).toNat);(case atStart=>exact⟨a,b - 1,d,rfl,by go_num,qql,by omega,by omega,rfl,aA.start HH.out,rfl⟩);obtain⟨i,j,dk,rfl,rfl,hai,hib,hjb,lE,hrow,hO⟩:=hrel;have HR:=qqh hrow;by_cases hij:i<j
 ·obtain⟨G,hG,eB,gN⟩:=hrow.cells lE;have HG:=qqh hG;have HM:=qqh (show reverseLoop (i+1) (j - 1) (swp dk i j)=reverseRange d a b by rw [← hO];conv=>rhs;rw [reverseLoop];simp [hij]);clear hrow hO hG;go_wp2;go_region;(all_goals go_wp2)
  all_goals
    exact⟨⟨i+1,j - 1,swp dk i j,by go_num,by go_num,by omega,by omega,by omega,by rw [Sort.swp_size];exact lE,(HR.out.drewN _).swap HG.out (by omega) (by omega),HM.out⟩,by simp only [intOf];omega⟩
 have HM:=qqh (show dk=reverseRange d a b by rw [← hO,reverseLoop,if_neg hij]);clear hrow hO;go_wp2;go_end0;exact⟨rfl,by rw [← HM.out];exact HR.out⟩
section
variable {α : Type} [Inhabited α] {lt : α → α → Bool} {hi F r : Nat} {d : Array α}
theorem Dq (h:¬ 2*r+1≥hi) (h2:2*r+1+1<hi) (hl:lt d[F+(2*r+1)]! d[F+(2*r+1)+1]! = true):siftDown lt hi F r d=if lt d[F+r]! d[F+(2*r+2)]! = true then siftDown lt hi F (2*r+2) (swp d (F+r) (F+(2*r+2)))else d:=by
 rw [siftDown,dif_neg h,if_pos (by rw [hl];simpa using h2),dif_pos (by omega)];cases lt d[F+r]! d[F+(2*r+2)]! <;> simp
theorem sA (h:¬ 2*r+1≥hi) (hl:¬(2*r+1+1<hi∧lt d[F+(2*r+1)]! d[F+(2*r+1)+1]! = true)):siftDown lt hi F r d=if lt d[F+r]! d[F+(2*r+1)]! = true then siftDown lt hi F (2*r+1) (swp d (F+r) (F+(2*r+1)))else d:=by
 rw [siftDown,dif_neg h,if_neg (by simpa using hl)];cases lt d[F+r]! d[F+(2*r+1)]! <;> simp
end
def Vf (w:World) (blk off lo hi first:Nat) (d:Array Int) (vr:Value) (wr:World):Prop :=
  ∃ (r:Nat) (dk:Array Int),vr=.int .i64 r∧r≤hi∧dk.size=d.size∧aA w blk off dk wr∧siftDown ltInt hi first r dk=siftDown ltInt hi first lo d
theorem IC (blk off cap lo hi first:Nat) (d:Array Int) (w:World) (hH:cS w blk off d) (hlo:lo≤hi) (hb:first+hi≤d.size) (hsz:d.size<2305843009213693952) :
    Calls Tryz.prog 196 #[.slice (some ⟨blk,off,none⟩) d.size cap,.int .i64 lo,.int .i64 hi,.int .i64 first] w fun e w'=>e=.returned (.tuple #[])∧aA w blk off (siftDown ltInt hi first lo d) w':=by
 have HH:=qqh hH;clear hH;go_enter Tryz.func196,Tryz.ntmps196;go_wp2;go_loopw [8] (Vf w blk off lo hi first d) (fun vr _=>hi - (intOf vr).toNat);(case atStart=>exact⟨lo,d,rfl,hlo,rfl,aA.start HH.out,rfl⟩);obtain⟨r,dk,rfl,hrh,lE,hrow,hO⟩:=hrel;have HR:=qqh hrow;by_cases hch:2*r+1≥hi
 ·have HM:=qqh (show dk=siftDown ltInt hi first lo d by rw [← hO,siftDown,dif_pos hch]);clear hrow hO;go_wp2;go_end0;exact⟨rfl,by rw [← HM.out];exact HR.out⟩
 obtain⟨G,hG,eB,gN⟩:=hrow.cells lE;have HG:=qqh hG;have HO:=qqh hO;clear hrow hO hG;have Qn:r<hi:=(by omega);by_cases h2:2*r+1+1<hi
 ·go_wp2;have hdt:decide (2*(r:Int)+1+1<(hi:Int))=true:=(by simp;omega);go_quiet (first | (go_at_call 185;refine Calls.quiet_of_same (bG _ _ _)));cases hl:ltInt (G (first+2*r+1)) (G (first+2*r+2))with
  | true=>
   have YN:∀ t,t<d.size→(wr.drewN nq).cell? ⟨blk,off+t,none⟩=some (.int .i32 (G t)):=eB;have YO:∀ t,t<d.size→(wr.drewN nq).frozen? ⟨blk,off+t,none⟩=false:=gN;have Hp:=qqh (HR.out.drewN nq);generalize wr.drewN nq=wq at *;clear eB gN HR;have HE:=qqh (Dq (lt:=ltInt) (F:=first) (d:=dk) hch h2 (by rw [← HG.out,← HG.out];exact hl));go_wp2;go_quiet (first | (go_at_call 185;refine Calls.quiet_of_same (bG _ _ _)));cases hs:ltInt (G (first+r)) (G (first+2*r+2))with
   | true=>
    have HM:=qqh (show siftDown ltInt hi first (2*r+2) (swp dk (first+r) (first+(2*r+2)))=siftDown ltInt hi first lo d by rw [← HO.out,HE.out,if_pos (by rw [← HG.out,← HG.out];exact hs)]);go_wp2;go_region;(all_goals go_wp2)
    all_goals
      exact⟨⟨(2*r+2),swp dk (first+r) (first+(2*r+2)),by go_num,by omega,by rw [Sort.swp_size];exact lE,(Hp.out.drewN _).swap HG.out (by omega) (by omega),HM.out⟩,by simp only [intOf];omega⟩
   | false=>
    have HM:=qqh (show dk=siftDown ltInt hi first lo d by rw [← HO.out,HE.out,if_neg (by rw [← HG.out,← HG.out,show first+(2*r+2)=first+2*r+2 by omega,hs];simp)]);go_wp2;refine bodyPost_ret (results_none (by rfl) _ _ _) (by rfl) ⟨rfl,?_⟩;rw [← HM.out];exact Hp.out.drewN _
  | false=>
   have YN:∀ t,t<d.size→(wr.drewN nq).cell? ⟨blk,off+t,none⟩=some (.int .i32 (G t)):=eB;have YO:∀ t,t<d.size→(wr.drewN nq).frozen? ⟨blk,off+t,none⟩=false:=gN;have Hp:=qqh (HR.out.drewN nq);generalize wr.drewN nq=wq at *;clear eB gN HR;have HE:=qqh (sA (lt:=ltInt) (F:=first) (d:=dk) hch (by rw [← HG.out,← HG.out];intro h;have:=hl.symm.trans h.2;cases this));go_wp2;go_quiet (first | (go_at_call 185;refine Calls.quiet_of_same (bG _ _ _)));cases hs:ltInt (G (first+r)) (G (first+2*r+1))with
   | true=>
    have HM:=qqh (show siftDown ltInt hi first (2*r+1) (swp dk (first+r) (first+(2*r+1)))=siftDown ltInt hi first lo d by rw [← HO.out,HE.out,if_pos (by rw [← HG.out,← HG.out];exact hs)]);go_wp2;go_region;(all_goals go_wp2)
    all_goals
      exact⟨⟨(2*r+1),swp dk (first+r) (first+(2*r+1)),by go_num,by omega,by rw [Sort.swp_size];exact lE,(Hp.out.drewN _).swap HG.out (by omega) (by omega),HM.out⟩,by simp only [intOf];omega⟩
   | false=>
    have HM:=qqh (show dk=siftDown ltInt hi first lo d by rw [← HO.out,HE.out,if_neg (by rw [← HG.out,← HG.out,show first+(2*r+1)=first+2*r+1 by omega,hs];simp)]);go_wp2;refine bodyPost_ret (results_none (by rfl) _ _ _) (by rfl) ⟨rfl,?_⟩;rw [← HM.out];exact Hp.out.drewN _
 go_wp2;have hdt:decide (2*(r:Int)+1+1<(hi:Int))=false:=(by simp;omega);go_quiet (first | (go_at_call 185;refine Calls.quiet_of_same (bG _ _ _)));have YN:∀ t,t<d.size→(wr.drewN nq).cell? ⟨blk,off+t,none⟩=some (.int .i32 (G t)):=eB;have YO:∀ t,t<d.size→(wr.drewN nq).frozen? ⟨blk,off+t,none⟩=false:=gN;have Hp:=qqh (HR.out.drewN nq);generalize wr.drewN nq=wq at *;clear eB gN HR;have HE:=qqh (sA (lt:=ltInt) (F:=first) (d:=dk) hch (fun h=>h2 h.1));go_wp2;go_quiet (first | (go_at_call 185;refine Calls.quiet_of_same (bG _ _ _)));cases hs:ltInt (G (first+r)) (G (first+2*r+1))with
 | true=>
  have HM:=qqh (show siftDown ltInt hi first (2*r+1) (swp dk (first+r) (first+(2*r+1)))=siftDown ltInt hi first lo d by rw [← HO.out,HE.out,if_pos (by rw [← HG.out,← HG.out];exact hs)]);go_wp2;go_region;(all_goals go_wp2)
  all_goals
    exact⟨⟨(2*r+1),swp dk (first+r) (first+(2*r+1)),by go_num,by omega,by rw [Sort.swp_size];exact lE,(Hp.out.drewN _).swap HG.out (by omega) (by omega),HM.out⟩,by simp only [intOf];omega⟩
 | false=>
  have HM:=qqh (show dk=siftDown ltInt hi first lo d by rw [← HO.out,HE.out,if_neg (by rw [← HG.out,← HG.out,show first+(2*r+1)=first+2*r+1 by omega,hs];simp)]);go_wp2;refine bodyPost_ret (results_none (by rfl) _ _ _) (by rfl) ⟨rfl,?_⟩;rw [← HM.out];exact Hp.out.drewN _
theorem oA (lt:Int→Int→Bool) (hi F:Nat):∀ (n r:Nat) (d:Array Int),hi - r≤n→(siftDown lt hi F r d).size=d.size:=by
 intro n;induction n with
 | zero=>
  intro r d h;rw [siftDown,dif_pos (by omega)]
 | succ n ih=>
  intro r d h;by_cases hc:2*r+1≥hi
  ·rw [siftDown,dif_pos hc]
  by_cases hl:2*r+1+1<hi∧lt d[F+(2*r+1)]! d[F+(2*r+1)+1]! = true
  ·rw [Dq hc hl.1 hl.2];by_cases hs:lt d[F+r]! d[F+(2*r+2)]! = true
   ·rw [if_pos hs,ih _ _ (by omega),Sort.swp_size]
   rw [if_neg hs]
  rw [sA hc hl];by_cases hs:lt d[F+r]! d[F+(2*r+1)]! = true
  ·rw [if_pos hs,ih _ _ (by omega),Sort.swp_size]
  rw [if_neg hs]
def VQ (w:World) (blk off a n:Nat) (d:Array Int) (vi:Value) (wr:World):Prop :=
  ∃ (k:Nat) (v:Int) (dk:Array Int),vi=.int .i64 v∧v=(k:Int) - 1∧k≤(n - 1) / 2+1∧dk.size=d.size∧aA w blk off dk wr∧heapBuild ltInt n a k dk=heapBuild ltInt n a ((n - 1) / 2+1) d
def U8 (w:World) (blk off a n:Nat) (d:Array Int) (vi:Value) (wr:World):Prop :=
  ∃ (k:Nat) (v:Int) (dk:Array Int),vi=.int .i64 v∧v=(k:Int) - 1∧k≤n∧dk.size=d.size∧aA w blk off dk wr∧heapPop ltInt a k dk=heapPop ltInt a n (heapBuild ltInt n a ((n - 1) / 2+1) d)
theorem Jn (blk off cap a b n:Nat) (d:Array Int) (w:World) (hH:cS w blk off d) (hn:0<n) (Ka:b=a+n) (hb:a+n≤d.size) (hsz:d.size<2305843009213693952) :
    Calls Tryz.prog 180 #[.slice (some ⟨blk,off,none⟩) d.size cap,.int .i64 a,.int .i64 b] w fun e w'=>e=.returned (.tuple #[])∧aA w blk off (heapSort ltInt d a b) w':=by
 have HH:=qqh hH;clear hH;have uE:=qqh (show heapSort ltInt d a b=heapPop ltInt a n (heapBuild ltInt n a ((n - 1) / 2+1) d) by unfold heapSort;rw [Ka,Nat.add_sub_cancel_left]);have En:=qqh (fun(k hi:Nat) (dk:Array Int) (w':World) (hs:dk.size=d.size) (h:cS w' blk off dk) (hk:k≤hi) (hh:hi≤n)=>(show Calls Tryz.prog 196 #[.slice (some ⟨blk,off,none⟩) d.size cap,.int .i64 k,.int .i64 hi,.int .i64 a] w' fun e w2=>e=.returned (.tuple #[])∧aA w' blk off (siftDown ltInt hi a k dk) w2 by have:=IC blk off cap k hi a dk w' h hk (by omega) (by omega);rw [hs]at this;exact this));have af1:b≤a+n:=(by omega);have afF:a+n≤b:=(by omega);clear Ka;go_enter Tryz.func180,Tryz.ntmps180;go_wp2;simp only [show((b:Int) - (a:Int))=(n:Int) by omega];go_loopw [9] (VQ w blk off a n d) (fun vi _=>((intOf vi)+1).toNat);case atStart=>
  exact⟨(n - 1) / 2+1,_,d,rfl,by omega,qql,rfl,aA.start HH.out,rfl⟩
 obtain⟨k,v,dk,rfl,hv,hk,lE,hrow,hO⟩:=hrel;have HR:=qqh hrow;have HO:=qqh hO;clear hrow hO;cases k with
 | zero=>
  have hv0:v<0:=(by omega);clear hv;have nE:=qqh (show dk=heapBuild ltInt n a ((n - 1) / 2+1) d by rw [← HO.out,heapBuild]);go_wp2;go_loopw [10] (U8 w blk off a n d) (fun vi _=>((intOf vi)+1).toNat);case atStart=>
   exact⟨n,_,dk,rfl,rfl,qql,lE,HR.out,by rw [← nE.out]⟩
  obtain⟨k,v2,dj,rfl,yP,hk,hsj,hrow,hP⟩:=hrel;cases k with
  | zero=>
   have hv0:v2<0:=(by omega);clear yP;have HM:=qqh (show dj=heapSort ltInt d a b by rw [uE.out,← hP,heapPop]);have dP:=qqh hrow;clear hrow hP;go_wp2;go_end0;exact⟨rfl,by rw [← HM.out];exact dP.out⟩
  | succ k=>
   obtain rfl:v2=(k:Int):=(by omega);clear yP;obtain⟨G,hG,eB,gN⟩:=hrow.cells hsj;have dP:=qqh hrow;have HG:=qqh hG;have HP:=qqh hP;clear hrow hP hG;have HM:=qqh (show heapPop ltInt a k (siftDown ltInt k a 0 (swp dj a (a+k)))=heapPop ltInt a n (heapBuild ltInt n a ((n - 1) / 2+1) d) by rw [← HP.out];rfl);have qF:(wr.setCell ⟨blk,off+a,none⟩ (.int .i32 (G (a+k)))).cell? ⟨blk,off+(a+k),none⟩=some (.int .i32 (G (a+k))):=by
    rcases Nat.eq_zero_or_pos k with hk0 | hk0
    ·subst hk0;exact World.cell?_setCell_same _ _ _ (eB a (by omega))
    rw [World.cell?_setCell_other _ _ _ _ (by intro h;injection h with _ h2 _;omega)];exact eB (a+k) (by omega)
   have Hz:(wr.setCell ⟨blk,off+a,none⟩ (.int .i32 (G (a+k)))).drew.cell? ⟨blk,off+(a+k),none⟩=some (.int .i32 (G (a+k))):=qF;go_wp2;go_region
   all_goals
     have pO:=qqh (show aA w blk off (swp dj a (a+k)) _ from(dP.out.drewN 1).swap HG.out (j:=a) (k:=a+k) (by omega) (by omega))
     go_wp2_with fail
     refine(En.out 0 k (swp dj a (a+k)) _ (by rw [Sort.swp_size];exact hsj) pO.out.row (by omega) (by omega)).mono ?_
     rintro e w1 ⟨rfl,h1⟩
     have iE:=qqh (pO.out.trans h1 (oA ltInt k a _ 0 _ qql))
     have hs1:(siftDown ltInt k a 0 (swp dj a (a+k))).size=d.size:=by rw [oA ltInt k a _ 0 _ qql,Sort.swp_size];exact hsj
     clear h1
     go_wp2_with fail
     exact⟨⟨k,_,_,rfl,by omega,by omega,hs1,iE.out,HM.out⟩,by simp only [intOf];omega⟩
 | succ k=>
  obtain rfl:v=(k:Int):=(by omega);clear hv;have HM:=qqh (show heapBuild ltInt n a k (siftDown ltInt n a k dk)=heapBuild ltInt n a ((n - 1) / 2+1) d by rw [← HO.out];rfl);go_wp2_with fail;refine(En.out k n dk _ lE HR.out.row (by omega) qql).mono ?_;rintro e w1 ⟨rfl,h1⟩;have iE:=qqh (HR.out.trans h1 (oA ltInt n a _ k dk qql));have hs1:(siftDown ltInt n a k dk).size=d.size:=(by rw [oA ltInt n a _ k dk qql];exact lE);clear h1;go_wp2_with fail;exact⟨⟨k,_,_,rfl,by omega,by omega,hs1,iE.out,HM.out⟩,by simp only [intOf];omega⟩
def qw (w:World) (sb:Nat) (wr:World):Prop:=(∃ v:Int,aj wr sb 3 #[.int .i64 v])∧Rest w sb wr
theorem qw.trans {w wr w2:World} {sb:Nat} (h:qw w sb wr) (h2:qw wr sb w2):qw w sb w2:=⟨h2.1,h.2.trans h2.2⟩
theorem Rest.row {w wr:World} {sb blk off:Nat} {d:Array Int} (h:Rest w sb wr) (hr:cS w blk off d) (hne:blk≠sb):cS wr blk off d:=by
 obtain⟨c,e,h1,h2⟩:=hr;exact⟨c,e,(h.2.2.2.2 blk h1.lt hne).trans h1,h2⟩
theorem Rest.drewN {w wr:World} {sb:Nat} (h:Rest w sb wr) (q:Nat):Rest w sb (wr.drewN q):=h
theorem Rest.set {w wr:World} {sb i:Nat} {v:Value} (h:Rest w sb wr):Rest w sb (wr.setCell ⟨sb,i,none⟩ v) :=
  ⟨by simpa using h.1,h.2.1,h.2.2.1,h.2.2.2.1,fun k hk hne=>by rw [Below.heap_setCell _ _ _ _ hne];exact h.2.2.2.2 k hk hne⟩
theorem EK (blk off cap a b sb sz:Nat) (d:Array Int) (w:World) (hs:d.size=sz) (hH:cS w blk off d) (ha:a<sz) (hb:b<sz) (hv:∃ v:Int,aj w sb 3 #[.int .i64 v]) :
    Calls Tryz.prog 200 #[.slice (some ⟨blk,off,none⟩) sz cap,.int .i64 a,.int .i64 b,.pointer (some ⟨sb,0,none⟩)] w fun e w'=>∃ x y:Nat,e=.returned (.tuple #[.int .i64 x,.int .i64 y])∧(x=a∧y=b∨x=b∧y=a)∧qw w sb w':=by
 obtain⟨G,hG,eB,gN⟩:=(aA.start hH).cells hs;obtain⟨v,hv⟩:=hv;have c0:w.cell? ⟨sb,0,none⟩=some (.int .i64 v):=hv.cell 0;have f0:=hv.frozen 0;have HV:=qqh hv;clear hG hH hv hs;go_enter Tryz.func200,Tryz.ntmps200;go_wp2;go_quiet (first | (go_at_call 185;refine Calls.quiet_of_same (bG _ _ _)));cases hl:ltInt (G b) (G a)with
 | true=>
  go_wp2;refine bodyPost_ret (v:=.tuple #[.int .i64 b,.int .i64 a]) (by simp [results,Tryz.results200,go_sem]) (by rfl) ?_;exact⟨b,a,rfl,.inr ⟨rfl,rfl⟩,⟨_,HV.out.put 0 _⟩,Rest.set (Rest.refl w sb)⟩
 | false=>
  go_wp2;refine bodyPost_ret (v:=.tuple #[.int .i64 a,.int .i64 b]) (by simp [results,Tryz.results200,go_sem]) (by rfl) ?_;exact⟨a,b,rfl,.inl ⟨rfl,rfl⟩,⟨_,HV.out⟩,Rest.refl w sb⟩
theorem tN (blk off cap a b c sb sz:Nat) (d:Array Int) (w:World) (hs:d.size=sz) (hH:cS w blk off d) (ha:a<sz) (hb:b<sz) (hc:c<sz) (hv:∃ v:Int,aj w sb 3 #[.int .i64 v]) (hne:blk≠sb) :
    Calls Tryz.prog 198 #[.slice (some ⟨blk,off,none⟩) sz cap,.int .i64 a,.int .i64 b,.int .i64 c,.pointer (some ⟨sb,0,none⟩)] w fun e w'=>∃ x:Nat,e=.returned (.int .i64 x)∧(x=a∨x=b∨x=c)∧qw w sb w':=by
 have HO:=qqh (fun(a b:Nat) (w':World) (ha:a<sz) (hb:b<sz) (h:qw w sb w')=>EK blk off cap a b sb sz d w' hs (Rest.row h.2 hH hne) ha hb h.1);have HS:=qqh (show qw w sb w from⟨hv,Rest.refl _ _⟩);clear hs hH hv;go_enter Tryz.func198,Tryz.ntmps198;go_wp2_with fail;refine(HO.out a b _ ha hb HS.out).mono ?_;rintro e w1 ⟨a1,b1,rfl,h1,hs1⟩;have iU:=qqh (HS.out.trans hs1);clear hs1;have mG:a1<sz:=(by omega);have aT:b1<sz:=(by omega);have h1':(a1≤a∧a≤a1∧b1≤b∧b≤b1)∨(a1≤b∧b≤a1∧b1≤a∧a≤b1):=(by omega);clear h1;go_wp2_with fail;refine(HO.out b1 c _ aT hc iU.out).mono ?_;rintro e w2 ⟨b2,c2,rfl,h2,uL⟩;have jS:=qqh (iU.out.trans uL);clear uL;have aX:b2<sz:=(by omega);have h2':(b2≤b1∧b1≤b2)∨(b2≤c∧c≤b2):=(by omega);clear h2;go_wp2_with fail;refine(HO.out a1 b2 _ mG aX jS.out).mono ?_;rintro e w3 ⟨a3,b3,rfl,h3,QF⟩;have Ek:=qqh (jS.out.trans QF);clear QF;have h3':b3=a∨b3=b∨b3=c:=(by omega);have H3:=qqh h3';clear h3 h3';go_wp2_with fail;go_ret;exact⟨b3,rfl,H3.out,Ek.out⟩
theorem Mk (blk off cap a sb sz:Nat) (d:Array Int) (w:World) (hs:d.size=sz) (hH:cS w blk off d) (ha:1≤a) (ha2:a+1<sz) (hv:∃ v:Int,aj w sb 3 #[.int .i64 v]) (hne:blk≠sb) (hsz:sz<2305843009213693952) :
    Calls Tryz.prog 197 #[.slice (some ⟨blk,off,none⟩) sz cap,.int .i64 a,.pointer (some ⟨sb,0,none⟩)] w fun e w'=>∃ x:Nat,e=.returned (.int .i64 x)∧(a≤x+1∧x≤a+1)∧qw w sb w':=by
 obtain⟨p,hp1,hp2⟩:∃ p,p+1≤a∧a≤p+1:=⟨a - 1,by omega,by omega⟩;have hm:((a:Int) - 1)=(p:Int):=(by omega);have HO:=qqh (tN blk off cap p a (a+1) sb sz d w hs hH (by omega) (by omega) ha2 hv hne);clear hs hH hv;go_enter Tryz.func197,Tryz.ntmps197;go_wp2_with fail;(first | rw [hm] | skip);refine HO.out.mono ?_;rintro e w1 ⟨x,rfl,h1,hs1⟩;have H1:=qqh (show a≤x+1∧x≤a+1 by omega);have iU:=qqh hs1;clear h1 hs1;go_wp2_with fail;go_ret;exact⟨x,rfl,H1.out,iU.out⟩
theorem FN (blk off cap a b sz:Nat) (d:Array Int) (w:World) (hs:d.size=sz) (hH:cS w blk off d) (hab:a+12<b) (hb:b≤sz) (hsz:sz<2305843009213693952) :
    Calls Tryz.prog 182 #[.slice (some ⟨blk,off,none⟩) sz cap,.int .i64 a,.int .i64 b] w fun e w'=>(∃ p h:Nat,e=.returned (.tuple #[.int .i64 p,.int .i64 h])∧a≤p∧p<b)∧Below w.heap.size w w':=by
 obtain⟨l,mJ,jc⟩:∃ l,b≤a+l∧a+l≤b:=⟨b - a,by omega,by omega⟩;obtain⟨q,hq1,ON⟩:∃ q,4*q≤l∧l≤4*q+3:=⟨l / 4,by omega,by omega⟩;have hba:((b:Int) - (a:Int))=(l:Int):=(by omega);have YE:((l:Int) / 4)=(q:Int):=(by omega);have J2:=(show blk<w.heap.size by obtain⟨c,e,h1,_⟩:=hH;exact h1.lt);have hW:qw (w.alloc (.cells #[.int .i64 0] 3)) w.heap.size (w.alloc (.cells #[.int .i64 0] 3)):=⟨⟨0,aj.new _ _ _⟩,Rest.refl _ _⟩;have hR:cS (w.alloc (.cells #[.int .i64 0] 3)) blk off d:=by
  obtain⟨c,e,h1,h2⟩:=hH;exact⟨c,e,aj.alloc h1 _,h2⟩
 have hB:∀ w',qw (w.alloc (.cells #[.int .i64 0] 3)) w.heap.size w'→Below w.heap.size w w':=fun w' h=>by
  obtain⟨_,h1,h2,h3,h4,h5⟩:=h;have hz:(w.alloc (.cells #[.int .i64 0] 3)).heap.size=w.heap.size+1:=(by simp);exact⟨h2,h3,h4,by omega,fun k hk=>(h5 k (by omega) (by omega)).trans (Below.heap_alloc w _ k hk)⟩
 have HA:=qqh (fun(x:Nat) (vx:Int) (hx:vx=x) (w':World) (h1:1≤x) (h2:x+1<sz) (h:qw (w.alloc (.cells #[.int .i64 0] 3)) w.heap.size w')=>(show Calls Tryz.prog 197 #[.slice (some ⟨blk,off,none⟩) sz cap,.int .i64 vx,.pointer (some ⟨w.heap.size,0,none⟩)] w' fun e w2=>∃ y:Nat,e=.returned (.int .i64 y)∧(x≤y+1∧y≤x+1)∧qw w' w.heap.size w2 by subst hx;exact Mk blk off cap x w.heap.size sz d w' hs (Rest.row h.2 hR (by omega)) h1 h2 h.1 (by omega) hsz));have HM:=qqh (fun(x y z:Nat) (vx vy vz:Int) (hx:vx=x) (hy:vy=y) (hz:vz=z) (w':World) (h1:x<sz) (h2:y<sz) (h3:z<sz) (h:qw (w.alloc (.cells #[.int .i64 0] 3)) w.heap.size w')=>(show Calls Tryz.prog 198 #[.slice (some ⟨blk,off,none⟩) sz cap,.int .i64 vx,.int .i64 vy,.int .i64 vz,.pointer (some ⟨w.heap.size,0,none⟩)] w' fun e w2=>∃ u:Nat,e=.returned (.int .i64 u)∧(u=x∨u=y∨u=z)∧qw w' w.heap.size w2 by subst hx hy hz;exact tN blk off cap x y z w.heap.size sz d w' hs (Rest.row h.2 hR (by omega)) h1 h2 h3 h.1 (by omega)));have HW:=qqh hW;have HB:=qqh hB;clear hs hH hW hR hB;go_enter Tryz.func182,Tryz.ntmps182;by_cases ZO:50≤l
 ·go_wp2_with fail;refine(HA.out (a+q) _ (by omega) _ (by omega) (by omega) HW.out).mono ?_;rintro e w1 ⟨i1,rfl,hi1,hs1⟩;have iU:=qqh (HW.out.trans hs1);clear hs1;go_wp2_with fail;refine(HA.out (a+q*2) _ (by omega) _ (by omega) (by omega) iU.out).mono ?_;rintro e w2 ⟨i2,rfl,hi2,uL⟩;have jS:=qqh (iU.out.trans uL);clear uL;go_wp2_with fail;refine(HA.out (a+q*3) _ (by omega) _ (by omega) (by omega) jS.out).mono ?_;rintro e w3 ⟨i3,rfl,hi3,QF⟩;have Ek:=qqh (jS.out.trans QF);clear QF;go_wp2_with fail;refine(HM.out i1 i2 i3 _ _ _ rfl rfl rfl _ (by omega) (by omega) (by omega) Ek.out).mono ?_;rintro e w4 ⟨p,rfl,hp,hs4⟩;have zc:=qqh (Ek.out.trans hs4);clear hs4;have hpa:a≤p:=(by omega);have hpb:p<b:=(by omega);obtain⟨⟨v,hv⟩,_⟩:=zc.out;have sZ:w4.cell? ⟨w.heap.size,0,none⟩=some (.int .i64 v):=hv.cell 0;clear hv;by_cases h0:v=0
  ·have k0:(v == 0)=true:=(by simpa using h0);clear h0;go_wp2_with fail;refine bodyPost_ret (v:=.tuple #[.int .i64 p,.int .i64 1]) (by simp [results,Tryz.results182,go_sem]) (by rfl) ⟨⟨p,1,rfl,hpa,hpb⟩,HB.out _ zc.out⟩
  have k0:(v == 0)=false:=(by simpa using h0);clear h0;by_cases h12:v=12
  ·have k1:(v == 12)=true:=(by simpa using h12);clear h12;go_wp2_with fail;refine bodyPost_ret (v:=.tuple #[.int .i64 p,.int .i64 2]) (by simp [results,Tryz.results182,go_sem]) (by rfl) ⟨⟨p,2,rfl,hpa,hpb⟩,HB.out _ zc.out⟩
  have k1:(v == 12)=false:=(by simpa using h12);clear h12;go_wp2_with fail;refine bodyPost_ret (v:=.tuple #[.int .i64 p,.int .i64 0]) (by simp [results,Tryz.results182,go_sem]) (by rfl) ⟨⟨p,0,rfl,hpa,hpb⟩,HB.out _ zc.out⟩
 go_wp2_with fail;refine(HM.out (a+q) (a+q*2) (a+q*3) _ _ _ (by omega) (by omega) (by omega) _ (by omega) (by omega) (by omega) HW.out).mono ?_;rintro e w4 ⟨p,rfl,hp,hs4⟩;have zc:=qqh (HW.out.trans hs4);clear hs4;have hpa:a≤p:=(by omega);have hpb:p<b:=(by omega);obtain⟨⟨v,hv⟩,_⟩:=zc.out;have sZ:w4.cell? ⟨w.heap.size,0,none⟩=some (.int .i64 v):=hv.cell 0;clear hv;by_cases h0:v=0
 ·have k0:(v == 0)=true:=(by simpa using h0);clear h0;go_wp2_with fail;refine bodyPost_ret (v:=.tuple #[.int .i64 p,.int .i64 1]) (by simp [results,Tryz.results182,go_sem]) (by rfl) ⟨⟨p,1,rfl,hpa,hpb⟩,HB.out _ zc.out⟩
 have k0:(v == 0)=false:=(by simpa using h0);clear h0;by_cases h12:v=12
 ·have k1:(v == 12)=true:=(by simpa using h12);clear h12;go_wp2_with fail;refine bodyPost_ret (v:=.tuple #[.int .i64 p,.int .i64 2]) (by simp [results,Tryz.results182,go_sem]) (by rfl) ⟨⟨p,2,rfl,hpa,hpb⟩,HB.out _ zc.out⟩
 have k1:(v == 12)=false:=(by simpa using h12);clear h12;go_wp2_with fail;refine bodyPost_ret (v:=.tuple #[.int .i64 p,.int .i64 0]) (by simp [results,Tryz.results182,go_sem]) (by rfl) ⟨⟨p,0,rfl,hpa,hpb⟩,HB.out _ zc.out⟩
section
variable {α : Type} [Inhabited α] (lt : α → α → Bool)
theorem Mu:∀ (j:Nat) (d:Array α),(shiftDown lt j d).size=d.size:=by
 intro j;induction j with
 | zero=>intro d;rfl
 | succ j ih=>
  intro d;rw [shiftDown];by_cases h:(!lt d[j+1]! d[j]!)=true
  ·rw [if_pos h]
  rw [if_neg h,ih,Sort.swp_size]
theorem L8 {j:Nat} {d:Array α} (hj:1≤j) (hl:lt d[j]! d[j - 1]! = true):shiftDown lt j d=shiftDown lt (j - 1) (swp d j (j - 1)):=by
 obtain⟨k,rfl⟩:∃ k,j=k+1:=⟨j - 1,by omega⟩;simp only [Nat.add_sub_cancel]at hl ⊢;rw [shiftDown,if_neg (by rw [hl];simp)]
theorem GN {j:Nat} {d:Array α} (h:j<1∨lt d[j]! d[j - 1]! = false):shiftDown lt j d=d:=by
 cases j with
 | zero=>rfl
 | succ k=>
  simp only [Nat.add_sub_cancel]at h;rcases h with h | h;omega;rw [shiftDown,if_pos (by rw [h];rfl)]
theorem NH {b j:Nat} {d:Array α} (hj:j<b) (hl:lt d[j]! d[j - 1]! = true):shiftUp lt b j d=shiftUp lt b (j+1) (swp d j (j - 1)):=by
 rw [shiftUp,if_pos hj,if_neg (by rw [hl];simp)]
theorem Gy {b j:Nat} {d:Array α} (h:¬ j<b∨lt d[j]! d[j - 1]! = false):shiftUp lt b j d=d:=by
 rw [shiftUp];by_cases hj:j<b
 ·rw [if_pos hj,if_pos (by rw [h.resolve_left (fun h=>h hj)];rfl)]
 rw [if_neg hj]
end
def PY (w:World) (blk off a b i0:Nat) (dk:Array Int) (vi:Value) (wr:World):Prop :=
  ∃ i:Nat,vi=.int .i64 i∧a<i∧i0≤i∧i≤b∧aA w blk off dk wr∧scanSorted ltInt dk b i=scanSorted ltInt dk b i0
def Qs (w:World) (blk off b i0 sz:Nat) (d1:Array Int) (vj:Value) (wr:World):Prop :=
  ∃ (j:Nat) (dj:Array Int),vj=.int .i64 j∧j<b∧dj.size=sz∧aA w blk off dj wr∧shiftDown ltInt j dj=shiftDown ltInt (i0 - 1) d1
def WX (w:World) (blk off b i0 sz:Nat) (d1:Array Int) (vj:Value) (wr:World):Prop :=
  ∃ (j:Nat) (dj:Array Int),vj=.int .i64 j∧1≤j∧j≤b∧dj.size=sz∧aA w blk off dj wr∧shiftUp ltInt b j dj=shiftUp ltInt b (i0+1) d1
def Xm (w:World) (blk off a b:Nat) (d:Array Int) (vi vj:Value) (wr:World):Prop :=
  ∃ (s i:Nat) (v:Int) (dk:Array Int),vi=.int .i64 i∧vj=.int .i64 v∧v+s=5∧0≤v∧a<i∧i≤b∧dk.size=d.size∧aA w blk off dk wr∧partialIns ltInt a b s i dk=partialInsertionSort ltInt d a b
theorem JQ (blk off cap a b:Nat) (d:Array Int) (w:World) (hH:cS w blk off d) (hab:a<b) (hb:b≤d.size) (hsz:d.size<2305843009213693952) :
    Calls Tryz.prog 184 #[.slice (some ⟨blk,off,none⟩) d.size cap,.int .i64 a,.int .i64 b] w fun e w'=>e=.returned (.bool (partialInsertionSort ltInt d a b).2)∧aA w blk off (partialInsertionSort ltInt d a b).1 w':=by
 have HH:=qqh hH;clear hH;go_enter Tryz.func184,Tryz.ntmps184;go_wp2;go_loopw [7,8] (Xm w blk off a b d) (fun _ vj _=>(5 - (intOf vj)).toNat);(case atStart=>exact⟨5,a+1,0,d,by go_num,rfl,by omega,by omega,by omega,by omega,rfl,aA.start HH.out,rfl⟩);obtain⟨s,i,v,dk,rfl,rfl,hv,hv0,hai,hib,lE,hrow,hO⟩:=hrel;have HR:=qqh hrow;have HO:=qqh hO;clear hrow hO;cases s with
 | zero=>
  have hv5:¬ v<5:=(by omega);have HM:=qqh (show partialInsertionSort ltInt d a b=(dk,false) by rw [← HO.out,partialIns]);clear hv;go_wp2_with fail;go_ret;rw [HM.out];exact⟨rfl,HR.out⟩
 | succ s=>
  have hv5:v<5:=(by omega);have hv6:v+s≤4:=(by omega);have ZN:4≤v+s:=(by omega);clear hv;go_upto_block 2 with fail;go_cut [7] (fun s7 wx=>∃ i2:Nat,s7=.int .i64 i2∧a<i2∧i2≤b∧aA w blk off dk wx∧scanSorted ltInt dk b i=i2);case first=>
   go_wp2;go_loopw [7] (PY w blk off a b i dk) (fun vi _=>b - (intOf vi).toNat);(case atStart=>exact⟨i,rfl,hai,qql,hib,HR.out,rfl⟩);obtain⟨i2,rfl,JH,hi2,Kc,hrow,hS⟩:=hrel;obtain⟨G,hG,eB,gN⟩:=hrow.cells lE;have dP:=qqh hrow;have HG:=qqh hG;have HS:=qqh hS;clear hrow hG hS;go_wp2;by_cases hlt:i2<b
   ·go_quiet (first | (go_at_call 185;refine Calls.quiet_of_same (bG _ _ _)));cases hl:ltInt (G i2) (G (i2 - 1))with
    | false=>
     have HM:=qqh (show scanSorted ltInt dk b (i2+1)=scanSorted ltInt dk b i by rw [← HS.out];conv=>rhs;rw [scanSorted];rw [if_pos (by rw [← HG.out,← HG.out,hl];simpa using hlt)]);go_wp2;exact⟨⟨i2+1,by go_num,by omega,by omega,by omega,dP.out.drewN _,HM.out⟩,by simp only [intOf];omega⟩
    | true=>
     have HM:=qqh (show scanSorted ltInt dk b i=i2 by rw [← HS.out,scanSorted,if_neg (by rw [← HG.out,← HG.out,hl];simp)]);go_wp2;go_meet;exact⟨i2,rfl,JH,Kc,dP.out.drewN _,HM.out⟩
   have HM:=qqh (show scanSorted ltInt dk b i=i2 by rw [← HS.out,scanSorted,if_neg (by simpa using fun h=>absurd h hlt)]);have hdf:decide ((i2:Int)<(b:Int))=false:=(by simp;omega);go_quiet (first | (go_at_call 185;refine Calls.quiet_of_same (bG _ _ _)));go_wp2;go_meet;exact⟨i2,rfl,JH,Kc,dP.out.drewN _,HM.out⟩
  case rest=>
  obtain⟨i2,rfl,JH,Kc,hrow,hS⟩:=hcut;have dP:=qqh hrow;by_cases I4:i2=b
  ·have HM:=qqh (show partialInsertionSort ltInt d a b=(dk,true) by rw [← HO.out,partialIns];simp only [hS];rw [if_pos I4]);have aa5:((i2:Int) ==(b:Int))=true:=(by simp;omega);clear hS hrow I4;go_wp2_with fail;go_ret;rw [HM.out];exact⟨rfl,dP.out⟩
  have aa5:((i2:Int) ==(b:Int))=false:=(by simp;omega);have ae7:i2<b:=(by omega);by_cases ZO:b - a<50
  ·have HM:=qqh (show partialInsertionSort ltInt d a b=(dk,false) by rw [← HO.out,partialIns];simp only [hS];rw [if_neg I4,if_pos ZO]);have Zg:(b:Int) - (a:Int)<50:=(by omega);clear hS hrow I4;go_wp2_with fail;go_ret;rw [HM.out];exact⟨rfl,dP.out⟩
  have HMO:=qqh (show partialIns ltInt a b s i2 (if b - i2≥2 then shiftUp ltInt b (i2+1) (if i2 - a≥2 then shiftDown ltInt (i2 - 1) (swp dk i2 (i2 - 1))else swp dk i2 (i2 - 1))else (if i2 - a≥2 then shiftDown ltInt (i2 - 1) (swp dk i2 (i2 - 1))else swp dk i2 (i2 - 1)))=partialInsertionSort ltInt d a b by rw [← HO.out];conv=>rhs;rw [partialIns];simp only [hS];rw [if_neg I4,if_neg ZO]);have Zg:¬(b:Int) - (a:Int)<50:=(by omega);obtain⟨G,hG,eB,gN⟩:=hrow.cells lE;have HG:=qqh hG;clear hS hrow I4 hG;go_upto_region 11 with fail;go_cut [] (fun wx=>aA w blk off (swp dk i2 (i2 - 1)) wx);case first=>
   go_region
   all_goals
     go_wp2
     go_meet
     exact(dP.out.drewN _).swap HG.out (by omega) (by omega)
  case rest=>
  have hs1:(swp dk i2 (i2 - 1)).size=d.size:=(by rw [Sort.swp_size];exact lE);have pO:=qqh hcut;clear hcut eB gN dP HG;generalize swp dk i2 (i2 - 1)=d1 at *;go_upto_if 61 with fail;go_cut [] (fun wx=>aA w blk off (if i2 - a≥2 then shiftDown ltInt (i2 - 1) d1 else d1) wx);case first=>
   by_cases h2:i2 - a≥2
   ·have Jv:=qqh (show(if i2 - a≥2 then shiftDown ltInt (i2 - 1) d1 else d1)=shiftDown ltInt (i2 - 1) d1 from if_pos h2);have h3:2≤(i2:Int) - (a:Int):=(by omega);clear h2;go_wp2;go_loopw [9] (Qs w blk off b i2 d.size d1) (fun vj _=>(intOf vj).toNat);(case atStart=>exact⟨i2 - 1,d1,by go_num,by omega,hs1,pO.out,rfl⟩);obtain⟨j,dj,rfl,hjb,hsj,hrow,hS⟩:=hrel;have yo:=qqh hrow;have SK:=qqh hS;by_cases hj:1≤j
    ·obtain⟨G,hG,eB,gN⟩:=hrow.cells hsj;have HG:=qqh hG;clear hrow hS hG;go_wp2;go_quiet (first | (go_at_call 185;refine Calls.quiet_of_same (bG _ _ _)));have YN:∀ t,t<d.size→(wr.drewN nq).cell? ⟨blk,off+t,none⟩=some (.int .i32 (G t)):=eB;have YO:∀ t,t<d.size→(wr.drewN nq).frozen? ⟨blk,off+t,none⟩=false:=gN;have Hp:=qqh (yo.out.drewN nq);generalize wr.drewN nq=wq at *;clear eB gN yo;cases hl:ltInt (G j) (G (j - 1))with
     | true=>
      have HM:=qqh ((L8 ltInt (d:=dj) hj (by rw [← HG.out,← HG.out];exact hl)).symm.trans SK.out);go_wp2;go_region;(all_goals go_wp2)
      all_goals
        exact⟨⟨j - 1,swp dj j (j - 1),by go_num,by omega,by rw [Sort.swp_size];exact hsj,(Hp.out.drewN _).swap HG.out (by omega) (by omega),HM.out⟩,by simp only [intOf];omega⟩
     | false=>
      have HM:=qqh ((GN ltInt (d:=dj) (.inr (by rw [← HG.out,← HG.out];exact hl))).symm.trans SK.out);go_wp2;go_meet;rw [Jv.out,← HM.out];exact Hp.out
    have HM:=qqh ((GN ltInt (d:=dj) (.inl (by omega))).symm.trans SK.out);clear hrow hS;go_wp2;go_meet;rw [Jv.out,← HM.out];exact yo.out
   have Jv:=qqh (show(if i2 - a≥2 then shiftDown ltInt (i2 - 1) d1 else d1)=d1 from if_neg h2);have h3:¬(2≤(i2:Int) - (a:Int)):=(by omega);clear h2;go_wp2;go_meet;rw [Jv.out];exact pO.out
  case rest=>
  have CP:=qqh hcut;clear hcut pO;have uL:(if i2 - a≥2 then shiftDown ltInt (i2 - 1) d1 else d1).size=d.size:=by
   by_cases h2:i2 - a≥2
   ·rw [if_pos h2,Mu];exact hs1
   rw [if_neg h2];exact hs1
  generalize (if i2 - a≥2 then shiftDown ltInt (i2 - 1) d1 else d1)=d2 at *;go_upto_if 98 with fail;by_cases h2:b - i2≥2
  ·have Jv:=qqh (show(if b - i2≥2 then shiftUp ltInt b (i2+1) d2 else d2)=shiftUp ltInt b (i2+1) d2 from if_pos h2);have h3:2≤(b:Int) - (i2:Int):=(by omega);clear h2;go_wp2;go_loopw [10] (WX w blk off b i2 d.size d2) (fun vj _=>b - (intOf vj).toNat);(case atStart=>exact⟨i2+1,d2,by go_num,by omega,by omega,uL,CP.out,rfl⟩);obtain⟨j,dj,rfl,Sq,hjb,hsj,hrow,hS⟩:=hrel;have yo:=qqh hrow;have SK:=qqh hS;by_cases hj:j<b
   ·obtain⟨G,hG,eB,gN⟩:=hrow.cells hsj;have HG:=qqh hG;clear hrow hS hG;go_wp2;go_quiet (first | (go_at_call 185;refine Calls.quiet_of_same (bG _ _ _)));have YN:∀ t,t<d.size→(wr.drewN nq).cell? ⟨blk,off+t,none⟩=some (.int .i32 (G t)):=eB;have YO:∀ t,t<d.size→(wr.drewN nq).frozen? ⟨blk,off+t,none⟩=false:=gN;have Hp:=qqh (yo.out.drewN nq);generalize wr.drewN nq=wq at *;clear eB gN yo;cases hl:ltInt (G j) (G (j - 1))with
    | true=>
     have HM:=qqh ((NH ltInt (d:=dj) hj (by rw [← HG.out,← HG.out];exact hl)).symm.trans SK.out);go_wp2;go_region;(all_goals go_wp2)
     all_goals
       exact⟨⟨j+1,swp dj j (j - 1),by go_num,by omega,by omega,by rw [Sort.swp_size];exact hsj,(Hp.out.drewN _).swap HG.out (by omega) (by omega),HM.out⟩,by simp only [intOf];omega⟩
    | false=>
     have HM:=qqh ((Gy ltInt (d:=dj) (.inr (by rw [← HG.out,← HG.out];exact hl))).symm.trans SK.out);go_wp2;exact⟨⟨s,i2,v+1,dj,rfl,rfl,by omega,by omega,JH,Kc,hsj,Hp.out,by rw [HM.out,← Jv.out];exact HMO.out⟩,by simp only [intOf];omega⟩
   have HM:=qqh ((Gy ltInt (d:=dj) (.inl (by omega))).symm.trans SK.out);clear hrow hS;go_wp2;exact⟨⟨s,i2,v+1,dj,rfl,rfl,by omega,by omega,JH,Kc,hsj,yo.out,by rw [HM.out,← Jv.out];exact HMO.out⟩,by simp only [intOf];omega⟩
  have Jv:=qqh (show(if b - i2≥2 then shiftUp ltInt b (i2+1) d2 else d2)=d2 from if_neg h2);have h3:¬(2≤(b:Int) - (i2:Int)):=(by omega);clear h2;go_wp2;exact⟨⟨s,i2,v+1,d2,rfl,rfl,by omega,by omega,JH,Kc,uL,CP.out,by have:=HMO.out;rw [Jv.out]at this;exact this⟩,by simp only [intOf];omega⟩
section
variable {p : Int → Bool} {d : Array Int} {i j x : Nat}
theorem AB (h:x≤j) (hp:p d[x]! = true):scanUp p d j x=scanUp p d j (x+1):=by
 (conv=>lhs;rw [scanUp]);rw [if_pos (by rw [hp];simpa using h)]
theorem sP (h:¬ x≤j∨p d[x]! = false):scanUp p d j x=x:=by
 rw [scanUp];rcases h with h | h
 ·rw [if_neg (by simp [h])]
 rw [if_neg (by simp [h])]
theorem xA (h:i≤x) (h1:1≤x) (hp:p d[x]! = true):scanDown p d i x=scanDown p d i (x - 1):=by
 obtain⟨k,rfl⟩:∃ k,x=k+1:=⟨x - 1,by omega⟩;rw [Nat.add_sub_cancel];(conv=>lhs;rw [scanDown]);rw [if_pos (by rw [hp];simpa using h)]
theorem ou (h:¬ i≤x∨p d[x]! = false):scanDown p d i x=x:=by
 cases x with
 | zero=>rfl
 | succ k=>
  rw [scanDown];rcases h with h | h
  ·rw [if_neg (by simp [h])]
  rw [if_neg (by simp [h])]
end
section
variable {lt : Int → Int → Bool} {a i j i3 j3 : Nat} {d : Array Int}
theorem Su (h1:scanUp (fun x=>lt x d[a]!) d j i=i3) (h2:scanDown (fun x=>!lt x d[a]!) d i3 j=j3) (h:i3 > j3):partLoop lt a i j d=(j3,d):=by
 rw [partLoop];simp only [h1,h2];rw [if_pos h]
theorem PU (h1:scanUp (fun x=>lt x d[a]!) d j i=i3) (h2:scanDown (fun x=>!lt x d[a]!) d i3 j=j3) (h:¬ i3 > j3) (hi:i≤i3) (hj:j3≤j):partLoop lt a i j d=partLoop lt a (i3+1) (j3 - 1) (swp d i3 j3):=by
 rw [partLoop];simp only [h1,h2];rw [if_neg h,dif_pos (by omega)]
theorem RR (h1:scanUp (fun x=>!lt d[a]! x) d j i=i3) (h2:scanDown (fun x=>lt d[a]! x) d i3 j=j3) (h:i3 > j3):partEqLoop lt a i j d=(i3,d):=by
 rw [partEqLoop];simp only [h1,h2];rw [if_pos h]
theorem Pm (h1:scanUp (fun x=>!lt d[a]! x) d j i=i3) (h2:scanDown (fun x=>lt d[a]! x) d i3 j=j3) (h:¬ i3 > j3) (hi:i≤i3) (hj:j3≤j):partEqLoop lt a i j d=partEqLoop lt a (i3+1) (j3 - 1) (swp d i3 j3):=by
 rw [partEqLoop];simp only [h1,h2];rw [if_neg h,dif_pos (by omega)]
end
def Pb (w:World) (blk off a b sz:Nat) (res:Nat × Array Int) (vi vj:Value) (wr:World):Prop :=
  ∃ (i j:Nat) (dj:Array Int),vi=.int .i64 i∧vj=.int .i64 j∧a+1<i∧i≤j+2∧j<b∧dj.size=sz∧aA w blk off dj wr∧partLoop ltInt a i j dj=res
def Uy (w:World) (blk off a b sz:Nat) (res:Nat × Array Int) (vi vj:Value) (wr:World):Prop :=
  ∃ (i j:Nat) (dj:Array Int),vi=.int .i64 i∧vj=.int .i64 j∧a<i∧i≤j+2∧j<b∧dj.size=sz∧aA w blk off dj wr∧partEqLoop ltInt a i j dj=res
theorem lG {wr:World} {blk off n u v:Nat} {G:Nat→Int} (eB:∀ t,t<n→wr.cell? ⟨blk,off+t,none⟩=some (.int .i32 (G t))) (hu:u<n) (hv:v<n):(wr.setCell ⟨blk,off+u,none⟩ (.int .i32 (G v))).cell? ⟨blk,off+v,none⟩=some (.int .i32 (G v)):=by
 by_cases h:u=v
 ·subst h;exact World.cell?_setCell_same _ _ _ (eB u hu)
 rw [World.cell?_setCell_other _ _ _ _ (by intro e;injection e with _ h2 _;omega)];exact eB v hv
theorem vP (blk off cap a b pv:Nat) (d:Array Int) (w:World) (hH:cS w blk off d) (hp1:a≤pv) (hp2:pv<b) (hb:b≤d.size) (hsz:d.size<2305843009213693952) :
    Calls Tryz.prog 187 #[.slice (some ⟨blk,off,none⟩) d.size cap,.int .i64 a,.int .i64 b,.int .i64 pv] w fun e w'=>e=.returned (.tuple #[.int .i64 (partition ltInt d a b pv).1,.bool (partition ltInt d a b pv).2.1])∧aA w blk off (partition ltInt d a b pv).2.2 w':=by
 have fQ:=qqh (aA.start hH);obtain⟨j0,Sq,hj2⟩:∃ j0,j0+1≤b∧b≤j0+1:=⟨b - 1,by omega,by omega⟩;have hjb:b - 1=j0:=(by omega);have HJB:=qqh hjb;clear hH hjb;go_enter Tryz.func187,Tryz.ntmps187;obtain⟨G,hG,eB,gN⟩:=fQ.out.cells rfl;have HG:=qqh hG;clear hG;have qF:(w.setCell ⟨blk,off+a,none⟩ (.int .i32 (G pv))).cell? ⟨blk,off+pv,none⟩=some (.int .i32 (G pv)):=lG eB (by omega) (by omega);have Hz:(w.setCell ⟨blk,off+a,none⟩ (.int .i32 (G pv))).drew.cell? ⟨blk,off+pv,none⟩=some (.int .i32 (G pv)):=qF;go_upto_region 1 with fail;go_cut [] (fun wx=>aA w blk off (swp d a pv) wx);case first=>
  go_region
  all_goals
    go_wp2
    go_meet
    exact(fQ.out.drewN _).swap HG.out (j:=a) (k:=pv) (by omega) (by omega)
 case rest=>
 have iE:=qqh hcut;clear hcut eB gN qF Hz HG;have x8:(swp d a pv).size=d.size:=(by rw [Sort.swp_size]);generalize qC:swp d a pv=d1 at *;have HDD:=qqh qC;clear qC fQ;have AD:((b:Int) - 1)=(j0:Int):=(by omega);go_upto_block 0 with fail;go_cut [10] (fun s wx=>∃ x:Nat,s=.int .i64 x∧(a+1)≤x∧x≤j0+1∧aA w blk off d1 wx∧scanUp (fun x=>ltInt x d1[a]!) d1 j0 (a+1)=x);case first=>
  go_wp2;go_loopw [10] (fun vi wx=>∃ x:Nat,vi=.int .i64 x∧(a+1)≤x∧x≤j0+1∧aA w blk off d1 wx∧scanUp (fun x=>ltInt x d1[a]!) d1 j0 x=scanUp (fun x=>ltInt x d1[a]!) d1 j0 (a+1)) (fun vi _=>j0+1 - (intOf vi).toNat);(case atStart=>exact⟨(a+1),rfl,qql,by omega,iE.out,rfl⟩);obtain⟨x,rfl,hx1,hx2,hrow,hS⟩:=hrel;obtain⟨G,hG,eB,gN⟩:=hrow.cells x8;have eP:=qqh hrow;have HG:=qqh hG;have HS:=qqh hS;clear hrow hG hS;go_wp2;by_cases hij:x≤j0
  ·go_quiet (first | (go_at_call 185;refine Calls.quiet_of_same (bG _ _ _)));cases hl:ltInt (G x) (G a)with
   | true=>
    have HM:=qqh ((AB (p:=(fun x=>ltInt x d1[a]!)) (d:=d1) hij (by show ltInt d1[x]! d1[a]! = true;rw [← HG.out,← HG.out,hl])).symm.trans HS.out);go_wp2;exact⟨⟨x+1,by go_num,by omega,by omega,eP.out.drewN _,HM.out⟩,by simp only [intOf];omega⟩
   | false=>
    have HM:=qqh ((HS.out.symm.trans (sP (p:=(fun x=>ltInt x d1[a]!)) (d:=d1) (.inr (by show ltInt d1[x]! d1[a]! = false;rw [← HG.out,← HG.out,hl])))));go_wp2;go_meet;exact⟨x,rfl,hx1,hx2,eP.out.drewN _,HM.out⟩
  have hdf:decide ((x:Int)≤(j0:Int))=false:=(by simp;omega);have HM:=qqh ((HS.out.symm.trans (sP (p:=(fun x=>ltInt x d1[a]!)) (d:=d1) (.inl hij))));go_quiet (first | (go_at_call 185;refine Calls.quiet_of_same (bG _ _ _)));go_wp2;go_meet;exact⟨x,rfl,hx1,hx2,eP.out.drewN _,HM.out⟩
 case rest=>
 obtain⟨i2,rfl,ahQ,afg,hrow,UM⟩:=hcut;have dP:=qqh hrow;clear hrow;go_upto_block 2 with fail;go_cut [11] (fun s wx=>∃ x:Nat,s=.int .i64 x∧i2≤x+1∧x≤j0∧aA w blk off d1 wx∧scanDown (fun x=>!ltInt x d1[a]!) d1 i2 j0=x);case first=>
  go_wp2;go_loopw [11] (fun vi wx=>∃ x:Nat,vi=.int .i64 x∧i2≤x+1∧x≤j0∧aA w blk off d1 wx∧scanDown (fun x=>!ltInt x d1[a]!) d1 i2 x=scanDown (fun x=>!ltInt x d1[a]!) d1 i2 j0) (fun vi _=>(intOf vi).toNat);(case atStart=>exact⟨j0,rfl,by omega,qql,dP.out,rfl⟩);obtain⟨x,rfl,hx1,hx2,hrow,hS⟩:=hrel;obtain⟨G,hG,eB,gN⟩:=hrow.cells x8;have eP:=qqh hrow;have HG:=qqh hG;have HS:=qqh hS;clear hrow hG hS;go_wp2;by_cases hij:i2≤x
  ·go_quiet (first | (go_at_call 185;refine Calls.quiet_of_same (bG _ _ _)));cases hl:ltInt (G x) (G a)with
   | false=>
    have HM:=qqh ((xA (p:=(fun x=>!ltInt x d1[a]!)) (d:=d1) hij (by omega) (by show(!ltInt d1[x]! d1[a]!)=true;rw [← HG.out,← HG.out,hl];rfl)).symm.trans HS.out);go_wp2;exact⟨⟨x - 1,by go_num,by omega,by omega,eP.out.drewN _,HM.out⟩,by simp only [intOf];omega⟩
   | true=>
    have HM:=qqh ((HS.out.symm.trans (ou (p:=(fun x=>!ltInt x d1[a]!)) (d:=d1) (.inr (by show(!ltInt d1[x]! d1[a]!)=false;rw [← HG.out,← HG.out,hl];rfl)))));go_wp2;go_meet;exact⟨x,rfl,hx1,hx2,eP.out.drewN _,HM.out⟩
  have hdf:decide ((i2:Int)≤(x:Int))=false:=(by simp;omega);have HM:=qqh ((HS.out.symm.trans (ou (p:=(fun x=>!ltInt x d1[a]!)) (d:=d1) (.inl hij))));go_quiet (first | (go_at_call 185;refine Calls.quiet_of_same (bG _ _ _)));go_wp2;go_meet;exact⟨x,rfl,hx1,hx2,eP.out.drewN _,HM.out⟩
 case rest=>
 obtain⟨j2,rfl,ahM,af0,hrow,VK⟩:=hcut;have pO:=qqh hrow;clear hrow;have Em:=qqh (show partition ltInt d a b pv=if i2 > j2 then (j2,true,swp d1 j2 a)else ((partLoop ltInt a (i2+1) (j2 - 1) (swp d1 i2 j2)).1,false,swp (partLoop ltInt a (i2+1) (j2 - 1) (swp d1 i2 j2)).2 (partLoop ltInt a (i2+1) (j2 - 1) (swp d1 i2 j2)).1 a) by unfold partition;simp only [HDD.out,HJB.out,UM,VK]);clear UM VK dP iE;by_cases hgt:j2<i2
 ·have Hh:=qqh (Em.out.trans (if_pos hgt));obtain⟨G,hG,eB,gN⟩:=pO.out.cells x8;have HG:=qqh hG;clear hG;have qF:(wc.setCell ⟨blk,off+j2,none⟩ (.int .i32 (G a))).cell? ⟨blk,off+a,none⟩=some (.int .i32 (G a)):=lG eB (by omega) (by omega);have Hz:(wc.setCell ⟨blk,off+j2,none⟩ (.int .i32 (G a))).drew.cell? ⟨blk,off+a,none⟩=some (.int .i32 (G a)):=qF;go_upto_region 8 with fail;go_region
  all_goals
    have Er:=qqh (show aA w blk off (swp d1 j2 a) _ from(pO.out.drewN 1).swap HG.out (j:=j2) (k:=a) (by omega) (by omega))
    go_wp2_with fail
    refine bodyPost_ret (v:=.tuple #[.int .i64 j2,.bool true]) (by simp [results,Tryz.results187,go_sem]) (by rfl) ?_
    rw [Hh.out]
    exact⟨rfl,Er.out⟩
 have Hh:=qqh (Em.out.trans (if_neg hgt));obtain⟨G,hG,eB,gN⟩:=pO.out.cells x8;have HG:=qqh hG;clear hG;have qF:(wc.setCell ⟨blk,off+i2,none⟩ (.int .i32 (G j2))).cell? ⟨blk,off+j2,none⟩=some (.int .i32 (G j2)):=lG eB (by omega) (by omega);have Hz:(wc.setCell ⟨blk,off+i2,none⟩ (.int .i32 (G j2))).drew.cell? ⟨blk,off+j2,none⟩=some (.int .i32 (G j2)):=qF;go_upto_region 10 with fail;go_cut [] (fun wx=>aA w blk off (swp d1 i2 j2) wx);case first=>
  go_region
  all_goals
    go_wp2
    go_meet
    exact(pO.out.drewN _).swap HG.out (j:=i2) (k:=j2) (by omega) (by omega)
 case rest=>
 have CP:=qqh hcut;clear hcut eB gN qF Hz HG;have x8:(swp d1 i2 j2).size=d.size:=(by rw [Sort.swp_size];exact x8);generalize Qh:partLoop ltInt a (i2+1) (j2 - 1) (swp d1 i2 j2)=res at Hh;generalize swp d1 i2 j2=d2 at *;have qB:=qqh Qh;clear Qh;go_upto_block 4 with fail;go_cut [11] (fun XM wx=>∃ (jf:Nat) (df:Array Int),XM=.int .i64 jf∧a≤jf∧jf<b∧df.size=d.size∧aA w blk off df wx∧res=(jf,df));case first=>
  go_wp2;go_loopw [10,11] (Pb w blk off a b d.size res) (fun vi vj _=>((intOf vj)+1 - (intOf vi)).toNat);(case atStart=>exact⟨i2+1,j2 - 1,d2,by go_num,by go_num,by omega,by omega,by omega,x8,CP.out,qB.out⟩);obtain⟨i,j,dj,rfl,rfl,hai,Za,hjb,x8,hrow,hP⟩:=hrel;have Au:=qqh hrow;have HP:=qqh hP;clear hrow hP;go_upto_block 6 with fail;go_cut [10] (fun s wx=>∃ x:Nat,s=.int .i64 x∧i≤x∧x≤j+2∧aA w blk off dj wx∧scanUp (fun x=>ltInt x dj[a]!) dj j i=x);case first=>
   go_wp2;go_loopw [10] (fun vi wx=>∃ x:Nat,vi=.int .i64 x∧i≤x∧x≤j+2∧aA w blk off dj wx∧scanUp (fun x=>ltInt x dj[a]!) dj j x=scanUp (fun x=>ltInt x dj[a]!) dj j i) (fun vi _=>j+1 - (intOf vi).toNat);(case atStart=>exact⟨i,rfl,qql,by omega,Au.out,rfl⟩);obtain⟨x,rfl,hx1,hx2,hrow,hS⟩:=hrel;obtain⟨G,hG,eB,gN⟩:=hrow.cells x8;have eP:=qqh hrow;have HG:=qqh hG;have HS:=qqh hS;clear hrow hG hS;go_wp2;by_cases hij:x≤j
   ·go_quiet (first | (go_at_call 185;refine Calls.quiet_of_same (bG _ _ _)));cases hl:ltInt (G x) (G a)with
    | true=>
     have HM:=qqh ((AB (p:=(fun x=>ltInt x dj[a]!)) (d:=dj) hij (by show ltInt dj[x]! dj[a]! = true;rw [← HG.out,← HG.out,hl])).symm.trans HS.out);go_wp2;exact⟨⟨x+1,by go_num,by omega,by omega,eP.out.drewN _,HM.out⟩,by simp only [intOf];omega⟩
    | false=>
     have HM:=qqh ((HS.out.symm.trans (sP (p:=(fun x=>ltInt x dj[a]!)) (d:=dj) (.inr (by show ltInt dj[x]! dj[a]! = false;rw [← HG.out,← HG.out,hl])))));go_wp2;go_meet;exact⟨x,rfl,hx1,hx2,eP.out.drewN _,HM.out⟩
   have hdf:decide ((x:Int)≤(j:Int))=false:=(by simp;omega);have HM:=qqh ((HS.out.symm.trans (sP (p:=(fun x=>ltInt x dj[a]!)) (d:=dj) (.inl hij))));go_quiet (first | (go_at_call 185;refine Calls.quiet_of_same (bG _ _ _)));go_wp2;go_meet;exact⟨x,rfl,hx1,hx2,eP.out.drewN _,HM.out⟩
  case rest=>
  obtain⟨i3,rfl,RG,aa2,hrow,Bf⟩:=hcut;have Dm:=qqh hrow;clear hrow;go_upto_block 8 with fail;go_cut [11] (fun s wx=>∃ x:Nat,s=.int .i64 x∧i3≤x+2∧x≤j∧aA w blk off dj wx∧scanDown (fun x=>!ltInt x dj[a]!) dj i3 j=x);case first=>
   go_wp2;go_loopw [11] (fun vi wx=>∃ x:Nat,vi=.int .i64 x∧i3≤x+2∧x≤j∧aA w blk off dj wx∧scanDown (fun x=>!ltInt x dj[a]!) dj i3 x=scanDown (fun x=>!ltInt x dj[a]!) dj i3 j) (fun vi _=>(intOf vi).toNat);(case atStart=>exact⟨j,rfl,by omega,qql,Dm.out,rfl⟩);obtain⟨x,rfl,hx1,hx2,hrow,hS⟩:=hrel;obtain⟨G,hG,eB,gN⟩:=hrow.cells x8;have eP:=qqh hrow;have HG:=qqh hG;have HS:=qqh hS;clear hrow hG hS;go_wp2;by_cases hij:i3≤x
   ·go_quiet (first | (go_at_call 185;refine Calls.quiet_of_same (bG _ _ _)));cases hl:ltInt (G x) (G a)with
    | false=>
     have HM:=qqh ((xA (p:=(fun x=>!ltInt x dj[a]!)) (d:=dj) hij (by omega) (by show(!ltInt dj[x]! dj[a]!)=true;rw [← HG.out,← HG.out,hl];rfl)).symm.trans HS.out);go_wp2;exact⟨⟨x - 1,by go_num,by omega,by omega,eP.out.drewN _,HM.out⟩,by simp only [intOf];omega⟩
    | true=>
     have HM:=qqh ((HS.out.symm.trans (ou (p:=(fun x=>!ltInt x dj[a]!)) (d:=dj) (.inr (by show(!ltInt dj[x]! dj[a]!)=false;rw [← HG.out,← HG.out,hl];rfl)))));go_wp2;go_meet;exact⟨x,rfl,hx1,hx2,eP.out.drewN _,HM.out⟩
   have hdf:decide ((i3:Int)≤(x:Int))=false:=(by simp;omega);have HM:=qqh ((HS.out.symm.trans (ou (p:=(fun x=>!ltInt x dj[a]!)) (d:=dj) (.inl hij))));go_quiet (first | (go_at_call 185;refine Calls.quiet_of_same (bG _ _ _)));go_wp2;go_meet;exact⟨x,rfl,hx1,hx2,eP.out.drewN _,HM.out⟩
  case rest=>
  obtain⟨j3,rfl,abf,Tu,hrow,Ak⟩:=hcut;have Th:=qqh hrow;clear hrow;by_cases Mh:j3<i3
  ·have HM:=qqh (show res=(j3,dj) by rw [← HP.out];exact Su Bf Ak Mh);clear Bf Ak;go_wp2;go_meet;exact⟨j3,dj,rfl,by omega,by omega,x8,Th.out,HM.out⟩
  have HM:=qqh (show partLoop ltInt a (i3+1) (j3 - 1) (swp dj i3 j3)=res by rw [← HP.out];exact(PU Bf Ak Mh RG Tu).symm);clear Bf Ak;obtain⟨G,hG,eB,gN⟩:=Th.out.cells x8;have HG:=qqh hG;clear hG;have qF:(wc.setCell ⟨blk,off+i3,none⟩ (.int .i32 (G j3))).cell? ⟨blk,off+j3,none⟩=some (.int .i32 (G j3)):=lG eB (by omega) (by omega);have Hz:(wc.setCell ⟨blk,off+i3,none⟩ (.int .i32 (G j3))).drew.cell? ⟨blk,off+j3,none⟩=some (.int .i32 (G j3)):=qF;go_upto_region 18 with fail;go_cut [] (fun wx=>aA w blk off (swp dj i3 j3) wx);case first=>
   go_region
   all_goals
     go_wp2
     go_meet
     exact(Th.out.drewN _).swap HG.out (j:=i3) (k:=j3) (by omega) (by omega)
  case rest=>
  have pJ:=qqh hcut;clear hcut eB gN qF Hz HG;have hsE:(swp dj i3 j3).size=d.size:=(by rw [Sort.swp_size];exact x8);go_wp2_with fail;exact⟨⟨i3+1,j3 - 1,_,by go_num,by go_num,by omega,by omega,by omega,hsE,pJ.out,HM.out⟩,by simp only [intOf];omega⟩
 case rest=>
 obtain⟨jf,df,rfl,ahz,ae',x8,hrow,hres⟩:=hcut;have BN:=qqh hrow;have Ik:=qqh (show partition ltInt d a b pv=(jf,false,swp df jf a) by rw [Hh.out,hres]);clear hrow hres;obtain⟨G,hG,eB,gN⟩:=BN.out.cells x8;have HG:=qqh hG;clear hG;have qF:(wc.setCell ⟨blk,off+jf,none⟩ (.int .i32 (G a))).cell? ⟨blk,off+a,none⟩=some (.int .i32 (G a)):=lG eB (by omega) (by omega);have Hz:(wc.setCell ⟨blk,off+jf,none⟩ (.int .i32 (G a))).drew.cell? ⟨blk,off+a,none⟩=some (.int .i32 (G a)):=qF;go_upto_region 21 with fail;go_region
 all_goals
   have Er:=qqh (show aA w blk off (swp df jf a) _ from(BN.out.drewN 1).swap HG.out (j:=jf) (k:=a) (by omega) (by omega))
   go_wp2_with fail
   refine bodyPost_ret (v:=.tuple #[.int .i64 jf,.bool false]) (by simp [results,Tryz.results187,go_sem]) (by rfl) ?_
   rw [Ik.out]
   exact⟨rfl,Er.out⟩
theorem Cr (blk off cap a b pv:Nat) (d:Array Int) (w:World) (hH:cS w blk off d) (hp1:a≤pv) (hp2:pv<b) (hb:b≤d.size) (hsz:d.size<2305843009213693952) :
    Calls Tryz.prog 186 #[.slice (some ⟨blk,off,none⟩) d.size cap,.int .i64 a,.int .i64 b,.int .i64 pv] w fun e w'=>e=.returned (.int .i64 (partitionEqual ltInt d a b pv).1)∧aA w blk off (partitionEqual ltInt d a b pv).2 w':=by
 have fQ:=qqh (aA.start hH);obtain⟨j0,Sq,hj2⟩:∃ j0,j0+1≤b∧b≤j0+1:=⟨b - 1,by omega,by omega⟩;have hjb:b - 1=j0:=(by omega);have Em:=qqh (show partitionEqual ltInt d a b pv=partEqLoop ltInt a (a+1) j0 (swp d a pv) by unfold partitionEqual;rw [hjb]);clear hH hjb;go_enter Tryz.func186,Tryz.ntmps186;obtain⟨G,hG,eB,gN⟩:=fQ.out.cells rfl;have HG:=qqh hG;clear hG;have qF:(w.setCell ⟨blk,off+a,none⟩ (.int .i32 (G pv))).cell? ⟨blk,off+pv,none⟩=some (.int .i32 (G pv)):=lG eB (by omega) (by omega);have Hz:(w.setCell ⟨blk,off+a,none⟩ (.int .i32 (G pv))).drew.cell? ⟨blk,off+pv,none⟩=some (.int .i32 (G pv)):=qF;go_upto_region 1 with fail;go_cut [] (fun wx=>aA w blk off (swp d a pv) wx);case first=>
  go_region
  all_goals
    go_wp2
    go_meet
    exact(fQ.out.drewN _).swap HG.out (j:=a) (k:=pv) (by omega) (by omega)
 case rest=>
 have iE:=qqh hcut;clear hcut eB gN qF Hz HG;have x8:(swp d a pv).size=d.size:=(by rw [Sort.swp_size]);generalize Qh:partEqLoop ltInt a (a+1) j0 (swp d a pv)=res at Em;generalize swp d a pv=d1 at *;have qB:=qqh Qh;clear Qh fQ;have AD:((b:Int) - 1)=(j0:Int):=(by omega);go_wp2;go_loopw [9,10] (Uy w blk off a b d.size res) (fun vi vj _=>((intOf vj)+1 - (intOf vi)).toNat);(case atStart=>exact⟨a+1,j0,d1,by go_num,by go_num,by omega,by omega,by omega,x8,iE.out,qB.out⟩);obtain⟨i,j,dj,rfl,rfl,hai,Za,hjb,x8,hrow,hP⟩:=hrel;have Au:=qqh hrow;have HP:=qqh hP;clear hrow hP;go_upto_block 2 with fail;go_cut [9] (fun s wx=>∃ x:Nat,s=.int .i64 x∧i≤x∧x≤j+2∧aA w blk off dj wx∧scanUp (fun x=>!ltInt dj[a]! x) dj j i=x);case first=>
  go_wp2;go_loopw [9] (fun vi wx=>∃ x:Nat,vi=.int .i64 x∧i≤x∧x≤j+2∧aA w blk off dj wx∧scanUp (fun x=>!ltInt dj[a]! x) dj j x=scanUp (fun x=>!ltInt dj[a]! x) dj j i) (fun vi _=>j+1 - (intOf vi).toNat);(case atStart=>exact⟨i,rfl,qql,by omega,Au.out,rfl⟩);obtain⟨x,rfl,hx1,hx2,hrow,hS⟩:=hrel;obtain⟨G,hG,eB,gN⟩:=hrow.cells x8;have eP:=qqh hrow;have HG:=qqh hG;have HS:=qqh hS;clear hrow hG hS;go_wp2;by_cases hij:x≤j
  ·go_quiet (first | (go_at_call 185;refine Calls.quiet_of_same (bG _ _ _)));cases hl:ltInt (G a) (G x)with
   | false=>
    have HM:=qqh ((AB (p:=(fun x=>!ltInt dj[a]! x)) (d:=dj) hij (by show(!ltInt dj[a]! dj[x]!)=true;rw [← HG.out,← HG.out,hl];rfl)).symm.trans HS.out);go_wp2;exact⟨⟨x+1,by go_num,by omega,by omega,eP.out.drewN _,HM.out⟩,by simp only [intOf];omega⟩
   | true=>
    have HM:=qqh ((HS.out.symm.trans (sP (p:=(fun x=>!ltInt dj[a]! x)) (d:=dj) (.inr (by show(!ltInt dj[a]! dj[x]!)=false;rw [← HG.out,← HG.out,hl];rfl)))));go_wp2;go_meet;exact⟨x,rfl,hx1,hx2,eP.out.drewN _,HM.out⟩
  have hdf:decide ((x:Int)≤(j:Int))=false:=(by simp;omega);have HM:=qqh ((HS.out.symm.trans (sP (p:=(fun x=>!ltInt dj[a]! x)) (d:=dj) (.inl hij))));go_quiet (first | (go_at_call 185;refine Calls.quiet_of_same (bG _ _ _)));go_wp2;go_meet;exact⟨x,rfl,hx1,hx2,eP.out.drewN _,HM.out⟩
 case rest=>
 obtain⟨i3,rfl,RG,aa2,hrow,Bf⟩:=hcut;have Dm:=qqh hrow;clear hrow;go_upto_block 4 with fail;go_cut [10] (fun s wx=>∃ x:Nat,s=.int .i64 x∧i3≤x+2∧x≤j∧aA w blk off dj wx∧scanDown (fun x=>ltInt dj[a]! x) dj i3 j=x);case first=>
  go_wp2;go_loopw [10] (fun vi wx=>∃ x:Nat,vi=.int .i64 x∧i3≤x+2∧x≤j∧aA w blk off dj wx∧scanDown (fun x=>ltInt dj[a]! x) dj i3 x=scanDown (fun x=>ltInt dj[a]! x) dj i3 j) (fun vi _=>(intOf vi).toNat);(case atStart=>exact⟨j,rfl,by omega,qql,Dm.out,rfl⟩);obtain⟨x,rfl,hx1,hx2,hrow,hS⟩:=hrel;obtain⟨G,hG,eB,gN⟩:=hrow.cells x8;have eP:=qqh hrow;have HG:=qqh hG;have HS:=qqh hS;clear hrow hG hS;go_wp2;by_cases hij:i3≤x
  ·go_quiet (first | (go_at_call 185;refine Calls.quiet_of_same (bG _ _ _)));cases hl:ltInt (G a) (G x)with
   | true=>
    have HM:=qqh ((xA (p:=(fun x=>ltInt dj[a]! x)) (d:=dj) hij (by omega) (by show ltInt dj[a]! dj[x]! = true;rw [← HG.out,← HG.out,hl])).symm.trans HS.out);go_wp2;exact⟨⟨x - 1,by go_num,by omega,by omega,eP.out.drewN _,HM.out⟩,by simp only [intOf];omega⟩
   | false=>
    have HM:=qqh ((HS.out.symm.trans (ou (p:=(fun x=>ltInt dj[a]! x)) (d:=dj) (.inr (by show ltInt dj[a]! dj[x]! = false;rw [← HG.out,← HG.out,hl])))));go_wp2;go_meet;exact⟨x,rfl,hx1,hx2,eP.out.drewN _,HM.out⟩
  have hdf:decide ((i3:Int)≤(x:Int))=false:=(by simp;omega);have HM:=qqh ((HS.out.symm.trans (ou (p:=(fun x=>ltInt dj[a]! x)) (d:=dj) (.inl hij))));go_quiet (first | (go_at_call 185;refine Calls.quiet_of_same (bG _ _ _)));go_wp2;go_meet;exact⟨x,rfl,hx1,hx2,eP.out.drewN _,HM.out⟩
 case rest=>
 obtain⟨j3,rfl,abf,Tu,hrow,Ak⟩:=hcut;have Th:=qqh hrow;clear hrow;by_cases Mh:j3<i3
 ·have HM:=qqh (show partitionEqual ltInt d a b pv=(i3,dj) by rw [Em.out,← HP.out];exact RR Bf Ak Mh);clear Bf Ak;go_wp2_with fail;go_ret;rw [HM.out];exact⟨rfl,Th.out⟩
 have HM:=qqh (show partEqLoop ltInt a (i3+1) (j3 - 1) (swp dj i3 j3)=res by rw [← HP.out];exact(Pm Bf Ak Mh RG Tu).symm);clear Bf Ak;obtain⟨G,hG,eB,gN⟩:=Th.out.cells x8;have HG:=qqh hG;clear hG;have qF:(wc.setCell ⟨blk,off+i3,none⟩ (.int .i32 (G j3))).cell? ⟨blk,off+j3,none⟩=some (.int .i32 (G j3)):=lG eB (by omega) (by omega);have Hz:(wc.setCell ⟨blk,off+i3,none⟩ (.int .i32 (G j3))).drew.cell? ⟨blk,off+j3,none⟩=some (.int .i32 (G j3)):=qF;go_upto_region 8 with fail;go_cut [] (fun wx=>aA w blk off (swp dj i3 j3) wx);case first=>
  go_region
  all_goals
    go_wp2
    go_meet
    exact(Th.out.drewN _).swap HG.out (j:=i3) (k:=j3) (by omega) (by omega)
 case rest=>
 have pJ:=qqh hcut;clear hcut eB gN qF Hz HG;have hsE:(swp dj i3 j3).size=d.size:=(by rw [Sort.swp_size];exact x8);go_wp2_with fail;exact⟨⟨i3+1,j3 - 1,_,by go_num,by go_num,by omega,by omega,by omega,hsE,pJ.out,HM.out⟩,by simp only [intOf];omega⟩
def rY:Prop:=∀ (blk off cap a b sz:Nat) (d:Array Int) (w:World),d.size=sz→cS w blk off d→a+12<b→b≤sz→sz<2305843009213693952 →
  Calls Tryz.prog 181 #[.slice (some ⟨blk,off,none⟩) sz cap,.int .i64 a,.int .i64 b] w fun e w'=>e=.returned (.tuple #[])∧∃ d',PermIn a b d d'∧aA w blk off d' w'
def AZ (m:Nat):Prop:=∀ (blk off cap a b ez sz:Nat) (d:Array Int) (w:World),b≤a+m→d.size=sz→cS w blk off d→a≤b→b≤sz→sz<2305843009213693952→ez<2305843009213693952→Sort.Below ltInt a b d →
  Calls Tryz.prog 163 #[.slice (some ⟨blk,off,none⟩) sz cap,.int .i64 a,.int .i64 b,.int .i64 ez] w fun e w'=>e=.returned (.tuple #[])∧∃ d',PermIn a b d d'∧SortedIn ltInt a b d'∧aA w blk off d' w'
def Vo (w:World) (blk off a b sz:Nat) (d:Array Int) (va vb vl v8 v9:Value) (wr:World):Prop :=
  ∃ (a1 b1 l1:Nat) (wb wp:Bool) (d1:Array Int),va=.int .i64 a1∧vb=.int .i64 b1∧vl=.int .i64 l1∧v8=.bool wb∧v9=.bool wp∧a≤a1∧a1≤b1∧b1≤b∧d1.size=sz∧l1<2305843009213693952∧Sort.Below ltInt a1 b1 d1∧aA w blk off d1 wr ∧
    ∀ R,PermIn a1 b1 d1 R→SortedIn ltInt a1 b1 R→PermIn a b d R∧SortedIn ltInt a b R
theorem rQ:SWO ltInt where
  irrefl:=fun x=>by simp [ltInt]
  trans:=fun x y z h1 h2=>by simp [ltInt]at *;omega
  ntrans:=fun x y z h1 h2=>by simp [ltInt]at *;omega
theorem M0 (Ys:rY) (m:Nat) (ih:∀ k,k<m→AZ k):AZ m:=by
 intro blk off cap a b ez sz d w hm hs hH hab hb hsz wP hB;have HBP:=qqh Ys;have Iv:=qqh ih;have fQ:=qqh (aA.start hH);have ep:=qqh hB;have QY:=qqh hs;clear Ys ih hH hB hs;go_enter Tryz.func163,Tryz.ntmps163;go_wp2;go_loopw [1,2,3,8,9] (Vo w blk off a b sz d) (fun va vb _ _ _ _=>((intOf vb) - (intOf va)).toNat);(case atStart=>exact⟨a,b,ez,true,true,d,rfl,rfl,rfl,rfl,rfl,qql,hab,qql,QY.out,wP,ep.out,fQ.out,fun R h1 h2=>⟨h1,h2⟩⟩);obtain⟨a1,b1,l1,wb,wp,d1,rfl,rfl,rfl,rfl,rfl,mG,P0,aT,hs1,mJ,YD,hrow,hR⟩:=hrel;have iE:=qqh hrow;have pR:=qqh YD;have lH:=qqh hR;have iU:=qqh hs1;clear hrow YD hR hs1 fQ ep;obtain⟨n,Sd,hn2⟩:∃ n,a1+n≤b1∧b1≤a1+n:=⟨b1 - a1,by omega,by omega⟩;have hba:((b1:Int) - (a1:Int))=(n:Int):=(by omega);by_cases h12:n≤12
 ·have HI:=qqh (show Calls Tryz.prog 179 #[.slice (some ⟨blk,off,none⟩) sz cap,.int .i64 a1,.int .i64 b1] wr fun e w'=>e=.returned (.tuple #[])∧aA wr blk off (insertionSort ltInt d1 a1 b1) w' by
   have:=MF blk off cap a1 b1 d1 wr iE.out.row P0 (by rw [iU.out];omega) (by rw [iU.out];omega);rwa [iU.out]at this)
  have hsp:=insertionSort_holds (lt:=ltInt) rQ d1 a1 b1 P0 (by rw [iU.out];omega);have mh:=qqh (lH.out _ hsp.1 hsp.2);have PX:=qqh hsp.1.1;clear hsp;go_wp2_with fail;refine HI.out.mono ?_;rintro e w2 ⟨rfl,hr⟩;have oX:=qqh (iE.out.trans hr PX.out);clear hr;go_wp2_with fail;refine bodyPost_ret (results_none (by rfl) _ _ _) (by rfl) ⟨rfl,_,mh.out.1,mh.out.2,oX.out⟩
 by_cases C5:l1=0
 ·have abk:((l1:Int) == 0)=true:=(by simp;omega);have HI:=qqh (show Calls Tryz.prog 180 #[.slice (some ⟨blk,off,none⟩) sz cap,.int .i64 a1,.int .i64 b1] wr fun e w'=>e=.returned (.tuple #[])∧aA wr blk off (heapSort ltInt d1 a1 b1) w' by
   have:=Jn blk off cap a1 b1 n d1 wr iE.out.row (by omega) (by omega) (by rw [iU.out];omega) (by rw [iU.out];omega);rwa [iU.out]at this)
  have hsp:=heapSort_holds (lt:=ltInt) rQ d1 a1 b1 P0 (by rw [iU.out];omega);have mh:=qqh (lH.out _ hsp.1 hsp.2);have PX:=qqh hsp.1.1;clear hsp C5;go_wp2_with fail;refine HI.out.mono ?_;rintro e w2 ⟨rfl,hr⟩;have oX:=qqh (iE.out.trans hr PX.out);clear hr;go_wp2_with fail;refine bodyPost_ret (results_none (by rfl) _ _ _) (by rfl) ⟨rfl,_,mh.out.1,mh.out.2,oX.out⟩
 have abk:((l1:Int) == 0)=false:=(by simp;omega);have hlp:1≤l1:=(by omega);clear C5;go_upto_if 35 with fail;go_cut [3] (fun s3 wx=>∃ (l2:Nat) (d2:Array Int),s3=.int .i64 l2∧l2<2305843009213693952∧PermIn a1 b1 d1 d2∧aA w blk off d2 wx);case first=>
  cases wb with
  | true=>
   go_wp2_with fail;go_meet;exact⟨l1,d1,rfl,mJ,permIn_refl _ _ _,iE.out⟩
  | false=>
   have HI:=qqh (HBP.out blk off cap a1 b1 sz d1 wr iU.out iE.out.row (by omega) (by omega) hsz);go_wp2_with fail;refine HI.out.mono ?_;rintro e w2 ⟨rfl,d2,hp2,hr⟩;have oX:=qqh (iE.out.trans hr hp2.1);have Ub:=qqh hp2;clear hr hp2;go_wp2_with fail;go_meet;exact⟨l1 - 1,d2,by go_num,by omega,Ub.out,oX.out⟩
 case rest=>
 obtain⟨l2,d2,rfl,jc,hp2,hrow⟩:=hcut;have dP:=qqh hrow;have oF:=qqh hp2;have jS:=qqh (hp2.1.trans iU.out);clear hrow hp2;have HCP:=qqh (FN blk off cap a1 b1 sz d2 wc jS.out dP.out.row (by omega) (by omega) hsz);go_wp2_with fail;refine HCP.out.mono ?_;rintro e w3 ⟨⟨pv,hnt,rfl,aag,FL⟩,bP⟩;have pO:=qqh (dP.out.below bP);clear bP;go_upto_if 50 with fail;go_cut [11,12] (fun XM s12 wx=>∃ (p2 h2:Nat) (d3:Array Int),XM=.int .i64 p2∧s12=.int .i64 h2∧a1≤p2∧p2<b1∧PermIn a1 b1 d2 d3∧aA w blk off d3 wx);case first=>
  by_cases hh:hnt=2
  ·have XO:((hnt:Int) == 2)=true:=(by simp;omega);have HI:=qqh (show Calls Tryz.prog 183 #[.slice (some ⟨blk,off,none⟩) sz cap,.int .i64 a1,.int .i64 b1] w3 fun e w'=>e=.returned (.tuple #[])∧aA w3 blk off (reverseRange d2 a1 b1) w' by
    have:=LO blk off cap a1 b1 d2 w3 pO.out.row (by omega) (by rw [jS.out];omega) (by rw [jS.out];omega);rwa [jS.out]at this)
   have Ub:=qqh (reverseRange_holds d2 a1 b1 P0 (by rw [jS.out];omega));clear hh;go_wp2_with fail;refine HI.out.mono ?_;rintro e w4 ⟨rfl,hr⟩;have oX:=qqh (pO.out.trans hr Ub.out.1);clear hr;go_wp2_with fail;go_meet;exact⟨b1 - 1 - (pv - a1),1,_,by congr 1;omega,rfl,by omega,by omega,Ub.out,oX.out⟩
  have XO:((hnt:Int) == 2)=false:=(by simp;omega);clear hh;go_wp2_with fail;go_meet;exact⟨pv,hnt,d2,rfl,rfl,aag,FL,permIn_refl _ _ _,pO.out⟩
 case rest=>
 obtain⟨p2,h2,d3,rfl,rfl,Pu,PG,Um,hrow⟩:=hcut;have CP:=qqh hrow;have iX:=qqh (permIn_trans _ _ _ _ _ oF.out Um);have Ek:=qqh (Um.1.trans jS.out);have bM:=qqh (pR.out.perm (by rw [iU.out];omega) iX.out);clear hrow Um dP pO oF HCP jS;go_upto_region 15 with fail;go_cut [68] (fun s68 wx=>∃ q:Bool,s68=.bool q∧wx=wc);case first=>
  by_cases hh:h2=1
  ·have XO:((h2:Int) == 1)=true:=(by simp;omega);clear hh;cases wb <;> cases wp
   all_goals
     go_wp2_with fail
     go_meet
     exact⟨_,rfl,rfl⟩
  have XO:((h2:Int) == 1)=false:=(by simp;omega);clear hh;cases wb <;> cases wp
  all_goals
    go_wp2_with fail
    go_meet
    exact⟨_,rfl,rfl⟩
 case rest=>
 obtain⟨q,rfl,rfl⟩:=hcut;go_upto_if 68 with fail;go_cut [] (fun wx=>∃ d4:Array Int,PermIn a1 b1 d3 d4∧aA w blk off d4 wx);case first=>
  cases q with
  | false=>
   go_wp2_with fail;go_meet;exact⟨d3,permIn_refl _ _ _,CP.out⟩
  | true=>
   have HI:=qqh (show Calls Tryz.prog 184 #[.slice (some ⟨blk,off,none⟩) sz cap,.int .i64 a1,.int .i64 b1] wc fun e w'=>e=.returned (.bool (partialInsertionSort ltInt d3 a1 b1).2)∧aA wc blk off (partialInsertionSort ltInt d3 a1 b1).1 w' by
    have:=JQ blk off cap a1 b1 d3 wc CP.out.row (by omega) (by rw [Ek.out];omega) (by rw [Ek.out];omega);rwa [Ek.out]at this)
   have qD:=qqh (partialInsertionSort_holds (lt:=ltInt) rQ d3 a1 b1 (by omega) (by rw [Ek.out];omega) bM.out);generalize partialInsertionSort ltInt d3 a1 b1=res at *;obtain⟨d4,fin⟩:=res;dsimp only at *;go_wp2_with fail;refine HI.out.mono ?_;rintro e w5 ⟨rfl,hr⟩;have oX:=qqh (CP.out.trans hr qD.out.1.1);clear hr HI;cases fin with
   | true=>
    have mh:=qqh (lH.out d4 (permIn_trans _ _ _ _ _ iX.out qD.out.1) (qD.out.2 rfl));go_wp2_with fail;refine bodyPost_ret (results_none (by rfl) _ _ _) (by rfl) ⟨rfl,_,mh.out.1,mh.out.2,oX.out⟩
   | false=>
    go_wp2_with fail;go_meet;exact⟨d4,qD.out.1,oX.out⟩
 case rest=>
 obtain⟨d4,hp4,hrow⟩:=hcut;have BN:=qqh hrow;have KM:=qqh (permIn_trans _ _ _ _ _ iX.out hp4);have wW:=qqh (hp4.1.trans Ek.out);have dS:=qqh (pR.out.perm (by rw [iU.out];omega) KM.out);clear hrow hp4 CP iX Ek bM;go_upto_region 17 with fail;go_cut [87] (fun s87 wx=>∃ q:Bool,s87=.bool q∧aA w blk off d4 wx∧(q=true→0<a1∧ltInt d4[a1 - 1]! d4[p2]! = false));case first=>
  obtain⟨G,hG,eB,gN⟩:=BN.out.cells wW.out;have HG:=qqh hG;clear hG;by_cases ha0:0<a1
  ·have hdf:decide ((0:Int)<(a1:Int))=true:=(by simp;omega);go_quiet (first | (go_at_call 185;refine Calls.quiet_of_same (bG _ _ _)));go_wp2;go_meet;refine⟨!(ltInt (G (a1 - 1)) (G p2)),rfl,BN.out.drewN _,fun h=>⟨ha0,?_⟩⟩;rw [← HG.out,← HG.out];simpa using h
  have hdf:decide ((0:Int)<(a1:Int))=false:=(by simp;omega);go_quiet (first | (go_at_call 185;refine Calls.quiet_of_same (bG _ _ _)));go_wp2;go_meet;exact⟨false,rfl,BN.out.drewN _,fun h=>by cases h⟩
 case rest=>
 obtain⟨q,rfl,hrow,hq⟩:=hcut;have T3:=qqh hrow;clear hrow BN;cases q with
 | true=>
  obtain⟨ha0,hnl⟩:=hq rfl;have HI:=qqh (show Calls Tryz.prog 186 #[.slice (some ⟨blk,off,none⟩) sz cap,.int .i64 a1,.int .i64 b1,.int .i64 p2] wc fun e w'=>e=.returned (.int .i64 (partitionEqual ltInt d4 a1 b1 p2).1)∧aA wc blk off (partitionEqual ltInt d4 a1 b1 p2).2 w' by
   have:=Cr blk off cap a1 b1 p2 d4 wc T3.out.row Pu PG (by rw [wW.out];omega) (by rw [wW.out];omega);rwa [wW.out]at this)
  generalize hx:partitionEqual ltInt d4 a1 b1 p2=res at *;obtain⟨mid,d5⟩:=res;dsimp only at *;have Z5:=round_eq rQ (partitionEqual_holds ltInt) ha0 Pu PG (by rw [wW.out];omega) dS.out hnl hx;obtain⟨OF,hm2,KH,dN,F0⟩:=Z5;have Mw:=qqh (KH.trans wW.out);have RK:=qqh KH;have dG:=qqh dN;have lV:=qqh (fun R h1 h2=>lH.out R (permIn_trans _ _ _ _ _ KM.out (F0 R h1 h2).1) (F0 R h1 h2).2);clear hx KH dN F0 hq hnl;go_wp2_with fail;refine HI.out.mono ?_;rintro e w5 ⟨rfl,hr⟩;have oX:=qqh (T3.out.trans hr RK.out);clear hr;go_wp2_with fail;exact⟨⟨mid,b1,l2,wb,wp,d5,rfl,rfl,rfl,rfl,rfl,by omega,hm2,aT,Mw.out,jc,dG.out,oX.out,lV.out⟩,by simp only [intOf];omega⟩
 | false=>
  have HI:=qqh (show Calls Tryz.prog 187 #[.slice (some ⟨blk,off,none⟩) sz cap,.int .i64 a1,.int .i64 b1,.int .i64 p2] wc fun e w'=>e=.returned (.tuple #[.int .i64 (partition ltInt d4 a1 b1 p2).1,.bool (partition ltInt d4 a1 b1 p2).2.1])∧aA wc blk off (partition ltInt d4 a1 b1 p2).2.2 w' by
   have:=vP blk off cap a1 b1 p2 d4 wc T3.out.row Pu PG (by rw [wW.out];omega) (by rw [wW.out];omega);rwa [wW.out]at this)
  generalize hx:partition ltInt d4 a1 b1 p2=res at *;obtain⟨mid,ap,d5⟩:=res;dsimp only at *;have Z5:=round_part rQ (partition_holds ltInt) Pu PG (by rw [wW.out];omega) dS.out hx;obtain⟨OF,hm2,KH,fq,V7,htl,htr⟩:=Z5;have Mw:=qqh (KH.trans wW.out);have RK:=qqh KH;have qY:=qqh fq;have Ob:=qqh V7;have zn:=qqh htl;have qi:=qqh htr;clear hx KH fq V7 htl htr hq;go_wp2_with fail;refine HI.out.mono ?_;rintro e w5 ⟨rfl,hr⟩;have oX:=qqh (T3.out.trans hr RK.out);clear hr;by_cases hlr:mid - a1<b1 - mid
  ·have hdl:(mid:Int) - (a1:Int)<(b1:Int) - (mid:Int):=(by omega);obtain⟨q8,h81,h82⟩:∃ q8,8*q8≤n∧n≤8*q8+7:=⟨n / 8,by omega,by omega⟩;have YW:(n:Int) / 8=(q8:Int):=(by omega);have Ti:=qqh (fun(va:Int) (Pw:va=((a1:Nat):Int)) (w':World) (hw:cS w' blk off d5)=>(show Calls Tryz.prog 163 #[.slice (some ⟨blk,off,none⟩) sz cap,.int .i64 va,.int .i64 mid,.int .i64 l2] w' fun e w2=>e=.returned (.tuple #[])∧∃ d',PermIn (a1) mid d5 d'∧SortedIn ltInt (a1) mid d'∧aA w' blk off d' w2 by subst Pw;exact Iv.out (mid - a1) (by omega) blk off cap (a1) mid l2 sz d5 w' (by omega) Mw.out hw (by omega) (by omega) hsz jc qY.out));clear hlr;go_wp2_with fail;refine(Ti.out _ (by first | rfl | omega) _ oX.out.row).mono ?_;rintro e w6 ⟨rfl,d6,DU,LN,P6⟩;have Te:=qqh (oX.out.trans P6 DU.1);have T7:=qqh (DU.1.trans Mw.out);obtain⟨eG,Tz⟩:=zn.out d6 DU LN;have gT:=qqh eG;have lV:=qqh (fun R h1 h2=>lH.out R (permIn_trans _ _ _ _ _ KM.out (Tz R h1 h2).1) (Tz R h1 h2).2);clear DU LN P6 eG Tz;go_wp2_with fail;exact⟨⟨mid+1,b1,l2,_,ap,d6,by go_num,rfl,rfl,rfl,rfl,by omega,by omega,aT,T7.out,jc,gT.out,Te.out,lV.out⟩,by simp only [intOf];omega⟩
  have hdl:¬(mid:Int) - (a1:Int)<(b1:Int) - (mid:Int):=(by omega);obtain⟨q8,h81,h82⟩:∃ q8,8*q8≤n∧n≤8*q8+7:=⟨n / 8,by omega,by omega⟩;have YW:(n:Int) / 8=(q8:Int):=(by omega);have Ti:=qqh (fun(va:Int) (Pw:va=((mid+1:Nat):Int)) (w':World) (hw:cS w' blk off d5)=>(show Calls Tryz.prog 163 #[.slice (some ⟨blk,off,none⟩) sz cap,.int .i64 va,.int .i64 b1,.int .i64 l2] w' fun e w2=>e=.returned (.tuple #[])∧∃ d',PermIn (mid+1) b1 d5 d'∧SortedIn ltInt (mid+1) b1 d'∧aA w' blk off d' w2 by subst Pw;exact Iv.out (b1 - (mid+1)) (by omega) blk off cap (mid+1) b1 l2 sz d5 w' (by omega) Mw.out hw (by omega) (by omega) hsz jc Ob.out));clear hlr;go_wp2_with fail;refine(Ti.out _ (by first | rfl | omega) _ oX.out.row).mono ?_;rintro e w6 ⟨rfl,d6,DU,LN,P6⟩;have Te:=qqh (oX.out.trans P6 DU.1);have T7:=qqh (DU.1.trans Mw.out);obtain⟨eG,Tz⟩:=qi.out d6 DU LN;have gT:=qqh eG;have lV:=qqh (fun R h1 h2=>lH.out R (permIn_trans _ _ _ _ _ KM.out (Tz R h1 h2).1) (Tz R h1 h2).2);clear DU LN P6 eG Tz;go_wp2_with fail;exact⟨⟨a1,mid,l2,_,ap,d6,rfl,rfl,rfl,rfl,rfl,mG,by omega,by omega,T7.out,jc,gT.out,Te.out,lV.out⟩,by simp only [intOf];omega⟩
theorem Nq (Ys:rY):∀ m,AZ m:=by
 intro m;induction m using Nat.strongRecOn with
 | _ m ih=>exact M0 Ys m (fun k hk=>ih k hk)
theorem wrap_u64 {x:Int} (h0:0≤x) (h1:x<18446744073709551616):IntKind.u64.wrap x=x:=by
 simp [IntKind.wrap,IntKind.bits,IntKind.signed];omega
theorem Mx (n:Nat) (w:World) (h1:0<n) (h2:n<2305843009213693952):Calls Tryz.prog 169 #[.int .i64 n] w fun e w'=>(∃ p:Nat,e=.returned (.int .u64 p)∧1≤p∧p≤2*n)∧w'=w:=by
 have HL:=qqh (Tryz.bits_Len (n:Int) w (by omega) (by omega));obtain⟨b1,b2,b3⟩:=Lib.bitLenAux_bounds 64 n (by omega) (by omega);obtain⟨p,hp⟩:∃ p:Nat,p=2 ^ Lib.bitLen n:=⟨_,rfl⟩;have hk:Lib.bitLen n≤61:=Lib.bitLen_le n 61 (by omega) (by omega);have hpb:p≤2*n:=by
  have e:Lib.bitLen n=(Lib.bitLen n - 1)+1:=by
   have:1≤Lib.bitLen n:=b1;omega
  rw [hp,e,Nat.pow_succ];have:2 ^ (Lib.bitLen n - 1)≤n:=b2;omega
 have hp1:1≤p:=(by rw [hp];exact Nat.one_le_two_pow);have HW:=qqh (show IntKind.u64.wrap ((2:Int) ^ min (Lib.bitLen n) 64)=(p:Int) by
  rw [show min (Lib.bitLen n) 64=Lib.bitLen n by omega];have e:((2:Int) ^ Lib.bitLen n)=(p:Int):=(by rw [hp];push_cast;rfl);rw [e];exact wrap_u64 (by omega) (by omega))
 clear b1 b2 b3 hp hk;go_enter Tryz.func169,Tryz.ntmps169;go_wp2_with fail;refine HL.out.mono ?_;rintro e w1 ⟨rfl,rfl⟩;go_wp2_with fail;go_ret;exact⟨⟨p,by rw [HW.out];rfl,hp1,hpb⟩,rfl⟩
theorem MH (rb:Nat) (v:Int) (w:World) (hb:aj w rb 242 #[.int .u64 v]):Calls Tryz.prog 170 #[.pointer (some ⟨rb,0,none⟩)] w fun e w'=>∃ r:Int,e=.returned (.int .u64 r)∧aj w' rb 242 #[.int .u64 r]∧Rest w rb w':=by
 have HB:=qqh hb;have HT:=qqh (Rest.refl w rb);clear hb;go_enter Tryz.func170,Tryz.ntmps170;go_upto_region 1 with fail;go_cut [] (fun wx=>∃ r:Int,aj wx rb 242 #[.int .u64 r]∧Rest w rb wx);case first=>
  have c0:w.cell? ⟨rb,0,none⟩=some (.int .u64 v):=HB.out.cell 0;have f0:=HB.out.frozen 0;go_region
  all_goals
    go_wp2
    go_meet
    exact⟨_,(HB.out.drewN 1).put 0 _,Rest.set (Rest.drewN HT.out 1)⟩
 case rest=>
 clear HB HT;obtain⟨v,hb,ht⟩:=hcut;have HB:=qqh hb;have HT:=qqh ht;clear hb ht;go_upto_region 2 with fail;go_cut [] (fun wx=>∃ r:Int,aj wx rb 242 #[.int .u64 r]∧Rest w rb wx);case first=>
  have c0:wc.cell? ⟨rb,0,none⟩=some (.int .u64 v):=HB.out.cell 0;have f0:=HB.out.frozen 0;go_region
  all_goals
    go_wp2
    go_meet
    exact⟨_,(HB.out.drewN 1).put 0 _,Rest.set (Rest.drewN HT.out 1)⟩
 case rest=>
 clear HB HT;obtain⟨v,hb,ht⟩:=hcut;have HB:=qqh hb;have HT:=qqh ht;clear hb ht;go_upto_region 3 with fail;go_cut [] (fun wx=>∃ r:Int,aj wx rb 242 #[.int .u64 r]∧Rest w rb wx);case first=>
  have c0:wc.cell? ⟨rb,0,none⟩=some (.int .u64 v):=HB.out.cell 0;have f0:=HB.out.frozen 0;go_region
  all_goals
    go_wp2
    go_meet
    exact⟨_,(HB.out.drewN 1).put 0 _,Rest.set (Rest.drewN HT.out 1)⟩
 case rest=>
 clear HB HT;obtain⟨v,hb,ht⟩:=hcut;have HB:=qqh hb;have HT:=qqh ht;clear hb ht;have c0:wc.cell? ⟨rb,0,none⟩=some (.int .u64 v):=HB.out.cell 0;go_wp2_with fail;go_ret;exact⟨v,rfl,HB.out,HT.out⟩
theorem aA.Xn {w wr w2:World} {blk off rb:Nat} {d:Array Int} (h:aA w blk off d wr) (h2:Rest wr rb w2) (h3:w.heap.size≤rb) (h4:blk<w.heap.size):aA w blk off d w2:=by
 obtain⟨c,c',e,g1,g2,g3,g4,g5,g6⟩:=h;exact⟨c,c',e,g1,(h2.2.2.2.2 blk g2.lt (by omega)).trans g2,g3,g4,g5,Nat.le_trans g6.1 h2.1,h2.2.1.trans g6.2.1,h2.2.2.1.trans g6.2.2.1,h2.2.2.2.1.trans g6.2.2.2.1,fun k hk hne=>(h2.2.2.2.2 k (by have:=g6.1;omega) (by omega)).trans (g6.2.2.2.2 k hk hne)⟩
theorem Ib (r:Int) {m:Nat} (hm:m<18446744073709551616):0≤bits .and .u64 r m∧bits .and .u64 r m≤m:=by
 have h1:(BitVec.ofInt 64 r &&& BitVec.ofInt 64 (m:Int)).toNat≤(BitVec.ofInt 64 (m:Int)).toNat:=by
  rw [BitVec.toNat_and];exact Nat.and_le_right
 have h2:(BitVec.ofInt 64 (m:Int)).toNat=m:=by
  rw [BitVec.toNat_ofInt];omega
 have h3:bits .and .u64 r m=((BitVec.ofInt 64 r &&& BitVec.ofInt 64 (m:Int)).toNat:Int):=by
  show IntKind.u64.wrap ((BitVec.ofInt 64 r &&& BitVec.ofInt 64 (m:Int)).toNat:Int)=_;exact wrap_u64 (by omega) (by omega)
 rw [h3];omega
theorem tP {w:World} {g g2 i:Nat} {u:Value} {t:TypeId} {cs:Array Value} (h:aj w g2 t cs) (hne:g2≠g):aj (w.setCell ⟨g,i,none⟩ u) g2 t cs:=by
 unfold aj at h ⊢;rw [Below.heap_setCell _ _ _ _ hne];exact h
def VE (w:World) (blk off a b sz rb i0:Nat) (d:Array Int) (vi:Value) (wr:World):Prop :=
  ∃ (t i:Nat) (d1:Array Int),vi=.int .i64 i∧i+t=i0+3∧i0≤i∧d1.size=sz∧PermIn a b d d1∧aA w blk off d1 wr∧∃ v:Int,aj wr rb 242 #[.int .u64 v]
theorem Fy:rY:=by
 intro blk off cap a b sz d w hs hH hab hb hsz;obtain⟨l,mJ,jc⟩:∃ l,b≤a+l∧a+l≤b:=⟨b - a,by omega,by omega⟩;obtain⟨q,hq1,ON⟩:∃ q,4*q≤l∧l≤4*q+3:=⟨l / 4,by omega,by omega⟩;have hba:((b:Int) - (a:Int))=(l:Int):=(by omega);have YE:((l:Int) / 4)=(q:Int):=(by omega);obtain⟨i0,hi1,hi2⟩:∃ i0,i0+1≤a+q*2∧a+q*2≤i0+1:=⟨a+q*2 - 1,by omega,by omega⟩;have HS:=qqh hs;have J2:=(show blk<w.heap.size by obtain⟨c,e,h1,_⟩:=hH;exact h1.lt);have fQ:=qqh (aA.start hH);have HNP:=qqh (fun w'=>Mx l w' (by omega) (by omega));clear hs hH;go_enter Tryz.func181,Tryz.ntmps181;go_wp2_with fail;refine(HNP.out _).mono ?_;rintro e w1 ⟨⟨p,rfl,hp1,hp2⟩,rfl⟩;have Au:=qqh (fQ.out.below ((Below.refl w.heap.size w).alloc qql (.cells #[.int .u64 l] 242)));have Ad:=qqh (aj.new w 242 #[.int .u64 l]);clear fQ HNP;go_wp2_with fail;go_loopw [9] (VE w blk off a b sz w.heap.size i0 d) (fun vi _=>i0+3 - (intOf vi).toNat);(case atStart=>exact⟨3,i0,d,by congr 1;omega,by omega,qql,HS.out,permIn_refl _ _ _,Au.out,_,Ad.out⟩);obtain⟨t,i,d1,rfl,hit,hi0,hs1,hp,hrow,v,aT⟩:=hrel;have iE:=qqh hrow;have xF:=qqh hp;have iU:=qqh hs1;have HX:=qqh (MH w.heap.size v wr aT);clear hrow hp hs1 aT;by_cases ht:t=0
 ·have hgt:i0+3≤i:=(by omega);clear hit ht;go_wp2_with fail;go_end0;exact⟨rfl,d1,xF.out,iE.out⟩
 have hlt:i≤i0+2:=(by omega);clear ht;go_wp2_with fail;refine HX.out.mono ?_;rintro e w2 ⟨r,rfl,aX,iW⟩;have dP:=qqh (iE.out.Xn iW qql J2);have bL:=qqh aX;clear aX iW;obtain⟨pm,ah3,afh⟩:∃ pm,pm+1≤p∧p≤pm+1:=⟨p - 1,by omega,by omega⟩;have hpe:((p:Int) - 1)=(pm:Int):=(by omega);have rU:=Ib r (m:=pm) (by omega);obtain⟨o,ho⟩:∃ o:Nat,bits .and .u64 r (pm:Int)=(o:Int):=⟨(bits .and .u64 r (pm:Int)).toNat,by omega⟩;have hol:o<2*l:=(by omega);clear rU;go_upto_if 43 with fail;go_cut [10] (fun Xa wx=>∃ o1:Nat,Xa=.int .i64 o1∧o1<l∧wx=w2);case first=>
  by_cases hge:l≤o
  ·go_wp2_with fail;go_meet;exact⟨o - l,by congr 1;omega,by omega,rfl⟩
  go_wp2_with fail;go_meet;exact⟨o,rfl,by omega,rfl⟩
 case rest=>
 obtain⟨o1,rfl,ho1,rfl⟩:=hcut;clear ho hpe;obtain⟨G,hG,eB,gN⟩:=dP.out.cells iU.out;have HG:=qqh hG;clear hG;have qF:(wc.setCell ⟨blk,off+i,none⟩ (.int .i32 (G (a+o1)))).cell? ⟨blk,off+(a+o1),none⟩=some (.int .i32 (G (a+o1))):=lG eB (by omega) (by omega);have Hz:(wc.setCell ⟨blk,off+i,none⟩ (.int .i32 (G (a+o1)))).drew.cell? ⟨blk,off+(a+o1),none⟩=some (.int .i32 (G (a+o1))):=qF;go_upto_region 10 with fail;have LZ:=qqh (permIn_trans _ _ _ _ _ xF.out (swp_permIn d1 a b i (a+o1) (by omega) (by omega) (by omega) (by omega) (by rw [iU.out];omega)));have OA:=qqh (show(swp d1 i (a+o1)).size=sz by rw [Sort.swp_size];exact iU.out);go_region
 all_goals
   have Er:=qqh (show aA w blk off (swp d1 i (a+o1)) _ from(dP.out.drewN 1).swap HG.out (j:=i) (k:=a+o1) (by have:=iU.out;omega) (by have:=iU.out;omega))
   have pR:=qqh (tP (tP (bL.out.drewN 1) (g:=blk) (i:=off+i) (u:=.int .i32 (G (a+o1))) (by omega)) (g:=blk) (i:=off+(a+o1)) (u:=.int .i32 (G i)) (by omega))
   go_wp2_with fail
   exact⟨⟨t - 1,i+1,_,by go_num,by omega,by omega,OA.out,LZ.out,Er.out,r,pR.out⟩,by simp only [intOf];omega⟩
theorem EG (blk off cap sz:Nat) (d:Array Int) (w:World) (hs:d.size=sz) (hH:cS w blk off d) (hsz:sz<2305843009213693952) :
    Calls Tryz.prog 141 #[.slice (some ⟨blk,off,none⟩) sz cap] w fun e w'=>e=.returned (.tuple #[])∧∃ d',PermIn 0 sz d d'∧SortedIn ltInt 0 sz d'∧aA w blk off d' w':=by
 have hk:Lib.bitLen sz≤61:=Lib.bitLen_le sz 61 (by omega) (by omega);have HL:=qqh (fun w'=>Tryz.bits_Len (sz:Int) w' (by omega) (by omega));have HP:=qqh (fun ez (h:ez<2305843009213693952)=>Nq Fy sz blk off cap 0 sz ez sz d w (by omega) hs hH (Nat.zero_le _) qql hsz h (.inl rfl));clear hs hH;go_enter Tryz.func141,Tryz.ntmps141;go_wp2_with fail;refine(HL.out _).mono ?_;rintro e w1 ⟨rfl,rfl⟩;go_wp2_with fail;refine(HP.out (Lib.bitLen sz) (by omega)).mono ?_;rintro e w2 ⟨rfl,h⟩;have H:=qqh h;clear h;go_wp2_with fail;go_end0;exact⟨rfl,H.out⟩
end Go.Proofs.YtblinekbpcdbfaaGreatDoor
