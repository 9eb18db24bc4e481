/- EdgesBoth + ClassMap + WholeBox -/
import Derived.Test.YthgkedoildcbcaaGreatDoorZt8
import Derived.Test.YthgkedoildcbcaaGreatDoorZt10
import Derived.Deep.DeepCutAuto
import Derived.Deep.CutBlock
import Derived.Test.YthgkedoildcbcaaGreatDoorZt1
import Derived.Test.YthgkedoildcbcaaGreatDoorZt19
import Derived.Test.YthgkedoildcbcaaGreatDoorZt5
import Derived.Deep.WholeRow
set_option maxHeartbeats 6400000
set_option maxRecDepth 100000
namespace Go.Proofs.YthgkedoildcbcaaGreatDoor
open Go.RowKit
def Bi (lo g:Nat) (E:List Int) (w:World):Prop:=∃ (A:Option Addr) (n c:Nat),ai w g 26 #[.slice A n c]∧bW w (fun b=>b≠g∧lo≤b) 1 A n (runeCells E)∧n≤c
def bP (w:World) (g:Nat) (w':World):Prop:=w.heap.size≤w'.heap.size∧w'.os=w.os∧w'.tape=w.tape∧w'.output=w.output∧∀ k,k<w.heap.size→k≠g→w'.heap[k]? = w.heap[k]?
theorem bP.refl (w:World) (g:Nat):bP w g w:=⟨Nat.le_refl _,rfl,rfl,rfl,fun _ _ _=>rfl⟩
theorem bP.trans {w w1 w2:World} {g:Nat} (h:bP w g w1) (h2:bP w1 g w2):bP w g w2 :=
  ⟨Nat.le_trans h.1 h2.1,h2.2.1.trans h.2.1,h2.2.2.1.trans h.2.2.1,h2.2.2.2.1.trans h.2.2.2.1,fun k hk hne=>(h2.2.2.2.2 k (Nat.lt_of_lt_of_le hk h.1) hne).trans (h.2.2.2.2 k hk hne)⟩
theorem bP.below {w w1:World} (g:Nat) (h:Below w.heap.size w w1):bP w g w1:=⟨h.size,h.os,h.tape,h.output,fun k hk _=>h.block k hk⟩
theorem bP.set (w:World) (g i:Nat) (u:Value):bP w g (w.setCell ⟨g,i,none⟩ u):=⟨by simp,rfl,rfl,rfl,fun k _ hne=>Below.heap_setCell _ _ _ _ hne⟩
theorem bP.to {w w1:World} {g B:Nat} (h:bP w g w1) (hB:B≤w.heap.size) (hg:B≤g):Below B w w1:=⟨h.2.1,h.2.2.1,h.2.2.2.1,h.1,fun k hk=>h.2.2.2.2 k (by omega) (by omega)⟩
theorem bP.drewN (w:World) (C k:Nat):bP w C (w.drewN k):=bP.below C (below_drewN (Below.refl _ _) k)
theorem bP.keeps {w w1:World} {g:Nat} {X X':Nat→Prop} (h:bP w g w1) (hX:∀ b,X b→b≠g) (h2:∀ b,X b→b<w.heap.size→X' b):af w X w1 X' :=
  fun b hb hl=>⟨h.2.2.2.2 b hl (hX b hb),h2 b hb hl,Nat.lt_of_lt_of_le hl h.1⟩
end Go.Proofs.YthgkedoildcbcaaGreatDoor
namespace Go.Proofs.YthgkedoildcbcaaGreatDoor
open Go.RowKit
theorem Bi.below {lo g:Nat} {E:List Int} {w w':World} (h:Bi lo g E w) (hb:Below w.heap.size w w'):Bi lo g E w':=by
 obtain⟨A,n,c,h1,h2,h3⟩:=h;exact⟨A,n,c,ai.below h1 hb h1.lt,h2.keep (af.any hb),h3⟩
structure Fs (w:World) (L:List ag) (b:Nat) (xs:List Int) (wr:World):Prop where
  ex:∃ E:List Int,Bi w.heap.size (w.heap.size+1) E wr∧E.Pairwise (· < ·)∧E ≠ []∧E.length≤b∧eF L=xs.foldl qi E
  below:Below w.heap.size w wr
theorem Fs.alloc {w wr:World} {L:List ag} {b:Nat} {xs:List Int} (h:Fs w L b xs wr) (o:Obj):Fs w L b xs (wr.alloc o):=by
 obtain⟨⟨E,h1,h2,h3,h4,h5⟩,h6⟩:=h;exact⟨⟨E,h1.below ((Below.refl _ _).alloc (Nat.le_refl _) o),h2,h3,h4,h5⟩,h6.alloc h6.size o⟩
theorem Fs.lt {w wr:World} {L:List ag} {b:Nat} {xs:List Int} (h:Fs w L b xs wr):w.heap.size+1<wr.heap.size:=by
 obtain⟨⟨E,⟨A,n,c,h1,_⟩,_⟩,_⟩:=h;exact h1.lt
theorem Fs.cell {w wr:World} {L:List ag} {b:Nat} (h:Fs w L b [] wr):∃ A n c,ai wr (w.heap.size+1) 26 #[.slice A n c]∧bW wr (fun b=>w.heap.size≤b) 1 A n (runeCells (eF L)):=by
 obtain⟨⟨E,⟨A,n,c,h1,h2,_⟩,_,_,_,h5⟩,_⟩:=h;rw [h5];exact⟨A,n,c,h1,h2.keep (af.refl (fun _ h=>h.2))⟩
end Go.Proofs.YthgkedoildcbcaaGreatDoor
namespace Go.Proofs.YthgkedoildcbcaaGreatDoor
open Go.RowKit Go.Maps
def qh (w:World) (lo mb n:Nat) (m:ByteArray→Option ag):Prop :=
  ∃ D:DataW Value,w.ownsMap Tryz.prog 9 Raw mb n D∧IsMap D∧∀ s:ByteArray,match m s with
    | some set=>∃ u,D.atKey (fA s) vt=.held u∧has D (fA s)=true∧∃ A k c,u=.slice A k c∧bW w (fun b=>b≠mb∧lo≤b) 2 A k (an set)∧k≤c
    | none=>D.atKey (fA s) vt=vt∧has D (fA s)=false
def vB (m:ByteArray→Option ag) (k:ByteArray) (v:ag) (s:ByteArray):Option ag:=if s=k then some v else m s
theorem qh.keep {w w':World} {lo mb n:Nat} {m:ByteArray→Option ag} (hk:af w (fun b=>b≠mb∧lo≤b) w' (fun b=>b≠mb∧lo≤b)) (hm:w'.heap[mb]? = w.heap[mb]?) (h:qh w lo mb n m):qh w' lo mb n m:=by
 obtain⟨D,⟨es,clock,h1,h2⟩,h3,h4⟩:=h;refine⟨D,⟨es,clock,hm.trans h1,h2⟩,h3,fun s=>?_⟩;have:=h4 s;cases hl:m s with
 | none=>rw [hl]at this;exact this
 | some set=>
  rw [hl]at this;obtain⟨u,g1,g2,A,k,c,e,g3,g4⟩:=this;exact⟨u,g1,g2,A,k,c,e,g3.keep hk,g4⟩
theorem qh.lt {w:World} {lo mb n:Nat} {m:ByteArray→Option ag} (h:qh w lo mb n m):mb<w.heap.size:=by
 obtain⟨D,h1,_⟩:=h;exact h1.lt
theorem qh.below {w w':World} {lo mb n:Nat} {m:ByteArray→Option ag} (h:qh w lo mb n m) (hb:Below w.heap.size w w'):qh w' lo mb n m:=h.keep (af.any hb) (hb.block mb h.lt)
theorem qh.made (w:World) (lo:Nat):qh (w.alloc (.map #[] 0)) lo w.heap.size 0 (fun _=>none) :=
  ⟨.map [],World.ownsMap_made _ _ _ _,isMap_empty,fun s=>⟨by simp [DataW.atKey],by simp [has]⟩⟩
theorem qh.put {w:World} {lo mb n:Nat} {m:ByteArray→Option ag} (h:qh w lo mb n m) (key:ByteArray) {set:ag} {A:Option Addr} {k c:Nat} (hr:bW w (fun b=>b≠mb∧lo≤b) 2 A k (an set)) (hc:k≤c) :
    ∃ D:DataW Value,w.ownsMap Tryz.prog 9 Raw mb n D∧∀ w':World,w'.ownsMap Tryz.prog 9 Raw mb (n+1) (D.put (fA key) (.held (.slice A k c)))→w.grownBy w' (some mb)→qh w' lo mb (n+1) (vB m key set)∧bP w mb w':=by
 obtain⟨D,h1,h2,h3⟩:=h;refine⟨D,h1,fun w' hown hg=>?_⟩;have hk:af w (fun b=>b≠mb∧lo≤b) w' (fun b=>b≠mb∧lo≤b):=fun b hb hl=>⟨hg.block b hl (fun e=>hb.1 (Option.some.inj e)),hb,Nat.lt_of_lt_of_le hl hg.size⟩;refine⟨⟨_,hown,h2.put _ _,fun s=>?_⟩,hg.size,hg.os,hg.tape,hg.output,fun b hb hne=>hg.block b hb (fun e=>hne (Option.some.inj e))⟩;unfold vB;by_cases hs:s=key
 ·subst hs;rw [if_pos rfl];exact⟨_,atKey_put_same h2 (vX _) _ _,has_put_same h2 (vX _) _,A,k,c,rfl,hr.keep hk,hc⟩
 rw [if_neg hs];have hne:fA s≠fA key:=fun e=>hs (Dt e);have:=h3 s;cases hl:m s with
 | none=>
  rw [hl]at this;dsimp only;rw [atKey_put_other hne,has_put_other hne];exact this
 | some x=>
  rw [hl]at this;obtain⟨v,g1,g2,A',k',c',e,g3,g4⟩:=this;exact⟨v,by rw [atKey_put_other hne];exact g1,by rw [has_put_other hne];exact g2,A',k',c',e,g3.keep hk,g4⟩
def Vt:ByteArray:=⟨#[100,105,103,105,116]⟩
def cs0:ag:=[(48,57)]
def Uj:ByteArray:=⟨#[108,111,119,101,114]⟩
def Y6:ag:=[(97,122),(223,246),(248,255)]
def WX:ByteArray:=⟨#[117,112,112,101,114]⟩
def YH:ag:=[(65,90),(192,214),(216,222)]
def WQ:ByteArray:=⟨#[108,101,116,116,101,114]⟩
def Ul:ag:=[(65,90),(97,122),(192,214),(216,246),(248,255)]
def XF:ByteArray:=⟨#[118,111,119,101,108]⟩
def UD:ag:=[(65,65),(69,69),(73,73),(79,79),(85,85),(97,97),(101,101),(105,105),(111,111),(117,117)]
def VI:ByteArray:=⟨#[103,114,101,101,107]⟩
def Y8:ag:=[(880,1023)]
def XC:ByteArray:=⟨#[99,121,114,105,108,108,105,99]⟩
def Yj:ag:=[(1024,1279)]
def WT:ByteArray:=⟨#[115,112,97,99,101]⟩
def Yw:ag:=[(9,10),(32,32)]
def Vd:ByteArray:=⟨#[97,110,121]⟩
def Yg:ag:=[(0,1114111)]
def xY:ByteArray→Option ag:=(vB (vB (vB (vB (vB (vB (vB (vB (vB (fun _=>none) Vt cs0) Uj Y6) WX YH) WQ Ul) XF UD) VI Y8) XC Yj) WT Yw) Vd Yg)
theorem kF {l m:List Int} {k:ByteArray} (hk:k=runesBytes m) (hm:dz m):(runesBytes l=k)=(l=m):=by
 subst hk;exact propext ⟨zh hm,fun h=>by rw [h]⟩
theorem nX {k:ByteArray} {m:List Int} (hm:dz m) (h:k.data.toList=oZ m):k=runesBytes m:=by
 rw [← dJ hm]at h;exact ByteArray.ext (Array.ext' h)
theorem Fy (l:List Int):xY (runesBytes l)=ie l:=by
 have e0:(runesBytes l=Vt)=(l = [100,105,103,105,116]):=kF (nX (by unfold dz;decide) (by decide)) (by unfold dz;decide);have e1:(runesBytes l=Uj)=(l = [108,111,119,101,114]):=kF (nX (by unfold dz;decide) (by decide)) (by unfold dz;decide);have e2:(runesBytes l=WX)=(l = [117,112,112,101,114]):=kF (nX (by unfold dz;decide) (by decide)) (by unfold dz;decide);have e3:(runesBytes l=WQ)=(l = [108,101,116,116,101,114]):=kF (nX (by unfold dz;decide) (by decide)) (by unfold dz;decide);have e4:(runesBytes l=XF)=(l = [118,111,119,101,108]):=kF (nX (by unfold dz;decide) (by decide)) (by unfold dz;decide);have e5:(runesBytes l=VI)=(l = [103,114,101,101,107]):=kF (nX (by unfold dz;decide) (by decide)) (by unfold dz;decide);have e6:(runesBytes l=XC)=(l = [99,121,114,105,108,108,105,99]):=kF (nX (by unfold dz;decide) (by decide)) (by unfold dz;decide);have e7:(runesBytes l=WT)=(l = [115,112,97,99,101]):=kF (nX (by unfold dz;decide) (by decide)) (by unfold dz;decide);have e8:(runesBytes l=Vd)=(l = [97,110,121]):=kF (nX (by unfold dz;decide) (by decide)) (by unfold dz;decide);unfold xY vB ie;simp only [e0,e1,e2,e3,e4,e5,e6,e7,e8];clear e0 e1 e2 e3 e4 e5 e6 e7 e8;by_cases h0:l = [100,105,103,105,116]
 ·subst h0;rfl
 by_cases h1:l = [108,111,119,101,114]
 ·subst h1;rfl
 by_cases h2:l = [117,112,112,101,114]
 ·subst h2;rfl
 by_cases h3:l = [108,101,116,116,101,114]
 ·subst h3;rfl
 by_cases h4:l = [118,111,119,101,108]
 ·subst h4;rfl
 by_cases h5:l = [103,114,101,101,107]
 ·subst h5;rfl
 by_cases h6:l = [99,121,114,105,108,108,105,99]
 ·subst h6;rfl
 by_cases h7:l = [115,112,97,99,101]
 ·subst h7;rfl
 by_cases h8:l = [97,110,121]
 ·subst h8;rfl
 simp only [h0,h1,h2,h3,h4,h5,h6,h7,h8,if_false]
def pM (w:World) (s:ByteArray) (e:Ending) (w':World):Prop :=
  (match xY s with
  | some set=>∃ A n c,e=.returned (.tuple #[.slice A n c,.bool true])∧bW w' (fun b=>w.heap.size≤b) 2 A n (an set)∧n≤c
  | none=>e=.returned (.tuple #[.slice none 0 0,.bool false]))∧Below w.heap.size w w'
theorem Km (w:World):(zeroValue 41).run Tryz.prog w=.ok (.slice none 0 0) w:=by kernel_rfl
theorem qh.ask {w:World} {lo mb n:Nat} {m:ByteArray→Option ag} (h:qh w lo mb n m) (s:ByteArray) :
    ∃ D u q,w.ownsMap Tryz.prog 9 Raw mb n D∧D.atKey (fA s) vt=.held u∧has D (fA s)=q∧(match m s with
      | some set=>q=true∧∃ A k c,u=.slice A k c∧bW w (fun b=>b≠mb∧lo≤b) 2 A k (an set)∧k≤c
      | none=>q=false∧u=.slice none 0 0):=by
 obtain⟨D,h1,_,h3⟩:=h;have:=h3 s;cases hl:m s with
 | none=>
  rw [hl]at this;exact⟨D,_,_,h1,this.1,this.2,rfl,rfl⟩
 | some x=>
  rw [hl]at this;obtain⟨u,g1,g2,g3⟩:=this;exact⟨D,u,true,h1,g1,g2,rfl,g3⟩
theorem gj (W:World) (cs:ag) (N:Nat) (hN:N=2*cs.length) (hn:N≤1000) :
    Calls Tryz.prog 132 #[.slice (some ⟨W.heap.size,0,none⟩) N N] (W.alloc (.cells (an cs).toArray 21)) (dF W cs 1000):=by
 have hb:=(Below.refl W.heap.size W).alloc (Nat.le_refl _) (.cells (an cs).toArray 21);refine(F7 W.heap.size 0 N cs N _ hN hn (by simp) (fun j u hu=>?_)).mono ?_
 ·rw [Nat.zero_add,(ai.new W 21 (an cs).toArray).cell];simpa using hu
 rintro e w1 ⟨A,k,c,rfl,h1,h2,h3,h4⟩;exact⟨A,k,c,rfl,h1.keep (af.refl (fun b h=>by simp at h;omega)),h2,h3,hb.trans (h4.mono (by simp))⟩
theorem IE (s:ByteArray) (w:World) (hs:s.size≤maxLen) :
    Calls Tryz.prog 107 #[.string s] w (pM w s):=by
 have HS:=qqh hs;have oc:=qqh (qh.made w w.heap.size);have dO:=qqh ((Below.refl w.heap.size w).alloc (Nat.le_refl _) (.map #[] 0));have hmm:∀ W:World,(Instr.makeMap 136 none).run Tryz.prog W=.ok (.map (some W.heap.size)) (W.alloc (.map #[] 0)):=fun W=>rfl;clear hs;have P9:=qqh (fun(W:World)=>show Calls Tryz.prog 132 #[.slice (some ⟨W.heap.size,0,none⟩) 2 2] (W.alloc (.cells #[.int .i32 48,.int .i32 57] 21)) (dF W cs0 1000) from gj W cs0 2 (by decide) (by decide));have ja:=qqh (show keyOf Tryz.prog 9 (.string ⟨#[100,105,103,105,116]⟩)=some (fA Vt) from kf (s:=Vt) (by show(5:Nat)≤maxLen;simp only [maxLen];omega));have kg:=qqh (fun(W:World)=>show Calls Tryz.prog 132 #[.slice (some ⟨W.heap.size,0,none⟩) 6 6] (W.alloc (.cells #[.int .i32 97,.int .i32 122,.int .i32 223,.int .i32 246,.int .i32 248,.int .i32 255] 21)) (dF W Y6 1000) from gj W Y6 6 (by decide) (by decide));have Oe:=qqh (show keyOf Tryz.prog 9 (.string ⟨#[108,111,119,101,114]⟩)=some (fA Uj) from kf (s:=Uj) (by show(5:Nat)≤maxLen;simp only [maxLen];omega));have sC:=qqh (fun(W:World)=>show Calls Tryz.prog 132 #[.slice (some ⟨W.heap.size,0,none⟩) 6 6] (W.alloc (.cells #[.int .i32 65,.int .i32 90,.int .i32 192,.int .i32 214,.int .i32 216,.int .i32 222] 21)) (dF W YH 1000) from gj W YH 6 (by decide) (by decide));have Ra:=qqh (show keyOf Tryz.prog 9 (.string ⟨#[117,112,112,101,114]⟩)=some (fA WX) from kf (s:=WX) (by show(5:Nat)≤maxLen;simp only [maxLen];omega))
 have rH:=qqh (fun(W:World)=>show Calls Tryz.prog 132 #[.slice (some ⟨W.heap.size,0,none⟩) 10 10] (W.alloc (.cells #[.int .i32 65,.int .i32 90,.int .i32 97,.int .i32 122,.int .i32 192,.int .i32 214,.int .i32 216,.int .i32 246,.int .i32 248,.int .i32 255] 21)) (dF W Ul 1000) from gj W Ul 10 (by decide) (by decide));have HK3:=qqh (show keyOf Tryz.prog 9 (.string ⟨#[108,101,116,116,101,114]⟩)=some (fA WQ) from kf (s:=WQ) (by show(6:Nat)≤maxLen;simp only [maxLen];omega));have Ef:=qqh (fun(W:World)=>show Calls Tryz.prog 132 #[.slice (some ⟨W.heap.size,0,none⟩) 20 20] (W.alloc (.cells #[.int .i32 65,.int .i32 65,.int .i32 69,.int .i32 69,.int .i32 73,.int .i32 73,.int .i32 79,.int .i32 79,.int .i32 85,.int .i32 85,.int .i32 97,.int .i32 97,.int .i32 101,.int .i32 101,.int .i32 105,.int .i32 105,.int .i32 111,.int .i32 111,.int .i32 117,.int .i32 117] 21)) (dF W UD 1000) from gj W UD 20 (by decide) (by decide));have CY:=qqh (show keyOf Tryz.prog 9 (.string ⟨#[118,111,119,101,108]⟩)=some (fA XF) from kf (s:=XF) (by show(5:Nat)≤maxLen;simp only [maxLen];omega));have vQ:=qqh (fun(W:World)=>show Calls Tryz.prog 132 #[.slice (some ⟨W.heap.size,0,none⟩) 2 2] (W.alloc (.cells #[.int .i32 880,.int .i32 1023] 21)) (dF W Y8 1000) from gj W Y8 2 (by decide) (by decide));have KH:=qqh (show keyOf Tryz.prog 9 (.string ⟨#[103,114,101,101,107]⟩)=some (fA VI) from kf (s:=VI) (by show(5:Nat)≤maxLen;simp only [maxLen];omega))
 have J1:=qqh (fun(W:World)=>show Calls Tryz.prog 132 #[.slice (some ⟨W.heap.size,0,none⟩) 2 2] (W.alloc (.cells #[.int .i32 1024,.int .i32 1279] 21)) (dF W Yj 1000) from gj W Yj 2 (by decide) (by decide));have Yp:=qqh (show keyOf Tryz.prog 9 (.string ⟨#[99,121,114,105,108,108,105,99]⟩)=some (fA XC) from kf (s:=XC) (by show(8:Nat)≤maxLen;simp only [maxLen];omega));have KM:=qqh (fun(W:World)=>show Calls Tryz.prog 132 #[.slice (some ⟨W.heap.size,0,none⟩) 4 4] (W.alloc (.cells #[.int .i32 9,.int .i32 10,.int .i32 32,.int .i32 32] 21)) (dF W Yw 1000) from gj W Yw 4 (by decide) (by decide));have HK7:=qqh (show keyOf Tryz.prog 9 (.string ⟨#[115,112,97,99,101]⟩)=some (fA WT) from kf (s:=WT) (by show(5:Nat)≤maxLen;simp only [maxLen];omega));have Ta:=qqh (fun(W:World)=>show Calls Tryz.prog 132 #[.slice (some ⟨W.heap.size,0,none⟩) 2 2] (W.alloc (.cells #[.int .i32 0,.int .i32 1114111] 21)) (dF W Yg 1000) from gj W Yg 2 (by decide) (by decide));have HK8:=qqh (show keyOf Tryz.prog 9 (.string ⟨#[97,110,121]⟩)=some (fA Vd) from kf (s:=Vd) (by show(3:Nat)≤maxLen;simp only [maxLen];omega));have aaN:=qqh (show Calls Tryz.prog 132 #[.slice (some ⟨w.heap.size+1,0,none⟩) 2 2] ((w.alloc (.map #[] 0)).alloc (.cells #[.int .i32 48,.int .i32 57] 21)) (dF (w.alloc (.map #[] 0)) cs0 1000) by have:=P9.out (w.alloc (.map #[] 0));simpa using this);have N6:=qqh (show w.heap.size<(w.alloc (.map #[] 0)).heap.size by simp);go_enter Tryz.func107,Tryz.ntmps107;go_wp2_with fail;refine aaN.out.mono ?_;rintro e w0 ⟨A0,k0,c0,rfl,hr,hk,hc,hb⟩
 have Zm:=qqh (dO.out.trans (hb.mono (Nat.le_of_lt N6.out)));obtain⟨D0,hown,hput⟩:=(oc.out.below hb).put Vt (set:=cs0) (hr.keep (af.refl (X':=fun b=>b≠w.heap.size∧w.heap.size≤b) (fun b h=>by have:=N6.out;omega))) hc;have Wh:=qqh (show w.heap.size<w0.heap.size from Nat.lt_of_lt_of_le N6.out hb.size);have HO0:=qqh hown;have sJ:=qqh hput;clear hr hk hc hb hown hput;go_wp2_with (first | (refine bX _ rfl (.tmp 8) _ _ 136 rfl 9 41 iJ Tryz.underlying136 Raw w.heap.size 0 _ rfl HO0.out (by unfold maxLen;omega) _ _ _ rfl rfl ja.out (.held (.slice A0 k0 c0)) [] rfl ?_;intro v0 hown hgrow;have E8:=qqh (sJ.out v0 hown hgrow).1;have b7:=qqh (Zm.out.trans ((sJ.out v0 hown hgrow).2.to (Nat.le_of_lt Wh.out) (Nat.le_refl _)));have KN:=qqh (show w.heap.size<v0.heap.size from Nat.lt_of_lt_of_le Wh.out hgrow.size);clear hown hgrow) | fail);refine(kg.out _).mono ?_;rintro e w1 ⟨A1,k1,c1,rfl,hr,hk,hc,hb⟩;have aa9:=qqh (b7.out.trans (hb.mono (Nat.le_of_lt KN.out)));obtain⟨D1,hown,hput⟩:=(E8.out.below hb).put Uj (set:=Y6) (hr.keep (af.refl (X':=fun b=>b≠w.heap.size∧w.heap.size≤b) (fun b h=>by have:=KN.out;omega))) hc;have VE:=qqh (show w.heap.size<w1.heap.size from Nat.lt_of_lt_of_le KN.out hb.size);have xN:=qqh hown;have yY:=qqh hput;clear hr hk hc hb hown hput
 go_wp2_with (first | (refine bX _ rfl (.tmp 8) _ _ 136 rfl 9 41 iJ Tryz.underlying136 Raw w.heap.size 1 _ rfl xN.out (by unfold maxLen;omega) _ _ _ rfl rfl Oe.out (.held (.slice A1 k1 c1)) [] rfl ?_;intro v1 hown hgrow;have Y3:=qqh (yY.out v1 hown hgrow).1;have bG:=qqh (aa9.out.trans ((yY.out v1 hown hgrow).2.to (Nat.le_of_lt VE.out) (Nat.le_refl _)));have Qc:=qqh (show w.heap.size<v1.heap.size from Nat.lt_of_lt_of_le VE.out hgrow.size);clear hown hgrow) | fail);refine(sC.out _).mono ?_;rintro e w2 ⟨A2,k2,c2,rfl,hr,hk,hc,hb⟩;have ZV:=qqh (bG.out.trans (hb.mono (Nat.le_of_lt Qc.out)));obtain⟨D2,hown,hput⟩:=(Y3.out.below hb).put WX (set:=YH) (hr.keep (af.refl (X':=fun b=>b≠w.heap.size∧w.heap.size≤b) (fun b h=>by have:=Qc.out;omega))) hc;have Xb:=qqh (show w.heap.size<w2.heap.size from Nat.lt_of_lt_of_le Qc.out hb.size);have qS:=qqh hown;have kO:=qqh hput;clear hr hk hc hb hown hput;go_wp2_with (first | (refine bX _ rfl (.tmp 8) _ _ 136 rfl 9 41 iJ Tryz.underlying136 Raw w.heap.size 2 _ rfl qS.out (by unfold maxLen;omega) _ _ _ rfl rfl Ra.out (.held (.slice A2 k2 c2)) [] rfl ?_;intro v2 hown hgrow;have Yx:=qqh (kO.out v2 hown hgrow).1;have bL:=qqh (ZV.out.trans ((kO.out v2 hown hgrow).2.to (Nat.le_of_lt Xb.out) (Nat.le_refl _)));have TI:=qqh (show w.heap.size<v2.heap.size from Nat.lt_of_lt_of_le Xb.out hgrow.size);clear hown hgrow) | fail);refine(rH.out _).mono ?_;rintro e w3 ⟨A3,k3,c3,rfl,hr,hk,hc,hb⟩;have abr:=qqh (bL.out.trans (hb.mono (Nat.le_of_lt TI.out)))
 obtain⟨D3,hown,hput⟩:=(Yx.out.below hb).put WQ (set:=Ul) (hr.keep (af.refl (X':=fun b=>b≠w.heap.size∧w.heap.size≤b) (fun b h=>by have:=TI.out;omega))) hc;have Ue:=qqh (show w.heap.size<w3.heap.size from Nat.lt_of_lt_of_le TI.out hb.size);have sy:=qqh hown;have iY:=qqh hput;clear hr hk hc hb hown hput;go_wp2_with (first | (refine bX _ rfl (.tmp 8) _ _ 136 rfl 9 41 iJ Tryz.underlying136 Raw w.heap.size 3 _ rfl sy.out (by unfold maxLen;omega) _ _ _ rfl rfl HK3.out (.held (.slice A3 k3 c3)) [] rfl ?_;intro v3 hown hgrow;have TM:=qqh (iY.out v3 hown hgrow).1;have ek:=qqh (abr.out.trans ((iY.out v3 hown hgrow).2.to (Nat.le_of_lt Ue.out) (Nat.le_refl _)));have Wj:=qqh (show w.heap.size<v3.heap.size from Nat.lt_of_lt_of_le Ue.out hgrow.size);clear hown hgrow) | fail);refine(Ef.out _).mono ?_;rintro e w4 ⟨A4,k4,c4,rfl,hr,hk,hc,hb⟩;have Zh:=qqh (ek.out.trans (hb.mono (Nat.le_of_lt Wj.out)));obtain⟨D4,hown,hput⟩:=(TM.out.below hb).put XF (set:=UD) (hr.keep (af.refl (X':=fun b=>b≠w.heap.size∧w.heap.size≤b) (fun b h=>by have:=Wj.out;omega))) hc;have XP:=qqh (show w.heap.size<w4.heap.size from Nat.lt_of_lt_of_le Wj.out hb.size);have ox:=qqh hown;have S7:=qqh hput;clear hr hk hc hb hown hput
 go_wp2_with (first | (refine bX _ rfl (.tmp 8) _ _ 136 rfl 9 41 iJ Tryz.underlying136 Raw w.heap.size 4 _ rfl ox.out (by unfold maxLen;omega) _ _ _ rfl rfl CY.out (.held (.slice A4 k4 c4)) [] rfl ?_;intro v4 hown hgrow;have Fz:=qqh (S7.out v4 hown hgrow).1;have dQ:=qqh (Zh.out.trans ((S7.out v4 hown hgrow).2.to (Nat.le_of_lt XP.out) (Nat.le_refl _)));have HL5:=qqh (show w.heap.size<v4.heap.size from Nat.lt_of_lt_of_le XP.out hgrow.size);clear hown hgrow) | fail);refine(vQ.out _).mono ?_;rintro e w5 ⟨A5,k5,c5,rfl,hr,hk,hc,hb⟩;have Zr:=qqh (dQ.out.trans (hb.mono (Nat.le_of_lt HL5.out)));obtain⟨D5,hown,hput⟩:=(Fz.out.below hb).put VI (set:=Y8) (hr.keep (af.refl (X':=fun b=>b≠w.heap.size∧w.heap.size≤b) (fun b h=>by have:=HL5.out;omega))) hc;have Us:=qqh (show w.heap.size<w5.heap.size from Nat.lt_of_lt_of_le HL5.out hb.size);have ud:=qqh hown;have Ui:=qqh hput;clear hr hk hc hb hown hput;go_wp2_with (first | (refine bX _ rfl (.tmp 8) _ _ 136 rfl 9 41 iJ Tryz.underlying136 Raw w.heap.size 5 _ rfl ud.out (by unfold maxLen;omega) _ _ _ rfl rfl KH.out (.held (.slice A5 k5 c5)) [] rfl ?_;intro v5 hown hgrow;have L7:=qqh (Ui.out v5 hown hgrow).1;have gx:=qqh (Zr.out.trans ((Ui.out v5 hown hgrow).2.to (Nat.le_of_lt Us.out) (Nat.le_refl _)));have ZO:=qqh (show w.heap.size<v5.heap.size from Nat.lt_of_lt_of_le Us.out hgrow.size);clear hown hgrow) | fail);refine(J1.out _).mono ?_;rintro e w6 ⟨A6,k6,c6,rfl,hr,hk,hc,hb⟩;have Zn:=qqh (gx.out.trans (hb.mono (Nat.le_of_lt ZO.out)))
 obtain⟨D6,hown,hput⟩:=(L7.out.below hb).put XC (set:=Yj) (hr.keep (af.refl (X':=fun b=>b≠w.heap.size∧w.heap.size≤b) (fun b h=>by have:=ZO.out;omega))) hc;have Xa:=qqh (show w.heap.size<w6.heap.size from Nat.lt_of_lt_of_le ZO.out hb.size);have y8:=qqh hown;have HP6:=qqh hput;clear hr hk hc hb hown hput;go_wp2_with (first | (refine bX _ rfl (.tmp 8) _ _ 136 rfl 9 41 iJ Tryz.underlying136 Raw w.heap.size 6 _ rfl y8.out (by unfold maxLen;omega) _ _ _ rfl rfl Yp.out (.held (.slice A6 k6 c6)) [] rfl ?_;intro v6 hown hgrow;have LJ:=qqh (HP6.out v6 hown hgrow).1;have od:=qqh (Zn.out.trans ((HP6.out v6 hown hgrow).2.to (Nat.le_of_lt Xa.out) (Nat.le_refl _)));have Zg:=qqh (show w.heap.size<v6.heap.size from Nat.lt_of_lt_of_le Xa.out hgrow.size);clear hown hgrow) | fail);refine(KM.out _).mono ?_;rintro e w7 ⟨A7,k7,c7,rfl,hr,hk,hc,hb⟩;have aaI:=qqh (od.out.trans (hb.mono (Nat.le_of_lt Zg.out)));obtain⟨D7,hown,hput⟩:=(LJ.out.below hb).put WT (set:=Yw) (hr.keep (af.refl (X':=fun b=>b≠w.heap.size∧w.heap.size≤b) (fun b h=>by have:=Zg.out;omega))) hc;have UH:=qqh (show w.heap.size<w7.heap.size from Nat.lt_of_lt_of_le Zg.out hb.size);have NW:=qqh hown;have HP7:=qqh hput;clear hr hk hc hb hown hput
 go_wp2_with (first | (refine bX _ rfl (.tmp 8) _ _ 136 rfl 9 41 iJ Tryz.underlying136 Raw w.heap.size 7 _ rfl NW.out (by unfold maxLen;omega) _ _ _ rfl rfl HK7.out (.held (.slice A7 k7 c7)) [] rfl ?_;intro v7 hown hgrow;have Ff:=qqh (HP7.out v7 hown hgrow).1;have wD:=qqh (aaI.out.trans ((HP7.out v7 hown hgrow).2.to (Nat.le_of_lt UH.out) (Nat.le_refl _)));have HL8:=qqh (show w.heap.size<v7.heap.size from Nat.lt_of_lt_of_le UH.out hgrow.size);clear hown hgrow) | fail);refine(Ta.out _).mono ?_;rintro e w8 ⟨A8,k8,c8,rfl,hr,hk,hc,hb⟩;have Zy:=qqh (wD.out.trans (hb.mono (Nat.le_of_lt HL8.out)));obtain⟨D8,hown,hput⟩:=(Ff.out.below hb).put Vd (set:=Yg) (hr.keep (af.refl (X':=fun b=>b≠w.heap.size∧w.heap.size≤b) (fun b h=>by have:=HL8.out;omega))) hc;have VA:=qqh (show w.heap.size<w8.heap.size from Nat.lt_of_lt_of_le HL8.out hb.size);have Hp:=qqh hown;have Gt:=qqh hput;clear hr hk hc hb hown hput
 go_wp2_with (first | (refine bX _ rfl (.tmp 8) _ _ 136 rfl 9 41 iJ Tryz.underlying136 Raw w.heap.size 8 _ rfl Hp.out (by unfold maxLen;omega) _ _ _ rfl rfl HK8.out (.held (.slice A8 k8 c8)) [] rfl ?_;intro v8 hown hgrow;have zC:=qqh (Gt.out v8 hown hgrow).1;have eK:=qqh (Zy.out.trans ((Gt.out v8 hown hgrow).2.to (Nat.le_of_lt VA.out) (Nat.le_refl _)));have Uy:=qqh (show w.heap.size<v8.heap.size from Nat.lt_of_lt_of_le VA.out hgrow.size);clear hown hgrow;obtain⟨D9,u9,q9,hown,lY,UU,hpost⟩:=zC.out.ask s;have fN:=qqh hown;have HA9:=qqh lY;have Sf:=qqh UU;have HP9:=qqh hpost;clear hown lY UU hpost) | (at_lookup;refine yw rfl (.tmp 36) (.tmp 37) 136 41 rfl Tryz.underlying136 (z:=.slice none 0 0) (Km _) w.heap.size 9 D9 rfl fN.out s rfl HS.out u9 q9 HA9.out Sf.out ?_) | fail);go_ret2;have hp:=HP9.out;unfold pM;change (match xY s with | some set=>_ | none=>_)at hp;cases hT:xY s with
 | none=>
  rw [hT]at hp;obtain⟨rfl,rfl⟩:=hp;exact⟨rfl,eK.out⟩
 | some set=>
  rw [hT]at hp;obtain⟨rfl,A,k,c,rfl,h1,h2⟩:=hp;exact⟨⟨A,k,c,rfl,h1.keep (af.refl (fun b h=>h.2)),h2⟩,eK.out⟩
end Go.Proofs.YthgkedoildcbcaaGreatDoor
namespace Go.Proofs.YthgkedoildcbcaaGreatDoor
open Go.RowKit
theorem Po {w:World} {g:Nat} {t:TypeId} {c c':Array Value} (h:ai w g t c):ai (w.setRow g c') g t c':=setRow_heap w g c c' t (0,0) h
theorem Ib (w:World) (g:Nat) (c:Array Value):bP w g (w.setRow g c):=⟨by simp,rfl,rfl,rfl,fun k _ hne=>setRow_other w g k c hne⟩
section
variable {ops : Array Oper} {rest : List Oper} {o : Oper} {a : Act} {w : World} {Q : Exit → Act → World → Prop} {ty t : TypeId} {x y : Operand} {g : Nat}
theorem wpList_load_row {cs:Array Value} (hgd:o.guard=none) (ho:o.op=.load ty x) (hu:∃ fs,Tryz.prog.underlying ty=some (.struct fs)) (hi:(Tryz.prog.info? ty).map (·.size)=some cs.size)
    (hx:a.eval x=.pointer (some ⟨g,0,none⟩)) (hb:ai w g t cs) (h:wpList Tryz.prog ops Q rest (a.put o.dst (.agg cs)) w):wpList Tryz.prog ops Q (o::rest) a w:=by
 obtain⟨fs,hu⟩:=hu;refine wpList_plain hgd fun K hK=>?_;have hr:(execOp a.eval o).run Tryz.prog w=.ok (.value (.agg cs)) w:=by
  unfold execOp;rw [ho];simp only [hx,Instr.loadAt,Instr.sureAddr,Sem.run_bind,Sem.run_pure,Result.andThen,run_loadVar_row w g t ty cs (0,0) (.struct fs) hb hu rfl hi]
 unfold Oper.wp;rw [hr];exact hK _ _ h
theorem wpList_store_row {c vs:Array Value} (hgd:o.guard=none) (ho:o.op=.store ty x y) (hi:(Tryz.prog.info? ty).map (·.size)=some vs.size) (hs:c.size=vs.size) (h1:vs.all (·.oneCell')=true)
    (hx:a.eval x=.pointer (some ⟨g,0,none⟩)) (hy:a.eval y=.agg vs) (hb:ai w g t c) (h:wpList Tryz.prog ops Q rest (a.put o.dst undef) (w.setRow g vs)):wpList Tryz.prog ops Q (o::rest) a w:=by
 refine wpList_plain hgd fun K hK=>?_;have hr:(execOp a.eval o).run Tryz.prog w=.ok .skip (w.setRow g vs):=by
  unfold execOp;rw [ho];simp only [hx,hy,Instr.storeAt,Instr.sureAddr,Sem.run_bind,Sem.run_pure,Result.andThen,run_storeVar_row w g t ty c vs hb hi hs h1]
 unfold Oper.wp;rw [hr];exact hK _ _ h
theorem mq {fn:Func} {p:Tmp} {tmps:Array Value} {cs:Array Value} (h:fn.results = #[.cell p ty]) (hp:tmps.getD p undef=.pointer (some ⟨g,0,none⟩)) (hu:∃ fs,Tryz.prog.underlying ty=some (.struct fs)) (hi:(Tryz.prog.info? ty).map (·.size)=some cs.size) (hb:ai w g t cs) :
    (results fn tmps).run Tryz.prog w=.ok (.agg cs) w:=by
 obtain⟨fs,hu⟩:=hu;have hl:=run_loadVar_row w g t ty cs (0,0) (.struct fs) hb hu rfl hi;have hp2:tmps[p]?.getD undef=.pointer (some ⟨g,0,none⟩):=(by simpa using hp);simp only [results,h];simp [hp2,asAddr,hl]
end
end Go.Proofs.YthgkedoildcbcaaGreatDoor
