/- EdgesBoth + ClassMap + WholeBox -/
import Derived.Test.YtkggjgeihhialaaGreatDoorZu8
import Derived.Test.YtkggjgeihhialaaGreatDoorZu11
import Derived.Deep.DeepCutAuto
import Derived.Deep.CutBlock
import Derived.Test.YtkggjgeihhialaaGreatDoorZu1
import Derived.Test.YtkggjgeihhialaaGreatDoorZu19
import Derived.Test.YtkggjgeihhialaaGreatDoorZu5
import Derived.Deep.WholeRow
set_option maxHeartbeats 6400000
set_option maxRecDepth 100000
namespace Go.Proofs.YtkggjgeihhialaaGreatDoor
open Go.RowKit
def AU (lo g:Nat) (E:List Int) (w:World):Prop:=∃ (A:Option Addr) (n c:Nat),aj w g 33 #[.slice A n c]∧cE w (fun b=>b≠g∧lo≤b) 1 A n (runeCells E)∧n≤c
def bN (w:World) (g:Nat) (w':World):Prop:=w.heap.size≤w'.heap.size∧w'.os=w.os∧w'.tape=w.tape∧w'.output=w.output∧∀ k,k<w.heap.size→k≠g→w'.heap[k]? = w.heap[k]?
theorem bN.refl (w:World) (g:Nat):bN w g w:=⟨Nat.le_refl _,rfl,rfl,rfl,fun _ _ _=>rfl⟩
theorem bN.trans {w w1 w2:World} {g:Nat} (h:bN w g w1) (h2:bN w1 g w2):bN w g w2 :=
  ⟨Nat.le_trans h.1 h2.1,h2.2.1.trans h.2.1,h2.2.2.1.trans h.2.2.1,h2.2.2.2.1.trans h.2.2.2.1,fun k hk hne=>(h2.2.2.2.2 k (Nat.lt_of_lt_of_le hk h.1) hne).trans (h.2.2.2.2 k hk hne)⟩
theorem bN.below {w w1:World} (g:Nat) (h:Below w.heap.size w w1):bN w g w1:=⟨h.size,h.os,h.tape,h.output,fun k hk _=>h.block k hk⟩
theorem bN.set (w:World) (g i:Nat) (u:Value):bN w g (w.setCell ⟨g,i,none⟩ u):=⟨by simp,rfl,rfl,rfl,fun k _ hne=>Below.heap_setCell _ _ _ _ hne⟩
theorem bN.to {w w1:World} {g B:Nat} (h:bN w g w1) (hB:B≤w.heap.size) (hg:B≤g):Below B w w1:=⟨h.2.1,h.2.2.1,h.2.2.2.1,h.1,fun k hk=>h.2.2.2.2 k (by omega) (by omega)⟩
theorem bN.drewN (w:World) (C k:Nat):bN w C (w.drewN k):=bN.below C (below_drewN (Below.refl _ _) k)
theorem bN.keeps {w w1:World} {g:Nat} {X X':Nat→Prop} (h:bN w g w1) (hX:∀ b,X b→b≠g) (h2:∀ b,X b→b<w.heap.size→X' b):aa w X w1 X' :=
  fun b hb hl=>⟨h.2.2.2.2 b hl (hX b hb),h2 b hb hl,Nat.lt_of_lt_of_le hl h.1⟩
end Go.Proofs.YtkggjgeihhialaaGreatDoor
namespace Go.Proofs.YtkggjgeihhialaaGreatDoor
open Go.RowKit
theorem AU.below {lo g:Nat} {E:List Int} {w w':World} (h:AU lo g E w) (hb:Below w.heap.size w w'):AU lo g E w':=by
 obtain⟨A,n,c,h1,h2,h3⟩:=h;exact⟨A,n,c,aj.below h1 hb h1.lt,h2.keep (aa.any hb),h3⟩
structure UA (w:World) (L:List af) (b:Nat) (xs:List Int) (wr:World):Prop where
  ex:∃ E:List Int,AU w.heap.size (w.heap.size+1) E wr∧E.Pairwise (· < ·)∧E ≠ []∧E.length≤b∧fO L=xs.foldl oE E
  below:Below w.heap.size w wr
theorem UA.lt {w wr:World} {L:List af} {b:Nat} {xs:List Int} (h:UA w L b xs wr):w.heap.size+1<wr.heap.size:=by
 obtain⟨⟨E,⟨A,n,c,h1,_⟩,_⟩,_⟩:=h;exact h1.lt
end Go.Proofs.YtkggjgeihhialaaGreatDoor
namespace Go.Proofs.YtkggjgeihhialaaGreatDoor
open Go.RowKit Go.Maps
def oF (w:World) (lo mb n:Nat) (m:ByteArray→Option af):Prop :=
  ∃ D:DataW Value,w.ownsMap Tryz.prog 9 Raw mb n D∧IsMap D∧∀ s:ByteArray,match m s with
    | some set=>∃ u,D.atKey (eV s) uv=.held u∧has D (eV s)=true∧∃ A k c,u=.slice A k c∧cE w (fun b=>b≠mb∧lo≤b) 2 A k (an set)∧k≤c
    | none=>D.atKey (eV s) uv=uv∧has D (eV s)=false
def uk (m:ByteArray→Option af) (k:ByteArray) (v:af) (s:ByteArray):Option af:=if s=k then some v else m s
theorem oF.keep {w w':World} {lo mb n:Nat} {m:ByteArray→Option af} (hk:aa w (fun b=>b≠mb∧lo≤b) w' (fun b=>b≠mb∧lo≤b)) (hm:w'.heap[mb]? = w.heap[mb]?) (h:oF w lo mb n m):oF w' lo mb n m:=by
 obtain⟨D,⟨es,clock,h1,h2⟩,h3,h4⟩:=h;refine⟨D,⟨es,clock,hm.trans h1,h2⟩,h3,fun s=>?_⟩;have:=h4 s;cases hl:m s with
 | none=>rw [hl]at this;exact this
 | some set=>
  rw [hl]at this;obtain⟨u,g1,g2,A,k,c,e,g3,g4⟩:=this;exact⟨u,g1,g2,A,k,c,e,g3.keep hk,g4⟩
theorem oF.lt {w:World} {lo mb n:Nat} {m:ByteArray→Option af} (h:oF w lo mb n m):mb<w.heap.size:=by
 obtain⟨D,h1,_⟩:=h;exact h1.lt
theorem oF.below {w w':World} {lo mb n:Nat} {m:ByteArray→Option af} (h:oF w lo mb n m) (hb:Below w.heap.size w w'):oF w' lo mb n m:=h.keep (aa.any hb) (hb.block mb h.lt)
theorem oF.made (w:World) (lo:Nat):oF (w.alloc (.map #[] 0)) lo w.heap.size 0 (fun _=>none) :=
  ⟨.map [],World.ownsMap_made _ _ _ _,isMap_empty,fun s=>⟨by simp [DataW.atKey],by simp [has]⟩⟩
theorem oF.put {w:World} {lo mb n:Nat} {m:ByteArray→Option af} (h:oF w lo mb n m) (key:ByteArray) {set:af} {A:Option Addr} {k c:Nat} (hr:cE w (fun b=>b≠mb∧lo≤b) 2 A k (an set)) (hc:k≤c) :
    ∃ D:DataW Value,w.ownsMap Tryz.prog 9 Raw mb n D∧∀ w':World,w'.ownsMap Tryz.prog 9 Raw mb (n+1) (D.put (eV key) (.held (.slice A k c)))→w.grownBy w' (some mb)→oF w' lo mb (n+1) (uk m key set)∧bN w mb w':=by
 obtain⟨D,h1,h2,h3⟩:=h;refine⟨D,h1,fun w' hown hg=>?_⟩;have hk:aa w (fun b=>b≠mb∧lo≤b) w' (fun b=>b≠mb∧lo≤b):=fun b hb hl=>⟨hg.block b hl (fun e=>hb.1 (Option.some.inj e)),hb,Nat.lt_of_lt_of_le hl hg.size⟩;refine⟨⟨_,hown,h2.put _ _,fun s=>?_⟩,hg.size,hg.os,hg.tape,hg.output,fun b hb hne=>hg.block b hb (fun e=>hne (Option.some.inj e))⟩;unfold uk;by_cases hs:s=key
 ·subst hs;rw [if_pos rfl];exact⟨_,atKey_put_same h2 (uX _) _ _,has_put_same h2 (uX _) _,A,k,c,rfl,hr.keep hk,hc⟩
 rw [if_neg hs];have hne:eV s≠eV key:=fun e=>hs (Ea e);have:=h3 s;cases hl:m s with
 | none=>
  rw [hl]at this;dsimp only;rw [atKey_put_other hne,has_put_other hne];exact this
 | some x=>
  rw [hl]at this;obtain⟨v,g1,g2,A',k',c',e,g3,g4⟩:=this;exact⟨v,by rw [atKey_put_other hne];exact g1,by rw [has_put_other hne];exact g2,A',k',c',e,g3.keep hk,g4⟩
def Vo:ByteArray:=⟨#[100,105,103,105,116]⟩
def cs0:af:=[(48,57)]
def XG:ByteArray:=⟨#[108,111,119,101,114]⟩
def YU:af:=[(97,122),(223,246),(248,255)]
def Uh:ByteArray:=⟨#[117,112,112,101,114]⟩
def Y1:af:=[(65,90),(192,214),(216,222)]
def Xw:ByteArray:=⟨#[108,101,116,116,101,114]⟩
def WG:af:=[(65,90),(97,122),(192,214),(216,246),(248,255)]
def UB:ByteArray:=⟨#[118,111,119,101,108]⟩
def Wy:af:=[(65,65),(69,69),(73,73),(79,79),(85,85),(97,97),(101,101),(105,105),(111,111),(117,117)]
def Vz:ByteArray:=⟨#[103,114,101,101,107]⟩
def Yy:af:=[(880,1023)]
def UD:ByteArray:=⟨#[99,121,114,105,108,108,105,99]⟩
def X8:af:=[(1024,1279)]
def WQ:ByteArray:=⟨#[115,112,97,99,101]⟩
def YM:af:=[(9,10),(32,32)]
def XI:ByteArray:=⟨#[97,110,121]⟩
def Yl:af:=[(0,1114111)]
def xE:ByteArray→Option af:=(uk (uk (uk (uk (uk (uk (uk (uk (uk (fun _=>none) Vo cs0) XG YU) Uh Y1) Xw WG) UB Wy) Vz Yy) UD X8) WQ YM) XI Yl)
theorem jU {l m:List Int} {k:ByteArray} (hk:k=runesBytes m) (hm:dA m):(runesBytes l=k)=(l=m):=by
 subst hk;exact propext ⟨x8 hm,fun h=>by rw [h]⟩
theorem mE {k:ByteArray} {m:List Int} (hm:dA m) (h:k.data.toList=nG m):k=runesBytes m:=by
 rw [← eY hm]at h;exact ByteArray.ext (Array.ext' h)
theorem E4 (l:List Int):xE (runesBytes l)=gz l:=by
 have e0:(runesBytes l=Vo)=(l = [100,105,103,105,116]):=jU (mE (by unfold dA;decide) (by decide)) (by unfold dA;decide);have e1:(runesBytes l=XG)=(l = [108,111,119,101,114]):=jU (mE (by unfold dA;decide) (by decide)) (by unfold dA;decide);have e2:(runesBytes l=Uh)=(l = [117,112,112,101,114]):=jU (mE (by unfold dA;decide) (by decide)) (by unfold dA;decide);have e3:(runesBytes l=Xw)=(l = [108,101,116,116,101,114]):=jU (mE (by unfold dA;decide) (by decide)) (by unfold dA;decide);have e4:(runesBytes l=UB)=(l = [118,111,119,101,108]):=jU (mE (by unfold dA;decide) (by decide)) (by unfold dA;decide);have e5:(runesBytes l=Vz)=(l = [103,114,101,101,107]):=jU (mE (by unfold dA;decide) (by decide)) (by unfold dA;decide);have e6:(runesBytes l=UD)=(l = [99,121,114,105,108,108,105,99]):=jU (mE (by unfold dA;decide) (by decide)) (by unfold dA;decide);have e7:(runesBytes l=WQ)=(l = [115,112,97,99,101]):=jU (mE (by unfold dA;decide) (by decide)) (by unfold dA;decide);have e8:(runesBytes l=XI)=(l = [97,110,121]):=jU (mE (by unfold dA;decide) (by decide)) (by unfold dA;decide);unfold xE uk gz;simp only [e0,e1,e2,e3,e4,e5,e6,e7,e8];clear e0 e1 e2 e3 e4 e5 e6 e7 e8;by_cases h0:l = [100,105,103,105,116]
 ·subst h0;rfl
 by_cases h1:l = [108,111,119,101,114]
 ·subst h1;rfl
 by_cases h2:l = [117,112,112,101,114]
 ·subst h2;rfl
 by_cases h3:l = [108,101,116,116,101,114]
 ·subst h3;rfl
 by_cases h4:l = [118,111,119,101,108]
 ·subst h4;rfl
 by_cases h5:l = [103,114,101,101,107]
 ·subst h5;rfl
 by_cases h6:l = [99,121,114,105,108,108,105,99]
 ·subst h6;rfl
 by_cases h7:l = [115,112,97,99,101]
 ·subst h7;rfl
 by_cases h8:l = [97,110,121]
 ·subst h8;rfl
 simp only [h0,h1,h2,h3,h4,h5,h6,h7,h8,if_false]
def nW (w:World) (s:ByteArray) (e:Ending) (w':World):Prop :=
  (match xE s with
  | some set=>∃ A n c,e=.returned (.tuple #[.slice A n c,.bool true])∧cE w' (fun b=>w.heap.size≤b) 2 A n (an set)∧n≤c
  | none=>e=.returned (.tuple #[.slice none 0 0,.bool false]))∧Below w.heap.size w w'
theorem JJ (w:World):(zeroValue 24).run Tryz.prog w=.ok (.slice none 0 0) w:=by kernel_rfl
theorem oF.ask {w:World} {lo mb n:Nat} {m:ByteArray→Option af} (h:oF w lo mb n m) (s:ByteArray) :
    ∃ D u q,w.ownsMap Tryz.prog 9 Raw mb n D∧D.atKey (eV s) uv=.held u∧has D (eV s)=q∧(match m s with
      | some set=>q=true∧∃ A k c,u=.slice A k c∧cE w (fun b=>b≠mb∧lo≤b) 2 A k (an set)∧k≤c
      | none=>q=false∧u=.slice none 0 0):=by
 obtain⟨D,h1,_,h3⟩:=h;have:=h3 s;cases hl:m s with
 | none=>
  rw [hl]at this;exact⟨D,_,_,h1,this.1,this.2,rfl,rfl⟩
 | some x=>
  rw [hl]at this;obtain⟨u,g1,g2,g3⟩:=this;exact⟨D,u,true,h1,g1,g2,rfl,g3⟩
theorem fy (W:World) (cs:af) (N:Nat) (hN:N=2*cs.length) (hn:N≤1000) :
    Calls Tryz.prog 134 #[.slice (some ⟨W.heap.size,0,none⟩) N N] (W.alloc (.cells (an cs).toArray 21)) (dy W cs 1000):=by
 have hb:=(Below.refl W.heap.size W).alloc (Nat.le_refl _) (.cells (an cs).toArray 21);refine(FP W.heap.size 0 N cs N _ hN hn (by simp) (fun j u hu=>?_)).mono ?_
 ·rw [Nat.zero_add,(aj.new W 21 (an cs).toArray).cell];simpa using hu
 rintro e w1 ⟨A,k,c,rfl,h1,h2,h3,h4⟩;exact⟨A,k,c,rfl,h1.keep (aa.refl (fun b h=>by simp at h;omega)),h2,h3,hb.trans (h4.mono (by simp))⟩
theorem JA (s:ByteArray) (w:World) (hs:s.size≤maxLen) :
    Calls Tryz.prog 114 #[.string s] w (nW w s):=by
 have HS:=qqh hs;have nS:=qqh (oF.made w w.heap.size);have dY:=qqh ((Below.refl w.heap.size w).alloc (Nat.le_refl _) (.map #[] 0));have hmm:∀ W:World,(Instr.makeMap 141 none).run Tryz.prog W=.ok (.map (some W.heap.size)) (W.alloc (.map #[] 0)):=fun W=>rfl;clear hs;have Qm:=qqh (fun(W:World)=>show Calls Tryz.prog 134 #[.slice (some ⟨W.heap.size,0,none⟩) 2 2] (W.alloc (.cells #[.int .i32 48,.int .i32 57] 21)) (dy W cs0 1000) from fy W cs0 2 (by decide) (by decide));have ir:=qqh (show keyOf Tryz.prog 9 (.string ⟨#[100,105,103,105,116]⟩)=some (eV Vo) from jI (s:=Vo) (by show(5:Nat)≤maxLen;simp only [maxLen];omega));have jB:=qqh (fun(W:World)=>show Calls Tryz.prog 134 #[.slice (some ⟨W.heap.size,0,none⟩) 6 6] (W.alloc (.cells #[.int .i32 97,.int .i32 122,.int .i32 223,.int .i32 246,.int .i32 248,.int .i32 255] 21)) (dy W YU 1000) from fy W YU 6 (by decide) (by decide));have NO:=qqh (show keyOf Tryz.prog 9 (.string ⟨#[108,111,119,101,114]⟩)=some (eV XG) from jI (s:=XG) (by show(5:Nat)≤maxLen;simp only [maxLen];omega));have mT:=qqh (fun(W:World)=>show Calls Tryz.prog 134 #[.slice (some ⟨W.heap.size,0,none⟩) 6 6] (W.alloc (.cells #[.int .i32 65,.int .i32 90,.int .i32 192,.int .i32 214,.int .i32 216,.int .i32 222] 21)) (dy W Y1 1000) from fy W Y1 6 (by decide) (by decide));have Nw:=qqh (show keyOf Tryz.prog 9 (.string ⟨#[117,112,112,101,114]⟩)=some (eV Uh) from jI (s:=Uh) (by show(5:Nat)≤maxLen;simp only [maxLen];omega))
 have oK:=qqh (fun(W:World)=>show Calls Tryz.prog 134 #[.slice (some ⟨W.heap.size,0,none⟩) 10 10] (W.alloc (.cells #[.int .i32 65,.int .i32 90,.int .i32 97,.int .i32 122,.int .i32 192,.int .i32 214,.int .i32 216,.int .i32 246,.int .i32 248,.int .i32 255] 21)) (dy W WG 1000) from fy W WG 10 (by decide) (by decide));have Tw:=qqh (show keyOf Tryz.prog 9 (.string ⟨#[108,101,116,116,101,114]⟩)=some (eV Xw) from jI (s:=Xw) (by show(6:Nat)≤maxLen;simp only [maxLen];omega));have B8:=qqh (fun(W:World)=>show Calls Tryz.prog 134 #[.slice (some ⟨W.heap.size,0,none⟩) 20 20] (W.alloc (.cells #[.int .i32 65,.int .i32 65,.int .i32 69,.int .i32 69,.int .i32 73,.int .i32 73,.int .i32 79,.int .i32 79,.int .i32 85,.int .i32 85,.int .i32 97,.int .i32 97,.int .i32 101,.int .i32 101,.int .i32 105,.int .i32 105,.int .i32 111,.int .i32 111,.int .i32 117,.int .i32 117] 21)) (dy W Wy 1000) from fy W Wy 20 (by decide) (by decide));have Y7:=qqh (show keyOf Tryz.prog 9 (.string ⟨#[118,111,119,101,108]⟩)=some (eV UB) from jI (s:=UB) (by show(5:Nat)≤maxLen;simp only [maxLen];omega));have uz:=qqh (fun(W:World)=>show Calls Tryz.prog 134 #[.slice (some ⟨W.heap.size,0,none⟩) 2 2] (W.alloc (.cells #[.int .i32 880,.int .i32 1023] 21)) (dy W Yy 1000) from fy W Yy 2 (by decide) (by decide));have Ys:=qqh (show keyOf Tryz.prog 9 (.string ⟨#[103,114,101,101,107]⟩)=some (eV Vz) from jI (s:=Vz) (by show(5:Nat)≤maxLen;simp only [maxLen];omega))
 have IB:=qqh (fun(W:World)=>show Calls Tryz.prog 134 #[.slice (some ⟨W.heap.size,0,none⟩) 2 2] (W.alloc (.cells #[.int .i32 1024,.int .i32 1279] 21)) (dy W X8 1000) from fy W X8 2 (by decide) (by decide));have HK6:=qqh (show keyOf Tryz.prog 9 (.string ⟨#[99,121,114,105,108,108,105,99]⟩)=some (eV UD) from jI (s:=UD) (by show(8:Nat)≤maxLen;simp only [maxLen];omega));have Kf:=qqh (fun(W:World)=>show Calls Tryz.prog 134 #[.slice (some ⟨W.heap.size,0,none⟩) 4 4] (W.alloc (.cells #[.int .i32 9,.int .i32 10,.int .i32 32,.int .i32 32] 21)) (dy W YM 1000) from fy W YM 4 (by decide) (by decide));have Yf:=qqh (show keyOf Tryz.prog 9 (.string ⟨#[115,112,97,99,101]⟩)=some (eV WQ) from jI (s:=WQ) (by show(5:Nat)≤maxLen;simp only [maxLen];omega));have Sk:=qqh (fun(W:World)=>show Calls Tryz.prog 134 #[.slice (some ⟨W.heap.size,0,none⟩) 2 2] (W.alloc (.cells #[.int .i32 0,.int .i32 1114111] 21)) (dy W Yl 1000) from fy W Yl 2 (by decide) (by decide));have HK8:=qqh (show keyOf Tryz.prog 9 (.string ⟨#[97,110,121]⟩)=some (eV XI) from jI (s:=XI) (by show(3:Nat)≤maxLen;simp only [maxLen];omega));have abb:=qqh (show Calls Tryz.prog 134 #[.slice (some ⟨w.heap.size+1,0,none⟩) 2 2] ((w.alloc (.map #[] 0)).alloc (.cells #[.int .i32 48,.int .i32 57] 21)) (dy (w.alloc (.map #[] 0)) cs0 1000) by have:=Qm.out (w.alloc (.map #[] 0));simpa using this);have QY:=qqh (show w.heap.size<(w.alloc (.map #[] 0)).heap.size by simp);go_enter Tryz.func114,Tryz.ntmps114;go_wp2_with fail;refine abb.out.mono ?_;rintro e w0 ⟨A0,k0,c0,rfl,hr,hk,hc,hb⟩
 have aau:=qqh (dY.out.trans (hb.mono (Nat.le_of_lt QY.out)));obtain⟨D0,hown,hput⟩:=(nS.out.below hb).put Vo (set:=cs0) (hr.keep (aa.refl (X':=fun b=>b≠w.heap.size∧w.heap.size≤b) (fun b h=>by have:=QY.out;omega))) hc;have V4:=qqh (show w.heap.size<w0.heap.size from Nat.lt_of_lt_of_le QY.out hb.size);have HO0:=qqh hown;have uT:=qqh hput;clear hr hk hc hb hown hput;go_wp2_with (first | (refine bX _ rfl (.tmp 8) _ _ 141 rfl 9 24 gU Tryz.underlying141 Raw w.heap.size 0 _ rfl HO0.out (by unfold maxLen;omega) _ _ _ rfl rfl ir.out (.held (.slice A0 k0 c0)) [] rfl ?_;intro v0 hown hgrow;have E6:=qqh (uT.out v0 hown hgrow).1;have bJ:=qqh (aau.out.trans ((uT.out v0 hown hgrow).2.to (Nat.le_of_lt V4.out) (Nat.le_refl _)));have Ki:=qqh (show w.heap.size<v0.heap.size from Nat.lt_of_lt_of_le V4.out hgrow.size);clear hown hgrow) | fail);refine(jB.out _).mono ?_;rintro e w1 ⟨A1,k1,c1,rfl,hr,hk,hc,hb⟩;have aa2:=qqh (bJ.out.trans (hb.mono (Nat.le_of_lt Ki.out)));obtain⟨D1,hown,hput⟩:=(E6.out.below hb).put XG (set:=YU) (hr.keep (aa.refl (X':=fun b=>b≠w.heap.size∧w.heap.size≤b) (fun b h=>by have:=Ki.out;omega))) hc;have T9:=qqh (show w.heap.size<w1.heap.size from Nat.lt_of_lt_of_le Ki.out hb.size);have zw:=qqh hown;have rZ:=qqh hput;clear hr hk hc hb hown hput
 go_wp2_with (first | (refine bX _ rfl (.tmp 8) _ _ 141 rfl 9 24 gU Tryz.underlying141 Raw w.heap.size 1 _ rfl zw.out (by unfold maxLen;omega) _ _ _ rfl rfl NO.out (.held (.slice A1 k1 c1)) [] rfl ?_;intro v1 hown hgrow;have Y3:=qqh (rZ.out v1 hown hgrow).1;have bD:=qqh (aa2.out.trans ((rZ.out v1 hown hgrow).2.to (Nat.le_of_lt T9.out) (Nat.le_refl _)));have KD:=qqh (show w.heap.size<v1.heap.size from Nat.lt_of_lt_of_le T9.out hgrow.size);clear hown hgrow) | fail);refine(mT.out _).mono ?_;rintro e w2 ⟨A2,k2,c2,rfl,hr,hk,hc,hb⟩;have Z5:=qqh (bD.out.trans (hb.mono (Nat.le_of_lt KD.out)));obtain⟨D2,hown,hput⟩:=(Y3.out.below hb).put Uh (set:=Y1) (hr.keep (aa.refl (X':=fun b=>b≠w.heap.size∧w.heap.size≤b) (fun b h=>by have:=KD.out;omega))) hc;have Xp:=qqh (show w.heap.size<w2.heap.size from Nat.lt_of_lt_of_le KD.out hb.size);have uS:=qqh hown;have j4:=qqh hput;clear hr hk hc hb hown hput;go_wp2_with (first | (refine bX _ rfl (.tmp 8) _ _ 141 rfl 9 24 gU Tryz.underlying141 Raw w.heap.size 2 _ rfl uS.out (by unfold maxLen;omega) _ _ _ rfl rfl Nw.out (.held (.slice A2 k2 c2)) [] rfl ?_;intro v2 hown hgrow;have YK:=qqh (j4.out v2 hown hgrow).1;have bG:=qqh (Z5.out.trans ((j4.out v2 hown hgrow).2.to (Nat.le_of_lt Xp.out) (Nat.le_refl _)));have Ob:=qqh (show w.heap.size<v2.heap.size from Nat.lt_of_lt_of_le Xp.out hgrow.size);clear hown hgrow) | fail);refine(oK.out _).mono ?_;rintro e w3 ⟨A3,k3,c3,rfl,hr,hk,hc,hb⟩;have abZ:=qqh (bG.out.trans (hb.mono (Nat.le_of_lt Ob.out)))
 obtain⟨D3,hown,hput⟩:=(YK.out.below hb).put Xw (set:=WG) (hr.keep (aa.refl (X':=fun b=>b≠w.heap.size∧w.heap.size≤b) (fun b h=>by have:=Ob.out;omega))) hc;have V6:=qqh (show w.heap.size<w3.heap.size from Nat.lt_of_lt_of_le Ob.out hb.size);have rz:=qqh hown;have iL:=qqh hput;clear hr hk hc hb hown hput;go_wp2_with (first | (refine bX _ rfl (.tmp 8) _ _ 141 rfl 9 24 gU Tryz.underlying141 Raw w.heap.size 3 _ rfl rz.out (by unfold maxLen;omega) _ _ _ rfl rfl Tw.out (.held (.slice A3 k3 c3)) [] rfl ?_;intro v3 hown hgrow;have Tt:=qqh (iL.out v3 hown hgrow).1;have dI:=qqh (abZ.out.trans ((iL.out v3 hown hgrow).2.to (Nat.le_of_lt V6.out) (Nat.le_refl _)));have QF:=qqh (show w.heap.size<v3.heap.size from Nat.lt_of_lt_of_le V6.out hgrow.size);clear hown hgrow) | fail);refine(B8.out _).mono ?_;rintro e w4 ⟨A4,k4,c4,rfl,hr,hk,hc,hb⟩;have abz:=qqh (dI.out.trans (hb.mono (Nat.le_of_lt QF.out)));obtain⟨D4,hown,hput⟩:=(Tt.out.below hb).put UB (set:=Wy) (hr.keep (aa.refl (X':=fun b=>b≠w.heap.size∧w.heap.size≤b) (fun b h=>by have:=QF.out;omega))) hc;have Xo:=qqh (show w.heap.size<w4.heap.size from Nat.lt_of_lt_of_le QF.out hb.size);have oU:=qqh hown;have Tc:=qqh hput;clear hr hk hc hb hown hput
 go_wp2_with (first | (refine bX _ rfl (.tmp 8) _ _ 141 rfl 9 24 gU Tryz.underlying141 Raw w.heap.size 4 _ rfl oU.out (by unfold maxLen;omega) _ _ _ rfl rfl Y7.out (.held (.slice A4 k4 c4)) [] rfl ?_;intro v4 hown hgrow;have FY:=qqh (Tc.out v4 hown hgrow).1;have dn:=qqh (abz.out.trans ((Tc.out v4 hown hgrow).2.to (Nat.le_of_lt Xo.out) (Nat.le_refl _)));have T1:=qqh (show w.heap.size<v4.heap.size from Nat.lt_of_lt_of_le Xo.out hgrow.size);clear hown hgrow) | fail);refine(uz.out _).mono ?_;rintro e w5 ⟨A5,k5,c5,rfl,hr,hk,hc,hb⟩;have aat:=qqh (dn.out.trans (hb.mono (Nat.le_of_lt T1.out)));obtain⟨D5,hown,hput⟩:=(FY.out.below hb).put Vz (set:=Yy) (hr.keep (aa.refl (X':=fun b=>b≠w.heap.size∧w.heap.size≤b) (fun b h=>by have:=T1.out;omega))) hc;have Uv:=qqh (show w.heap.size<w5.heap.size from Nat.lt_of_lt_of_le T1.out hb.size);have xQ:=qqh hown;have U8:=qqh hput;clear hr hk hc hb hown hput;go_wp2_with (first | (refine bX _ rfl (.tmp 8) _ _ 141 rfl 9 24 gU Tryz.underlying141 Raw w.heap.size 5 _ rfl xQ.out (by unfold maxLen;omega) _ _ _ rfl rfl Ys.out (.held (.slice A5 k5 c5)) [] rfl ?_;intro v5 hown hgrow;have Ln:=qqh (U8.out v5 hown hgrow).1;have fG:=qqh (aat.out.trans ((U8.out v5 hown hgrow).2.to (Nat.le_of_lt Uv.out) (Nat.le_refl _)));have HL6:=qqh (show w.heap.size<v5.heap.size from Nat.lt_of_lt_of_le Uv.out hgrow.size);clear hown hgrow) | fail);refine(IB.out _).mono ?_;rintro e w6 ⟨A6,k6,c6,rfl,hr,hk,hc,hb⟩;have ZO:=qqh (fG.out.trans (hb.mono (Nat.le_of_lt HL6.out)))
 obtain⟨D6,hown,hput⟩:=(Ln.out.below hb).put UD (set:=X8) (hr.keep (aa.refl (X':=fun b=>b≠w.heap.size∧w.heap.size≤b) (fun b h=>by have:=HL6.out;omega))) hc;have Uz:=qqh (show w.heap.size<w6.heap.size from Nat.lt_of_lt_of_le HL6.out hb.size);have zZ:=qqh hown;have HP6:=qqh hput;clear hr hk hc hb hown hput;go_wp2_with (first | (refine bX _ rfl (.tmp 8) _ _ 141 rfl 9 24 gU Tryz.underlying141 Raw w.heap.size 6 _ rfl zZ.out (by unfold maxLen;omega) _ _ _ rfl rfl HK6.out (.held (.slice A6 k6 c6)) [] rfl ?_;intro v6 hown hgrow;have LW:=qqh (HP6.out v6 hown hgrow).1;have iU:=qqh (ZO.out.trans ((HP6.out v6 hown hgrow).2.to (Nat.le_of_lt Uz.out) (Nat.le_refl _)));have HL7:=qqh (show w.heap.size<v6.heap.size from Nat.lt_of_lt_of_le Uz.out hgrow.size);clear hown hgrow) | fail);refine(Kf.out _).mono ?_;rintro e w7 ⟨A7,k7,c7,rfl,hr,hk,hc,hb⟩;have Zl:=qqh (iU.out.trans (hb.mono (Nat.le_of_lt HL7.out)));obtain⟨D7,hown,hput⟩:=(LW.out.below hb).put WQ (set:=YM) (hr.keep (aa.refl (X':=fun b=>b≠w.heap.size∧w.heap.size≤b) (fun b h=>by have:=HL7.out;omega))) hc;have Vn:=qqh (show w.heap.size<w7.heap.size from Nat.lt_of_lt_of_le HL7.out hb.size);have Jh:=qqh hown;have XC:=qqh hput;clear hr hk hc hb hown hput
 go_wp2_with (first | (refine bX _ rfl (.tmp 8) _ _ 141 rfl 9 24 gU Tryz.underlying141 Raw w.heap.size 7 _ rfl Jh.out (by unfold maxLen;omega) _ _ _ rfl rfl Yf.out (.held (.slice A7 k7 c7)) [] rfl ?_;intro v7 hown hgrow;have TP:=qqh (XC.out v7 hown hgrow).1;have rV:=qqh (Zl.out.trans ((XC.out v7 hown hgrow).2.to (Nat.le_of_lt Vn.out) (Nat.le_refl _)));have HL8:=qqh (show w.heap.size<v7.heap.size from Nat.lt_of_lt_of_le Vn.out hgrow.size);clear hown hgrow) | fail);refine(Sk.out _).mono ?_;rintro e w8 ⟨A8,k8,c8,rfl,hr,hk,hc,hb⟩;have ZZ:=qqh (rV.out.trans (hb.mono (Nat.le_of_lt HL8.out)));obtain⟨D8,hown,hput⟩:=(TP.out.below hb).put XI (set:=Yl) (hr.keep (aa.refl (X':=fun b=>b≠w.heap.size∧w.heap.size≤b) (fun b h=>by have:=HL8.out;omega))) hc;have VG:=qqh (show w.heap.size<w8.heap.size from Nat.lt_of_lt_of_le HL8.out hb.size);have Po:=qqh hown;have EN:=qqh hput;clear hr hk hc hb hown hput
 go_wp2_with (first | (refine bX _ rfl (.tmp 8) _ _ 141 rfl 9 24 gU Tryz.underlying141 Raw w.heap.size 8 _ rfl Po.out (by unfold maxLen;omega) _ _ _ rfl rfl HK8.out (.held (.slice A8 k8 c8)) [] rfl ?_;intro v8 hown hgrow;have DU:=qqh (EN.out v8 hown hgrow).1;have eG:=qqh (ZZ.out.trans ((EN.out v8 hown hgrow).2.to (Nat.le_of_lt VG.out) (Nat.le_refl _)));have Wq:=qqh (show w.heap.size<v8.heap.size from Nat.lt_of_lt_of_le VG.out hgrow.size);clear hown hgrow;obtain⟨D9,u9,q9,hown,kf,Xt,hpost⟩:=DU.out.ask s;have gL:=qqh hown;have HA9:=qqh kf;have SH:=qqh Xt;have Zq:=qqh hpost;clear hown kf Xt hpost) | (at_lookup;refine wV rfl (.tmp 36) (.tmp 37) 141 24 rfl Tryz.underlying141 (z:=.slice none 0 0) (JJ _) w.heap.size 9 D9 rfl gL.out s rfl HS.out u9 q9 HA9.out SH.out ?_) | fail);go_ret2;have hp:=Zq.out;unfold nW;change (match xE s with | some set=>_ | none=>_)at hp;cases hT:xE s with
 | none=>
  rw [hT]at hp;obtain⟨rfl,rfl⟩:=hp;exact⟨rfl,eG.out⟩
 | some set=>
  rw [hT]at hp;obtain⟨rfl,A,k,c,rfl,h1,h2⟩:=hp;exact⟨⟨A,k,c,rfl,h1.keep (aa.refl (fun b h=>h.2)),h2⟩,eG.out⟩
end Go.Proofs.YtkggjgeihhialaaGreatDoor
namespace Go.Proofs.YtkggjgeihhialaaGreatDoor
open Go.RowKit
theorem Pv {w:World} {g:Nat} {t:TypeId} {c c':Array Value} (h:aj w g t c):aj (w.setRow g c') g t c':=setRow_heap w g c c' t (0,0) h
theorem GK (w:World) (g:Nat) (c:Array Value):bN w g (w.setRow g c):=⟨by simp,rfl,rfl,rfl,fun k _ hne=>setRow_other w g k c hne⟩
section
variable {ops : Array Oper} {rest : List Oper} {o : Oper} {a : Act} {w : World} {Q : Exit → Act → World → Prop} {ty t : TypeId} {x y : Operand} {g : Nat}
theorem wpList_load_row {cs:Array Value} (hgd:o.guard=none) (ho:o.op=.load ty x) (hu:∃ fs,Tryz.prog.underlying ty=some (.struct fs)) (hi:(Tryz.prog.info? ty).map (·.size)=some cs.size)
    (hx:a.eval x=.pointer (some ⟨g,0,none⟩)) (hb:aj w g t cs) (h:wpList Tryz.prog ops Q rest (a.put o.dst (.agg cs)) w):wpList Tryz.prog ops Q (o::rest) a w:=by
 obtain⟨fs,hu⟩:=hu;refine wpList_plain hgd fun K hK=>?_;have hr:(execOp a.eval o).run Tryz.prog w=.ok (.value (.agg cs)) w:=by
  unfold execOp;rw [ho];simp only [hx,Instr.loadAt,Instr.sureAddr,Sem.run_bind,Sem.run_pure,Result.andThen,run_loadVar_row w g t ty cs (0,0) (.struct fs) hb hu rfl hi]
 unfold Oper.wp;rw [hr];exact hK _ _ h
theorem wpList_store_row {c vs:Array Value} (hgd:o.guard=none) (ho:o.op=.store ty x y) (hi:(Tryz.prog.info? ty).map (·.size)=some vs.size) (hs:c.size=vs.size) (h1:vs.all (·.oneCell')=true)
    (hx:a.eval x=.pointer (some ⟨g,0,none⟩)) (hy:a.eval y=.agg vs) (hb:aj w g t c) (h:wpList Tryz.prog ops Q rest (a.put o.dst undef) (w.setRow g vs)):wpList Tryz.prog ops Q (o::rest) a w:=by
 refine wpList_plain hgd fun K hK=>?_;have hr:(execOp a.eval o).run Tryz.prog w=.ok .skip (w.setRow g vs):=by
  unfold execOp;rw [ho];simp only [hx,hy,Instr.storeAt,Instr.sureAddr,Sem.run_bind,Sem.run_pure,Result.andThen,run_storeVar_row w g t ty c vs hb hi hs h1]
 unfold Oper.wp;rw [hr];exact hK _ _ h
theorem kY {fn:Func} {p:Tmp} {tmps:Array Value} {cs:Array Value} (h:fn.results = #[.cell p ty]) (hp:tmps.getD p undef=.pointer (some ⟨g,0,none⟩)) (hu:∃ fs,Tryz.prog.underlying ty=some (.struct fs)) (hi:(Tryz.prog.info? ty).map (·.size)=some cs.size) (hb:aj w g t cs) :
    (results fn tmps).run Tryz.prog w=.ok (.agg cs) w:=by
 obtain⟨fs,hu⟩:=hu;have hl:=run_loadVar_row w g t ty cs (0,0) (.struct fs) hb hu rfl hi;have hp2:tmps[p]?.getD undef=.pointer (some ⟨g,0,none⟩):=(by simpa using hp);simp only [results,h];simp [hp2,asAddr,hl]
end
end Go.Proofs.YtkggjgeihhialaaGreatDoor
