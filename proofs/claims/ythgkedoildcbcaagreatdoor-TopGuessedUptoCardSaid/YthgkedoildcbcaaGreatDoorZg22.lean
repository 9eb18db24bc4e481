/- EdgesBoth + ClassMap + WholeBox -/
import Derived.Test.YthgkedoildcbcaaGreatDoorZg8
import Derived.Test.YthgkedoildcbcaaGreatDoorZg11
import Derived.Deep.DeepCutAuto
import Derived.Deep.CutBlock
import Derived.Test.YthgkedoildcbcaaGreatDoorZg1
import Derived.Test.YthgkedoildcbcaaGreatDoorZg20
import Derived.Test.YthgkedoildcbcaaGreatDoorZg5
import Derived.Deep.WholeRow
set_option maxHeartbeats 6400000
set_option maxRecDepth 100000
namespace Go.Proofs.YthgkedoildcbcaaGreatDoor
open Go.RowKit
def AK (lo g:Nat) (E:List Int) (w:World):Prop:=∃ (A:Option Addr) (n c:Nat),ai w g 26 #[.slice A n c]∧cE w (fun b=>b≠g∧lo≤b) 1 A n (runeCells E)∧n≤c
def bJ (w:World) (g:Nat) (w':World):Prop:=w.heap.size≤w'.heap.size∧w'.os=w.os∧w'.tape=w.tape∧w'.output=w.output∧∀ k,k<w.heap.size→k≠g→w'.heap[k]? = w.heap[k]?
theorem bJ.refl (w:World) (g:Nat):bJ w g w:=⟨Nat.le_refl _,rfl,rfl,rfl,fun _ _ _=>rfl⟩
theorem bJ.trans {w w1 w2:World} {g:Nat} (h:bJ w g w1) (h2:bJ w1 g w2):bJ w g w2 :=
  ⟨Nat.le_trans h.1 h2.1,h2.2.1.trans h.2.1,h2.2.2.1.trans h.2.2.1,h2.2.2.2.1.trans h.2.2.2.1,fun k hk hne=>(h2.2.2.2.2 k (Nat.lt_of_lt_of_le hk h.1) hne).trans (h.2.2.2.2 k hk hne)⟩
theorem bJ.below {w w1:World} (g:Nat) (h:Below w.heap.size w w1):bJ w g w1:=⟨h.size,h.os,h.tape,h.output,fun k hk _=>h.block k hk⟩
theorem bJ.set (w:World) (g i:Nat) (u:Value):bJ w g (w.setCell ⟨g,i,none⟩ u):=⟨by simp,rfl,rfl,rfl,fun k _ hne=>Below.heap_setCell _ _ _ _ hne⟩
theorem bJ.to {w w1:World} {g B:Nat} (h:bJ w g w1) (hB:B≤w.heap.size) (hg:B≤g):Below B w w1:=⟨h.2.1,h.2.2.1,h.2.2.2.1,h.1,fun k hk=>h.2.2.2.2 k (by omega) (by omega)⟩
theorem bJ.drewN (w:World) (C k:Nat):bJ w C (w.drewN k):=bJ.below C (below_drewN (Below.refl _ _) k)
theorem bJ.keeps {w w1:World} {g:Nat} {X X':Nat→Prop} (h:bJ w g w1) (hX:∀ b,X b→b≠g) (h2:∀ b,X b→b<w.heap.size→X' b):aa w X w1 X' :=
  fun b hb hl=>⟨h.2.2.2.2 b hl (hX b hb),h2 b hb hl,Nat.lt_of_lt_of_le hl h.1⟩
end Go.Proofs.YthgkedoildcbcaaGreatDoor
namespace Go.Proofs.YthgkedoildcbcaaGreatDoor
open Go.RowKit
theorem AK.below {lo g:Nat} {E:List Int} {w w':World} (h:AK lo g E w) (hb:Below w.heap.size w w'):AK lo g E w':=by
 obtain⟨A,n,c,h1,h2,h3⟩:=h;exact⟨A,n,c,ai.below h1 hb h1.lt,h2.keep (aa.any hb),h3⟩
structure UL (w:World) (L:List af) (b:Nat) (xs:List Int) (wr:World):Prop where
  ex:∃ E:List Int,AK w.heap.size (w.heap.size+1) E wr∧E.Pairwise (· < ·)∧E ≠ []∧E.length≤b∧fM L=xs.foldl oe E
  below:Below w.heap.size w wr
theorem UL.lt {w wr:World} {L:List af} {b:Nat} {xs:List Int} (h:UL w L b xs wr):w.heap.size+1<wr.heap.size:=by
 obtain⟨⟨E,⟨A,n,c,h1,_⟩,_⟩,_⟩:=h;exact h1.lt
end Go.Proofs.YthgkedoildcbcaaGreatDoor
namespace Go.Proofs.YthgkedoildcbcaaGreatDoor
open Go.RowKit Go.Maps
def om (w:World) (lo mb n:Nat) (m:ByteArray→Option af):Prop :=
  ∃ D:DataW Value,w.ownsMap Tryz.prog 9 Raw mb n D∧IsMap D∧∀ s:ByteArray,match m s with
    | some set=>∃ u,D.atKey (eN s) tw=.held u∧has D (eN s)=true∧∃ A k c,u=.slice A k c∧cE w (fun b=>b≠mb∧lo≤b) 2 A k (ak set)∧k≤c
    | none=>D.atKey (eN s) tw=tw∧has D (eN s)=false
def tg (m:ByteArray→Option af) (k:ByteArray) (v:af) (s:ByteArray):Option af:=if s=k then some v else m s
theorem om.keep {w w':World} {lo mb n:Nat} {m:ByteArray→Option af} (hk:aa w (fun b=>b≠mb∧lo≤b) w' (fun b=>b≠mb∧lo≤b)) (hm:w'.heap[mb]? = w.heap[mb]?) (h:om w lo mb n m):om w' lo mb n m:=by
 obtain⟨D,⟨es,clock,h1,h2⟩,h3,h4⟩:=h;refine⟨D,⟨es,clock,hm.trans h1,h2⟩,h3,fun s=>?_⟩;have:=h4 s;cases hl:m s with
 | none=>rw [hl]at this;exact this
 | some set=>
  rw [hl]at this;obtain⟨u,g1,g2,A,k,c,e,g3,g4⟩:=this;exact⟨u,g1,g2,A,k,c,e,g3.keep hk,g4⟩
theorem om.lt {w:World} {lo mb n:Nat} {m:ByteArray→Option af} (h:om w lo mb n m):mb<w.heap.size:=by
 obtain⟨D,h1,_⟩:=h;exact h1.lt
theorem om.below {w w':World} {lo mb n:Nat} {m:ByteArray→Option af} (h:om w lo mb n m) (hb:Below w.heap.size w w'):om w' lo mb n m:=h.keep (aa.any hb) (hb.block mb h.lt)
theorem om.made (w:World) (lo:Nat):om (w.alloc (.map #[] 0)) lo w.heap.size 0 (fun _=>none) :=
  ⟨.map [],World.ownsMap_made _ _ _ _,isMap_empty,fun s=>⟨by simp [DataW.atKey],by simp [has]⟩⟩
theorem om.put {w:World} {lo mb n:Nat} {m:ByteArray→Option af} (h:om w lo mb n m) (key:ByteArray) {set:af} {A:Option Addr} {k c:Nat} (hr:cE w (fun b=>b≠mb∧lo≤b) 2 A k (ak set)) (hc:k≤c) :
    ∃ D:DataW Value,w.ownsMap Tryz.prog 9 Raw mb n D∧∀ w':World,w'.ownsMap Tryz.prog 9 Raw mb (n+1) (D.put (eN key) (.held (.slice A k c)))→w.grownBy w' (some mb)→om w' lo mb (n+1) (tg m key set)∧bJ w mb w':=by
 obtain⟨D,h1,h2,h3⟩:=h;refine⟨D,h1,fun w' hown hg=>?_⟩;have hk:aa w (fun b=>b≠mb∧lo≤b) w' (fun b=>b≠mb∧lo≤b):=fun b hb hl=>⟨hg.block b hl (fun e=>hb.1 (Option.some.inj e)),hb,Nat.lt_of_lt_of_le hl hg.size⟩;refine⟨⟨_,hown,h2.put _ _,fun s=>?_⟩,hg.size,hg.os,hg.tape,hg.output,fun b hb hne=>hg.block b hb (fun e=>hne (Option.some.inj e))⟩;unfold tg;by_cases hs:s=key
 ·subst hs;rw [if_pos rfl];exact⟨_,atKey_put_same h2 (uq _) _ _,has_put_same h2 (uq _) _,A,k,c,rfl,hr.keep hk,hc⟩
 rw [if_neg hs];have hne:eN s≠eN key:=fun e=>hs (CA e);have:=h3 s;cases hl:m s with
 | none=>
  rw [hl]at this;dsimp only;rw [atKey_put_other hne,has_put_other hne];exact this
 | some x=>
  rw [hl]at this;obtain⟨v,g1,g2,A',k',c',e,g3,g4⟩:=this;exact⟨v,by rw [atKey_put_other hne];exact g1,by rw [has_put_other hne];exact g2,A',k',c',e,g3.keep hk,g4⟩
def SG:ByteArray:=⟨#[100,105,103,105,116]⟩
def cs0:af:=[(48,57)]
def V0:ByteArray:=⟨#[108,111,119,101,114]⟩
def Xn:af:=[(97,122),(223,246),(248,255)]
def Uk:ByteArray:=⟨#[117,112,112,101,114]⟩
def WK:af:=[(65,90),(192,214),(216,222)]
def Vn:ByteArray:=⟨#[108,101,116,116,101,114]⟩
def Tf:af:=[(65,90),(97,122),(192,214),(216,246),(248,255)]
def TI:ByteArray:=⟨#[118,111,119,101,108]⟩
def VQ:af:=[(65,65),(69,69),(73,73),(79,79),(85,85),(97,97),(101,101),(105,105),(111,111),(117,117)]
def TJ:ByteArray:=⟨#[103,114,101,101,107]⟩
def Wn:af:=[(880,1023)]
def Tq:ByteArray:=⟨#[99,121,114,105,108,108,105,99]⟩
def WW:af:=[(1024,1279)]
def S9:ByteArray:=⟨#[115,112,97,99,101]⟩
def WT:af:=[(9,10),(32,32)]
def U9:ByteArray:=⟨#[97,110,121]⟩
def WX:af:=[(0,1114111)]
def vR:ByteArray→Option af:=(tg (tg (tg (tg (tg (tg (tg (tg (tg (fun _=>none) SG cs0) V0 Xn) Uk WK) Vn Tf) TI VQ) TJ Wn) Tq WW) S9 WT) U9 WX)
theorem jI {l m:List Int} {k:ByteArray} (hk:k=runesBytes m) (hm:di m):(runesBytes l=k)=(l=m):=by
 subst hk;exact propext ⟨x7 hm,fun h=>by rw [h]⟩
theorem l9 {k:ByteArray} {m:List Int} (hm:di m) (h:k.data.toList=ng m):k=runesBytes m:=by
 rw [← eU hm]at h;exact ByteArray.ext (Array.ext' h)
theorem E3 (l:List Int):vR (runesBytes l)=gz l:=by
 have e0:(runesBytes l=SG)=(l = [100,105,103,105,116]):=jI (l9 (by unfold di;decide) (by decide)) (by unfold di;decide);have e1:(runesBytes l=V0)=(l = [108,111,119,101,114]):=jI (l9 (by unfold di;decide) (by decide)) (by unfold di;decide);have e2:(runesBytes l=Uk)=(l = [117,112,112,101,114]):=jI (l9 (by unfold di;decide) (by decide)) (by unfold di;decide);have e3:(runesBytes l=Vn)=(l = [108,101,116,116,101,114]):=jI (l9 (by unfold di;decide) (by decide)) (by unfold di;decide);have e4:(runesBytes l=TI)=(l = [118,111,119,101,108]):=jI (l9 (by unfold di;decide) (by decide)) (by unfold di;decide);have e5:(runesBytes l=TJ)=(l = [103,114,101,101,107]):=jI (l9 (by unfold di;decide) (by decide)) (by unfold di;decide);have e6:(runesBytes l=Tq)=(l = [99,121,114,105,108,108,105,99]):=jI (l9 (by unfold di;decide) (by decide)) (by unfold di;decide);have e7:(runesBytes l=S9)=(l = [115,112,97,99,101]):=jI (l9 (by unfold di;decide) (by decide)) (by unfold di;decide);have e8:(runesBytes l=U9)=(l = [97,110,121]):=jI (l9 (by unfold di;decide) (by decide)) (by unfold di;decide);unfold vR tg gz;simp only [e0,e1,e2,e3,e4,e5,e6,e7,e8];clear e0 e1 e2 e3 e4 e5 e6 e7 e8;by_cases h0:l = [100,105,103,105,116]
 ·subst h0;rfl
 by_cases h1:l = [108,111,119,101,114]
 ·subst h1;rfl
 by_cases h2:l = [117,112,112,101,114]
 ·subst h2;rfl
 by_cases h3:l = [108,101,116,116,101,114]
 ·subst h3;rfl
 by_cases h4:l = [118,111,119,101,108]
 ·subst h4;rfl
 by_cases h5:l = [103,114,101,101,107]
 ·subst h5;rfl
 by_cases h6:l = [99,121,114,105,108,108,105,99]
 ·subst h6;rfl
 by_cases h7:l = [115,112,97,99,101]
 ·subst h7;rfl
 by_cases h8:l = [97,110,121]
 ·subst h8;rfl
 simp only [h0,h1,h2,h3,h4,h5,h6,h7,h8,if_false]
def nP (w:World) (s:ByteArray) (e:Ending) (w':World):Prop :=
  (match vR s with
  | some set=>∃ A n c,e=.returned (.tuple #[.slice A n c,.bool true])∧cE w' (fun b=>w.heap.size≤b) 2 A n (ak set)∧n≤c
  | none=>e=.returned (.tuple #[.slice none 0 0,.bool false]))∧Below w.heap.size w w'
theorem IP (w:World):(zeroValue 41).run Tryz.prog w=.ok (.slice none 0 0) w:=by kernel_rfl
theorem om.ask {w:World} {lo mb n:Nat} {m:ByteArray→Option af} (h:om w lo mb n m) (s:ByteArray) :
    ∃ D u q,w.ownsMap Tryz.prog 9 Raw mb n D∧D.atKey (eN s) tw=.held u∧has D (eN s)=q∧(match m s with
      | some set=>q=true∧∃ A k c,u=.slice A k c∧cE w (fun b=>b≠mb∧lo≤b) 2 A k (ak set)∧k≤c
      | none=>q=false∧u=.slice none 0 0):=by
 obtain⟨D,h1,_,h3⟩:=h;have:=h3 s;cases hl:m s with
 | none=>
  rw [hl]at this;exact⟨D,_,_,h1,this.1,this.2,rfl,rfl⟩
 | some x=>
  rw [hl]at this;obtain⟨u,g1,g2,g3⟩:=this;exact⟨D,u,true,h1,g1,g2,rfl,g3⟩
theorem fA (W:World) (cs:af) (N:Nat) (hN:N=2*cs.length) (hn:N≤1000) :
    Calls Tryz.prog 132 #[.slice (some ⟨W.heap.size,0,none⟩) N N] (W.alloc (.cells (ak cs).toArray 21)) (dn W cs 1000):=by
 have hb:=(Below.refl W.heap.size W).alloc (Nat.le_refl _) (.cells (ak cs).toArray 21);refine(Fa W.heap.size 0 N cs N _ hN hn (by simp) (fun j u hu=>?_)).mono ?_
 ·rw [Nat.zero_add,(ai.new W 21 (ak cs).toArray).cell];simpa using hu
 rintro e w1 ⟨A,k,c,rfl,h1,h2,h3,h4⟩;exact⟨A,k,c,rfl,h1.keep (aa.refl (fun b h=>by simp at h;omega)),h2,h3,hb.trans (h4.mono (by simp))⟩
theorem Il (s:ByteArray) (w:World) (hs:s.size≤maxLen) :
    Calls Tryz.prog 107 #[.string s] w (nP w s):=by
 have HS:=qqh hs;have nT:=qqh (om.made w w.heap.size);have dF:=qqh ((Below.refl w.heap.size w).alloc (Nat.le_refl _) (.map #[] 0));have hmm:∀ W:World,(Instr.makeMap 136 none).run Tryz.prog W=.ok (.map (some W.heap.size)) (W.alloc (.map #[] 0)):=fun W=>rfl;clear hs;have OQ:=qqh (fun(W:World)=>show Calls Tryz.prog 132 #[.slice (some ⟨W.heap.size,0,none⟩) 2 2] (W.alloc (.cells #[.int .i32 48,.int .i32 57] 21)) (dn W cs0 1000) from fA W cs0 2 (by decide) (by decide));have gY:=qqh (show keyOf Tryz.prog 9 (.string ⟨#[100,105,103,105,116]⟩)=some (eN SG) from ju (s:=SG) (by show(5:Nat)≤maxLen;simp only [maxLen];omega));have jq:=qqh (fun(W:World)=>show Calls Tryz.prog 132 #[.slice (some ⟨W.heap.size,0,none⟩) 6 6] (W.alloc (.cells #[.int .i32 97,.int .i32 122,.int .i32 223,.int .i32 246,.int .i32 248,.int .i32 255] 21)) (dn W Xn 1000) from fA W Xn 6 (by decide) (by decide));have MG:=qqh (show keyOf Tryz.prog 9 (.string ⟨#[108,111,119,101,114]⟩)=some (eN V0) from ju (s:=V0) (by show(5:Nat)≤maxLen;simp only [maxLen];omega));have mB:=qqh (fun(W:World)=>show Calls Tryz.prog 132 #[.slice (some ⟨W.heap.size,0,none⟩) 6 6] (W.alloc (.cells #[.int .i32 65,.int .i32 90,.int .i32 192,.int .i32 214,.int .i32 216,.int .i32 222] 21)) (dn W WK 1000) from fA W WK 6 (by decide) (by decide));have P5:=qqh (show keyOf Tryz.prog 9 (.string ⟨#[117,112,112,101,114]⟩)=some (eN Uk) from ju (s:=Uk) (by show(5:Nat)≤maxLen;simp only [maxLen];omega))
 have og:=qqh (fun(W:World)=>show Calls Tryz.prog 132 #[.slice (some ⟨W.heap.size,0,none⟩) 10 10] (W.alloc (.cells #[.int .i32 65,.int .i32 90,.int .i32 97,.int .i32 122,.int .i32 192,.int .i32 214,.int .i32 216,.int .i32 246,.int .i32 248,.int .i32 255] 21)) (dn W Tf 1000) from fA W Tf 10 (by decide) (by decide));have ZT:=qqh (show keyOf Tryz.prog 9 (.string ⟨#[108,101,116,116,101,114]⟩)=some (eN Vn) from ju (s:=Vn) (by show(6:Nat)≤maxLen;simp only [maxLen];omega));have Cs:=qqh (fun(W:World)=>show Calls Tryz.prog 132 #[.slice (some ⟨W.heap.size,0,none⟩) 20 20] (W.alloc (.cells #[.int .i32 65,.int .i32 65,.int .i32 69,.int .i32 69,.int .i32 73,.int .i32 73,.int .i32 79,.int .i32 79,.int .i32 85,.int .i32 85,.int .i32 97,.int .i32 97,.int .i32 101,.int .i32 101,.int .i32 105,.int .i32 105,.int .i32 111,.int .i32 111,.int .i32 117,.int .i32 117] 21)) (dn W VQ 1000) from fA W VQ 20 (by decide) (by decide));have HK4:=qqh (show keyOf Tryz.prog 9 (.string ⟨#[118,111,119,101,108]⟩)=some (eN TI) from ju (s:=TI) (by show(5:Nat)≤maxLen;simp only [maxLen];omega));have tA:=qqh (fun(W:World)=>show Calls Tryz.prog 132 #[.slice (some ⟨W.heap.size,0,none⟩) 2 2] (W.alloc (.cells #[.int .i32 880,.int .i32 1023] 21)) (dn W Wn 1000) from fA W Wn 2 (by decide) (by decide));have HK5:=qqh (show keyOf Tryz.prog 9 (.string ⟨#[103,114,101,101,107]⟩)=some (eN TJ) from ju (s:=TJ) (by show(5:Nat)≤maxLen;simp only [maxLen];omega))
 have Ip:=qqh (fun(W:World)=>show Calls Tryz.prog 132 #[.slice (some ⟨W.heap.size,0,none⟩) 2 2] (W.alloc (.cells #[.int .i32 1024,.int .i32 1279] 21)) (dn W WW 1000) from fA W WW 2 (by decide) (by decide));have HK6:=qqh (show keyOf Tryz.prog 9 (.string ⟨#[99,121,114,105,108,108,105,99]⟩)=some (eN Tq) from ju (s:=Tq) (by show(8:Nat)≤maxLen;simp only [maxLen];omega));have Jg:=qqh (fun(W:World)=>show Calls Tryz.prog 132 #[.slice (some ⟨W.heap.size,0,none⟩) 4 4] (W.alloc (.cells #[.int .i32 9,.int .i32 10,.int .i32 32,.int .i32 32] 21)) (dn W WT 1000) from fA W WT 4 (by decide) (by decide));have HK7:=qqh (show keyOf Tryz.prog 9 (.string ⟨#[115,112,97,99,101]⟩)=some (eN S9) from ju (s:=S9) (by show(5:Nat)≤maxLen;simp only [maxLen];omega));have Qu:=qqh (fun(W:World)=>show Calls Tryz.prog 132 #[.slice (some ⟨W.heap.size,0,none⟩) 2 2] (W.alloc (.cells #[.int .i32 0,.int .i32 1114111] 21)) (dn W WX 1000) from fA W WX 2 (by decide) (by decide));have HK8:=qqh (show keyOf Tryz.prog 9 (.string ⟨#[97,110,121]⟩)=some (eN U9) from ju (s:=U9) (by show(3:Nat)≤maxLen;simp only [maxLen];omega));have YV:=qqh (show Calls Tryz.prog 132 #[.slice (some ⟨w.heap.size+1,0,none⟩) 2 2] ((w.alloc (.map #[] 0)).alloc (.cells #[.int .i32 48,.int .i32 57] 21)) (dn (w.alloc (.map #[] 0)) cs0 1000) by have:=OQ.out (w.alloc (.map #[] 0));simpa using this);have RN:=qqh (show w.heap.size<(w.alloc (.map #[] 0)).heap.size by simp);go_enter Tryz.func107,Tryz.ntmps107;go_wp2_with fail;refine YV.out.mono ?_;rintro e w0 ⟨A0,k0,c0,rfl,hr,hk,hc,hb⟩
 have YH:=qqh (dF.out.trans (hb.mono (Nat.le_of_lt RN.out)));obtain⟨D0,hown,hput⟩:=(nT.out.below hb).put SG (set:=cs0) (hr.keep (aa.refl (X':=fun b=>b≠w.heap.size∧w.heap.size≤b) (fun b h=>by have:=RN.out;omega))) hc;have U6:=qqh (show w.heap.size<w0.heap.size from Nat.lt_of_lt_of_le RN.out hb.size);have HO0:=qqh hown;have ug:=qqh hput;clear hr hk hc hb hown hput;go_wp2_with (first | (refine bP _ rfl (.tmp 8) _ _ 136 rfl 9 41 gQ Tryz.underlying136 Raw w.heap.size 0 _ rfl HO0.out (by unfold maxLen;omega) _ _ _ rfl rfl gY.out (.held (.slice A0 k0 c0)) [] rfl ?_;intro v0 hown hgrow;have EM:=qqh (ug.out v0 hown hgrow).1;have bI:=qqh (YH.out.trans ((ug.out v0 hown hgrow).2.to (Nat.le_of_lt U6.out) (Nat.le_refl _)));have Je:=qqh (show w.heap.size<v0.heap.size from Nat.lt_of_lt_of_le U6.out hgrow.size);clear hown hgrow) | fail);refine(jq.out _).mono ?_;rintro e w1 ⟨A1,k1,c1,rfl,hr,hk,hc,hb⟩;have ZO:=qqh (bI.out.trans (hb.mono (Nat.le_of_lt Je.out)));obtain⟨D1,hown,hput⟩:=(EM.out.below hb).put V0 (set:=Xn) (hr.keep (aa.refl (X':=fun b=>b≠w.heap.size∧w.heap.size≤b) (fun b h=>by have:=Je.out;omega))) hc;have TX:=qqh (show w.heap.size<w1.heap.size from Nat.lt_of_lt_of_le Je.out hb.size);have yH:=qqh hown;have wU:=qqh hput;clear hr hk hc hb hown hput
 go_wp2_with (first | (refine bP _ rfl (.tmp 8) _ _ 136 rfl 9 41 gQ Tryz.underlying136 Raw w.heap.size 1 _ rfl yH.out (by unfold maxLen;omega) _ _ _ rfl rfl MG.out (.held (.slice A1 k1 c1)) [] rfl ?_;intro v1 hown hgrow;have WG:=qqh (wU.out v1 hown hgrow).1;have bw:=qqh (ZO.out.trans ((wU.out v1 hown hgrow).2.to (Nat.le_of_lt TX.out) (Nat.le_refl _)));have O6:=qqh (show w.heap.size<v1.heap.size from Nat.lt_of_lt_of_le TX.out hgrow.size);clear hown hgrow) | fail);refine(mB.out _).mono ?_;rintro e w2 ⟨A2,k2,c2,rfl,hr,hk,hc,hb⟩;have Zv:=qqh (bw.out.trans (hb.mono (Nat.le_of_lt O6.out)));obtain⟨D2,hown,hput⟩:=(WG.out.below hb).put Uk (set:=WK) (hr.keep (aa.refl (X':=fun b=>b≠w.heap.size∧w.heap.size≤b) (fun b h=>by have:=O6.out;omega))) hc;have UE:=qqh (show w.heap.size<w2.heap.size from Nat.lt_of_lt_of_le O6.out hb.size);have sj:=qqh hown;have kZ:=qqh hput;clear hr hk hc hb hown hput;go_wp2_with (first | (refine bP _ rfl (.tmp 8) _ _ 136 rfl 9 41 gQ Tryz.underlying136 Raw w.heap.size 2 _ rfl sj.out (by unfold maxLen;omega) _ _ _ rfl rfl P5.out (.held (.slice A2 k2 c2)) [] rfl ?_;intro v2 hown hgrow;have Wv:=qqh (kZ.out v2 hown hgrow).1;have bF:=qqh (Zv.out.trans ((kZ.out v2 hown hgrow).2.to (Nat.le_of_lt UE.out) (Nat.le_refl _)));have Nc:=qqh (show w.heap.size<v2.heap.size from Nat.lt_of_lt_of_le UE.out hgrow.size);clear hown hgrow) | fail);refine(og.out _).mono ?_;rintro e w3 ⟨A3,k3,c3,rfl,hr,hk,hc,hb⟩;have Yc:=qqh (bF.out.trans (hb.mono (Nat.le_of_lt Nc.out)))
 obtain⟨D3,hown,hput⟩:=(Wv.out.below hb).put Vn (set:=Tf) (hr.keep (aa.refl (X':=fun b=>b≠w.heap.size∧w.heap.size≤b) (fun b h=>by have:=Nc.out;omega))) hc;have TE:=qqh (show w.heap.size<w3.heap.size from Nat.lt_of_lt_of_le Nc.out hb.size);have nc:=qqh hown;have ic:=qqh hput;clear hr hk hc hb hown hput;go_wp2_with (first | (refine bP _ rfl (.tmp 8) _ _ 136 rfl 9 41 gQ Tryz.underlying136 Raw w.heap.size 3 _ rfl nc.out (by unfold maxLen;omega) _ _ _ rfl rfl ZT.out (.held (.slice A3 k3 c3)) [] rfl ?_;intro v3 hown hgrow;have RU:=qqh (ic.out v3 hown hgrow).1;have dP:=qqh (Yc.out.trans ((ic.out v3 hown hgrow).2.to (Nat.le_of_lt TE.out) (Nat.le_refl _)));have NZ:=qqh (show w.heap.size<v3.heap.size from Nat.lt_of_lt_of_le TE.out hgrow.size);clear hown hgrow) | fail);refine(Cs.out _).mono ?_;rintro e w4 ⟨A4,k4,c4,rfl,hr,hk,hc,hb⟩;have Zb:=qqh (dP.out.trans (hb.mono (Nat.le_of_lt NZ.out)));obtain⟨D4,hown,hput⟩:=(RU.out.below hb).put TI (set:=VQ) (hr.keep (aa.refl (X':=fun b=>b≠w.heap.size∧w.heap.size≤b) (fun b h=>by have:=NZ.out;omega))) hc;have Tg:=qqh (show w.heap.size<w4.heap.size from Nat.lt_of_lt_of_le NZ.out hb.size);have mX:=qqh hown;have NS:=qqh hput;clear hr hk hc hb hown hput
 go_wp2_with (first | (refine bP _ rfl (.tmp 8) _ _ 136 rfl 9 41 gQ Tryz.underlying136 Raw w.heap.size 4 _ rfl mX.out (by unfold maxLen;omega) _ _ _ rfl rfl HK4.out (.held (.slice A4 k4 c4)) [] rfl ?_;intro v4 hown hgrow;have Eo:=qqh (NS.out v4 hown hgrow).1;have dN:=qqh (Zb.out.trans ((NS.out v4 hown hgrow).2.to (Nat.le_of_lt Tg.out) (Nat.le_refl _)));have UD:=qqh (show w.heap.size<v4.heap.size from Nat.lt_of_lt_of_le Tg.out hgrow.size);clear hown hgrow) | fail);refine(tA.out _).mono ?_;rintro e w5 ⟨A5,k5,c5,rfl,hr,hk,hc,hb⟩;have Yk:=qqh (dN.out.trans (hb.mono (Nat.le_of_lt UD.out)));obtain⟨D5,hown,hput⟩:=(Eo.out.below hb).put TJ (set:=Wn) (hr.keep (aa.refl (X':=fun b=>b≠w.heap.size∧w.heap.size≤b) (fun b h=>by have:=UD.out;omega))) hc;have UG:=qqh (show w.heap.size<w5.heap.size from Nat.lt_of_lt_of_le UD.out hb.size);have tO:=qqh hown;have SB:=qqh hput;clear hr hk hc hb hown hput;go_wp2_with (first | (refine bP _ rfl (.tmp 8) _ _ 136 rfl 9 41 gQ Tryz.underlying136 Raw w.heap.size 5 _ rfl tO.out (by unfold maxLen;omega) _ _ _ rfl rfl HK5.out (.held (.slice A5 k5 c5)) [] rfl ?_;intro v5 hown hgrow;have Lx:=qqh (SB.out v5 hown hgrow).1;have fC:=qqh (Yk.out.trans ((SB.out v5 hown hgrow).2.to (Nat.le_of_lt UG.out) (Nat.le_refl _)));have ZY:=qqh (show w.heap.size<v5.heap.size from Nat.lt_of_lt_of_le UG.out hgrow.size);clear hown hgrow) | fail);refine(Ip.out _).mono ?_;rintro e w6 ⟨A6,k6,c6,rfl,hr,hk,hc,hb⟩;have aay:=qqh (fC.out.trans (hb.mono (Nat.le_of_lt ZY.out)))
 obtain⟨D6,hown,hput⟩:=(Lx.out.below hb).put Tq (set:=WW) (hr.keep (aa.refl (X':=fun b=>b≠w.heap.size∧w.heap.size≤b) (fun b h=>by have:=ZY.out;omega))) hc;have SC:=qqh (show w.heap.size<w6.heap.size from Nat.lt_of_lt_of_le ZY.out hb.size);have uS:=qqh hown;have HP6:=qqh hput;clear hr hk hc hb hown hput;go_wp2_with (first | (refine bP _ rfl (.tmp 8) _ _ 136 rfl 9 41 gQ Tryz.underlying136 Raw w.heap.size 6 _ rfl uS.out (by unfold maxLen;omega) _ _ _ rfl rfl HK6.out (.held (.slice A6 k6 c6)) [] rfl ?_;intro v6 hown hgrow;have J4:=qqh (HP6.out v6 hown hgrow).1;have kV:=qqh (aay.out.trans ((HP6.out v6 hown hgrow).2.to (Nat.le_of_lt SC.out) (Nat.le_refl _)));have Zo:=qqh (show w.heap.size<v6.heap.size from Nat.lt_of_lt_of_le SC.out hgrow.size);clear hown hgrow) | fail);refine(Jg.out _).mono ?_;rintro e w7 ⟨A7,k7,c7,rfl,hr,hk,hc,hb⟩;have aas:=qqh (kV.out.trans (hb.mono (Nat.le_of_lt Zo.out)));obtain⟨D7,hown,hput⟩:=(J4.out.below hb).put S9 (set:=WT) (hr.keep (aa.refl (X':=fun b=>b≠w.heap.size∧w.heap.size≤b) (fun b h=>by have:=Zo.out;omega))) hc;have UU:=qqh (show w.heap.size<w7.heap.size from Nat.lt_of_lt_of_le Zo.out hb.size);have FA:=qqh hown;have HP7:=qqh hput;clear hr hk hc hb hown hput
 go_wp2_with (first | (refine bP _ rfl (.tmp 8) _ _ 136 rfl 9 41 gQ Tryz.underlying136 Raw w.heap.size 7 _ rfl FA.out (by unfold maxLen;omega) _ _ _ rfl rfl HK7.out (.held (.slice A7 k7 c7)) [] rfl ?_;intro v7 hown hgrow;have RX:=qqh (HP7.out v7 hown hgrow).1;have xk:=qqh (aas.out.trans ((HP7.out v7 hown hgrow).2.to (Nat.le_of_lt UU.out) (Nat.le_refl _)));have HL8:=qqh (show w.heap.size<v7.heap.size from Nat.lt_of_lt_of_le UU.out hgrow.size);clear hown hgrow) | fail);refine(Qu.out _).mono ?_;rintro e w8 ⟨A8,k8,c8,rfl,hr,hk,hc,hb⟩;have ZQ:=qqh (xk.out.trans (hb.mono (Nat.le_of_lt HL8.out)));obtain⟨D8,hown,hput⟩:=(RX.out.below hb).put U9 (set:=WX) (hr.keep (aa.refl (X':=fun b=>b≠w.heap.size∧w.heap.size≤b) (fun b h=>by have:=HL8.out;omega))) hc;have TK:=qqh (show w.heap.size<w8.heap.size from Nat.lt_of_lt_of_le HL8.out hb.size);have NJ:=qqh hown;have Ef:=qqh hput;clear hr hk hc hb hown hput
 go_wp2_with (first | (refine bP _ rfl (.tmp 8) _ _ 136 rfl 9 41 gQ Tryz.underlying136 Raw w.heap.size 8 _ rfl NJ.out (by unfold maxLen;omega) _ _ _ rfl rfl HK8.out (.held (.slice A8 k8 c8)) [] rfl ?_;intro v8 hown hgrow;have BN:=qqh (Ef.out v8 hown hgrow).1;have fe:=qqh (ZQ.out.trans ((Ef.out v8 hown hgrow).2.to (Nat.le_of_lt TK.out) (Nat.le_refl _)));have Vw:=qqh (show w.heap.size<v8.heap.size from Nat.lt_of_lt_of_le TK.out hgrow.size);clear hown hgrow;obtain⟨D9,u9,q9,hown,jV,Tv,hpost⟩:=BN.out.ask s;have gS:=qqh hown;have HA9:=qqh jV;have Rw:=qqh Tv;have HP9:=qqh hpost;clear hown jV Tv hpost) | (at_lookup;refine uB rfl (.tmp 36) (.tmp 37) 136 41 rfl Tryz.underlying136 (z:=.slice none 0 0) (IP _) w.heap.size 9 D9 rfl gS.out s rfl HS.out u9 q9 HA9.out Rw.out ?_) | fail);go_ret2;have hp:=HP9.out;unfold nP;change (match vR s with | some set=>_ | none=>_)at hp;cases hT:vR s with
 | none=>
  rw [hT]at hp;obtain⟨rfl,rfl⟩:=hp;exact⟨rfl,fe.out⟩
 | some set=>
  rw [hT]at hp;obtain⟨rfl,A,k,c,rfl,h1,h2⟩:=hp;exact⟨⟨A,k,c,rfl,h1.keep (aa.refl (fun b h=>h.2)),h2⟩,fe.out⟩
end Go.Proofs.YthgkedoildcbcaaGreatDoor
namespace Go.Proofs.YthgkedoildcbcaaGreatDoor
open Go.RowKit
theorem Ny {w:World} {g:Nat} {t:TypeId} {c c':Array Value} (h:ai w g t c):ai (w.setRow g c') g t c':=setRow_heap w g c c' t (0,0) h
theorem Gd (w:World) (g:Nat) (c:Array Value):bJ w g (w.setRow g c):=⟨by simp,rfl,rfl,rfl,fun k _ hne=>setRow_other w g k c hne⟩
section
variable {ops : Array Oper} {rest : List Oper} {o : Oper} {a : Act} {w : World} {Q : Exit → Act → World → Prop} {ty t : TypeId} {x y : Operand} {g : Nat}
theorem wpList_load_row {cs:Array Value} (hgd:o.guard=none) (ho:o.op=.load ty x) (hu:∃ fs,Tryz.prog.underlying ty=some (.struct fs)) (hi:(Tryz.prog.info? ty).map (·.size)=some cs.size)
    (hx:a.eval x=.pointer (some ⟨g,0,none⟩)) (hb:ai w g t cs) (h:wpList Tryz.prog ops Q rest (a.put o.dst (.agg cs)) w):wpList Tryz.prog ops Q (o::rest) a w:=by
 obtain⟨fs,hu⟩:=hu;refine wpList_plain hgd fun K hK=>?_;have hr:(execOp a.eval o).run Tryz.prog w=.ok (.value (.agg cs)) w:=by
  unfold execOp;rw [ho];simp only [hx,Instr.loadAt,Instr.sureAddr,Sem.run_bind,Sem.run_pure,Result.andThen,run_loadVar_row w g t ty cs (0,0) (.struct fs) hb hu rfl hi]
 unfold Oper.wp;rw [hr];exact hK _ _ h
theorem wpList_store_row {c vs:Array Value} (hgd:o.guard=none) (ho:o.op=.store ty x y) (hi:(Tryz.prog.info? ty).map (·.size)=some vs.size) (hs:c.size=vs.size) (h1:vs.all (·.oneCell')=true)
    (hx:a.eval x=.pointer (some ⟨g,0,none⟩)) (hy:a.eval y=.agg vs) (hb:ai w g t c) (h:wpList Tryz.prog ops Q rest (a.put o.dst undef) (w.setRow g vs)):wpList Tryz.prog ops Q (o::rest) a w:=by
 refine wpList_plain hgd fun K hK=>?_;have hr:(execOp a.eval o).run Tryz.prog w=.ok .skip (w.setRow g vs):=by
  unfold execOp;rw [ho];simp only [hx,hy,Instr.storeAt,Instr.sureAddr,Sem.run_bind,Sem.run_pure,Result.andThen,run_storeVar_row w g t ty c vs hb hi hs h1]
 unfold Oper.wp;rw [hr];exact hK _ _ h
theorem kO {fn:Func} {p:Tmp} {tmps:Array Value} {cs:Array Value} (h:fn.results = #[.cell p ty]) (hp:tmps.getD p undef=.pointer (some ⟨g,0,none⟩)) (hu:∃ fs,Tryz.prog.underlying ty=some (.struct fs)) (hi:(Tryz.prog.info? ty).map (·.size)=some cs.size) (hb:ai w g t cs) :
    (results fn tmps).run Tryz.prog w=.ok (.agg cs) w:=by
 obtain⟨fs,hu⟩:=hu;have hl:=run_loadVar_row w g t ty cs (0,0) (.struct fs) hb hu rfl hi;have hp2:tmps[p]?.getD undef=.pointer (some ⟨g,0,none⟩):=(by simpa using hp);simp only [results,h];simp [hp2,asAddr,hl]
end
end Go.Proofs.YthgkedoildcbcaaGreatDoor
