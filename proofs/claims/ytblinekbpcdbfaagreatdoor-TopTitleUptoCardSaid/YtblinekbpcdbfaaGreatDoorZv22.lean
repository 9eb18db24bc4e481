/- EdgesBoth + ClassMap + WholeBox -/
import Derived.Test.YtblinekbpcdbfaaGreatDoorZv9
import Derived.Test.YtblinekbpcdbfaaGreatDoorZv12
import Derived.Deep.DeepCutAuto
import Derived.Deep.CutBlock
import Derived.Test.YtblinekbpcdbfaaGreatDoorZv2
import Derived.Test.YtblinekbpcdbfaaGreatDoorZv20
import Derived.Test.YtblinekbpcdbfaaGreatDoorZv6
import Derived.Deep.WholeRow
set_option maxHeartbeats 6400000
set_option maxRecDepth 100000
namespace Go.Proofs.YtblinekbpcdbfaaGreatDoor
open Go.RowKit
def AH (lo g:Nat) (E:List Int) (w:World):Prop:=∃ (A:Option Addr) (n c:Nat),aj w g 24 #[.slice A n c]∧cV w (fun b=>b≠g∧lo≤b) 1 A n (runeCells E)∧n≤c
def bF (w:World) (g:Nat) (w':World):Prop:=w.heap.size≤w'.heap.size∧w'.os=w.os∧w'.tape=w.tape∧w'.output=w.output∧∀ k,k<w.heap.size→k≠g→w'.heap[k]? = w.heap[k]?
theorem bF.refl (w:World) (g:Nat):bF w g w:=⟨qql,rfl,rfl,rfl,fun _ _ _=>rfl⟩
theorem bF.trans {w w1 w2:World} {g:Nat} (h:bF w g w1) (h2:bF w1 g w2):bF w g w2 :=
  ⟨Nat.le_trans h.1 h2.1,h2.2.1.trans h.2.1,h2.2.2.1.trans h.2.2.1,h2.2.2.2.1.trans h.2.2.2.1,fun k hk hne=>(h2.2.2.2.2 k (Nat.lt_of_lt_of_le hk h.1) hne).trans (h.2.2.2.2 k hk hne)⟩
theorem bF.below {w w1:World} (g:Nat) (h:Below w.heap.size w w1):bF w g w1:=⟨h.size,h.os,h.tape,h.output,fun k hk _=>h.block k hk⟩
theorem bF.set (w:World) (g i:Nat) (u:Value):bF w g (w.setCell ⟨g,i,none⟩ u):=⟨by simp,rfl,rfl,rfl,fun k _ hne=>Below.heap_setCell _ _ _ _ hne⟩
theorem bF.to {w w1:World} {g B:Nat} (h:bF w g w1) (hB:B≤w.heap.size) (hg:B≤g):Below B w w1:=⟨h.2.1,h.2.2.1,h.2.2.2.1,h.1,fun k hk=>h.2.2.2.2 k (by omega) (by omega)⟩
theorem bF.drewN (w:World) (C k:Nat):bF w C (w.drewN k):=bF.below C (below_drewN qqb k)
theorem bF.keeps {w w1:World} {g:Nat} {X X':Nat→Prop} (h:bF w g w1) (hX:∀ b,X b→b≠g) (h2:∀ b,X b→b<w.heap.size→X' b):ag w X w1 X' :=
  fun b hb hl=>⟨h.2.2.2.2 b hl (hX b hb),h2 b hb hl,Nat.lt_of_lt_of_le hl h.1⟩
theorem AH.below {lo g:Nat} {E:List Int} {w w':World} (h:AH lo g E w) (hb:Below w.heap.size w w'):AH lo g E w':=by
 obtain⟨A,n,c,h1,h2,h3⟩:=h;exact⟨A,n,c,aj.below h1 hb h1.lt,h2.keep (ag.any hb),h3⟩
structure Xe (w:World) (L:List aa) (b:Nat) (xs:List Int) (wr:World):Prop where
  ex:∃ E:List Int,AH w.heap.size (w.heap.size+1) E wr∧E.Pairwise (· < ·)∧E ≠ []∧E.length≤b∧fJ L=xs.foldl oS E
  below:Below w.heap.size w wr
theorem Xe.lt {w wr:World} {L:List aa} {b:Nat} {xs:List Int} (h:Xe w L b xs wr):w.heap.size+1<wr.heap.size:=by
 obtain⟨⟨E,⟨A,n,c,h1,_⟩,_⟩,_⟩:=h;exact h1.lt
end Go.Proofs.YtblinekbpcdbfaaGreatDoor
namespace Go.Proofs.YtblinekbpcdbfaaGreatDoor
open Go.RowKit Go.Maps
def oY (w:World) (lo mb n:Nat) (m:ByteArray→Option aa):Prop :=
  ∃ D:DataW Value,w.ownsMap Tryz.prog 9 Raw mb n D∧IsMap D∧∀ s:ByteArray,match m s with
    | some set=>∃ u,D.atKey (eX s) ur=.held u∧has D (eX s)=true∧∃ A k c,u=.slice A k c∧cV w (fun b=>b≠mb∧lo≤b) 2 A k (an set)∧k≤c
    | none=>D.atKey (eX s) ur=ur∧has D (eX s)=false
def uc (m:ByteArray→Option aa) (k:ByteArray) (v:aa) (s:ByteArray):Option aa:=if s=k then some v else m s
theorem oY.keep {w w':World} {lo mb n:Nat} {m:ByteArray→Option aa} (hk:ag w (fun b=>b≠mb∧lo≤b) w' (fun b=>b≠mb∧lo≤b)) (hm:w'.heap[mb]? = w.heap[mb]?) (h:oY w lo mb n m):oY w' lo mb n m:=by
 obtain⟨D,⟨es,clock,h1,h2⟩,h3,h4⟩:=h;refine⟨D,⟨es,clock,hm.trans h1,h2⟩,h3,fun s=>?_⟩;have:=h4 s;cases hl:m s with
 | none=>rw [hl]at this;exact this
 | some set=>
  rw [hl]at this;obtain⟨u,g1,g2,A,k,c,e,g3,g4⟩:=this;exact⟨u,g1,g2,A,k,c,e,g3.keep hk,g4⟩
theorem oY.lt {w:World} {lo mb n:Nat} {m:ByteArray→Option aa} (h:oY w lo mb n m):mb<w.heap.size:=by
 obtain⟨D,h1,_⟩:=h;exact h1.lt
theorem oY.below {w w':World} {lo mb n:Nat} {m:ByteArray→Option aa} (h:oY w lo mb n m) (hb:Below w.heap.size w w'):oY w' lo mb n m:=h.keep (ag.any hb) (hb.block mb h.lt)
theorem oY.made (w:World) (lo:Nat):oY (w.alloc (.map #[] 0)) lo w.heap.size 0 (fun _=>none) :=
  ⟨.map [],World.ownsMap_made _ _ _ _,isMap_empty,fun s=>⟨by simp [DataW.atKey],by simp [has]⟩⟩
theorem oY.put {w:World} {lo mb n:Nat} {m:ByteArray→Option aa} (h:oY w lo mb n m) (key:ByteArray) {set:aa} {A:Option Addr} {k c:Nat} (hr:cV w (fun b=>b≠mb∧lo≤b) 2 A k (an set)) (hc:k≤c) :
    ∃ D:DataW Value,w.ownsMap Tryz.prog 9 Raw mb n D∧∀ w':World,w'.ownsMap Tryz.prog 9 Raw mb (n+1) (D.put (eX key) (.held (.slice A k c)))→w.grownBy w' (some mb)→oY w' lo mb (n+1) (uc m key set)∧bF w mb w':=by
 obtain⟨D,h1,h2,h3⟩:=h;refine⟨D,h1,fun w' hown hg=>?_⟩;have hk:ag w (fun b=>b≠mb∧lo≤b) w' (fun b=>b≠mb∧lo≤b):=fun b hb hl=>⟨hg.block b hl (fun e=>hb.1 (Option.some.inj e)),hb,Nat.lt_of_lt_of_le hl hg.size⟩;refine⟨⟨_,hown,h2.put _ _,fun s=>?_⟩,hg.size,hg.os,hg.tape,hg.output,fun b hb hne=>hg.block b hb (fun e=>hne (Option.some.inj e))⟩;unfold uc;by_cases hs:s=key
 ·subst hs;rw [if_pos rfl];exact⟨_,atKey_put_same h2 (uO _) _ _,has_put_same h2 (uO _) _,A,k,c,rfl,hr.keep hk,hc⟩
 rw [if_neg hs];have hne:eX s≠eX key:=fun e=>hs (CI e);have:=h3 s;cases hl:m s with
 | none=>
  rw [hl]at this;dsimp only;rw [atKey_put_other hne,has_put_other hne];exact this
 | some x=>
  rw [hl]at this;obtain⟨v,g1,g2,A',k',c',e,g3,g4⟩:=this;exact⟨v,by rw [atKey_put_other hne];exact g1,by rw [has_put_other hne];exact g2,A',k',c',e,g3.keep hk,g4⟩
def VX:ByteArray:=⟨#[100,105,103,105,116]⟩
def cs0:aa:=[(48,57)]
def UA:ByteArray:=⟨#[108,111,119,101,114]⟩
def Yn:aa:=[(97,122),(223,246),(248,255)]
def Ur:ByteArray:=⟨#[117,112,112,101,114]⟩
def Y4:aa:=[(65,90),(192,214),(216,222)]
def Wu:ByteArray:=⟨#[108,101,116,116,101,114]⟩
def Vr:aa:=[(65,90),(97,122),(192,214),(216,246),(248,255)]
def XD:ByteArray:=⟨#[118,111,119,101,108]⟩
def U7:aa:=[(65,65),(69,69),(73,73),(79,79),(85,85),(97,97),(101,101),(105,105),(111,111),(117,117)]
def UR:ByteArray:=⟨#[103,114,101,101,107]⟩
def X0:aa:=[(880,1023)]
def Vd:ByteArray:=⟨#[99,121,114,105,108,108,105,99]⟩
def XY:aa:=[(1024,1279)]
def VG:ByteArray:=⟨#[115,112,97,99,101]⟩
def Yp:aa:=[(9,10),(32,32)]
def Wh:ByteArray:=⟨#[97,110,121]⟩
def X4:aa:=[(0,1114111)]
def vn:ByteArray→Option aa:=(uc (uc (uc (uc (uc (uc (uc (uc (uc (fun _=>none) VX cs0) UA Yn) Ur Y4) Wu Vr) XD U7) UR X0) Vd XY) VG Yp) Wh X4)
theorem j6 {l m:List Int} {k:ByteArray} (hk:k=runesBytes m) (hm:cW m):(runesBytes l=k)=(l=m):=by
 subst hk;exact propext ⟨yY hm,fun h=>by rw [h]⟩
theorem mK {k:ByteArray} {m:List Int} (hm:cW m) (h:k.data.toList=nL m):k=runesBytes m:=by
 rw [← fl hm]at h;exact ByteArray.ext (Array.ext' h)
theorem FY (l:List Int):vn (runesBytes l)=gE l:=by
 have e0:(runesBytes l=VX)=(l = [100,105,103,105,116]):=j6 (mK (by unfold cW;decide) (by decide)) (by unfold cW;decide);have e1:(runesBytes l=UA)=(l = [108,111,119,101,114]):=j6 (mK (by unfold cW;decide) (by decide)) (by unfold cW;decide);have e2:(runesBytes l=Ur)=(l = [117,112,112,101,114]):=j6 (mK (by unfold cW;decide) (by decide)) (by unfold cW;decide);have e3:(runesBytes l=Wu)=(l = [108,101,116,116,101,114]):=j6 (mK (by unfold cW;decide) (by decide)) (by unfold cW;decide);have e4:(runesBytes l=XD)=(l = [118,111,119,101,108]):=j6 (mK (by unfold cW;decide) (by decide)) (by unfold cW;decide);have e5:(runesBytes l=UR)=(l = [103,114,101,101,107]):=j6 (mK (by unfold cW;decide) (by decide)) (by unfold cW;decide);have e6:(runesBytes l=Vd)=(l = [99,121,114,105,108,108,105,99]):=j6 (mK (by unfold cW;decide) (by decide)) (by unfold cW;decide);have e7:(runesBytes l=VG)=(l = [115,112,97,99,101]):=j6 (mK (by unfold cW;decide) (by decide)) (by unfold cW;decide);have e8:(runesBytes l=Wh)=(l = [97,110,121]):=j6 (mK (by unfold cW;decide) (by decide)) (by unfold cW;decide);unfold vn uc gE;simp only [e0,e1,e2,e3,e4,e5,e6,e7,e8];clear e0 e1 e2 e3 e4 e5 e6 e7 e8;by_cases h0:l = [100,105,103,105,116]
 ·subst h0;rfl
 by_cases h1:l = [108,111,119,101,114]
 ·subst h1;rfl
 by_cases h2:l = [117,112,112,101,114]
 ·subst h2;rfl
 by_cases h3:l = [108,101,116,116,101,114]
 ·subst h3;rfl
 by_cases h4:l = [118,111,119,101,108]
 ·subst h4;rfl
 by_cases h5:l = [103,114,101,101,107]
 ·subst h5;rfl
 by_cases h6:l = [99,121,114,105,108,108,105,99]
 ·subst h6;rfl
 by_cases h7:l = [115,112,97,99,101]
 ·subst h7;rfl
 by_cases h8:l = [97,110,121]
 ·subst h8;rfl
 simp only [h0,h1,h2,h3,h4,h5,h6,h7,h8,if_false]
def og (w:World) (s:ByteArray) (e:Ending) (w':World):Prop :=
  (match vn s with
  | some set=>∃ A n c,e=.returned (.tuple #[.slice A n c,.bool true])∧cV w' (fun b=>w.heap.size≤b) 2 A n (an set)∧n≤c
  | none=>e=.returned (.tuple #[.slice none 0 0,.bool false]))∧Below w.heap.size w w'
theorem JS (w:World):(zeroValue 22).run Tryz.prog w=.ok (.slice none 0 0) w:=by kernel_rfl
theorem oY.ask {w:World} {lo mb n:Nat} {m:ByteArray→Option aa} (h:oY w lo mb n m) (s:ByteArray) :
    ∃ D u q,w.ownsMap Tryz.prog 9 Raw mb n D∧D.atKey (eX s) ur=.held u∧has D (eX s)=q∧(match m s with
      | some set=>q=true∧∃ A k c,u=.slice A k c∧cV w (fun b=>b≠mb∧lo≤b) 2 A k (an set)∧k≤c
      | none=>q=false∧u=.slice none 0 0):=by
 obtain⟨D,h1,_,h3⟩:=h;have:=h3 s;cases hl:m s with
 | none=>
  rw [hl]at this;exact⟨D,_,_,h1,this.1,this.2,rfl,rfl⟩
 | some x=>
  rw [hl]at this;obtain⟨u,g1,g2,g3⟩:=this;exact⟨D,u,true,h1,g1,g2,rfl,g3⟩
theorem fD (W:World) (cs:aa) (N:Nat) (hN:N=2*cs.length) (hn:N≤1000) :
    Calls Tryz.prog 125 #[.slice (some ⟨W.heap.size,0,none⟩) N N] (W.alloc (.cells (an cs).toArray 21)) (dn W cs 1000):=by
 have hb:=(Below.refl W.heap.size W).alloc qql (.cells (an cs).toArray 21);refine(Gu W.heap.size 0 N cs N _ hN hn (by simp) (fun j u hu=>?_)).mono ?_
 ·rw [Nat.zero_add,(aj.new W 21 (an cs).toArray).cell];simpa using hu
 rintro e w1 ⟨A,k,c,rfl,h1,h2,h3,h4⟩;exact⟨A,k,c,rfl,h1.keep (ag.refl (fun b h=>by simp at h;omega)),h2,h3,hb.trans (h4.mono (by simp))⟩
theorem Ip (s:ByteArray) (w:World) (hs:s.size≤maxLen) :
    Calls Tryz.prog 104 #[.string s] w (og w s):=by
 have HS:=qqh hs;have mC:=qqh (oY.made w w.heap.size);have ep:=qqh ((Below.refl w.heap.size w).alloc qql (.map #[] 0));have hmm:∀ W:World,(Instr.makeMap 125 none).run Tryz.prog W=.ok (.map (some W.heap.size)) (W.alloc (.map #[] 0)):=fun W=>rfl;clear hs;have Q8:=qqh (fun(W:World)=>show Calls Tryz.prog 125 #[.slice (some ⟨W.heap.size,0,none⟩) 2 2] (W.alloc (.cells #[.int .i32 48,.int .i32 57] 21)) (dn W cs0 1000) from fD W cs0 2 (by decide) (by decide));have gU:=qqh (show keyOf Tryz.prog 9 (.string ⟨#[100,105,103,105,116]⟩)=some (eX VX) from jF (s:=VX) (by show(5:Nat)≤maxLen;simp only [maxLen];omega));have jL:=qqh (fun(W:World)=>show Calls Tryz.prog 125 #[.slice (some ⟨W.heap.size,0,none⟩) 6 6] (W.alloc (.cells #[.int .i32 97,.int .i32 122,.int .i32 223,.int .i32 246,.int .i32 248,.int .i32 255] 21)) (dn W Yn 1000) from fD W Yn 6 (by decide) (by decide));have yz:=qqh (show keyOf Tryz.prog 9 (.string ⟨#[108,111,119,101,114]⟩)=some (eX UA) from jF (s:=UA) (by show(5:Nat)≤maxLen;simp only [maxLen];omega));have ox:=qqh (fun(W:World)=>show Calls Tryz.prog 125 #[.slice (some ⟨W.heap.size,0,none⟩) 6 6] (W.alloc (.cells #[.int .i32 65,.int .i32 90,.int .i32 192,.int .i32 214,.int .i32 216,.int .i32 222] 21)) (dn W Y4 1000) from fD W Y4 6 (by decide) (by decide));have Ej:=qqh (show keyOf Tryz.prog 9 (.string ⟨#[117,112,112,101,114]⟩)=some (eX Ur) from jF (s:=Ur) (by show(5:Nat)≤maxLen;simp only [maxLen];omega))
 have qE:=qqh (fun(W:World)=>show Calls Tryz.prog 125 #[.slice (some ⟨W.heap.size,0,none⟩) 10 10] (W.alloc (.cells #[.int .i32 65,.int .i32 90,.int .i32 97,.int .i32 122,.int .i32 192,.int .i32 214,.int .i32 216,.int .i32 246,.int .i32 248,.int .i32 255] 21)) (dn W Vr 1000) from fD W Vr 10 (by decide) (by decide));have Gz:=qqh (show keyOf Tryz.prog 9 (.string ⟨#[108,101,116,116,101,114]⟩)=some (eX Wu) from jF (s:=Wu) (by show(6:Nat)≤maxLen;simp only [maxLen];omega));have Dr:=qqh (fun(W:World)=>show Calls Tryz.prog 125 #[.slice (some ⟨W.heap.size,0,none⟩) 20 20] (W.alloc (.cells #[.int .i32 65,.int .i32 65,.int .i32 69,.int .i32 69,.int .i32 73,.int .i32 73,.int .i32 79,.int .i32 79,.int .i32 85,.int .i32 85,.int .i32 97,.int .i32 97,.int .i32 101,.int .i32 101,.int .i32 105,.int .i32 105,.int .i32 111,.int .i32 111,.int .i32 117,.int .i32 117] 21)) (dn W U7 1000) from fD W U7 20 (by decide) (by decide));have HK4:=qqh (show keyOf Tryz.prog 9 (.string ⟨#[118,111,119,101,108]⟩)=some (eX XD) from jF (s:=XD) (by show(5:Nat)≤maxLen;simp only [maxLen];omega));have uu:=qqh (fun(W:World)=>show Calls Tryz.prog 125 #[.slice (some ⟨W.heap.size,0,none⟩) 2 2] (W.alloc (.cells #[.int .i32 880,.int .i32 1023] 21)) (dn W X0 1000) from fD W X0 2 (by decide) (by decide));have HK5:=qqh (show keyOf Tryz.prog 9 (.string ⟨#[103,114,101,101,107]⟩)=some (eX UR) from jF (s:=UR) (by show(5:Nat)≤maxLen;simp only [maxLen];omega))
 have Ix:=qqh (fun(W:World)=>show Calls Tryz.prog 125 #[.slice (some ⟨W.heap.size,0,none⟩) 2 2] (W.alloc (.cells #[.int .i32 1024,.int .i32 1279] 21)) (dn W XY 1000) from fD W XY 2 (by decide) (by decide));have HK6:=qqh (show keyOf Tryz.prog 9 (.string ⟨#[99,121,114,105,108,108,105,99]⟩)=some (eX Vd) from jF (s:=Vd) (by show(8:Nat)≤maxLen;simp only [maxLen];omega));have KL:=qqh (fun(W:World)=>show Calls Tryz.prog 125 #[.slice (some ⟨W.heap.size,0,none⟩) 4 4] (W.alloc (.cells #[.int .i32 9,.int .i32 10,.int .i32 32,.int .i32 32] 21)) (dn W Yp 1000) from fD W Yp 4 (by decide) (by decide));have HK7:=qqh (show keyOf Tryz.prog 9 (.string ⟨#[115,112,97,99,101]⟩)=some (eX VG) from jF (s:=VG) (by show(5:Nat)≤maxLen;simp only [maxLen];omega));have SX:=qqh (fun(W:World)=>show Calls Tryz.prog 125 #[.slice (some ⟨W.heap.size,0,none⟩) 2 2] (W.alloc (.cells #[.int .i32 0,.int .i32 1114111] 21)) (dn W X4 1000) from fD W X4 2 (by decide) (by decide));have HK8:=qqh (show keyOf Tryz.prog 9 (.string ⟨#[97,110,121]⟩)=some (eX Wh) from jF (s:=Wh) (by show(3:Nat)≤maxLen;simp only [maxLen];omega));have abQ:=qqh (show Calls Tryz.prog 125 #[.slice (some ⟨w.heap.size+1,0,none⟩) 2 2] ((w.alloc (.map #[] 0)).alloc (.cells #[.int .i32 48,.int .i32 57] 21)) (dn (w.alloc (.map #[] 0)) cs0 1000) by have:=Q8.out (w.alloc (.map #[] 0));simpa using this);have RI:=qqh (show w.heap.size<(w.alloc (.map #[] 0)).heap.size by simp);go_enter Tryz.func104,Tryz.ntmps104;go_wp2_with fail;refine abQ.out.mono ?_;rintro e w0 ⟨A0,k0,c0,rfl,hr,hk,hc,hb⟩
 have Zn:=qqh (ep.out.trans (hb.mono (Nat.le_of_lt RI.out)));obtain⟨D0,hown,hput⟩:=(mC.out.below hb).put VX (set:=cs0) (hr.keep (ag.refl (X':=fun b=>b≠w.heap.size∧w.heap.size≤b) (fun b h=>by have:=RI.out;omega))) hc;have Us:=qqh (show w.heap.size<w0.heap.size from Nat.lt_of_lt_of_le RI.out hb.size);have HO0:=qqh hown;have Bn:=qqh hput;clear hr hk hc hb hown hput;go_wp2_with (first | (refine bQ _ rfl (.tmp 8) _ _ 125 rfl 9 22 ig Tryz.underlying125 Raw w.heap.size 0 _ rfl HO0.out (by unfold maxLen;omega) _ _ _ rfl rfl gU.out (.held (.slice A0 k0 c0)) [] rfl ?_;intro v0 hown hgrow;have E6:=qqh (Bn.out v0 hown hgrow).1;have bJ:=qqh (Zn.out.trans ((Bn.out v0 hown hgrow).2.to (Nat.le_of_lt Us.out) qql));have Ht:=qqh (show w.heap.size<v0.heap.size from Nat.lt_of_lt_of_le Us.out hgrow.size);clear hown hgrow) | fail);refine(jL.out _).mono ?_;rintro e w1 ⟨A1,k1,c1,rfl,hr,hk,hc,hb⟩;have abq:=qqh (bJ.out.trans (hb.mono (Nat.le_of_lt Ht.out)));obtain⟨D1,hown,hput⟩:=(E6.out.below hb).put UA (set:=Yn) (hr.keep (ag.refl (X':=fun b=>b≠w.heap.size∧w.heap.size≤b) (fun b h=>by have:=Ht.out;omega))) hc;have VT:=qqh (show w.heap.size<w1.heap.size from Nat.lt_of_lt_of_le Ht.out hb.size);have sJ:=qqh hown;have xF:=qqh hput;clear hr hk hc hb hown hput
 go_wp2_with (first | (refine bQ _ rfl (.tmp 8) _ _ 125 rfl 9 22 ig Tryz.underlying125 Raw w.heap.size 1 _ rfl sJ.out (by unfold maxLen;omega) _ _ _ rfl rfl yz.out (.held (.slice A1 k1 c1)) [] rfl ?_;intro v1 hown hgrow;have Ol:=qqh (xF.out v1 hown hgrow).1;have bL:=qqh (abq.out.trans ((xF.out v1 hown hgrow).2.to (Nat.le_of_lt VT.out) qql));have Lu:=qqh (show w.heap.size<v1.heap.size from Nat.lt_of_lt_of_le VT.out hgrow.size);clear hown hgrow) | fail);refine(ox.out _).mono ?_;rintro e w2 ⟨A2,k2,c2,rfl,hr,hk,hc,hb⟩;have abA:=qqh (bL.out.trans (hb.mono (Nat.le_of_lt Lu.out)));obtain⟨D2,hown,hput⟩:=(Ol.out.below hb).put Ur (set:=Y4) (hr.keep (ag.refl (X':=fun b=>b≠w.heap.size∧w.heap.size≤b) (fun b h=>by have:=Lu.out;omega))) hc;have UC:=qqh (show w.heap.size<w2.heap.size from Nat.lt_of_lt_of_le Lu.out hb.size);have nE:=qqh hown;have oF:=qqh hput;clear hr hk hc hb hown hput;go_wp2_with (first | (refine bQ _ rfl (.tmp 8) _ _ 125 rfl 9 22 ig Tryz.underlying125 Raw w.heap.size 2 _ rfl nE.out (by unfold maxLen;omega) _ _ _ rfl rfl Ej.out (.held (.slice A2 k2 c2)) [] rfl ?_;intro v2 hown hgrow;have Kb:=qqh (oF.out v2 hown hgrow).1;have bM:=qqh (abA.out.trans ((oF.out v2 hown hgrow).2.to (Nat.le_of_lt UC.out) qql));have Ui:=qqh (show w.heap.size<v2.heap.size from Nat.lt_of_lt_of_le UC.out hgrow.size);clear hown hgrow) | fail);refine(qE.out _).mono ?_;rintro e w3 ⟨A3,k3,c3,rfl,hr,hk,hc,hb⟩;have ab7:=qqh (bM.out.trans (hb.mono (Nat.le_of_lt Ui.out)))
 obtain⟨D3,hown,hput⟩:=(Kb.out.below hb).put Wu (set:=Vr) (hr.keep (ag.refl (X':=fun b=>b≠w.heap.size∧w.heap.size≤b) (fun b h=>by have:=Ui.out;omega))) hc;have VW:=qqh (show w.heap.size<w3.heap.size from Nat.lt_of_lt_of_le Ui.out hb.size);have qA:=qqh hown;have iX:=qqh hput;clear hr hk hc hb hown hput;go_wp2_with (first | (refine bQ _ rfl (.tmp 8) _ _ 125 rfl 9 22 ig Tryz.underlying125 Raw w.heap.size 3 _ rfl qA.out (by unfold maxLen;omega) _ _ _ rfl rfl Gz.out (.held (.slice A3 k3 c3)) [] rfl ?_;intro v3 hown hgrow;have Rb:=qqh (iX.out v3 hown hgrow).1;have dS:=qqh (ab7.out.trans ((iX.out v3 hown hgrow).2.to (Nat.le_of_lt VW.out) qql));have VJ:=qqh (show w.heap.size<v3.heap.size from Nat.lt_of_lt_of_le VW.out hgrow.size);clear hown hgrow) | fail);refine(Dr.out _).mono ?_;rintro e w4 ⟨A4,k4,c4,rfl,hr,hk,hc,hb⟩;have aaK:=qqh (dS.out.trans (hb.mono (Nat.le_of_lt VJ.out)));obtain⟨D4,hown,hput⟩:=(Rb.out.below hb).put XD (set:=U7) (hr.keep (ag.refl (X':=fun b=>b≠w.heap.size∧w.heap.size≤b) (fun b h=>by have:=VJ.out;omega))) hc;have XG:=qqh (show w.heap.size<w4.heap.size from Nat.lt_of_lt_of_le VJ.out hb.size);have oU:=qqh hown;have KM:=qqh hput;clear hr hk hc hb hown hput
 go_wp2_with (first | (refine bQ _ rfl (.tmp 8) _ _ 125 rfl 9 22 ig Tryz.underlying125 Raw w.heap.size 4 _ rfl oU.out (by unfold maxLen;omega) _ _ _ rfl rfl HK4.out (.held (.slice A4 k4 c4)) [] rfl ?_;intro v4 hown hgrow;have TV:=qqh (KM.out v4 hown hgrow).1;have dG:=qqh (aaK.out.trans ((KM.out v4 hown hgrow).2.to (Nat.le_of_lt XG.out) qql));have HL5:=qqh (show w.heap.size<v4.heap.size from Nat.lt_of_lt_of_le XG.out hgrow.size);clear hown hgrow) | fail);refine(uu.out _).mono ?_;rintro e w5 ⟨A5,k5,c5,rfl,hr,hk,hc,hb⟩;have ZV:=qqh (dG.out.trans (hb.mono (Nat.le_of_lt HL5.out)));obtain⟨D5,hown,hput⟩:=(TV.out.below hb).put UR (set:=X0) (hr.keep (ag.refl (X':=fun b=>b≠w.heap.size∧w.heap.size≤b) (fun b h=>by have:=HL5.out;omega))) hc;have Vk:=qqh (show w.heap.size<w5.heap.size from Nat.lt_of_lt_of_le HL5.out hb.size);have oH:=qqh hown;have Xu:=qqh hput;clear hr hk hc hb hown hput;go_wp2_with (first | (refine bQ _ rfl (.tmp 8) _ _ 125 rfl 9 22 ig Tryz.underlying125 Raw w.heap.size 5 _ rfl oH.out (by unfold maxLen;omega) _ _ _ rfl rfl HK5.out (.held (.slice A5 k5 c5)) [] rfl ?_;intro v5 hown hgrow;have TY:=qqh (Xu.out v5 hown hgrow).1;have gT:=qqh (ZV.out.trans ((Xu.out v5 hown hgrow).2.to (Nat.le_of_lt Vk.out) qql));have HL6:=qqh (show w.heap.size<v5.heap.size from Nat.lt_of_lt_of_le Vk.out hgrow.size);clear hown hgrow) | fail);refine(Ix.out _).mono ?_;rintro e w6 ⟨A6,k6,c6,rfl,hr,hk,hc,hb⟩;have abW:=qqh (gT.out.trans (hb.mono (Nat.le_of_lt HL6.out)))
 obtain⟨D6,hown,hput⟩:=(TY.out.below hb).put Vd (set:=XY) (hr.keep (ag.refl (X':=fun b=>b≠w.heap.size∧w.heap.size≤b) (fun b h=>by have:=HL6.out;omega))) hc;have Ww:=qqh (show w.heap.size<w6.heap.size from Nat.lt_of_lt_of_le HL6.out hb.size);have AG:=qqh hown;have HP6:=qqh hput;clear hr hk hc hb hown hput;go_wp2_with (first | (refine bQ _ rfl (.tmp 8) _ _ 125 rfl 9 22 ig Tryz.underlying125 Raw w.heap.size 6 _ rfl AG.out (by unfold maxLen;omega) _ _ _ rfl rfl HK6.out (.held (.slice A6 k6 c6)) [] rfl ?_;intro v6 hown hgrow;have HM7:=qqh (HP6.out v6 hown hgrow).1;have kR:=qqh (abW.out.trans ((HP6.out v6 hown hgrow).2.to (Nat.le_of_lt Ww.out) qql));have HL7:=qqh (show w.heap.size<v6.heap.size from Nat.lt_of_lt_of_le Ww.out hgrow.size);clear hown hgrow) | fail);refine(KL.out _).mono ?_;rintro e w7 ⟨A7,k7,c7,rfl,hr,hk,hc,hb⟩;have abB:=qqh (kR.out.trans (hb.mono (Nat.le_of_lt HL7.out)));obtain⟨D7,hown,hput⟩:=(HM7.out.below hb).put VG (set:=Yp) (hr.keep (ag.refl (X':=fun b=>b≠w.heap.size∧w.heap.size≤b) (fun b h=>by have:=HL7.out;omega))) hc;have UO:=qqh (show w.heap.size<w7.heap.size from Nat.lt_of_lt_of_le HL7.out hb.size);have Et:=qqh hown;have HP7:=qqh hput;clear hr hk hc hb hown hput
 go_wp2_with (first | (refine bQ _ rfl (.tmp 8) _ _ 125 rfl 9 22 ig Tryz.underlying125 Raw w.heap.size 7 _ rfl Et.out (by unfold maxLen;omega) _ _ _ rfl rfl HK7.out (.held (.slice A7 k7 c7)) [] rfl ?_;intro v7 hown hgrow;have Un:=qqh (HP7.out v7 hown hgrow).1;have qM:=qqh (abB.out.trans ((HP7.out v7 hown hgrow).2.to (Nat.le_of_lt UO.out) qql));have HL8:=qqh (show w.heap.size<v7.heap.size from Nat.lt_of_lt_of_le UO.out hgrow.size);clear hown hgrow) | fail);refine(SX.out _).mono ?_;rintro e w8 ⟨A8,k8,c8,rfl,hr,hk,hc,hb⟩;have Zx:=qqh (qM.out.trans (hb.mono (Nat.le_of_lt HL8.out)));obtain⟨D8,hown,hput⟩:=(Un.out.below hb).put Wh (set:=X4) (hr.keep (ag.refl (X':=fun b=>b≠w.heap.size∧w.heap.size≤b) (fun b h=>by have:=HL8.out;omega))) hc;have V4:=qqh (show w.heap.size<w8.heap.size from Nat.lt_of_lt_of_le HL8.out hb.size);have IU:=qqh hown;have Fl:=qqh hput;clear hr hk hc hb hown hput
 go_wp2_with (first | (refine bQ _ rfl (.tmp 8) _ _ 125 rfl 9 22 ig Tryz.underlying125 Raw w.heap.size 8 _ rfl IU.out (by unfold maxLen;omega) _ _ _ rfl rfl HK8.out (.held (.slice A8 k8 c8)) [] rfl ?_;intro v8 hown hgrow;have PV:=qqh (Fl.out v8 hown hgrow).1;have eF:=qqh (Zx.out.trans ((Fl.out v8 hown hgrow).2.to (Nat.le_of_lt V4.out) qql));have Qp:=qqh (show w.heap.size<v8.heap.size from Nat.lt_of_lt_of_le V4.out hgrow.size);clear hown hgrow;obtain⟨D9,u9,q9,hown,lz,UX,hpost⟩:=PV.out.ask s;have ir:=qqh hown;have HA9:=qqh lz;have Tk:=qqh UX;have HP9:=qqh hpost;clear hown lz UX hpost) | (at_lookup;refine wA rfl (.tmp 36) (.tmp 37) 125 22 rfl Tryz.underlying125 (z:=.slice none 0 0) (JS _) w.heap.size 9 D9 rfl ir.out s rfl HS.out u9 q9 HA9.out Tk.out ?_) | fail);go_ret2;have hp:=HP9.out;unfold og;change (match vn s with | some set=>_ | none=>_)at hp;cases hT:vn s with
 | none=>
  rw [hT]at hp;obtain⟨rfl,rfl⟩:=hp;exact⟨rfl,eF.out⟩
 | some set=>
  rw [hT]at hp;obtain⟨rfl,A,k,c,rfl,h1,h2⟩:=hp;exact⟨⟨A,k,c,rfl,h1.keep (ag.refl (fun b h=>h.2)),h2⟩,eF.out⟩
end Go.Proofs.YtblinekbpcdbfaaGreatDoor
namespace Go.Proofs.YtblinekbpcdbfaaGreatDoor
open Go.RowKit
theorem P4 {w:World} {g:Nat} {t:TypeId} {c c':Array Value} (h:aj w g t c):aj (w.setRow g c') g t c':=setRow_heap w g c c' t (0,0) h
theorem GU (w:World) (g:Nat) (c:Array Value):bF w g (w.setRow g c):=⟨by simp,rfl,rfl,rfl,fun k _ hne=>setRow_other w g k c hne⟩
section
variable {ops : Array Oper} {rest : List Oper} {o : Oper} {a : Act} {w : World} {Q : Exit → Act → World → Prop} {ty t : TypeId} {x y : Operand} {g : Nat}
theorem wpList_load_row {cs:Array Value} (hgd:o.guard=none) (ho:o.op=.load ty x) (hu:∃ fs,Tryz.prog.underlying ty=some (.struct fs)) (hi:(Tryz.prog.info? ty).map (·.size)=some cs.size)
    (hx:a.eval x=.pointer (some ⟨g,0,none⟩)) (hb:aj w g t cs) (h:wpList Tryz.prog ops Q rest (a.put o.dst (.agg cs)) w):wpList Tryz.prog ops Q (o::rest) a w:=by
 obtain⟨fs,hu⟩:=hu;refine wpList_plain hgd fun K hK=>?_;have hr:(execOp a.eval o).run Tryz.prog w=.ok (.value (.agg cs)) w:=by
  unfold execOp;rw [ho];simp only [hx,Instr.loadAt,Instr.sureAddr,Sem.run_bind,Sem.run_pure,Result.andThen,run_loadVar_row w g t ty cs (0,0) (.struct fs) hb hu rfl hi]
 unfold Oper.wp;rw [hr];exact hK _ _ h
theorem wpList_store_row {c vs:Array Value} (hgd:o.guard=none) (ho:o.op=.store ty x y) (hi:(Tryz.prog.info? ty).map (·.size)=some vs.size) (hs:c.size=vs.size) (h1:vs.all (·.oneCell')=true)
    (hx:a.eval x=.pointer (some ⟨g,0,none⟩)) (hy:a.eval y=.agg vs) (hb:aj w g t c) (h:wpList Tryz.prog ops Q rest (a.put o.dst undef) (w.setRow g vs)):wpList Tryz.prog ops Q (o::rest) a w:=by
 refine wpList_plain hgd fun K hK=>?_;have hr:(execOp a.eval o).run Tryz.prog w=.ok .skip (w.setRow g vs):=by
  unfold execOp;rw [ho];simp only [hx,hy,Instr.storeAt,Instr.sureAddr,Sem.run_bind,Sem.run_pure,Result.andThen,run_storeVar_row w g t ty c vs hb hi hs h1]
 unfold Oper.wp;rw [hr];exact hK _ _ h
theorem lK {fn:Func} {p:Tmp} {tmps:Array Value} {cs:Array Value} (h:fn.results = #[.cell p ty]) (hp:tmps.getD p undef=.pointer (some ⟨g,0,none⟩)) (hu:∃ fs,Tryz.prog.underlying ty=some (.struct fs)) (hi:(Tryz.prog.info? ty).map (·.size)=some cs.size) (hb:aj w g t cs) :
    (results fn tmps).run Tryz.prog w=.ok (.agg cs) w:=by
 obtain⟨fs,hu⟩:=hu;have hl:=run_loadVar_row w g t ty cs (0,0) (.struct fs) hb hu rfl hi;have hp2:tmps[p]?.getD undef=.pointer (some ⟨g,0,none⟩):=(by simpa using hp);simp only [results,h];simp [hp2,asAddr,hl]
end
end Go.Proofs.YtblinekbpcdbfaaGreatDoor
