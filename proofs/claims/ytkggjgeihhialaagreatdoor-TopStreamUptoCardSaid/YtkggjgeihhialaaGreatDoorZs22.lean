/- EdgesBoth + ClassMap + WholeBox -/
import Derived.Test.YtkggjgeihhialaaGreatDoorZs9
import Derived.Test.YtkggjgeihhialaaGreatDoorZs12
import Derived.Deep.DeepCutAuto
import Derived.Deep.CutBlock
import Derived.Test.YtkggjgeihhialaaGreatDoorZs1
import Derived.Test.YtkggjgeihhialaaGreatDoorZs20
import Derived.Test.YtkggjgeihhialaaGreatDoorZs5
import Derived.Deep.WholeRow
set_option maxHeartbeats 6400000
set_option maxRecDepth 100000
namespace Go.Proofs.YtkggjgeihhialaaGreatDoor
open Go.RowKit
def yM (lo g:Nat) (E:List Int) (w:World):Prop:=∃ (A:Option Addr) (n c:Nat),aj w g 33 #[.slice A n c]∧cy w (fun b=>b≠g∧lo≤b) 1 A n (runeCells E)∧n≤c
def aZ (w:World) (g:Nat) (w':World):Prop:=w.heap.size≤w'.heap.size∧w'.os=w.os∧w'.tape=w.tape∧w'.output=w.output∧∀ k,k<w.heap.size→k≠g→w'.heap[k]? = w.heap[k]?
theorem aZ.refl (w:World) (g:Nat):aZ w g w:=⟨Nat.le_refl _,rfl,rfl,rfl,fun _ _ _=>rfl⟩
theorem aZ.trans {w w1 w2:World} {g:Nat} (h:aZ w g w1) (h2:aZ w1 g w2):aZ w g w2 :=
  ⟨Nat.le_trans h.1 h2.1,h2.2.1.trans h.2.1,h2.2.2.1.trans h.2.2.1,h2.2.2.2.1.trans h.2.2.2.1,fun k hk hne=>(h2.2.2.2.2 k (Nat.lt_of_lt_of_le hk h.1) hne).trans (h.2.2.2.2 k hk hne)⟩
theorem aZ.below {w w1:World} (g:Nat) (h:Below w.heap.size w w1):aZ w g w1:=⟨h.size,h.os,h.tape,h.output,fun k hk _=>h.block k hk⟩
theorem aZ.set (w:World) (g i:Nat) (u:Value):aZ w g (w.setCell ⟨g,i,none⟩ u):=⟨by simp,rfl,rfl,rfl,fun k _ hne=>Below.heap_setCell _ _ _ _ hne⟩
theorem aZ.to {w w1:World} {g B:Nat} (h:aZ w g w1) (hB:B≤w.heap.size) (hg:B≤g):Below B w w1:=⟨h.2.1,h.2.2.1,h.2.2.2.1,h.1,fun k hk=>h.2.2.2.2 k (by omega) (by omega)⟩
theorem aZ.drewN (w:World) (C k:Nat):aZ w C (w.drewN k):=aZ.below C (below_drewN (Below.refl _ _) k)
theorem aZ.keeps {w w1:World} {g:Nat} {X X':Nat→Prop} (h:aZ w g w1) (hX:∀ b,X b→b≠g) (h2:∀ b,X b→b<w.heap.size→X' b):aa w X w1 X' :=
  fun b hb hl=>⟨h.2.2.2.2 b hl (hX b hb),h2 b hb hl,Nat.lt_of_lt_of_le hl h.1⟩
end Go.Proofs.YtkggjgeihhialaaGreatDoor
namespace Go.Proofs.YtkggjgeihhialaaGreatDoor
open Go.RowKit
theorem yM.below {lo g:Nat} {E:List Int} {w w':World} (h:yM lo g E w) (hb:Below w.heap.size w w'):yM lo g E w':=by
 obtain⟨A,n,c,h1,h2,h3⟩:=h;exact⟨A,n,c,aj.below h1 hb h1.lt,h2.keep (aa.any hb),h3⟩
structure U3 (w:World) (L:List ag) (b:Nat) (xs:List Int) (wr:World):Prop where
  ex:∃ E:List Int,yM w.heap.size (w.heap.size+1) E wr∧E.Pairwise (· < ·)∧E ≠ []∧E.length≤b∧fH L=xs.foldl og E
  below:Below w.heap.size w wr
theorem U3.lt {w wr:World} {L:List ag} {b:Nat} {xs:List Int} (h:U3 w L b xs wr):w.heap.size+1<wr.heap.size:=by
 obtain⟨⟨E,⟨A,n,c,h1,_⟩,_⟩,_⟩:=h;exact h1.lt
end Go.Proofs.YtkggjgeihhialaaGreatDoor
namespace Go.Proofs.YtkggjgeihhialaaGreatDoor
open Go.RowKit Go.Maps
def nV (w:World) (lo mb n:Nat) (m:ByteArray→Option ag):Prop :=
  ∃ D:DataW Value,w.ownsMap Tryz.prog 9 Raw mb n D∧IsMap D∧∀ s:ByteArray,match m s with
    | some set=>∃ u,D.atKey (eV s) sM=.held u∧has D (eV s)=true∧∃ A k c,u=.slice A k c∧cy w (fun b=>b≠mb∧lo≤b) 2 A k (ak set)∧k≤c
    | none=>D.atKey (eV s) sM=sM∧has D (eV s)=false
def tg (m:ByteArray→Option ag) (k:ByteArray) (v:ag) (s:ByteArray):Option ag:=if s=k then some v else m s
theorem nV.keep {w w':World} {lo mb n:Nat} {m:ByteArray→Option ag} (hk:aa w (fun b=>b≠mb∧lo≤b) w' (fun b=>b≠mb∧lo≤b)) (hm:w'.heap[mb]? = w.heap[mb]?) (h:nV w lo mb n m):nV w' lo mb n m:=by
 obtain⟨D,⟨es,clock,h1,h2⟩,h3,h4⟩:=h;refine⟨D,⟨es,clock,hm.trans h1,h2⟩,h3,fun s=>?_⟩;have:=h4 s;cases hl:m s with
 | none=>rw [hl]at this;exact this
 | some set=>
  rw [hl]at this;obtain⟨u,g1,g2,A,k,c,e,g3,g4⟩:=this;exact⟨u,g1,g2,A,k,c,e,g3.keep hk,g4⟩
theorem nV.lt {w:World} {lo mb n:Nat} {m:ByteArray→Option ag} (h:nV w lo mb n m):mb<w.heap.size:=by
 obtain⟨D,h1,_⟩:=h;exact h1.lt
theorem nV.below {w w':World} {lo mb n:Nat} {m:ByteArray→Option ag} (h:nV w lo mb n m) (hb:Below w.heap.size w w'):nV w' lo mb n m:=h.keep (aa.any hb) (hb.block mb h.lt)
theorem nV.made (w:World) (lo:Nat):nV (w.alloc (.map #[] 0)) lo w.heap.size 0 (fun _=>none) :=
  ⟨.map [],World.ownsMap_made _ _ _ _,isMap_empty,fun s=>⟨by simp [DataW.atKey],by simp [has]⟩⟩
theorem nV.put {w:World} {lo mb n:Nat} {m:ByteArray→Option ag} (h:nV w lo mb n m) (key:ByteArray) {set:ag} {A:Option Addr} {k c:Nat} (hr:cy w (fun b=>b≠mb∧lo≤b) 2 A k (ak set)) (hc:k≤c) :
    ∃ D:DataW Value,w.ownsMap Tryz.prog 9 Raw mb n D∧∀ w':World,w'.ownsMap Tryz.prog 9 Raw mb (n+1) (D.put (eV key) (.held (.slice A k c)))→w.grownBy w' (some mb)→nV w' lo mb (n+1) (tg m key set)∧aZ w mb w':=by
 obtain⟨D,h1,h2,h3⟩:=h;refine⟨D,h1,fun w' hown hg=>?_⟩;have hk:aa w (fun b=>b≠mb∧lo≤b) w' (fun b=>b≠mb∧lo≤b):=fun b hb hl=>⟨hg.block b hl (fun e=>hb.1 (Option.some.inj e)),hb,Nat.lt_of_lt_of_le hl hg.size⟩;refine⟨⟨_,hown,h2.put _ _,fun s=>?_⟩,hg.size,hg.os,hg.tape,hg.output,fun b hb hne=>hg.block b hb (fun e=>hne (Option.some.inj e))⟩;unfold tg;by_cases hs:s=key
 ·subst hs;rw [if_pos rfl];exact⟨_,atKey_put_same h2 (tN _) _ _,has_put_same h2 (tN _) _,A,k,c,rfl,hr.keep hk,hc⟩
 rw [if_neg hs];have hne:eV s≠eV key:=fun e=>hs (BF e);have:=h3 s;cases hl:m s with
 | none=>
  rw [hl]at this;dsimp only;rw [atKey_put_other hne,has_put_other hne];exact this
 | some x=>
  rw [hl]at this;obtain⟨v,g1,g2,A',k',c',e,g3,g4⟩:=this;exact⟨v,by rw [atKey_put_other hne];exact g1,by rw [has_put_other hne];exact g2,A',k',c',e,g3.keep hk,g4⟩
def Vi:ByteArray:=⟨#[100,105,103,105,116]⟩
def cs0:ag:=[(48,57)]
def Ul:ByteArray:=⟨#[108,111,119,101,114]⟩
def WJ:ag:=[(97,122),(223,246),(248,255)]
def SF:ByteArray:=⟨#[117,112,112,101,114]⟩
def WR:ag:=[(65,90),(192,214),(216,222)]
def V1:ByteArray:=⟨#[108,101,116,116,101,114]⟩
def Vm:ag:=[(65,90),(97,122),(192,214),(216,246),(248,255)]
def UE:ByteArray:=⟨#[118,111,119,101,108]⟩
def UG:ag:=[(65,65),(69,69),(73,73),(79,79),(85,85),(97,97),(101,101),(105,105),(111,111),(117,117)]
def UH:ByteArray:=⟨#[103,114,101,101,107]⟩
def WS:ag:=[(880,1023)]
def SC:ByteArray:=⟨#[99,121,114,105,108,108,105,99]⟩
def Xl:ag:=[(1024,1279)]
def Vn:ByteArray:=⟨#[115,112,97,99,101]⟩
def Xs:ag:=[(9,10),(32,32)]
def Ty:ByteArray:=⟨#[97,110,121]⟩
def WB:ag:=[(0,1114111)]
def vg:ByteArray→Option ag:=(tg (tg (tg (tg (tg (tg (tg (tg (tg (fun _=>none) Vi cs0) Ul WJ) SF WR) V1 Vm) UE UG) UH WS) SC Xl) Vn Xs) Ty WB)
theorem jK {l m:List Int} {k:ByteArray} (hk:k=runesBytes m) (hm:dh m):(runesBytes l=k)=(l=m):=by
 subst hk;exact propext ⟨xL hm,fun h=>by rw [h]⟩
theorem mq {k:ByteArray} {m:List Int} (hm:dh m) (h:k.data.toList=mN m):k=runesBytes m:=by
 rw [← ff hm]at h;exact ByteArray.ext (Array.ext' h)
theorem EJ (l:List Int):vg (runesBytes l)=gx l:=by
 have e0:(runesBytes l=Vi)=(l = [100,105,103,105,116]):=jK (mq (by unfold dh;decide) (by decide)) (by unfold dh;decide);have e1:(runesBytes l=Ul)=(l = [108,111,119,101,114]):=jK (mq (by unfold dh;decide) (by decide)) (by unfold dh;decide);have e2:(runesBytes l=SF)=(l = [117,112,112,101,114]):=jK (mq (by unfold dh;decide) (by decide)) (by unfold dh;decide);have e3:(runesBytes l=V1)=(l = [108,101,116,116,101,114]):=jK (mq (by unfold dh;decide) (by decide)) (by unfold dh;decide);have e4:(runesBytes l=UE)=(l = [118,111,119,101,108]):=jK (mq (by unfold dh;decide) (by decide)) (by unfold dh;decide);have e5:(runesBytes l=UH)=(l = [103,114,101,101,107]):=jK (mq (by unfold dh;decide) (by decide)) (by unfold dh;decide);have e6:(runesBytes l=SC)=(l = [99,121,114,105,108,108,105,99]):=jK (mq (by unfold dh;decide) (by decide)) (by unfold dh;decide);have e7:(runesBytes l=Vn)=(l = [115,112,97,99,101]):=jK (mq (by unfold dh;decide) (by decide)) (by unfold dh;decide);have e8:(runesBytes l=Ty)=(l = [97,110,121]):=jK (mq (by unfold dh;decide) (by decide)) (by unfold dh;decide);unfold vg tg gx;simp only [e0,e1,e2,e3,e4,e5,e6,e7,e8];clear e0 e1 e2 e3 e4 e5 e6 e7 e8;by_cases h0:l = [100,105,103,105,116]
 ·subst h0;rfl
 by_cases h1:l = [108,111,119,101,114]
 ·subst h1;rfl
 by_cases h2:l = [117,112,112,101,114]
 ·subst h2;rfl
 by_cases h3:l = [108,101,116,116,101,114]
 ·subst h3;rfl
 by_cases h4:l = [118,111,119,101,108]
 ·subst h4;rfl
 by_cases h5:l = [103,114,101,101,107]
 ·subst h5;rfl
 by_cases h6:l = [99,121,114,105,108,108,105,99]
 ·subst h6;rfl
 by_cases h7:l = [115,112,97,99,101]
 ·subst h7;rfl
 by_cases h8:l = [97,110,121]
 ·subst h8;rfl
 simp only [h0,h1,h2,h3,h4,h5,h6,h7,h8,if_false]
def nF (w:World) (s:ByteArray) (e:Ending) (w':World):Prop :=
  (match vg s with
  | some set=>∃ A n c,e=.returned (.tuple #[.slice A n c,.bool true])∧cy w' (fun b=>w.heap.size≤b) 2 A n (ak set)∧n≤c
  | none=>e=.returned (.tuple #[.slice none 0 0,.bool false]))∧Below w.heap.size w w'
theorem G6 (w:World):(zeroValue 24).run Tryz.prog w=.ok (.slice none 0 0) w:=by kernel_rfl
theorem nV.ask {w:World} {lo mb n:Nat} {m:ByteArray→Option ag} (h:nV w lo mb n m) (s:ByteArray) :
    ∃ D u q,w.ownsMap Tryz.prog 9 Raw mb n D∧D.atKey (eV s) sM=.held u∧has D (eV s)=q∧(match m s with
      | some set=>q=true∧∃ A k c,u=.slice A k c∧cy w (fun b=>b≠mb∧lo≤b) 2 A k (ak set)∧k≤c
      | none=>q=false∧u=.slice none 0 0):=by
 obtain⟨D,h1,_,h3⟩:=h;have:=h3 s;cases hl:m s with
 | none=>
  rw [hl]at this;exact⟨D,_,_,h1,this.1,this.2,rfl,rfl⟩
 | some x=>
  rw [hl]at this;obtain⟨u,g1,g2,g3⟩:=this;exact⟨D,u,true,h1,g1,g2,rfl,g3⟩
theorem fy (W:World) (cs:ag) (N:Nat) (hN:N=2*cs.length) (hn:N≤1000) :
    Calls Tryz.prog 134 #[.slice (some ⟨W.heap.size,0,none⟩) N N] (W.alloc (.cells (ak cs).toArray 21)) (dw W cs 1000):=by
 have hb:=(Below.refl W.heap.size W).alloc (Nat.le_refl _) (.cells (ak cs).toArray 21);refine(EO W.heap.size 0 N cs N _ hN hn (by simp) (fun j u hu=>?_)).mono ?_
 ·rw [Nat.zero_add,(aj.new W 21 (ak cs).toArray).cell];simpa using hu
 rintro e w1 ⟨A,k,c,rfl,h1,h2,h3,h4⟩;exact⟨A,k,c,rfl,h1.keep (aa.refl (fun b h=>by simp at h;omega)),h2,h3,hb.trans (h4.mono (by simp))⟩
theorem It (s:ByteArray) (w:World) (hs:s.size≤maxLen) :
    Calls Tryz.prog 114 #[.string s] w (nF w s):=by
 have HS:=qqh hs;have nT:=qqh (nV.made w w.heap.size);have dV:=qqh ((Below.refl w.heap.size w).alloc (Nat.le_refl _) (.map #[] 0));have hmm:∀ W:World,(Instr.makeMap 141 none).run Tryz.prog W=.ok (.map (some W.heap.size)) (W.alloc (.map #[] 0)):=fun W=>rfl;clear hs;have Pd:=qqh (fun(W:World)=>show Calls Tryz.prog 134 #[.slice (some ⟨W.heap.size,0,none⟩) 2 2] (W.alloc (.cells #[.int .i32 48,.int .i32 57] 21)) (dw W cs0 1000) from fy W cs0 2 (by decide) (by decide));have iA:=qqh (show keyOf Tryz.prog 9 (.string ⟨#[100,105,103,105,116]⟩)=some (eV Vi) from jv (s:=Vi) (by show(5:Nat)≤maxLen;simp only [maxLen];omega));have iJ:=qqh (fun(W:World)=>show Calls Tryz.prog 134 #[.slice (some ⟨W.heap.size,0,none⟩) 6 6] (W.alloc (.cells #[.int .i32 97,.int .i32 122,.int .i32 223,.int .i32 246,.int .i32 248,.int .i32 255] 21)) (dw W WJ 1000) from fy W WJ 6 (by decide) (by decide));have Mk:=qqh (show keyOf Tryz.prog 9 (.string ⟨#[108,111,119,101,114]⟩)=some (eV Ul) from jv (s:=Ul) (by show(5:Nat)≤maxLen;simp only [maxLen];omega));have lT:=qqh (fun(W:World)=>show Calls Tryz.prog 134 #[.slice (some ⟨W.heap.size,0,none⟩) 6 6] (W.alloc (.cells #[.int .i32 65,.int .i32 90,.int .i32 192,.int .i32 214,.int .i32 216,.int .i32 222] 21)) (dw W WR 1000) from fy W WR 6 (by decide) (by decide));have QE:=qqh (show keyOf Tryz.prog 9 (.string ⟨#[117,112,112,101,114]⟩)=some (eV SF) from jv (s:=SF) (by show(5:Nat)≤maxLen;simp only [maxLen];omega))
 have nZ:=qqh (fun(W:World)=>show Calls Tryz.prog 134 #[.slice (some ⟨W.heap.size,0,none⟩) 10 10] (W.alloc (.cells #[.int .i32 65,.int .i32 90,.int .i32 97,.int .i32 122,.int .i32 192,.int .i32 214,.int .i32 216,.int .i32 246,.int .i32 248,.int .i32 255] 21)) (dw W Vm 1000) from fy W Vm 10 (by decide) (by decide));have XL:=qqh (show keyOf Tryz.prog 9 (.string ⟨#[108,101,116,116,101,114]⟩)=some (eV V1) from jv (s:=V1) (by show(6:Nat)≤maxLen;simp only [maxLen];omega));have CD:=qqh (fun(W:World)=>show Calls Tryz.prog 134 #[.slice (some ⟨W.heap.size,0,none⟩) 20 20] (W.alloc (.cells #[.int .i32 65,.int .i32 65,.int .i32 69,.int .i32 69,.int .i32 73,.int .i32 73,.int .i32 79,.int .i32 79,.int .i32 85,.int .i32 85,.int .i32 97,.int .i32 97,.int .i32 101,.int .i32 101,.int .i32 105,.int .i32 105,.int .i32 111,.int .i32 111,.int .i32 117,.int .i32 117] 21)) (dw W UG 1000) from fy W UG 20 (by decide) (by decide));have HK4:=qqh (show keyOf Tryz.prog 9 (.string ⟨#[118,111,119,101,108]⟩)=some (eV UE) from jv (s:=UE) (by show(5:Nat)≤maxLen;simp only [maxLen];omega));have tj:=qqh (fun(W:World)=>show Calls Tryz.prog 134 #[.slice (some ⟨W.heap.size,0,none⟩) 2 2] (W.alloc (.cells #[.int .i32 880,.int .i32 1023] 21)) (dw W WS 1000) from fy W WS 2 (by decide) (by decide));have HK5:=qqh (show keyOf Tryz.prog 9 (.string ⟨#[103,114,101,101,107]⟩)=some (eV UH) from jv (s:=UH) (by show(5:Nat)≤maxLen;simp only [maxLen];omega))
 have GR:=qqh (fun(W:World)=>show Calls Tryz.prog 134 #[.slice (some ⟨W.heap.size,0,none⟩) 2 2] (W.alloc (.cells #[.int .i32 1024,.int .i32 1279] 21)) (dw W Xl 1000) from fy W Xl 2 (by decide) (by decide));have HK6:=qqh (show keyOf Tryz.prog 9 (.string ⟨#[99,121,114,105,108,108,105,99]⟩)=some (eV SC) from jv (s:=SC) (by show(8:Nat)≤maxLen;simp only [maxLen];omega));have I9:=qqh (fun(W:World)=>show Calls Tryz.prog 134 #[.slice (some ⟨W.heap.size,0,none⟩) 4 4] (W.alloc (.cells #[.int .i32 9,.int .i32 10,.int .i32 32,.int .i32 32] 21)) (dw W Xs 1000) from fy W Xs 4 (by decide) (by decide));have HK7:=qqh (show keyOf Tryz.prog 9 (.string ⟨#[115,112,97,99,101]⟩)=some (eV Vn) from jv (s:=Vn) (by show(5:Nat)≤maxLen;simp only [maxLen];omega));have PN:=qqh (fun(W:World)=>show Calls Tryz.prog 134 #[.slice (some ⟨W.heap.size,0,none⟩) 2 2] (W.alloc (.cells #[.int .i32 0,.int .i32 1114111] 21)) (dw W WB 1000) from fy W WB 2 (by decide) (by decide));have HK8:=qqh (show keyOf Tryz.prog 9 (.string ⟨#[97,110,121]⟩)=some (eV Ty) from jv (s:=Ty) (by show(3:Nat)≤maxLen;simp only [maxLen];omega));have Ya:=qqh (show Calls Tryz.prog 134 #[.slice (some ⟨w.heap.size+1,0,none⟩) 2 2] ((w.alloc (.map #[] 0)).alloc (.cells #[.int .i32 48,.int .i32 57] 21)) (dw (w.alloc (.map #[] 0)) cs0 1000) by have:=Pd.out (w.alloc (.map #[] 0));simpa using this);have Q3:=qqh (show w.heap.size<(w.alloc (.map #[] 0)).heap.size by simp);go_enter Tryz.func114,Tryz.ntmps114;go_wp2_with fail;refine Ya.out.mono ?_;rintro e w0 ⟨A0,k0,c0,rfl,hr,hk,hc,hb⟩
 have Zh:=qqh (dV.out.trans (hb.mono (Nat.le_of_lt Q3.out)));obtain⟨D0,hown,hput⟩:=(nT.out.below hb).put Vi (set:=cs0) (hr.keep (aa.refl (X':=fun b=>b≠w.heap.size∧w.heap.size≤b) (fun b h=>by have:=Q3.out;omega))) hc;have V8:=qqh (show w.heap.size<w0.heap.size from Nat.lt_of_lt_of_le Q3.out hb.size);have HO0:=qqh hown;have Ax:=qqh hput;clear hr hk hc hb hown hput;go_wp2_with (first | (refine bP _ rfl (.tmp 8) _ _ 141 rfl 9 24 gR Tryz.underlying141 Raw w.heap.size 0 _ rfl HO0.out (by unfold maxLen;omega) _ _ _ rfl rfl iA.out (.held (.slice A0 k0 c0)) [] rfl ?_;intro v0 hown hgrow;have Mm:=qqh (Ax.out v0 hown hgrow).1;have bR:=qqh (Zh.out.trans ((Ax.out v0 hown hgrow).2.to (Nat.le_of_lt V8.out) (Nat.le_refl _)));have C0:=qqh (show w.heap.size<v0.heap.size from Nat.lt_of_lt_of_le V8.out hgrow.size);clear hown hgrow) | fail);refine(iJ.out _).mono ?_;rintro e w1 ⟨A1,k1,c1,rfl,hr,hk,hc,hb⟩;have XK:=qqh (bR.out.trans (hb.mono (Nat.le_of_lt C0.out)));obtain⟨D1,hown,hput⟩:=(Mm.out.below hb).put Ul (set:=WJ) (hr.keep (aa.refl (X':=fun b=>b≠w.heap.size∧w.heap.size≤b) (fun b h=>by have:=C0.out;omega))) hc;have Tg:=qqh (show w.heap.size<w1.heap.size from Nat.lt_of_lt_of_le C0.out hb.size);have yD:=qqh hown;have mC:=qqh hput;clear hr hk hc hb hown hput
 go_wp2_with (first | (refine bP _ rfl (.tmp 8) _ _ 141 rfl 9 24 gR Tryz.underlying141 Raw w.heap.size 1 _ rfl yD.out (by unfold maxLen;omega) _ _ _ rfl rfl Mk.out (.held (.slice A1 k1 c1)) [] rfl ?_;intro v1 hown hgrow;have IA:=qqh (mC.out v1 hown hgrow).1;have bt:=qqh (XK.out.trans ((mC.out v1 hown hgrow).2.to (Nat.le_of_lt Tg.out) (Nat.le_refl _)));have IQ:=qqh (show w.heap.size<v1.heap.size from Nat.lt_of_lt_of_le Tg.out hgrow.size);clear hown hgrow) | fail);refine(lT.out _).mono ?_;rintro e w2 ⟨A2,k2,c2,rfl,hr,hk,hc,hb⟩;have aa3:=qqh (bt.out.trans (hb.mono (Nat.le_of_lt IQ.out)));obtain⟨D2,hown,hput⟩:=(IA.out.below hb).put SF (set:=WR) (hr.keep (aa.refl (X':=fun b=>b≠w.heap.size∧w.heap.size≤b) (fun b h=>by have:=IQ.out;omega))) hc;have UP:=qqh (show w.heap.size<w2.heap.size from Nat.lt_of_lt_of_le IQ.out hb.size);have tA:=qqh hown;have iH:=qqh hput;clear hr hk hc hb hown hput;go_wp2_with (first | (refine bP _ rfl (.tmp 8) _ _ 141 rfl 9 24 gR Tryz.underlying141 Raw w.heap.size 2 _ rfl tA.out (by unfold maxLen;omega) _ _ _ rfl rfl QE.out (.held (.slice A2 k2 c2)) [] rfl ?_;intro v2 hown hgrow;have Xr:=qqh (iH.out v2 hown hgrow).1;have bN:=qqh (aa3.out.trans ((iH.out v2 hown hgrow).2.to (Nat.le_of_lt UP.out) (Nat.le_refl _)));have Pb:=qqh (show w.heap.size<v2.heap.size from Nat.lt_of_lt_of_le UP.out hgrow.size);clear hown hgrow) | fail);refine(nZ.out _).mono ?_;rintro e w3 ⟨A3,k3,c3,rfl,hr,hk,hc,hb⟩;have aa4:=qqh (bN.out.trans (hb.mono (Nat.le_of_lt Pb.out)))
 obtain⟨D3,hown,hput⟩:=(Xr.out.below hb).put V1 (set:=Vm) (hr.keep (aa.refl (X':=fun b=>b≠w.heap.size∧w.heap.size≤b) (fun b h=>by have:=Pb.out;omega))) hc;have Uw:=qqh (show w.heap.size<w3.heap.size from Nat.lt_of_lt_of_le Pb.out hb.size);have nX:=qqh hown;have ic:=qqh hput;clear hr hk hc hb hown hput;go_wp2_with (first | (refine bP _ rfl (.tmp 8) _ _ 141 rfl 9 24 gR Tryz.underlying141 Raw w.heap.size 3 _ rfl nX.out (by unfold maxLen;omega) _ _ _ rfl rfl XL.out (.held (.slice A3 k3 c3)) [] rfl ?_;intro v3 hown hgrow;have WC:=qqh (ic.out v3 hown hgrow).1;have ej:=qqh (aa4.out.trans ((ic.out v3 hown hgrow).2.to (Nat.le_of_lt Uw.out) (Nat.le_refl _)));have TA:=qqh (show w.heap.size<v3.heap.size from Nat.lt_of_lt_of_le Uw.out hgrow.size);clear hown hgrow) | fail);refine(CD.out _).mono ?_;rintro e w4 ⟨A4,k4,c4,rfl,hr,hk,hc,hb⟩;have Yl:=qqh (ej.out.trans (hb.mono (Nat.le_of_lt TA.out)));obtain⟨D4,hown,hput⟩:=(WC.out.below hb).put UE (set:=UG) (hr.keep (aa.refl (X':=fun b=>b≠w.heap.size∧w.heap.size≤b) (fun b h=>by have:=TA.out;omega))) hc;have Vs:=qqh (show w.heap.size<w4.heap.size from Nat.lt_of_lt_of_le TA.out hb.size);have od:=qqh hown;have Fh:=qqh hput;clear hr hk hc hb hown hput
 go_wp2_with (first | (refine bP _ rfl (.tmp 8) _ _ 141 rfl 9 24 gR Tryz.underlying141 Raw w.heap.size 4 _ rfl od.out (by unfold maxLen;omega) _ _ _ rfl rfl HK4.out (.held (.slice A4 k4 c4)) [] rfl ?_;intro v4 hown hgrow;have Sh:=qqh (Fh.out v4 hown hgrow).1;have cZ:=qqh (Yl.out.trans ((Fh.out v4 hown hgrow).2.to (Nat.le_of_lt Vs.out) (Nat.le_refl _)));have RQ:=qqh (show w.heap.size<v4.heap.size from Nat.lt_of_lt_of_le Vs.out hgrow.size);clear hown hgrow) | fail);refine(tj.out _).mono ?_;rintro e w5 ⟨A5,k5,c5,rfl,hr,hk,hc,hb⟩;have ZE:=qqh (cZ.out.trans (hb.mono (Nat.le_of_lt RQ.out)));obtain⟨D5,hown,hput⟩:=(Sh.out.below hb).put UH (set:=WS) (hr.keep (aa.refl (X':=fun b=>b≠w.heap.size∧w.heap.size≤b) (fun b h=>by have:=RQ.out;omega))) hc;have Vr:=qqh (show w.heap.size<w5.heap.size from Nat.lt_of_lt_of_le RQ.out hb.size);have tM:=qqh hown;have pR:=qqh hput;clear hr hk hc hb hown hput;go_wp2_with (first | (refine bP _ rfl (.tmp 8) _ _ 141 rfl 9 24 gR Tryz.underlying141 Raw w.heap.size 5 _ rfl tM.out (by unfold maxLen;omega) _ _ _ rfl rfl HK5.out (.held (.slice A5 k5 c5)) [] rfl ?_;intro v5 hown hgrow;have RT:=qqh (pR.out v5 hown hgrow).1;have gG:=qqh (ZE.out.trans ((pR.out v5 hown hgrow).2.to (Nat.le_of_lt Vr.out) (Nat.le_refl _)));have XZ:=qqh (show w.heap.size<v5.heap.size from Nat.lt_of_lt_of_le Vr.out hgrow.size);clear hown hgrow) | fail);refine(GR.out _).mono ?_;rintro e w6 ⟨A6,k6,c6,rfl,hr,hk,hc,hb⟩;have aac:=qqh (gG.out.trans (hb.mono (Nat.le_of_lt XZ.out)))
 obtain⟨D6,hown,hput⟩:=(RT.out.below hb).put SC (set:=Xl) (hr.keep (aa.refl (X':=fun b=>b≠w.heap.size∧w.heap.size≤b) (fun b h=>by have:=XZ.out;omega))) hc;have UY:=qqh (show w.heap.size<w6.heap.size from Nat.lt_of_lt_of_le XZ.out hb.size);have xy:=qqh hown;have Ss:=qqh hput;clear hr hk hc hb hown hput;go_wp2_with (first | (refine bP _ rfl (.tmp 8) _ _ 141 rfl 9 24 gR Tryz.underlying141 Raw w.heap.size 6 _ rfl xy.out (by unfold maxLen;omega) _ _ _ rfl rfl HK6.out (.held (.slice A6 k6 c6)) [] rfl ?_;intro v6 hown hgrow;have ZV:=qqh (Ss.out v6 hown hgrow).1;have jq:=qqh (aac.out.trans ((Ss.out v6 hown hgrow).2.to (Nat.le_of_lt UY.out) (Nat.le_refl _)));have Zi:=qqh (show w.heap.size<v6.heap.size from Nat.lt_of_lt_of_le UY.out hgrow.size);clear hown hgrow) | fail);refine(I9.out _).mono ?_;rintro e w7 ⟨A7,k7,c7,rfl,hr,hk,hc,hb⟩;have aaC:=qqh (jq.out.trans (hb.mono (Nat.le_of_lt Zi.out)));obtain⟨D7,hown,hput⟩:=(ZV.out.below hb).put Vn (set:=Xs) (hr.keep (aa.refl (X':=fun b=>b≠w.heap.size∧w.heap.size≤b) (fun b h=>by have:=Zi.out;omega))) hc;have TI:=qqh (show w.heap.size<w7.heap.size from Nat.lt_of_lt_of_le Zi.out hb.size);have Mb:=qqh hown;have AH:=qqh hput;clear hr hk hc hb hown hput
 go_wp2_with (first | (refine bP _ rfl (.tmp 8) _ _ 141 rfl 9 24 gR Tryz.underlying141 Raw w.heap.size 7 _ rfl Mb.out (by unfold maxLen;omega) _ _ _ rfl rfl HK7.out (.held (.slice A7 k7 c7)) [] rfl ?_;intro v7 hown hgrow;have Si:=qqh (AH.out v7 hown hgrow).1;have vG:=qqh (aaC.out.trans ((AH.out v7 hown hgrow).2.to (Nat.le_of_lt TI.out) (Nat.le_refl _)));have YB:=qqh (show w.heap.size<v7.heap.size from Nat.lt_of_lt_of_le TI.out hgrow.size);clear hown hgrow) | fail);refine(PN.out _).mono ?_;rintro e w8 ⟨A8,k8,c8,rfl,hr,hk,hc,hb⟩;have Yn:=qqh (vG.out.trans (hb.mono (Nat.le_of_lt YB.out)));obtain⟨D8,hown,hput⟩:=(Si.out.below hb).put Ty (set:=WB) (hr.keep (aa.refl (X':=fun b=>b≠w.heap.size∧w.heap.size≤b) (fun b h=>by have:=YB.out;omega))) hc;have Ur:=qqh (show w.heap.size<w8.heap.size from Nat.lt_of_lt_of_le YB.out hb.size);have J0:=qqh hown;have EB:=qqh hput;clear hr hk hc hb hown hput
 go_wp2_with (first | (refine bP _ rfl (.tmp 8) _ _ 141 rfl 9 24 gR Tryz.underlying141 Raw w.heap.size 8 _ rfl J0.out (by unfold maxLen;omega) _ _ _ rfl rfl HK8.out (.held (.slice A8 k8 c8)) [] rfl ?_;intro v8 hown hgrow;have QT:=qqh (EB.out v8 hown hgrow).1;have eE:=qqh (Yn.out.trans ((EB.out v8 hown hgrow).2.to (Nat.le_of_lt Ur.out) (Nat.le_refl _)));have S9:=qqh (show w.heap.size<v8.heap.size from Nat.lt_of_lt_of_le Ur.out hgrow.size);clear hown hgrow;obtain⟨D9,u9,q9,hown,jB,U5,hpost⟩:=QT.out.ask s;have gV:=qqh hown;have HA9:=qqh jB;have RI:=qqh U5;have CS:=qqh hpost;clear hown jB U5 hpost) | (at_lookup;refine uT rfl (.tmp 36) (.tmp 37) 141 24 rfl Tryz.underlying141 (z:=.slice none 0 0) (G6 _) w.heap.size 9 D9 rfl gV.out s rfl HS.out u9 q9 HA9.out RI.out ?_) | fail);go_ret2;have hp:=CS.out;unfold nF;change (match vg s with | some set=>_ | none=>_)at hp;cases hT:vg s with
 | none=>
  rw [hT]at hp;obtain⟨rfl,rfl⟩:=hp;exact⟨rfl,eE.out⟩
 | some set=>
  rw [hT]at hp;obtain⟨rfl,A,k,c,rfl,h1,h2⟩:=hp;exact⟨⟨A,k,c,rfl,h1.keep (aa.refl (fun b h=>h.2)),h2⟩,eE.out⟩
end Go.Proofs.YtkggjgeihhialaaGreatDoor
namespace Go.Proofs.YtkggjgeihhialaaGreatDoor
open Go.RowKit
theorem NC {w:World} {g:Nat} {t:TypeId} {c c':Array Value} (h:aj w g t c):aj (w.setRow g c') g t c':=setRow_heap w g c c' t (0,0) h
theorem Fi (w:World) (g:Nat) (c:Array Value):aZ w g (w.setRow g c):=⟨by simp,rfl,rfl,rfl,fun k _ hne=>setRow_other w g k c hne⟩
section
variable {ops : Array Oper} {rest : List Oper} {o : Oper} {a : Act} {w : World} {Q : Exit → Act → World → Prop} {ty t : TypeId} {x y : Operand} {g : Nat}
theorem wpList_load_row {cs:Array Value} (hgd:o.guard=none) (ho:o.op=.load ty x) (hu:∃ fs,Tryz.prog.underlying ty=some (.struct fs)) (hi:(Tryz.prog.info? ty).map (·.size)=some cs.size)
    (hx:a.eval x=.pointer (some ⟨g,0,none⟩)) (hb:aj w g t cs) (h:wpList Tryz.prog ops Q rest (a.put o.dst (.agg cs)) w):wpList Tryz.prog ops Q (o::rest) a w:=by
 obtain⟨fs,hu⟩:=hu;refine wpList_plain hgd fun K hK=>?_;have hr:(execOp a.eval o).run Tryz.prog w=.ok (.value (.agg cs)) w:=by
  unfold execOp;rw [ho];simp only [hx,Instr.loadAt,Instr.sureAddr,Sem.run_bind,Sem.run_pure,Result.andThen,run_loadVar_row w g t ty cs (0,0) (.struct fs) hb hu rfl hi]
 unfold Oper.wp;rw [hr];exact hK _ _ h
theorem wpList_store_row {c vs:Array Value} (hgd:o.guard=none) (ho:o.op=.store ty x y) (hi:(Tryz.prog.info? ty).map (·.size)=some vs.size) (hs:c.size=vs.size) (h1:vs.all (·.oneCell')=true)
    (hx:a.eval x=.pointer (some ⟨g,0,none⟩)) (hy:a.eval y=.agg vs) (hb:aj w g t c) (h:wpList Tryz.prog ops Q rest (a.put o.dst undef) (w.setRow g vs)):wpList Tryz.prog ops Q (o::rest) a w:=by
 refine wpList_plain hgd fun K hK=>?_;have hr:(execOp a.eval o).run Tryz.prog w=.ok .skip (w.setRow g vs):=by
  unfold execOp;rw [ho];simp only [hx,hy,Instr.storeAt,Instr.sureAddr,Sem.run_bind,Sem.run_pure,Result.andThen,run_storeVar_row w g t ty c vs hb hi hs h1]
 unfold Oper.wp;rw [hr];exact hK _ _ h
theorem kL {fn:Func} {p:Tmp} {tmps:Array Value} {cs:Array Value} (h:fn.results = #[.cell p ty]) (hp:tmps.getD p undef=.pointer (some ⟨g,0,none⟩)) (hu:∃ fs,Tryz.prog.underlying ty=some (.struct fs)) (hi:(Tryz.prog.info? ty).map (·.size)=some cs.size) (hb:aj w g t cs) :
    (results fn tmps).run Tryz.prog w=.ok (.agg cs) w:=by
 obtain⟨fs,hu⟩:=hu;have hl:=run_loadVar_row w g t ty cs (0,0) (.struct fs) hb hu rfl hi;have hp2:tmps[p]?.getD undef=.pointer (some ⟨g,0,none⟩):=(by simpa using hp);simp only [results,h];simp [hp2,asAddr,hl]
end
end Go.Proofs.YtkggjgeihhialaaGreatDoor
