/- EdgesBoth + ClassMap + WholeBox -/
import Derived.Test.YtapechjebkjidaaGreatDoorZs8
import Derived.Test.YtapechjebkjidaaGreatDoorZs10
import Derived.Deep.DeepCutAuto
import Derived.Deep.CutBlock
import Derived.Test.YtapechjebkjidaaGreatDoorZs0
import Derived.Test.YtapechjebkjidaaGreatDoorZs22
import Derived.Test.YtapechjebkjidaaGreatDoorZs4
import Derived.Deep.WholeRow
set_option maxHeartbeats 6400000
set_option maxRecDepth 100000
namespace Go.Proofs.YtapechjebkjidaaGreatDoor
open Go.RowKit
def Br (lo g:Nat) (E:List Int) (w:World):Prop:=∃ (A:Option Addr) (n c:Nat),ak w g 29 #[.slice A n c]∧di w (fun b=>b≠g∧lo≤b) 1 A n (runeCells E)∧n≤c
def bM (w:World) (g:Nat) (w':World):Prop:=w.heap.size≤w'.heap.size∧w'.os=w.os∧w'.tape=w.tape∧w'.output=w.output∧∀ k,k<w.heap.size→k≠g→w'.heap[k]? = w.heap[k]?
theorem bM.refl (w:World) (g:Nat):bM w g w:=⟨Nat.le_refl _,rfl,rfl,rfl,fun _ _ _=>rfl⟩
theorem bM.trans {w w1 w2:World} {g:Nat} (h:bM w g w1) (h2:bM w1 g w2):bM w g w2 :=
  ⟨Nat.le_trans h.1 h2.1,h2.2.1.trans h.2.1,h2.2.2.1.trans h.2.2.1,h2.2.2.2.1.trans h.2.2.2.1,fun k hk hne=>(h2.2.2.2.2 k (Nat.lt_of_lt_of_le hk h.1) hne).trans (h.2.2.2.2 k hk hne)⟩
theorem bM.below {w w1:World} (g:Nat) (h:Below w.heap.size w w1):bM w g w1:=⟨h.size,h.os,h.tape,h.output,fun k hk _=>h.block k hk⟩
theorem bM.set (w:World) (g i:Nat) (u:Value):bM w g (w.setCell ⟨g,i,none⟩ u):=⟨by simp,rfl,rfl,rfl,fun k _ hne=>Below.heap_setCell _ _ _ _ hne⟩
theorem bM.to {w w1:World} {g B:Nat} (h:bM w g w1) (hB:B≤w.heap.size) (hg:B≤g):Below B w w1:=⟨h.2.1,h.2.2.1,h.2.2.2.1,h.1,fun k hk=>h.2.2.2.2 k (by omega) (by omega)⟩
theorem bM.drewN (w:World) (C k:Nat):bM w C (w.drewN k):=bM.below C (below_drewN (Below.refl _ _) k)
theorem bM.keeps {w w1:World} {g:Nat} {X X':Nat→Prop} (h:bM w g w1) (hX:∀ b,X b→b≠g) (h2:∀ b,X b→b<w.heap.size→X' b):ag w X w1 X' :=
  fun b hb hl=>⟨h.2.2.2.2 b hl (hX b hb),h2 b hb hl,Nat.lt_of_lt_of_le hl h.1⟩
end Go.Proofs.YtapechjebkjidaaGreatDoor
namespace Go.Proofs.YtapechjebkjidaaGreatDoor
open Go.RowKit
theorem Br.below {lo g:Nat} {E:List Int} {w w':World} (h:Br lo g E w) (hb:Below w.heap.size w w'):Br lo g E w':=by
 obtain⟨A,n,c,h1,h2,h3⟩:=h;exact⟨A,n,c,ak.below h1 hb h1.lt,h2.keep (ag.any hb),h3⟩
structure FW (w:World) (L:List af) (b:Nat) (xs:List Int) (wr:World):Prop where
  ex:∃ E:List Int,Br w.heap.size (w.heap.size+1) E wr∧E.Pairwise (· < ·)∧E ≠ []∧E.length≤b∧fC L=xs.foldl pP E
  below:Below w.heap.size w wr
theorem FW.alloc {w wr:World} {L:List af} {b:Nat} {xs:List Int} (h:FW w L b xs wr) (o:Obj):FW w L b xs (wr.alloc o):=by
 obtain⟨⟨E,h1,h2,h3,h4,h5⟩,h6⟩:=h;exact⟨⟨E,h1.below ((Below.refl _ _).alloc (Nat.le_refl _) o),h2,h3,h4,h5⟩,h6.alloc h6.size o⟩
theorem FW.lt {w wr:World} {L:List af} {b:Nat} {xs:List Int} (h:FW w L b xs wr):w.heap.size+1<wr.heap.size:=by
 obtain⟨⟨E,⟨A,n,c,h1,_⟩,_⟩,_⟩:=h;exact h1.lt
theorem FW.cell {w wr:World} {L:List af} {b:Nat} (h:FW w L b [] wr):∃ A n c,ak wr (w.heap.size+1) 29 #[.slice A n c]∧di wr (fun b=>w.heap.size≤b) 1 A n (runeCells (fC L)):=by
 obtain⟨⟨E,⟨A,n,c,h1,h2,_⟩,_,_,_,h5⟩,_⟩:=h;rw [h5];exact⟨A,n,c,h1,h2.keep (ag.refl (fun _ h=>h.2))⟩
end Go.Proofs.YtapechjebkjidaaGreatDoor
namespace Go.Proofs.YtapechjebkjidaaGreatDoor
open Go.RowKit Go.Maps
def pL (w:World) (lo mb n:Nat) (m:ByteArray→Option af):Prop :=
  ∃ D:DataW Value,w.ownsMap Tryz.prog 9 Raw mb n D∧IsMap D∧∀ s:ByteArray,match m s with
    | some set=>∃ u,D.atKey (fl s) vE=.held u∧has D (fl s)=true∧∃ A k c,u=.slice A k c∧di w (fun b=>b≠mb∧lo≤b) 2 A k (aj set)∧k≤c
    | none=>D.atKey (fl s) vE=vE∧has D (fl s)=false
def vn (m:ByteArray→Option af) (k:ByteArray) (v:af) (s:ByteArray):Option af:=if s=k then some v else m s
theorem pL.keep {w w':World} {lo mb n:Nat} {m:ByteArray→Option af} (hk:ag w (fun b=>b≠mb∧lo≤b) w' (fun b=>b≠mb∧lo≤b)) (hm:w'.heap[mb]? = w.heap[mb]?) (h:pL w lo mb n m):pL w' lo mb n m:=by
 obtain⟨D,⟨es,clock,h1,h2⟩,h3,h4⟩:=h;refine⟨D,⟨es,clock,hm.trans h1,h2⟩,h3,fun s=>?_⟩;have:=h4 s;cases hl:m s with
 | none=>rw [hl]at this;exact this
 | some set=>
  rw [hl]at this;obtain⟨u,g1,g2,A,k,c,e,g3,g4⟩:=this;exact⟨u,g1,g2,A,k,c,e,g3.keep hk,g4⟩
theorem pL.lt {w:World} {lo mb n:Nat} {m:ByteArray→Option af} (h:pL w lo mb n m):mb<w.heap.size:=by
 obtain⟨D,h1,_⟩:=h;exact h1.lt
theorem pL.below {w w':World} {lo mb n:Nat} {m:ByteArray→Option af} (h:pL w lo mb n m) (hb:Below w.heap.size w w'):pL w' lo mb n m:=h.keep (ag.any hb) (hb.block mb h.lt)
theorem pL.made (w:World) (lo:Nat):pL (w.alloc (.map #[] 0)) lo w.heap.size 0 (fun _=>none) :=
  ⟨.map [],World.ownsMap_made _ _ _ _,isMap_empty,fun s=>⟨by simp [DataW.atKey],by simp [has]⟩⟩
theorem pL.put {w:World} {lo mb n:Nat} {m:ByteArray→Option af} (h:pL w lo mb n m) (key:ByteArray) {set:af} {A:Option Addr} {k c:Nat} (hr:di w (fun b=>b≠mb∧lo≤b) 2 A k (aj set)) (hc:k≤c) :
    ∃ D:DataW Value,w.ownsMap Tryz.prog 9 Raw mb n D∧∀ w':World,w'.ownsMap Tryz.prog 9 Raw mb (n+1) (D.put (fl key) (.held (.slice A k c)))→w.grownBy w' (some mb)→pL w' lo mb (n+1) (vn m key set)∧bM w mb w':=by
 obtain⟨D,h1,h2,h3⟩:=h;refine⟨D,h1,fun w' hown hg=>?_⟩;have hk:ag w (fun b=>b≠mb∧lo≤b) w' (fun b=>b≠mb∧lo≤b):=fun b hb hl=>⟨hg.block b hl (fun e=>hb.1 (Option.some.inj e)),hb,Nat.lt_of_lt_of_le hl hg.size⟩;refine⟨⟨_,hown,h2.put _ _,fun s=>?_⟩,hg.size,hg.os,hg.tape,hg.output,fun b hb hne=>hg.block b hb (fun e=>hne (Option.some.inj e))⟩;unfold vn;by_cases hs:s=key
 ·subst hs;rw [if_pos rfl];exact⟨_,atKey_put_same h2 (wF _) _ _,has_put_same h2 (wF _) _,A,k,c,rfl,hr.keep hk,hc⟩
 rw [if_neg hs];have hne:fl s≠fl key:=fun e=>hs (El e);have:=h3 s;cases hl:m s with
 | none=>
  rw [hl]at this;dsimp only;rw [atKey_put_other hne,has_put_other hne];exact this
 | some x=>
  rw [hl]at this;obtain⟨v,g1,g2,A',k',c',e,g3,g4⟩:=this;exact⟨v,by rw [atKey_put_other hne];exact g1,by rw [has_put_other hne];exact g2,A',k',c',e,g3.keep hk,g4⟩
def VB:ByteArray:=⟨#[100,105,103,105,116]⟩
def cs0:af:=[(48,57)]
def VN:ByteArray:=⟨#[108,111,119,101,114]⟩
def Y5:af:=[(97,122),(223,246),(248,255)]
def VZ:ByteArray:=⟨#[117,112,112,101,114]⟩
def YH:af:=[(65,90),(192,214),(216,222)]
def Xm:ByteArray:=⟨#[108,101,116,116,101,114]⟩
def XA:af:=[(65,90),(97,122),(192,214),(216,246),(248,255)]
def Wx:ByteArray:=⟨#[118,111,119,101,108]⟩
def UO:af:=[(65,65),(69,69),(73,73),(79,79),(85,85),(97,97),(101,101),(105,105),(111,111),(117,117)]
def X4:ByteArray:=⟨#[103,114,101,101,107]⟩
def Ze:af:=[(880,1023)]
def Xo:ByteArray:=⟨#[99,121,114,105,108,108,105,99]⟩
def YN:af:=[(1024,1279)]
def Wq:ByteArray:=⟨#[115,112,97,99,101]⟩
def Zd:af:=[(9,10),(32,32)]
def VE:ByteArray:=⟨#[97,110,121]⟩
def YV:af:=[(0,1114111)]
def wS:ByteArray→Option af:=(vn (vn (vn (vn (vn (vn (vn (vn (vn (fun _=>none) VB cs0) VN Y5) VZ YH) Xm XA) Wx UO) X4 Ze) Xo YN) Wq Zd) VE YV)
theorem j7 {l m:List Int} {k:ByteArray} (hk:k=runesBytes m) (hm:dn m):(runesBytes l=k)=(l=m):=by
 subst hk;exact propext ⟨yQ hm,fun h=>by rw [h]⟩
theorem nw {k:ByteArray} {m:List Int} (hm:dn m) (h:k.data.toList=oE m):k=runesBytes m:=by
 rw [← fB hm]at h;exact ByteArray.ext (Array.ext' h)
theorem Hz (l:List Int):wS (runesBytes l)=gT l:=by
 have e0:(runesBytes l=VB)=(l = [100,105,103,105,116]):=j7 (nw (by unfold dn;decide) (by decide)) (by unfold dn;decide);have e1:(runesBytes l=VN)=(l = [108,111,119,101,114]):=j7 (nw (by unfold dn;decide) (by decide)) (by unfold dn;decide);have e2:(runesBytes l=VZ)=(l = [117,112,112,101,114]):=j7 (nw (by unfold dn;decide) (by decide)) (by unfold dn;decide);have e3:(runesBytes l=Xm)=(l = [108,101,116,116,101,114]):=j7 (nw (by unfold dn;decide) (by decide)) (by unfold dn;decide);have e4:(runesBytes l=Wx)=(l = [118,111,119,101,108]):=j7 (nw (by unfold dn;decide) (by decide)) (by unfold dn;decide);have e5:(runesBytes l=X4)=(l = [103,114,101,101,107]):=j7 (nw (by unfold dn;decide) (by decide)) (by unfold dn;decide);have e6:(runesBytes l=Xo)=(l = [99,121,114,105,108,108,105,99]):=j7 (nw (by unfold dn;decide) (by decide)) (by unfold dn;decide);have e7:(runesBytes l=Wq)=(l = [115,112,97,99,101]):=j7 (nw (by unfold dn;decide) (by decide)) (by unfold dn;decide);have e8:(runesBytes l=VE)=(l = [97,110,121]):=j7 (nw (by unfold dn;decide) (by decide)) (by unfold dn;decide);unfold wS vn gT;simp only [e0,e1,e2,e3,e4,e5,e6,e7,e8];clear e0 e1 e2 e3 e4 e5 e6 e7 e8;by_cases h0:l = [100,105,103,105,116]
 ·subst h0;rfl
 by_cases h1:l = [108,111,119,101,114]
 ·subst h1;rfl
 by_cases h2:l = [117,112,112,101,114]
 ·subst h2;rfl
 by_cases h3:l = [108,101,116,116,101,114]
 ·subst h3;rfl
 by_cases h4:l = [118,111,119,101,108]
 ·subst h4;rfl
 by_cases h5:l = [103,114,101,101,107]
 ·subst h5;rfl
 by_cases h6:l = [99,121,114,105,108,108,105,99]
 ·subst h6;rfl
 by_cases h7:l = [115,112,97,99,101]
 ·subst h7;rfl
 by_cases h8:l = [97,110,121]
 ·subst h8;rfl
 simp only [h0,h1,h2,h3,h4,h5,h6,h7,h8,if_false]
def oX (w:World) (s:ByteArray) (e:Ending) (w':World):Prop :=
  (match wS s with
  | some set=>∃ A n c,e=.returned (.tuple #[.slice A n c,.bool true])∧di w' (fun b=>w.heap.size≤b) 2 A n (aj set)∧n≤c
  | none=>e=.returned (.tuple #[.slice none 0 0,.bool false]))∧Below w.heap.size w w'
theorem J' (w:World):(zeroValue 44).run Tryz.prog w=.ok (.slice none 0 0) w:=by kernel_rfl
theorem pL.ask {w:World} {lo mb n:Nat} {m:ByteArray→Option af} (h:pL w lo mb n m) (s:ByteArray) :
    ∃ D u q,w.ownsMap Tryz.prog 9 Raw mb n D∧D.atKey (fl s) vE=.held u∧has D (fl s)=q∧(match m s with
      | some set=>q=true∧∃ A k c,u=.slice A k c∧di w (fun b=>b≠mb∧lo≤b) 2 A k (aj set)∧k≤c
      | none=>q=false∧u=.slice none 0 0):=by
 obtain⟨D,h1,_,h3⟩:=h;have:=h3 s;cases hl:m s with
 | none=>
  rw [hl]at this;exact⟨D,_,_,h1,this.1,this.2,rfl,rfl⟩
 | some x=>
  rw [hl]at this;obtain⟨u,g1,g2,g3⟩:=this;exact⟨D,u,true,h1,g1,g2,rfl,g3⟩
theorem fQ (W:World) (cs:af) (N:Nat) (hN:N=2*cs.length) (hn:N≤1000) :
    Calls Tryz.prog 146 #[.slice (some ⟨W.heap.size,0,none⟩) N N] (W.alloc (.cells (aj cs).toArray 21)) (dy W cs 1000):=by
 have hb:=(Below.refl W.heap.size W).alloc (Nat.le_refl _) (.cells (aj cs).toArray 21);refine(FE W.heap.size 0 N cs N _ hN hn (by simp) (fun j u hu=>?_)).mono ?_
 ·rw [Nat.zero_add,(ak.new W 21 (aj cs).toArray).cell];simpa using hu
 rintro e w1 ⟨A,k,c,rfl,h1,h2,h3,h4⟩;exact⟨A,k,c,rfl,h1.keep (ag.refl (fun b h=>by simp at h;omega)),h2,h3,hb.trans (h4.mono (by simp))⟩
theorem Lj (s:ByteArray) (w:World) (hs:s.size≤maxLen) :
    Calls Tryz.prog 123 #[.string s] w (oX w s):=by
 have HS:=Lib.hid hs;have nU:=Lib.hid (pL.made w w.heap.size);have ek:=Lib.hid ((Below.refl w.heap.size w).alloc (Nat.le_refl _) (.map #[] 0));have hmm:∀ W:World,(Instr.makeMap 128 none).run Tryz.prog W=.ok (.map (some W.heap.size)) (W.alloc (.map #[] 0)):=fun W=>rfl;clear hs;have RZ:=Lib.hid (fun(W:World)=>show Calls Tryz.prog 146 #[.slice (some ⟨W.heap.size,0,none⟩) 2 2] (W.alloc (.cells #[.int .i32 48,.int .i32 57] 21)) (dy W cs0 1000) from fQ W cs0 2 (by decide) (by decide));have iO:=Lib.hid (show keyOf Tryz.prog 9 (.string ⟨#[100,105,103,105,116]⟩)=some (fl VB) from jU (s:=VB) (by show(5:Nat)≤maxLen;simp only [maxLen];omega));have jE:=Lib.hid (fun(W:World)=>show Calls Tryz.prog 146 #[.slice (some ⟨W.heap.size,0,none⟩) 6 6] (W.alloc (.cells #[.int .i32 97,.int .i32 122,.int .i32 223,.int .i32 246,.int .i32 248,.int .i32 255] 21)) (dy W Y5 1000) from fQ W Y5 6 (by decide) (by decide));have OW:=Lib.hid (show keyOf Tryz.prog 9 (.string ⟨#[108,111,119,101,114]⟩)=some (fl VN) from jU (s:=VN) (by show(5:Nat)≤maxLen;simp only [maxLen];omega));have qy:=Lib.hid (fun(W:World)=>show Calls Tryz.prog 146 #[.slice (some ⟨W.heap.size,0,none⟩) 6 6] (W.alloc (.cells #[.int .i32 65,.int .i32 90,.int .i32 192,.int .i32 214,.int .i32 216,.int .i32 222] 21)) (dy W YH 1000) from fQ W YH 6 (by decide) (by decide));have TA:=Lib.hid (show keyOf Tryz.prog 9 (.string ⟨#[117,112,112,101,114]⟩)=some (fl VZ) from jU (s:=VZ) (by show(5:Nat)≤maxLen;simp only [maxLen];omega))
 have rm:=Lib.hid (fun(W:World)=>show Calls Tryz.prog 146 #[.slice (some ⟨W.heap.size,0,none⟩) 10 10] (W.alloc (.cells #[.int .i32 65,.int .i32 90,.int .i32 97,.int .i32 122,.int .i32 192,.int .i32 214,.int .i32 216,.int .i32 246,.int .i32 248,.int .i32 255] 21)) (dy W XA 1000) from fQ W XA 10 (by decide) (by decide));have HK3:=Lib.hid (show keyOf Tryz.prog 9 (.string ⟨#[108,101,116,116,101,114]⟩)=some (fl Xm) from jU (s:=Xm) (by show(6:Nat)≤maxLen;simp only [maxLen];omega));have zO:=Lib.hid (fun(W:World)=>show Calls Tryz.prog 146 #[.slice (some ⟨W.heap.size,0,none⟩) 20 20] (W.alloc (.cells #[.int .i32 65,.int .i32 65,.int .i32 69,.int .i32 69,.int .i32 73,.int .i32 73,.int .i32 79,.int .i32 79,.int .i32 85,.int .i32 85,.int .i32 97,.int .i32 97,.int .i32 101,.int .i32 101,.int .i32 105,.int .i32 105,.int .i32 111,.int .i32 111,.int .i32 117,.int .i32 117] 21)) (dy W UO 1000) from fQ W UO 20 (by decide) (by decide));have HK4:=Lib.hid (show keyOf Tryz.prog 9 (.string ⟨#[118,111,119,101,108]⟩)=some (fl Wx) from jU (s:=Wx) (by show(5:Nat)≤maxLen;simp only [maxLen];omega));have tc:=Lib.hid (fun(W:World)=>show Calls Tryz.prog 146 #[.slice (some ⟨W.heap.size,0,none⟩) 2 2] (W.alloc (.cells #[.int .i32 880,.int .i32 1023] 21)) (dy W Ze 1000) from fQ W Ze 2 (by decide) (by decide));have HK5:=Lib.hid (show keyOf Tryz.prog 9 (.string ⟨#[103,114,101,101,107]⟩)=some (fl X4) from jU (s:=X4) (by show(5:Nat)≤maxLen;simp only [maxLen];omega))
 have FA:=Lib.hid (fun(W:World)=>show Calls Tryz.prog 146 #[.slice (some ⟨W.heap.size,0,none⟩) 2 2] (W.alloc (.cells #[.int .i32 1024,.int .i32 1279] 21)) (dy W YN 1000) from fQ W YN 2 (by decide) (by decide));have HK6:=Lib.hid (show keyOf Tryz.prog 9 (.string ⟨#[99,121,114,105,108,108,105,99]⟩)=some (fl Xo) from jU (s:=Xo) (by show(8:Nat)≤maxLen;simp only [maxLen];omega));have IV:=Lib.hid (fun(W:World)=>show Calls Tryz.prog 146 #[.slice (some ⟨W.heap.size,0,none⟩) 4 4] (W.alloc (.cells #[.int .i32 9,.int .i32 10,.int .i32 32,.int .i32 32] 21)) (dy W Zd 1000) from fQ W Zd 4 (by decide) (by decide));have HK7:=Lib.hid (show keyOf Tryz.prog 9 (.string ⟨#[115,112,97,99,101]⟩)=some (fl Wq) from jU (s:=Wq) (by show(5:Nat)≤maxLen;simp only [maxLen];omega));have SU:=Lib.hid (fun(W:World)=>show Calls Tryz.prog 146 #[.slice (some ⟨W.heap.size,0,none⟩) 2 2] (W.alloc (.cells #[.int .i32 0,.int .i32 1114111] 21)) (dy W YV 1000) from fQ W YV 2 (by decide) (by decide));have HK8:=Lib.hid (show keyOf Tryz.prog 9 (.string ⟨#[97,110,121]⟩)=some (fl VE) from jU (s:=VE) (by show(3:Nat)≤maxLen;simp only [maxLen];omega));have abu:=Lib.hid (show Calls Tryz.prog 146 #[.slice (some ⟨w.heap.size+1,0,none⟩) 2 2] ((w.alloc (.map #[] 0)).alloc (.cells #[.int .i32 48,.int .i32 57] 21)) (dy (w.alloc (.map #[] 0)) cs0 1000) by have:=RZ.out (w.alloc (.map #[] 0));simpa using this);have SO:=Lib.hid (show w.heap.size<(w.alloc (.map #[] 0)).heap.size by simp);go_enter Tryz.func123,Tryz.ntmps123;go_wp2_with fail;refine abu.out.mono ?_;rintro e w0 ⟨A0,k0,c0,rfl,hr,hk,hc,hb⟩
 have aa9:=Lib.hid (ek.out.trans (hb.mono (Nat.le_of_lt SO.out)));obtain⟨D0,hown,hput⟩:=(nU.out.below hb).put VB (set:=cs0) (hr.keep (ag.refl (X':=fun b=>b≠w.heap.size∧w.heap.size≤b) (fun b h=>by have:=SO.out;omega))) hc;have Wy:=Lib.hid (show w.heap.size<w0.heap.size from Nat.lt_of_lt_of_le SO.out hb.size);have HO0:=Lib.hid hown;have BC:=Lib.hid hput;clear hr hk hc hb hown hput;go_wp2_with (first | (refine bL _ rfl (.tmp 8) _ _ 128 rfl 9 44 iy Tryz.underlying128 Raw w.heap.size 0 _ rfl HO0.out (by unfold maxLen;omega) _ _ _ rfl rfl iO.out (.held (.slice A0 k0 c0)) [] rfl ?_;intro v0 hown hgrow;have IM:=Lib.hid (BC.out v0 hown hgrow).1;have bT:=Lib.hid (aa9.out.trans ((BC.out v0 hown hgrow).2.to (Nat.le_of_lt Wy.out) (Nat.le_refl _)));have LC:=Lib.hid (show w.heap.size<v0.heap.size from Nat.lt_of_lt_of_le Wy.out hgrow.size);clear hown hgrow) | fail);refine(jE.out _).mono ?_;rintro e w1 ⟨A1,k1,c1,rfl,hr,hk,hc,hb⟩;have Z3:=Lib.hid (bT.out.trans (hb.mono (Nat.le_of_lt LC.out)));obtain⟨D1,hown,hput⟩:=(IM.out.below hb).put VN (set:=Y5) (hr.keep (ag.refl (X':=fun b=>b≠w.heap.size∧w.heap.size≤b) (fun b h=>by have:=LC.out;omega))) hc;have Xr:=Lib.hid (show w.heap.size<w1.heap.size from Nat.lt_of_lt_of_le LC.out hb.size);have AI:=Lib.hid hown;have Fe:=Lib.hid hput;clear hr hk hc hb hown hput
 go_wp2_with (first | (refine bL _ rfl (.tmp 8) _ _ 128 rfl 9 44 iy Tryz.underlying128 Raw w.heap.size 1 _ rfl AI.out (by unfold maxLen;omega) _ _ _ rfl rfl OW.out (.held (.slice A1 k1 c1)) [] rfl ?_;intro v1 hown hgrow;have RE:=Lib.hid (Fe.out v1 hown hgrow).1;have aW:=Lib.hid (Z3.out.trans ((Fe.out v1 hown hgrow).2.to (Nat.le_of_lt Xr.out) (Nat.le_refl _)));have Ri:=Lib.hid (show w.heap.size<v1.heap.size from Nat.lt_of_lt_of_le Xr.out hgrow.size);clear hown hgrow) | fail);refine(qy.out _).mono ?_;rintro e w2 ⟨A2,k2,c2,rfl,hr,hk,hc,hb⟩;have aaZ:=Lib.hid (aW.out.trans (hb.mono (Nat.le_of_lt Ri.out)));obtain⟨D2,hown,hput⟩:=(RE.out.below hb).put VZ (set:=YH) (hr.keep (ag.refl (X':=fun b=>b≠w.heap.size∧w.heap.size≤b) (fun b h=>by have:=Ri.out;omega))) hc;have VV:=Lib.hid (show w.heap.size<w2.heap.size from Nat.lt_of_lt_of_le Ri.out hb.size);have wv:=Lib.hid hown;have oS:=Lib.hid hput;clear hr hk hc hb hown hput;go_wp2_with (first | (refine bL _ rfl (.tmp 8) _ _ 128 rfl 9 44 iy Tryz.underlying128 Raw w.heap.size 2 _ rfl wv.out (by unfold maxLen;omega) _ _ _ rfl rfl TA.out (.held (.slice A2 k2 c2)) [] rfl ?_;intro v2 hown hgrow;have RK:=Lib.hid (oS.out v2 hown hgrow).1;have bW:=Lib.hid (aaZ.out.trans ((oS.out v2 hown hgrow).2.to (Nat.le_of_lt VV.out) (Nat.le_refl _)));have Uq:=Lib.hid (show w.heap.size<v2.heap.size from Nat.lt_of_lt_of_le VV.out hgrow.size);clear hown hgrow) | fail);refine(rm.out _).mono ?_;rintro e w3 ⟨A3,k3,c3,rfl,hr,hk,hc,hb⟩;have Zu:=Lib.hid (bW.out.trans (hb.mono (Nat.le_of_lt Uq.out)))
 obtain⟨D3,hown,hput⟩:=(RK.out.below hb).put Xm (set:=XA) (hr.keep (ag.refl (X':=fun b=>b≠w.heap.size∧w.heap.size≤b) (fun b h=>by have:=Uq.out;omega))) hc;have V1:=Lib.hid (show w.heap.size<w3.heap.size from Nat.lt_of_lt_of_le Uq.out hb.size);have tJ:=Lib.hid hown;have jP:=Lib.hid hput;clear hr hk hc hb hown hput;go_wp2_with (first | (refine bL _ rfl (.tmp 8) _ _ 128 rfl 9 44 iy Tryz.underlying128 Raw w.heap.size 3 _ rfl tJ.out (by unfold maxLen;omega) _ _ _ rfl rfl HK3.out (.held (.slice A3 k3 c3)) [] rfl ?_;intro v3 hown hgrow;have Zb:=Lib.hid (jP.out v3 hown hgrow).1;have eM:=Lib.hid (Zu.out.trans ((jP.out v3 hown hgrow).2.to (Nat.le_of_lt V1.out) (Nat.le_refl _)));have Xh:=Lib.hid (show w.heap.size<v3.heap.size from Nat.lt_of_lt_of_le V1.out hgrow.size);clear hown hgrow) | fail);refine(zO.out _).mono ?_;rintro e w4 ⟨A4,k4,c4,rfl,hr,hk,hc,hb⟩;have acm:=Lib.hid (eM.out.trans (hb.mono (Nat.le_of_lt Xh.out)));obtain⟨D4,hown,hput⟩:=(Zb.out.below hb).put Wx (set:=UO) (hr.keep (ag.refl (X':=fun b=>b≠w.heap.size∧w.heap.size≤b) (fun b h=>by have:=Xh.out;omega))) hc;have WL:=Lib.hid (show w.heap.size<w4.heap.size from Nat.lt_of_lt_of_le Xh.out hb.size);have sx:=Lib.hid hown;have TY:=Lib.hid hput;clear hr hk hc hb hown hput
 go_wp2_with (first | (refine bL _ rfl (.tmp 8) _ _ 128 rfl 9 44 iy Tryz.underlying128 Raw w.heap.size 4 _ rfl sx.out (by unfold maxLen;omega) _ _ _ rfl rfl HK4.out (.held (.slice A4 k4 c4)) [] rfl ?_;intro v4 hown hgrow;have Uw:=Lib.hid (TY.out v4 hown hgrow).1;have eK:=Lib.hid (acm.out.trans ((TY.out v4 hown hgrow).2.to (Nat.le_of_lt WL.out) (Nat.le_refl _)));have HL5:=Lib.hid (show w.heap.size<v4.heap.size from Nat.lt_of_lt_of_le WL.out hgrow.size);clear hown hgrow) | fail);refine(tc.out _).mono ?_;rintro e w5 ⟨A5,k5,c5,rfl,hr,hk,hc,hb⟩;have ab3:=Lib.hid (eK.out.trans (hb.mono (Nat.le_of_lt HL5.out)));obtain⟨D5,hown,hput⟩:=(Uw.out.below hb).put X4 (set:=Ze) (hr.keep (ag.refl (X':=fun b=>b≠w.heap.size∧w.heap.size≤b) (fun b h=>by have:=HL5.out;omega))) hc;have Xv:=Lib.hid (show w.heap.size<w5.heap.size from Nat.lt_of_lt_of_le HL5.out hb.size);have yF:=Lib.hid hown;have XO:=Lib.hid hput;clear hr hk hc hb hown hput;go_wp2_with (first | (refine bL _ rfl (.tmp 8) _ _ 128 rfl 9 44 iy Tryz.underlying128 Raw w.heap.size 5 _ rfl yF.out (by unfold maxLen;omega) _ _ _ rfl rfl HK5.out (.held (.slice A5 k5 c5)) [] rfl ?_;intro v5 hown hgrow;have Uf:=Lib.hid (XO.out v5 hown hgrow).1;have iS:=Lib.hid (ab3.out.trans ((XO.out v5 hown hgrow).2.to (Nat.le_of_lt Xv.out) (Nat.le_refl _)));have ZM:=Lib.hid (show w.heap.size<v5.heap.size from Nat.lt_of_lt_of_le Xv.out hgrow.size);clear hown hgrow) | fail);refine(FA.out _).mono ?_;rintro e w6 ⟨A6,k6,c6,rfl,hr,hk,hc,hb⟩;have abj:=Lib.hid (iS.out.trans (hb.mono (Nat.le_of_lt ZM.out)))
 obtain⟨D6,hown,hput⟩:=(Uf.out.below hb).put Xo (set:=YN) (hr.keep (ag.refl (X':=fun b=>b≠w.heap.size∧w.heap.size≤b) (fun b h=>by have:=ZM.out;omega))) hc;have U8:=Lib.hid (show w.heap.size<w6.heap.size from Nat.lt_of_lt_of_le ZM.out hb.size);have Cs:=Lib.hid hown;have HP6:=Lib.hid hput;clear hr hk hc hb hown hput;go_wp2_with (first | (refine bL _ rfl (.tmp 8) _ _ 128 rfl 9 44 iy Tryz.underlying128 Raw w.heap.size 6 _ rfl Cs.out (by unfold maxLen;omega) _ _ _ rfl rfl HK6.out (.held (.slice A6 k6 c6)) [] rfl ?_;intro v6 hown hgrow;have ZT:=Lib.hid (HP6.out v6 hown hgrow).1;have mW:=Lib.hid (abj.out.trans ((HP6.out v6 hown hgrow).2.to (Nat.le_of_lt U8.out) (Nat.le_refl _)));have HL7:=Lib.hid (show w.heap.size<v6.heap.size from Nat.lt_of_lt_of_le U8.out hgrow.size);clear hown hgrow) | fail);refine(IV.out _).mono ?_;rintro e w7 ⟨A7,k7,c7,rfl,hr,hk,hc,hb⟩;have abH:=Lib.hid (mW.out.trans (hb.mono (Nat.le_of_lt HL7.out)));obtain⟨D7,hown,hput⟩:=(ZT.out.below hb).put Wq (set:=Zd) (hr.keep (ag.refl (X':=fun b=>b≠w.heap.size∧w.heap.size≤b) (fun b h=>by have:=HL7.out;omega))) hc;have Wn:=Lib.hid (show w.heap.size<w7.heap.size from Nat.lt_of_lt_of_le HL7.out hb.size);have Pa:=Lib.hid hown;have HP7:=Lib.hid hput;clear hr hk hc hb hown hput
 go_wp2_with (first | (refine bL _ rfl (.tmp 8) _ _ 128 rfl 9 44 iy Tryz.underlying128 Raw w.heap.size 7 _ rfl Pa.out (by unfold maxLen;omega) _ _ _ rfl rfl HK7.out (.held (.slice A7 k7 c7)) [] rfl ?_;intro v7 hown hgrow;have UI:=Lib.hid (HP7.out v7 hown hgrow).1;have yR:=Lib.hid (abH.out.trans ((HP7.out v7 hown hgrow).2.to (Nat.le_of_lt Wn.out) (Nat.le_refl _)));have HL8:=Lib.hid (show w.heap.size<v7.heap.size from Nat.lt_of_lt_of_le Wn.out hgrow.size);clear hown hgrow) | fail);refine(SU.out _).mono ?_;rintro e w8 ⟨A8,k8,c8,rfl,hr,hk,hc,hb⟩;have abF:=Lib.hid (yR.out.trans (hb.mono (Nat.le_of_lt HL8.out)));obtain⟨D8,hown,hput⟩:=(UI.out.below hb).put VE (set:=YV) (hr.keep (ag.refl (X':=fun b=>b≠w.heap.size∧w.heap.size≤b) (fun b h=>by have:=HL8.out;omega))) hc;have X8:=Lib.hid (show w.heap.size<w8.heap.size from Nat.lt_of_lt_of_le HL8.out hb.size);have Pu:=Lib.hid hown;have Gk:=Lib.hid hput;clear hr hk hc hb hown hput
 go_wp2_with (first | (refine bL _ rfl (.tmp 8) _ _ 128 rfl 9 44 iy Tryz.underlying128 Raw w.heap.size 8 _ rfl Pu.out (by unfold maxLen;omega) _ _ _ rfl rfl HK8.out (.held (.slice A8 k8 c8)) [] rfl ?_;intro v8 hown hgrow;have TI:=Lib.hid (Gk.out v8 hown hgrow).1;have fN:=Lib.hid (abF.out.trans ((Gk.out v8 hown hgrow).2.to (Nat.le_of_lt X8.out) (Nat.le_refl _)));have V0:=Lib.hid (show w.heap.size<v8.heap.size from Nat.lt_of_lt_of_le X8.out hgrow.size);clear hown hgrow;obtain⟨D9,u9,q9,hown,lz,Wi,hpost⟩:=TI.out.ask s;have jw:=Lib.hid hown;have HA9:=Lib.hid lz;have SE:=Lib.hid Wi;have HP9:=Lib.hid hpost;clear hown lz Wi hpost) | (at_lookup;refine wM rfl (.tmp 36) (.tmp 37) 128 44 rfl Tryz.underlying128 (z:=.slice none 0 0) (J' _) w.heap.size 9 D9 rfl jw.out s rfl HS.out u9 q9 HA9.out SE.out ?_) | fail);go_ret2;have hp:=HP9.out;unfold oX;change (match wS s with | some set=>_ | none=>_)at hp;cases hT:wS s with
 | none=>
  rw [hT]at hp;obtain⟨rfl,rfl⟩:=hp;exact⟨rfl,fN.out⟩
 | some set=>
  rw [hT]at hp;obtain⟨rfl,A,k,c,rfl,h1,h2⟩:=hp;exact⟨⟨A,k,c,rfl,h1.keep (ag.refl (fun b h=>h.2)),h2⟩,fN.out⟩
end Go.Proofs.YtapechjebkjidaaGreatDoor
namespace Go.Proofs.YtapechjebkjidaaGreatDoor
open Go.RowKit
theorem Qa {w:World} {g:Nat} {t:TypeId} {c c':Array Value} (h:ak w g t c):ak (w.setRow g c') g t c':=setRow_heap w g c c' t (0,0) h
theorem IY (w:World) (g:Nat) (c:Array Value):bM w g (w.setRow g c):=⟨by simp,rfl,rfl,rfl,fun k _ hne=>setRow_other w g k c hne⟩
section
variable {ops : Array Oper} {rest : List Oper} {o : Oper} {a : Act} {w : World} {Q : Exit → Act → World → Prop} {ty t : TypeId} {x y : Operand} {g : Nat}
theorem wpList_load_row {cs:Array Value} (hgd:o.guard=none) (ho:o.op=.load ty x) (hu:∃ fs,Tryz.prog.underlying ty=some (.struct fs)) (hi:(Tryz.prog.info? ty).map (·.size)=some cs.size)
    (hx:a.eval x=.pointer (some ⟨g,0,none⟩)) (hb:ak w g t cs) (h:wpList Tryz.prog ops Q rest (a.put o.dst (.agg cs)) w):wpList Tryz.prog ops Q (o::rest) a w:=by
 obtain⟨fs,hu⟩:=hu;refine wpList_plain hgd fun K hK=>?_;have hr:(execOp a.eval o).run Tryz.prog w=.ok (.value (.agg cs)) w:=by
  unfold execOp;rw [ho];simp only [hx,Instr.loadAt,Instr.sureAddr,Sem.run_bind,Sem.run_pure,Result.andThen,run_loadVar_row w g t ty cs (0,0) (.struct fs) hb hu rfl hi]
 unfold Oper.wp;rw [hr];exact hK _ _ h
theorem wpList_store_row {c vs:Array Value} (hgd:o.guard=none) (ho:o.op=.store ty x y) (hi:(Tryz.prog.info? ty).map (·.size)=some vs.size) (hs:c.size=vs.size) (h1:vs.all (·.oneCell')=true)
    (hx:a.eval x=.pointer (some ⟨g,0,none⟩)) (hy:a.eval y=.agg vs) (hb:ak w g t c) (h:wpList Tryz.prog ops Q rest (a.put o.dst undef) (w.setRow g vs)):wpList Tryz.prog ops Q (o::rest) a w:=by
 refine wpList_plain hgd fun K hK=>?_;have hr:(execOp a.eval o).run Tryz.prog w=.ok .skip (w.setRow g vs):=by
  unfold execOp;rw [ho];simp only [hx,hy,Instr.storeAt,Instr.sureAddr,Sem.run_bind,Sem.run_pure,Result.andThen,run_storeVar_row w g t ty c vs hb hi hs h1]
 unfold Oper.wp;rw [hr];exact hK _ _ h
theorem lN {fn:Func} {p:Tmp} {tmps:Array Value} {cs:Array Value} (h:fn.results = #[.cell p ty]) (hp:tmps.getD p undef=.pointer (some ⟨g,0,none⟩)) (hu:∃ fs,Tryz.prog.underlying ty=some (.struct fs)) (hi:(Tryz.prog.info? ty).map (·.size)=some cs.size) (hb:ak w g t cs) :
    (results fn tmps).run Tryz.prog w=.ok (.agg cs) w:=by
 obtain⟨fs,hu⟩:=hu;have hl:=run_loadVar_row w g t ty cs (0,0) (.struct fs) hb hu rfl hi;have hp2:tmps[p]?.getD undef=.pointer (some ⟨g,0,none⟩):=(by simpa using hp);simp only [results,h];simp [hp2,asAddr,hl]
end
end Go.Proofs.YtapechjebkjidaaGreatDoor
