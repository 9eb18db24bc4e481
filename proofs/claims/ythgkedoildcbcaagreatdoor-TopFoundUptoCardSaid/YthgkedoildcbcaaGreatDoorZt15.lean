/- SetsRef + Env + SetsSyn + RuleRef + RuleSyn -/
import Derived.Test.YthgkedoildcbcaaGreatDoorZt6
import Derived.Test.YthgkedoildcbcaaGreatDoorZt11
import Derived.Lib.Strings
import Derived.Deep.DeepCutAuto
import Derived.Test.YthgkedoildcbcaaGreatDoorZt9
import Derived.Test.YthgkedoildcbcaaGreatDoorZt5
import Derived.Maps.OwnSet
import Derived.StringKeys
set_option maxHeartbeats 6400000
set_option maxRecDepth 100000
namespace Go.Proofs.YthgkedoildcbcaaGreatDoor
open Go.RowKit
theorem Mh:(Tryz.prog.info? 41).map (fun i=>(i.zero,i.size,i.bytes))=some (some (.slice none 0 0),1,24):=by kernel_rfl
def N9 (B lo:Nat) (v:Value) (b:Nat):Prop:=Fr B lo b∧v.ownBlock≠some b
def lV (w:World) (B:Nat) (ll:List ag) (v:Value) (wx:World):Prop:=dH (mF wx (N9 B w.heap.size v)) 41 1 wx w.heap.size v ll∧Below w.heap.size w wx
section
variable {w wx w2 : World} {B : Nat} {ll : List ag} {v v' : Value}
theorem lV.nil (w:World) (B:Nat):lV w B [] (.slice none 0 0) w:=⟨dH.nil _ _,Below.refl _ _⟩
theorem lV.alloc (h:lV w B ll v wx) (o:Obj):lV w B ll v (wx.alloc o) :=
  ⟨h.1.kept (fun _ _ h=>World.ownsRow.alloc h o) (fun _ _ h=>h.keep (af.alloc o (fun _ h _=>h))),h.2.alloc h.2.size o⟩
theorem lV.below (h:lV w B ll v wx) (hb:Below wx.heap.size wx w2):lV w B ll v w2 :=
  ⟨h.1.kept (fun _ _ h=>dy h hb) (fun _ _ h=>h.keep (af.below hb (fun _ h _=>h))),h.2.trans (hb.mono h.2.size)⟩
theorem yM {base sz n:Nat} {e:TypeId} {xs:List Value} (h:wx.ownsRow base e sz v n xs) {b:Nat} (hb:b<base∨wx.heap.size≤b):v.ownBlock≠some b:=fun e=>by
 have:=aQ h e;omega
theorem lV.push {css:List (List Value)} {s:ag} {u:Value} {t:TypeId} (h1:css.length=ll.length) (h2:∀ (i:Nat) (a:ag) (cs:List Value),ll[i]? = some a→css[i]? = some cs→mF wx (N9 B w.heap.size v) a cs) (h3:∀ cs∈css,cs.length=1)
    (h4:wx.ownsRow w.heap.size 41 1 v ll.length css.flatten) (hb:Below w.heap.size w wx) (hu:iN wx (N9 B w.heap.size v) s u)
    (ha:aR w.heap.size 41 1 v (wx.alloc (.cells #[u] t)) (ll.length+1) (css.flatten++[u]) v' w2):lV w B (ll++[s]) v' w2:=by
 have hk:af wx (N9 B w.heap.size v) w2 (N9 B w.heap.size v'):=by
  refine(af.alloc (.cells #[u] t) (fun _ h _=>h)).trans (af.app (X':=fun b=>N9 B w.heap.size v' b) ha (fun b hx=>hx.2) (fun b hx hl=>⟨hx.1,?_⟩));rcases ha.2.2 with e | e
  ·rw [e];exact hx.2
  rw [e];intro he;injection he with he;omega
 refine⟨dH.push h1 h2 h3 (fun _ _ h=>h.keep hk) ⟨u,rfl,hu.keep hk⟩ rfl ha,?_⟩;exact(hb.alloc hb.size (.cells #[u] t)).trans (ha.below (hb.alloc hb.size (.cells #[u] t)).size (World.ownsRow.alloc h4 _))
end
def Lj (w:World) (B lo:Nat) (r:Option (List ag)) (e:Ending):Prop :=
  match r with
  | some ll=>∃ u,e=.returned (.tuple #[u,.bool true])∧fq w (Fr B lo) ll u
  | none=>e=.returned (.tuple #[.slice none 0 0,.bool false])
theorem lV.post {w wx:World} {B:Nat} {ll:List ag} {v:Value} (h:lV w B ll v wx) (hl:ll.length≤maxLen):fq wx (Fr B w.heap.size) ll v:=by
 obtain⟨A,c,rfl,_⟩:=h.1.form;refine⟨A,_,c,rfl,dH.done h.1 (fun _ _ h=>h.keep (af.refl (fun _ h=>h.1))) (fun b hb=>.inr ?_),hl⟩;obtain⟨css,_,_,_,h4⟩:=h.1;exact(aQ h4 hb).1
def Rm (w:World) (B:Nat) (l:List aF) (L:List aE) (n:Nat) (out i:Value) (wr:World):Prop :=
  ∃ (k:Nat) (ll:List ag),k≤n∧i=.int .i64 k∧cC l (L.take k)=some ll∧lV w B ll out wr
end Go.Proofs.YthgkedoildcbcaaGreatDoor
namespace Go.Proofs.YthgkedoildcbcaaGreatDoor
open Go.RowKit Go.Maps
def gu (w:World) (X:Nat→Prop) (mb n:Nat) (l:List aF):Prop :=
  ∃ D:DataW Value,w.ownsMap Tryz.prog 9 Raw mb n D∧IsMap D∧∀ s:ByteArray,match gA l s with
    | some set=>∃ u,D.atKey (fA s) vt=.held u∧has D (fA s)=true∧iN w X set u
    | none=>D.atKey (fA s) vt=vt∧has D (fA s)=false
theorem gu.keep {w w':World} {X X':Nat→Prop} {mb n:Nat} {l:List aF} (hk:af w X w' X') (hm:w'.heap[mb]? = w.heap[mb]?) (h:gu w X mb n l):gu w' X' mb n l:=by
 obtain⟨D,⟨es,clock,h1,h2⟩,h3,h4⟩:=h;refine⟨D,⟨es,clock,hm.trans h1,h2⟩,h3,fun s=>?_⟩;have:=h4 s;cases hl:gA l s with
 | none=>rw [hl]at this;exact this
 | some set=>
  rw [hl]at this;obtain⟨u,g1,g2,g3⟩:=this;exact⟨u,g1,g2,g3.keep hk⟩
theorem gu.lt {w:World} {X:Nat→Prop} {mb n:Nat} {l:List aF} (h:gu w X mb n l):mb<w.heap.size:=by
 obtain⟨D,h1,_⟩:=h;exact h1.lt
theorem gu.made (w:World) (X:Nat→Prop):gu (w.alloc (.map #[] 0)) X w.heap.size 0 [] :=
  ⟨.map [],World.ownsMap_made _ _ _ _,isMap_empty,fun s=>⟨by simp [DataW.atKey],by simp [has]⟩⟩
theorem yK (l:List aF) (p:aF) (s:ByteArray):gA (l++[p]) s=match gA l s with
    | some x=>some x
    | none=>if p.kind=1∧p.name=s then some p.set else none:=by
 induction l with
 | nil=>simp [gA]
 | cons q l ih=>
  rw [List.cons_append,gA,gA];by_cases h:q.kind=1∧q.name=s
  ·rw [if_pos h,if_pos h]
  rw [if_neg h,if_neg h,ih]
theorem gu.put {w w':World} {X:Nat→Prop} {mb n:Nat} {l:List aF} {p:aF} {u:Value} {D:DataW Value} (hD:IsMap D)
    (h4:∀ s:ByteArray,match gA l s with
      | some set=>∃ u,D.atKey (fA s) vt=.held u∧has D (fA s)=true∧iN w X set u
      | none=>D.atKey (fA s) vt=vt∧has D (fA s)=false)
    (hp:p.kind=1) (hno:gA l p.name=none) (hu:iN w X p.set u) (hk:af w X w' X)
    (hown:w'.ownsMap Tryz.prog 9 Raw mb n (D.put (fA p.name) (.held u))):gu w' X mb n (l++[p]):=by
 refine⟨_,hown,hD.put _ _,fun s=>?_⟩;rw [yK];by_cases hs:p.name=s
 ·subst hs;rw [hno];dsimp only;rw [if_pos ⟨hp,rfl⟩];exact⟨u,atKey_put_same hD (vX _) _ _,has_put_same hD (vX _) _,hu.keep hk⟩
 have hne:fA s≠fA p.name:=fun e=>hs (Dt e).symm;have:=h4 s;cases hl:gA l s with
 | none=>
  rw [hl]at this;dsimp only;rw [if_neg (fun h=>hs h.2),atKey_put_other hne,has_put_other hne];exact this
 | some set=>
  rw [hl]at this;obtain⟨v,g1,g2,g3⟩:=this;dsimp only;exact⟨v,by rw [atKey_put_other hne];exact g1,by rw [has_put_other hne];exact g2,g3.keep hk⟩
theorem gu.other {w:World} {X:Nat→Prop} {mb n:Nat} {l:List aF} {p:aF} (h:gu w X mb n l) (hp:p.kind≠1):gu w X mb n (l++[p]):=by
 obtain⟨D,h1,h2,h3⟩:=h;refine⟨D,h1,h2,fun s=>?_⟩;have:=h3 s;rw [yK];cases hl:gA l s with
 | none=>rw [hl]at this;dsimp only;rw [if_neg (fun h=>hp h.1)];exact this
 | some set=>rw [hl]at this;exact this
theorem nY {w:World} {ops:Array Oper} {rest:List Oper} {o:Oper} {a:Act} {Q:Exit→Act→World→Prop} (hg:o.guard=none) (m x:Operand) (hop:o.op=Op.lookup 137 m x true)
    (mb n:Nat) (D:DataW Value) (hm:a.eval m=.map (some mb)) (hown:w.ownsMap Tryz.prog 9 Raw mb n D) (s:ByteArray) (hx:a.eval x=.string s) (hs:s.size≤maxLen) (u:Value) (b:Bool)
    (h1:D.atKey (fA s) vt=.held u) (h2:has D (fA s)=b) (hK:wpList Tryz.prog ops Q rest (a.put o.dst (.tuple #[u,.bool b])) w):wpList Tryz.prog ops Q (o::rest) a w :=
  wpList_lookup_own_ok w hg m x _ hop 9 41 iJ Tryz.underlying137 Raw (OZ w) vt [] rfl mb n D hm hown (.string s) (fA s) hx (kf hs) (fun v ps hv=>by
    rw [h1]at hv
    unfold Raw at hv
    injection hv with hv
    injection hv with hv
    injection hv with hv
    subst hv
    rw [h2]
    exact hK)
theorem qd (A:Option Addr) (n c B:Nat) (s:ag) (w:World) (h:Rd w B 2 A n (an s)) (hn:n≤1000) :
    Calls Tryz.prog 66 #[.slice A n c] w fun e w'=>(∃ u,e=.returned u∧iN w' (fun b=>w.heap.size≤b) s u)∧Below w.heap.size w w':=by
 obtain⟨i0,hi,hz0,xK,yW⟩:=info_parts jZ;have q22:∀ (w:World) (a:Option Addr) (n c n' c':Nat),(binOp .eql 41 (.slice a n c) (.slice none n' c')).run Tryz.prog w=.ok (.bool a.isNone) w:=fun w a n c n' c'=>Lib.run_eql_slice_nil w _ _ a n c n' c' Tryz.underlying41;have H:=qqh h;clear h;cases A with
 | none=>
  have hn0:n=0:=by
   rcases Nat.eq_zero_or_pos n with h0 | h0;exact h0;obtain⟨_,_,e,_⟩:=H.out.2 h0;cases e
  subst hn0;go_enter Tryz.func66,Tryz.ntmps66;go_wp2_with fail;go_ret;exact⟨⟨_,rfl,none,0,0,rfl,⟨H.out.1,fun h=>absurd h (Nat.lt_irrefl 0)⟩,Nat.zero_le _⟩,Below.refl _ _⟩
 | some ad=>
  have HO:=qqh (pN w 77 2 w.heap.size w.heap.size rfl (Nat.le_refl _));have HB:=qqh ((Below.refl w.heap.size w).alloc (Nat.le_refl _) (.cells #[] 77));have HR:=qqh (Rd.more (Rd.below (B:=min B w.heap.size) ⟨H.out.1,fun h=>by
   obtain⟨b,off,e,_,hc⟩:=H.out.2 h;obtain⟨u,hu⟩:∃ u,(an s)[0]? = some u:=⟨_,List.getElem?_eq_getElem (by have:=H.out.1;omega)⟩;have hl:=World.block_lt_of_cell? w _ (hc 0 u hu);exact⟨b,off,e,by dsimp only at hl;omega,hc⟩⟩ (HB.out.mono (Nat.min_le_right _ _))) (Nat.le_refl _))
  go_enter Tryz.func66,Tryz.ntmps66;go_wp2_with (at_builtin;refine ak _ rfl (.tmp 5) (.tmp 6) 41 rfl w.heap.size 77 i0 _ 2 8 Tryz.underlying41 hi hz0 xK yW rfl (by decide) _ _ _ rfl HO.out _ (some ad) n c (an s) rfl HR.out (mE s) (by simp only [maxLen];omega) (by omega) (by simp) ?_);intro v' w' au;have ho:=au.own;obtain⟨A2,c2,rfl,_⟩:=aI ho;have bG:=qqh (HB.out.trans (au.below (by simp) HO.out));have HV:=qqh (show iN w' (fun b=>w.heap.size≤b) s (.slice A2 n c2) from⟨A2,n,c2,rfl,bW.cy ho (fun b hb=>(aQ ho hb).1),by unfold maxLen;omega⟩);clear au ho;go_wp2_with fail;go_ret;exact⟨⟨_,rfl,HV.out⟩,bG.out⟩
end Go.Proofs.YthgkedoildcbcaaGreatDoor
namespace Go.Proofs.YthgkedoildcbcaaGreatDoor
open Go.RowKit Go.Maps
theorem pW {l:ag} (h:bS l=0):l.length≤200:=by
 unfold bS at h;by_cases h2:200<l.length
 ·rw [if_pos h2]at h;cases h
 omega
theorem Lu (mb nm:Nat) (LP:List aF) (A2:Option Addr) (n2 c2:Nat) (L:List aE) (w:World) (B:Nat) (hB:B≤w.heap.size) (hE:gu w (· < B) mb nm LP) (Nz:∀ s set,gA LP s=some set→set.length≤200) (hL:bU w B A2 n2 L) (hok:cG L=0) :
    Calls Tryz.prog 93 #[.map (some mb),.slice A2 n2 c2] w fun e w'=>Lj w' B w.heap.size (cC LP L) e∧Below w.heap.size w w':=by
 obtain⟨i0,hi,hz0,xK,yW⟩:=info_parts Mh;obtain⟨h20,hall⟩:=DF hok;have aaS:n2≤20:=(by rw [← kW.len hL];exact h20);have hmb:=hE.lt;have aV:=qqh (kW.len hL);have HL:=qqh hL;have HA:=qqh hall;have HE:=qqh hE;have GH:=qqh Nz;clear hL hok h20 hall hE Nz;go_enter Tryz.func93,Tryz.ntmps93;go_wp2_with fail;go_loopw [6,13] (Rm w B LP L n2) (fun _ i _=>n2 - (intOf i).toNat);(case atStart=>exact⟨0,[],Nat.zero_le _,rfl,rfl,lV.nil w B⟩);obtain⟨k,ll,hk,rfl,aX,hst⟩:=hrel;have Zc:=Jr aX;have ahG:ll.length≤k:=(by rw [Zc];exact List.length_take_le _ _);clear Zc;have hz:=hst.2.size;by_cases hlt:k<n2
 ·obtain⟨a,ha⟩:∃ z,L[k]? = some z:=⟨_,List.getElem?_eq_getElem (by rw [aV.out];exact hlt)⟩;have hka:=Fh (HA.out a (List.mem_of_getElem? ha));obtain⟨b,off,A',n',c',rfl,dL,f0,f1,f2,f3,zJ,hn',_,hnm⟩:=wK HL.out ha;have kY:b<w.heap.size:=(by omega);have d0:=(hst.2.cell (p:=⟨b,off+k*4,none⟩) kY).trans f0;have d1:=(hst.2.cell (p:=⟨b,off+k*4+1,none⟩) kY).trans f1;have d2:=(hst.2.cell (p:=⟨b,off+k*4+2,none⟩) kY).trans f2;have d3:=(hst.2.cell (p:=⟨b,off+k*4+3,none⟩) kY).trans f3;clear f0 f1 f2 f3;have UR:=qqh zJ;have jF:=qqh (lV.alloc hst (.cells #[.int .i64 a.kind,.int .i32 a.rune,.slice A' n' c',.string a.name] 171));have Oe:=qqh (ai.new wr 171 #[.int .i64 a.kind,.int .i32 a.rune,.slice A' n' c',.string a.name]);have dY:=qqh aX;have qI:=qqh ha;clear zJ hn' aX hst;rcases hka with ⟨hk1,hk2⟩ | ⟨hk1,hk2⟩ | ⟨hk1,hk2⟩
  ·have rI:=qqh (show vA LP a=some [(a.rune,a.rune)] by unfold vA;rw [if_pos hk1]);have q1:(a.kind == 1)=true:=(by rw [hk1];rfl);clear hk1 hk2;have NV:=lV.alloc jF.out (.cells #[.int .i32 a.rune,.int .i32 a.rune] 77);have hux:=bW.new (w:=wr.alloc (.cells #[.int .i64 a.kind,.int .i32 a.rune,.slice A' n' c',.string a.name] 171)) (X:=N9 B w.heap.size u6) (n:=1) (sz:=2) 77 [.int .i32 a.rune,.int .i32 a.rune] rfl (by
    obtain⟨⟨css,g1,g2,g3,g4⟩,g5⟩:=jF.out;exact⟨.inr g5.size,yM g4 (.inr (Nat.le_refl _))⟩)
   rw [show(wr.alloc (.cells #[.int .i64 a.kind,.int .i32 a.rune,.slice A' n' c',.string a.name] 171)).heap.size=wr.heap.size+1 by simp]at hux;have HU:=qqh (show iN ((wr.alloc (.cells #[.int .i64 a.kind,.int .i32 a.rune,.slice A' n' c',.string a.name] 171)).alloc (.cells #[.int .i32 a.rune,.int .i32 a.rune] 77)) (N9 B w.heap.size u6) [(a.rune,a.rune)] (.slice (some ⟨wr.heap.size+1,0,none⟩) 1 1) from⟨_,_,_,rfl,hux,by decide⟩);have QW:=qqh NV;clear NV hux;obtain⟨⟨css,g1,g2,g3,g4⟩,g5⟩:=QW.out;have hN:=Rd.new ((wr.alloc (.cells #[.int .i64 a.kind,.int .i32 a.rune,.slice A' n' c',.string a.name] 171)).alloc (.cells #[.int .i32 a.rune,.int .i32 a.rune] 77)) 41 1 1 [.slice (some ⟨wr.heap.size+1,0,none⟩) 1 1] rfl;rw [show((wr.alloc (.cells #[.int .i64 a.kind,.int .i32 a.rune,.slice A' n' c',.string a.name] 171)).alloc (.cells #[.int .i32 a.rune,.int .i32 a.rune] 77)).heap.size=wr.heap.size+1+1 by simp]at hN;have HN:=qqh hN;have HO:=qqh (World.ownsRow.alloc g4 (.cells #[.slice (some ⟨wr.heap.size+1,0,none⟩) 1 1] 41));have HZ:=qqh ((g5.alloc g5.size (.cells #[.slice (some ⟨wr.heap.size+1,0,none⟩) 1 1] 41)).size);have G1:=qqh g1;have G2:=qqh g2;have G3:=qqh g3;have G4:=qqh g4;have G5:=qqh g5;clear g1 g2 g3 g4 g5 hN;go_wp2_with (at_builtin;refine ak _ rfl (.tmp 35) (.tmp 42) 66 rfl w.heap.size 41 i0 _ 1 24 Tryz.underlying66 hi hz0 xK yW rfl (by decide) _ _ _ rfl HO.out _ (some ⟨wr.heap.size+1+1,0,none⟩) 1 1 [.slice (some ⟨wr.heap.size+1,0,none⟩) 1 1] rfl HN.out ?one1 (by simp only [maxLen];omega) (by omega) HZ.out ?_);(case one1=>intro x hx;simp at hx;subst hx;rfl);intro v9 w9 au
   have fB:=qqh (lV.push G1.out G2.out G3.out G4.out G5.out HU.out au);clear au;go_wp2_with fail;exact⟨⟨k+1,ll++[_],by omega,by go_num,qY qI.out dY.out rI.out,fB.out⟩,by simp [intOf];omega⟩
  ·have rI:=qqh (show vA LP a=some a.set by unfold vA;rw [hk1,if_neg (by decide),if_pos rfl]);have q1:(a.kind == 1)=false:=(by rw [hk1];rfl);have q2:(a.kind == 2)=true:=(by rw [hk1];rfl);have E6:=pW hk2;have hlen:=nD.len UR.out;have hn2:n'≤1000:=(by omega);clear hk1 hk2 hlen E6;go_wp2_with fail;refine(qd A' n' c' B a.set _ (Rd.below UR.out (jF.out.2.mono hB)) hn2).mono ?_;rintro e wx ⟨⟨u,rfl,hu⟩,hb⟩;have QW:=qqh (lV.below jF.out hb);have PZ:=hu;obtain⟨A7,n7,c7,rfl,_⟩:=PZ;have HU:=qqh (show iN wx (N9 B w.heap.size u6) a.set (.slice A7 n7 c7) from iN.keep (af.refl (fun b hb=>by
    have g:=jF.out;obtain⟨⟨css,g1,g2,g3,g4⟩,g5⟩:=g;exact⟨.inr (Nat.le_trans g5.size hb),yM g4 (.inr hb)⟩)) hu)
   clear hu hb;obtain⟨⟨css,g1,g2,g3,g4⟩,g5⟩:=QW.out;have HN:=qqh (Rd.new wx 41 1 1 [(.slice A7 n7 c7)] rfl);have HO:=qqh (World.ownsRow.alloc g4 (.cells #[(.slice A7 n7 c7)] 41));have HZ:=qqh (Nat.le_trans g5.size (show wx.heap.size≤(wx.alloc (.cells #[(.slice A7 n7 c7)] 41)).heap.size by simp));have G1:=qqh g1;have G2:=qqh g2;have G3:=qqh g3;have G4:=qqh g4;have G5:=qqh g5;clear g1 g2 g3 g4 g5;go_wp2_with (at_builtin;refine ak _ rfl (.tmp 46) (.tmp 50) 66 rfl w.heap.size 41 i0 _ 1 24 Tryz.underlying66 hi hz0 xK yW rfl (by decide) _ _ _ rfl HO.out _ (some ⟨wx.heap.size,0,none⟩) 1 1 [(.slice A7 n7 c7)] rfl HN.out ?one2 (by simp only [maxLen];omega) (by omega) HZ.out ?_);(case one2=>intro x hx;simp at hx;subst hx;rfl);intro v9 w9 au;have fB:=qqh (lV.push G1.out G2.out G3.out G4.out G5.out HU.out au);clear au;go_wp2_with fail;exact⟨⟨k+1,ll++[_],by omega,by go_num,qY qI.out dY.out rI.out,fB.out⟩,by simp [intOf];omega⟩
  have hsp:vA LP a=gA LP a.name:=(by unfold vA;rw [hk1,if_neg (by decide),if_neg (by decide)]);have q1:(a.kind == 1)=false:=(by rw [hk1];rfl);have q2:(a.kind == 2)=false:=(by rw [hk1];rfl);clear hk1 hk2;have he1:=gu.keep (X':=(· < B)) (af.below jF.out.2 (fun _ h _=>h)) (jF.out.2.block mb hmb) HE.out;obtain⟨D,hD,_,lY⟩:=he1;have lY:=lY a.name;have HD:=qqh hD;clear hD;cases hlk:gA LP a.name with
  | none=>
   rw [hlk]at lY;have rI:=qqh (hsp.trans hlk);have R4:=qqh lY.1;have Rq:=qqh lY.2;clear hsp hlk lY;go_wp2_with (at_lookup;refine nY rfl (.tmp 20) (.tmp 22) rfl mb nm D rfl HD.out a.name rfl hnm (.slice none 0 0) false R4.out Rq.out ?_);go_ret2;rw [FL qI.out rI.out];exact⟨rfl,jF.out.2⟩
  | some s=>
   rw [hlk]at lY;obtain⟨u,h1,h2,h3⟩:=lY;obtain⟨A6,n6,c6,rfl,hrd,_⟩:=h3;have rI:=qqh (hsp.trans hlk);have R4:=qqh h1;have Rq:=qqh h2;have E6:=GH.out a.name s hlk;have F3:Rd (wr.alloc (.cells #[.int .i64 a.kind,.int .i32 a.rune,.slice A' n' c',.string a.name] 171)) B 2 A6 n6 (an s):=bW.rd hrd (fun _ h _=>h);have hlen:=nD.len F3;have hn2:n6≤1000:=(by omega);have oe:=qqh F3;clear hsp hlk h1 h2 hrd E6 F3 hlen;go_wp2_with (at_lookup;refine nY rfl (.tmp 20) (.tmp 22) rfl mb nm D rfl HD.out a.name rfl hnm (.slice A6 n6 c6) true R4.out Rq.out ?_);refine(qd A6 n6 c6 B s _ oe.out hn2).mono ?_;rintro e wx ⟨⟨u,rfl,hu⟩,hb⟩;have QW:=qqh (lV.below jF.out hb);have PZ:=hu;obtain⟨A7,n7,c7,rfl,_⟩:=PZ;have HU:=qqh (show iN wx (N9 B w.heap.size u6) s (.slice A7 n7 c7) from iN.keep (af.refl (fun b hb=>by
    have g:=jF.out;obtain⟨⟨css,g1,g2,g3,g4⟩,g5⟩:=g;exact⟨.inr (Nat.le_trans g5.size hb),yM g4 (.inr hb)⟩)) hu)
   clear hu hb;obtain⟨⟨css,g1,g2,g3,g4⟩,g5⟩:=QW.out;have HN:=qqh (Rd.new wx 41 1 1 [(.slice A7 n7 c7)] rfl);have HO:=qqh (World.ownsRow.alloc g4 (.cells #[(.slice A7 n7 c7)] 41));have HZ:=qqh (Nat.le_trans g5.size (show wx.heap.size≤(wx.alloc (.cells #[(.slice A7 n7 c7)] 41)).heap.size by simp));have G1:=qqh g1;have G2:=qqh g2;have G3:=qqh g3;have G4:=qqh g4;have G5:=qqh g5;clear g1 g2 g3 g4 g5;go_wp2_with (at_builtin;refine ak _ rfl (.tmp 28) (.tmp 31) 66 rfl w.heap.size 41 i0 _ 1 24 Tryz.underlying66 hi hz0 xK yW rfl (by decide) _ _ _ rfl HO.out _ (some ⟨wx.heap.size,0,none⟩) 1 1 [(.slice A7 n7 c7)] rfl HN.out ?one3 (by simp only [maxLen];omega) (by omega) HZ.out ?_);(case one3=>intro x hx;simp at hx;subst hx;rfl);intro v9 w9 au;have fB:=qqh (lV.push G1.out G2.out G3.out G4.out G5.out HU.out au);clear au;go_wp2_with fail;exact⟨⟨k+1,ll++[_],by omega,by go_num,qY qI.out dY.out rI.out,fB.out⟩,by simp [intOf];omega⟩
 obtain rfl:k=n2:=(by omega);rw [List.take_of_length_le (by rw [aV.out];omega)]at aX;have HG:=qqh aX;have HS:=qqh hst;clear aX hst;obtain⟨AO,cO,rfl,_⟩:=HS.out.1.form;go_wp2_with fail;go_ret2;rw [HG.out];exact⟨⟨_,rfl,lV.post HS.out (by unfold maxLen;omega)⟩,HS.out.2⟩
end Go.Proofs.YthgkedoildcbcaaGreatDoor
namespace Go.Proofs.YthgkedoildcbcaaGreatDoor
open Go.RowKit Go.Maps
theorem LQ:(Tryz.prog.info? 21).map (fun i=>(i.zero,i.size,i.bytes))=some (some (.int .i32 0),1,4):=by kernel_rfl
theorem BO {w:World} {B lo:Nat} {r:Option (List ag)} {e:Ending} (h:Lj w B lo r e) :
    ∃ A n c b,e=.returned (.tuple #[.slice A n c,.bool b])∧b=r.isSome∧∀ ll,r=some ll→fq w (Fr B lo) ll (.slice A n c):=by
 cases r with
 | none=>exact⟨none,0,0,false,h,rfl,fun _ h=>by cases h⟩
 | some ll=>
  obtain⟨u,rfl,hu⟩:=h;have PZ:=hu;obtain⟨A,n,c,rfl,_⟩:=PZ;exact⟨A,n,c,true,rfl,rfl,fun _ h=>by cases h;exact hu⟩
abbrev i5:Array Value:=#[.bool false,.bool false,.slice none 0 0,.slice none 0 0,.slice none 0 0,.slice none 0 0,.int .i64 0]
def AN (w:World) (wL vZ:Array Value) (wx:World):Prop :=
  ai wx w.heap.size 95 wL∧ai wx (w.heap.size+1) 95 vZ∧ai wx (w.heap.size+2) 68 i5∧Below w.heap.size w wx
theorem AN.made (w:World) (wL vZ:Array Value):AN w wL vZ (((w.alloc (.cells wL 95)).alloc (.cells vZ 95)).alloc (.cells i5 68)):=by
 refine⟨ai.alloc (ai.alloc (ai.new _ _ _) _) _,?_,?_,(((Below.refl _ _).alloc (Nat.le_refl _) _).alloc (by simp) _).alloc (by simp;omega) _⟩
 ·have:=ai.alloc (ai.new (w.alloc (.cells wL 95)) 95 vZ) (.cells i5 68);simpa using this
 have:=ai.new ((w.alloc (.cells wL 95)).alloc (.cells vZ 95)) 68 i5;simpa using this
theorem AN.below {w wx w2:World} {wL vZ:Array Value} (h:AN w wL vZ wx) (hb:Below wx.heap.size wx w2):AN w wL vZ w2 :=
  ⟨ai.below h.1 hb h.1.lt,ai.below h.2.1 hb h.2.1.lt,ai.below h.2.2.1 hb h.2.2.1.lt,h.2.2.2.trans (hb.mono h.2.2.2.size)⟩
def F5 (w:World) (B lo:Nat) (r:Option aj) (e:Ending):Prop :=
  ∃ cs:List Value,cs.length=7∧e=.returned (.tuple #[.agg cs.toArray,.bool r.isSome])∧(∀ u∈cs,u.oneCell'=true)∧∀ rd,r=some rd→aO w (Fr B lo) rd cs
theorem Lz {L:List aE} {k:Nat} {a:aE} (h:L[k]? = some a):(L.take (k+1)).map (·.rune)=(L.take k).map (·.rune)++[a.rune]:=by
 rw [List.take_add_one,h];simp
theorem sA (l:List aF) (f t:bY):(eY l f t).isSome=((cC l f.before).isSome && (cC l f.source).isSome && (cC l f.after).isSome):=by
 unfold eY;cases cC l f.before <;> cases cC l f.source <;> cases cC l f.after <;> rfl
theorem Ji {l:List aF} {f t:bY} {rd:aj} (h:eY l f t=some rd):∃ a b c,cC l f.before=some a∧cC l f.source=some b∧cC l f.after=some c ∧
    rd=⟨f.start,f.fin,a,b,c,t.source.map (·.rune),if t.aa<0 then (t.source.length:Int)else t.aa⟩:=by
 unfold eY at h;cases h1:cC l f.before with
 | none=>rw [h1]at h;cases h
 | some a=>
  cases h2:cC l f.source with
  | none=>rw [h1,h2]at h;cases h
  | some b=>
   cases h3:cC l f.after with
   | none=>rw [h1,h2,h3]at h;cases h
   | some c=>
    rw [h1,h2,h3]at h;cases h;exact⟨a,b,c,rfl,rfl,rfl,rfl⟩
abbrev Lv (w:World) (g:Nat) (u0 u1 u2 u3 u4 u5 u6:Value):World :=
  ((((((w.setCell ⟨g,0,none⟩ u0).setCell ⟨g,1,none⟩ u1).setCell ⟨g,2,none⟩ u2).setCell ⟨g,3,none⟩ u3).setCell ⟨g,4,none⟩ u4).setCell ⟨g,5,none⟩ u5).setCell ⟨g,6,none⟩ u6
theorem Qo {w:World} {X:Nat→Prop} {g:Nat} (h:∀ b,X b→b≠g) (u0 u1 u2 u3 u4 u5 u6:Value):af w X (Lv w g u0 u1 u2 u3 u4 u5 u6) X:=by
 have one:∀ (w:World) (i:Nat) (u:Value),af w X (w.setCell ⟨g,i,none⟩ u) X:=fun w i u=>af.setCell u (fun b hb=>h b hb) (fun _ h _=>h);exact((((((one _ 0 u0).trans (one _ 1 u1)).trans (one _ 2 u2)).trans (one _ 3 u3)).trans (one _ 4 u4)).trans (one _ 5 u5)).trans (one _ 6 u6)
theorem Cb {w w0:World} {g B:Nat} (h:Below B w0 w) (hg:B≤g) (u0 u1 u2 u3 u4 u5 u6:Value):Below B w0 (Lv w g u0 u1 u2 u3 u4 u5 u6) :=
  ((((((h.setCell hg _).setCell hg _).setCell hg _).setCell hg _).setCell hg _).setCell hg _).setCell hg _
end Go.Proofs.YthgkedoildcbcaaGreatDoor
namespace Go.Proofs.YthgkedoildcbcaaGreatDoor
open Go.RowKit Go.Maps
def kT (w:World) (wL vZ NU arr:Array Value) (wx:World):Prop :=
  ai wx w.heap.size 95 wL∧ai wx (w.heap.size+1) 95 vZ∧ai wx (w.heap.size+2) 68 i5 ∧
  ai wx (w.heap.size+3) 68 NU∧ai wx (w.heap.size+4) 166 arr∧Below w.heap.size w wx
section
variable {w wx w2 : World} {wL vZ NU arr : Array Value}
theorem kT.below (h:kT w wL vZ NU arr wx) (hb:Below wx.heap.size wx w2):kT w wL vZ NU arr w2 :=
  ⟨ai.below h.1 hb h.1.lt,ai.below h.2.1 hb h.2.1.lt,ai.below h.2.2.1 hb h.2.2.1.lt,ai.below h.2.2.2.1 hb h.2.2.2.1.lt,ai.below h.2.2.2.2.1 hb h.2.2.2.2.1.lt,h.2.2.2.2.2.trans (hb.mono h.2.2.2.2.2.size)⟩
theorem kT.alloc (h:kT w wL vZ NU arr wx) (o:Obj):kT w wL vZ NU arr (wx.alloc o):=h.below ((Below.refl _ _).alloc (Nat.le_refl _) o)
theorem kT.put (h:kT w wL vZ NU arr wx) (i:Nat) (u:Value):kT w wL vZ (NU.setIfInBounds i u) arr (wx.setCell ⟨w.heap.size+3,i,none⟩ u) :=
  ⟨av h.1 (by omega),av h.2.1 (by omega),av h.2.2.1 (by omega),h.2.2.2.1.put i u,av h.2.2.2.2.1 (by omega),h.2.2.2.2.2.setCell (by simp) _⟩
theorem kT.app {base sz n m:Nat} {e:TypeId} {v v':Value} {xs ys:List Value} (h:kT w wL vZ NU arr wx) (ho:wx.ownsRow base e sz v n xs) (h1 : 95 ≠ e) (h2 : 68 ≠ e) (h3 : 166 ≠ e) (hb:w.heap.size≤base) (ha:aR base e sz v wx m ys v' w2):kT w wL vZ NU arr w2 :=
  ⟨bM h.1 ho h1 ha,bM h.2.1 ho h1 ha,bM h.2.2.1 ho h2 ha,bM h.2.2.2.1 ho h2 ha,bM h.2.2.2.2.1 ho h3 ha,h.2.2.2.2.2.trans (ha.below h.2.2.2.2.2.size (iE ho hb))⟩
end
def Laid (w:World) (B lo:Nat) (r:Option (List ag)) (v:Value):Prop:=∃ A n c ll,v=.slice A n c∧r=some ll∧fq w (Fr B lo) ll v
theorem Laid.keep {w w':World} {B lo:Nat} {r:Option (List ag)} {v:Value} (hk:af w (Fr B lo) w' (Fr B lo)) (h:Laid w B lo r v):Laid w' B lo r v:=by
 obtain⟨A,n,c,ll,e,h1,h2⟩:=h;exact⟨A,n,c,ll,e,h1,h2.keep hk⟩
def XI (w:World) (B:Nat) (wL vZ arr:Array Value) (c0 c1:Value) (r1 r2 r3:Option (List ag)) (i:Value) (wr:World):Prop :=
  ∃ (k:Nat) (v1 v2 v3:Value),k≤3∧i=.int .i64 k∧kT w wL vZ #[c0,c1,v1,v2,v3,.slice none 0 0,.int .i64 0] arr wr ∧
    (if k<1 then v1=.slice none 0 0 else Laid wr B (w.heap.size+5) r1 v1)∧(if k<2 then v2=.slice none 0 0 else Laid wr B (w.heap.size+5) r2 v2)∧(if k<3 then v3=.slice none 0 0 else Laid wr B (w.heap.size+5) r3 v3)
def WL (w w0:World) (B:Nat) (wL vZ arr:Array Value) (c0 c1 c2 c3 c4:Value) (L:List aE) (n:Nat) (i:Value) (wr:World):Prop :=
  ∃ (k:Nat) (v:Value),k≤n∧i=.int .i64 k∧kT w wL vZ #[c0,c1,c2,c3,c4,v,.int .i64 0] arr wr∧wr.ownsRow w0.heap.size 21 1 v k (runeCells ((L.take k).map (·.rune))) ∧
    af w0 (Fr B (w.heap.size+5)) wr (fun b=>Fr B (w.heap.size+5) b∧b<w0.heap.size)∧w0.heap.size≤wr.heap.size
theorem Bz {w:World} {B lo:Nat} {l:List aF} {f t:bY} {cs:List Value} (h:((cC l f.before).isSome && (cC l f.source).isSome && (cC l f.after).isSome)=false) (hc:cs.length=7) (h1:∀ u∈cs,u.oneCell'=true) :
    F5 w B lo (eY l f t) (.returned (.tuple #[.agg cs.toArray,.bool false])):=by
 have hn:=(sA l f t).trans h;refine⟨cs,hc,by rw [hn],h1,fun rd hr=>?_⟩;rw [hr]at hn;cases hn
theorem EL (mb nm:Nat) (LP:List aF) (f t:bY) (L1 L2 L3 R1 R2 R3:Option Addr) (a1 a2 a3 x1 x2 x3 b1 b2 b3 y1 y2 y3:Nat) (w:World) (B:Nat) (hB:B≤w.heap.size) (hE:gu w (· < B) mb nm LP) (Nz:∀ s set,gA LP s=some set→set.length≤200)
    (l1:bU w B L1 a1 f.before) (l2:bU w B L2 a2 f.source) (l3:bU w B L3 a3 f.after) (k1:cG f.before=0) (k2:cG f.source=0) (k3:cG f.after=0) (r2:bU w B R2 b2 t.source) (j2:cG t.source=0) :
    Calls Tryz.prog 68 #[.map (some mb),.agg #[.bool f.start,.bool f.fin,.slice L1 a1 x1,.slice L2 a2 x2,.slice L3 a3 x3,.int .i64 f.aa],.agg #[.bool t.start,.bool t.fin,.slice R1 b1 y1,.slice R2 b2 y2,.slice R3 b3 y3,.int .i64 t.aa]] w
      fun e w'=>F5 w' B w.heap.size (eY LP f t) e∧Below w.heap.size w w':=by
 obtain⟨i0,hi,hz0,xK,yW⟩:=info_parts LQ;obtain⟨h20,_⟩:=DF j2;have ahR:b2≤20:=(by rw [← kW.len r2];exact h20);have Hf:=qqh (kW.len r2);have iX:=qqh r2;have hs:=fun(w':World) (hb:Below w.heap.size w w') (A':Option Addr) (n' c':Nat) (L:List aE) (hL:bU w B A' n' L) (hok:cG L=0)=>Lu mb nm LP A' n' c' L w' B (Nat.le_trans hB hb.size) (gu.keep (af.below hb (fun _ h _=>h)) (hb.block mb hE.lt) hE) Nz (bU.weak (gn (hb.mono hB) (Nat.le_refl _)) hL) hok;have jF:=qqh (fun(w':World) (hb:Below w.heap.size w w')=>hs w' hb L1 a1 x1 f.before l1 k1);have oo:=qqh (fun(w':World) (hb:Below w.heap.size w w')=>hs w' hb L2 a2 x2 f.source l2 k2);have Ko:=qqh (fun(w':World) (hb:Below w.heap.size w w')=>hs w' hb L3 a3 x3 f.after l3 k3);have hx0:=AN.made w #[.bool f.start,.bool f.fin,.slice L1 a1 x1,.slice L2 a2 x2,.slice L3 a3 x3,.int .i64 f.aa] #[.bool t.start,.bool t.fin,.slice R1 b1 y1,.slice R2 b2 y2,.slice R3 b3 y3,.int .i64 t.aa];have hx1:kT w #[.bool f.start,.bool f.fin,.slice L1 a1 x1,.slice L2 a2 x2,.slice L3 a3 x3,.int .i64 f.aa] #[.bool t.start,.bool t.fin,.slice R1 b1 y1,.slice R2 b2 y2,.slice R3 b3 y3,.int .i64 t.aa] #[.bool f.start,.bool f.fin,.slice none 0 0,.slice none 0 0,.slice none 0 0,.slice none 0 0,.int .i64 0] #[.slice L1 a1 x1,.pointer (some ⟨w.heap.size+3,2,none⟩),.slice L2 a2 x2,.pointer (some ⟨w.heap.size+3,3,none⟩),.slice L3 a3 x3,.pointer (some ⟨w.heap.size+3,4,none⟩)] ((((((w.alloc (.cells #[.bool f.start,.bool f.fin,.slice L1 a1 x1,.slice L2 a2 x2,.slice L3 a3 x3,.int .i64 f.aa] 95)).alloc (.cells #[.bool t.start,.bool t.fin,.slice R1 b1 y1,.slice R2 b2 y2,.slice R3 b3 y3,.int .i64 t.aa] 95)).alloc (.cells i5 68))).alloc (.cells #[.bool f.start,.bool f.fin,.slice none 0 0,.slice none 0 0,.slice none 0 0,.slice none 0 0,.int .i64 0] 68)).alloc (.cells #[.slice L1 a1 x1,.pointer (some ⟨w.heap.size+3,2,none⟩),.slice L2 a2 x2,.pointer (some ⟨w.heap.size+3,3,none⟩),.slice L3 a3 x3,.pointer (some ⟨w.heap.size+3,4,none⟩)] 166)):=by
  obtain⟨g1,g2,g3,g4⟩:=hx0;refine⟨ai.alloc (ai.alloc g1 _) _,ai.alloc (ai.alloc g2 _) _,ai.alloc (ai.alloc g3 _) _,ai.alloc ?_ _,?_,(g4.alloc g4.size _).alloc (g4.alloc g4.size _).size _⟩
  ·have:=ai.new (((w.alloc (.cells #[.bool f.start,.bool f.fin,.slice L1 a1 x1,.slice L2 a2 x2,.slice L3 a3 x3,.int .i64 f.aa] 95)).alloc (.cells #[.bool t.start,.bool t.fin,.slice R1 b1 y1,.slice R2 b2 y2,.slice R3 b3 y3,.int .i64 t.aa] 95)).alloc (.cells i5 68)) 68 #[.bool f.start,.bool f.fin,.slice none 0 0,.slice none 0 0,.slice none 0 0,.slice none 0 0,.int .i64 0];simpa using this
  have:=ai.new ((((w.alloc (.cells #[.bool f.start,.bool f.fin,.slice L1 a1 x1,.slice L2 a2 x2,.slice L3 a3 x3,.int .i64 f.aa] 95)).alloc (.cells #[.bool t.start,.bool t.fin,.slice R1 b1 y1,.slice R2 b2 y2,.slice R3 b3 y3,.int .i64 t.aa] 95)).alloc (.cells i5 68)).alloc (.cells #[.bool f.start,.bool f.fin,.slice none 0 0,.slice none 0 0,.slice none 0 0,.slice none 0 0,.int .i64 0] 68)) 166 #[.slice L1 a1 x1,.pointer (some ⟨w.heap.size+3,2,none⟩),.slice L2 a2 x2,.pointer (some ⟨w.heap.size+3,3,none⟩),.slice L3 a3 x3,.pointer (some ⟨w.heap.size+3,4,none⟩)];simpa using this
 have oH:=qqh hx1;clear hs l1 l2 l3 r2 k1 k2 k3 j2 h20 hx0 hx1 hE Nz;go_enter Tryz.func68,Tryz.ntmps68;go_wp2_with fail;go_loopw [34] (XI w B #[.bool f.start,.bool f.fin,.slice L1 a1 x1,.slice L2 a2 x2,.slice L3 a3 x3,.int .i64 f.aa] #[.bool t.start,.bool t.fin,.slice R1 b1 y1,.slice R2 b2 y2,.slice R3 b3 y3,.int .i64 t.aa] #[.slice L1 a1 x1,.pointer (some ⟨w.heap.size+3,2,none⟩),.slice L2 a2 x2,.pointer (some ⟨w.heap.size+3,3,none⟩),.slice L3 a3 x3,.pointer (some ⟨w.heap.size+3,4,none⟩)] (.bool f.start) (.bool f.fin) (cC LP f.before) (cC LP f.source) (cC LP f.after)) (fun i _=>3 - (intOf i).toNat);(case atStart=>exact⟨0,_,_,_,by omega,rfl,oH.out,by simp,by simp,by simp⟩);obtain⟨k,v1,v2,v3,hk,rfl,lY,g1,g2,g3⟩:=hrel;by_cases hlt:k<3
 ·obtain rfl | rfl | rfl:k=0∨k=1∨k=2:=(by omega)
  ·obtain rfl:v1=.slice none 0 0:=(by simpa using g1);obtain rfl:v2=.slice none 0 0:=(by simpa using g2);obtain rfl:v3=.slice none 0 0:=(by simpa using g3);clear g1 g2 g3;have z0:wr.cell? ⟨w.heap.size+4,0,none⟩=some (.slice L1 a1 x1):=lY.2.2.2.2.1.cell 0;have z1:wr.cell? ⟨w.heap.size+4,1,none⟩=some (.pointer (some ⟨w.heap.size+3,2,none⟩)):=lY.2.2.2.2.1.cell 1;have rG:=qqh (kT.alloc lY (.cells #[.slice L1 a1 x1,.pointer (some ⟨w.heap.size+3,2,none⟩)] 166));have HK:=qqh (ai.new wr 166 #[.slice L1 a1 x1,.pointer (some ⟨w.heap.size+3,2,none⟩)]);clear lY;go_wp2_with fail;refine(jF.out _ rG.out.2.2.2.2.2).mono ?_;rintro e w2 ⟨he,bu⟩;obtain⟨A9,n9,c9,o9,rfl,j6,Cz⟩:=BO he;have bl:=kT.below rG.out bu;have hk2:=ai.below HK.out bu HK.out.lt;have t0:w2.cell? ⟨w.heap.size+3,0,none⟩=some (.bool f.start):=bl.2.2.2.1.cell 0;have t1:w2.cell? ⟨w.heap.size+3,1,none⟩=some (.bool f.fin):=bl.2.2.2.1.cell 1;have t2:w2.cell? ⟨w.heap.size+3,2,none⟩=some (.slice none 0 0):=bl.2.2.2.1.cell 2;have t3:w2.cell? ⟨w.heap.size+3,3,none⟩=some (.slice none 0 0):=bl.2.2.2.1.cell 3;have t4:w2.cell? ⟨w.heap.size+3,4,none⟩=some (.slice none 0 0):=bl.2.2.2.1.cell 4;have t5:w2.cell? ⟨w.heap.size+3,5,none⟩=some (.slice none 0 0):=bl.2.2.2.1.cell 5;have t6:w2.cell? ⟨w.heap.size+3,6,none⟩=some (.int .i64 0):=bl.2.2.2.1.cell 6;have s0:w2.cell? ⟨w.heap.size+2,0,none⟩=some (.bool false):=bl.2.2.1.cell 0;have sf0:=bl.2.2.1.frozen 0;have s1:w2.cell? ⟨w.heap.size+2,1,none⟩=some (.bool false):=bl.2.2.1.cell 1;have Zp:=bl.2.2.1.frozen 1;have s2:w2.cell? ⟨w.heap.size+2,2,none⟩=some (.slice none 0 0):=bl.2.2.1.cell 2;have Zx:=bl.2.2.1.frozen 2
   have s3:w2.cell? ⟨w.heap.size+2,3,none⟩=some (.slice none 0 0):=bl.2.2.1.cell 3;have Zd:=bl.2.2.1.frozen 3;have s4:w2.cell? ⟨w.heap.size+2,4,none⟩=some (.slice none 0 0):=bl.2.2.1.cell 4;have sf4:=bl.2.2.1.frozen 4;have s5:w2.cell? ⟨w.heap.size+2,5,none⟩=some (.slice none 0 0):=bl.2.2.1.cell 5;have sf5:=bl.2.2.1.frozen 5;have s6:w2.cell? ⟨w.heap.size+2,6,none⟩=some (.int .i64 0):=bl.2.2.1.cell 6;have sf6:=bl.2.2.1.frozen 6;have m1:w2.cell? ⟨wr.heap.size,1,none⟩=some (.pointer (some ⟨w.heap.size+3,2,none⟩)):=hk2.cell 1;have mf:=bl.2.2.2.1.frozen 2;have DV:=qqh bl;have bG:=qqh bu;have fN:=qqh j6;have On:=qqh Cz;have Ru:=bl.2.2.2.2.1.lt;clear he bl hk2 bu j6 Cz;cases o9
   ·go_wp2_with fail;exact bodyPost_ret (by simp [results,Tryz.results68,go_sem,s0,s1,s2,s3,s4,s5,s6]) rfl ⟨Bz (cs:=[.bool f.start,.bool f.fin,.slice none 0 0,.slice none 0 0,.slice none 0 0,.slice none 0 0,.int .i64 0]) (by rw [← fN.out];simp) rfl (by intro u hu;simp only [List.mem_cons,List.not_mem_nil,or_false]at hu;rcases hu with rfl | rfl | rfl | rfl | rfl | rfl | rfl <;> rfl),Cb DV.out.2.2.2.2.2 (by omega) _ _ _ _ _ _ _⟩
   go_wp2_with fail;obtain⟨Qj,CK⟩:=Option.isSome_iff_exists.1 fN.out.symm;have kk:af w2 (Fr B (w.heap.size+5)) (w2.setCell ⟨w.heap.size+3,2,none⟩ (.slice A9 n9 c9)) (Fr B (w.heap.size+5)):=af.setCell _ (fun b hb=>by rcases hb with h | h <;> dsimp only <;> omega) (fun _ h _=>h);refine⟨⟨1,.slice A9 n9 c9,.slice none 0 0,.slice none 0 0,by omega,by go_num,DV.out.put 2 (.slice A9 n9 c9),by rw [if_neg (by omega)];exact⟨_,_,_,Qj,rfl,CK,(On.out Qj CK).keep ((af.refl (X':=Fr B (w.heap.size+5)) (fun b hb=>hb.imp id (fun h=>Nat.le_trans (Nat.succ_le_of_lt rG.out.2.2.2.2.1.lt) h))).trans kk)⟩,by rw [if_pos (by omega)],by rw [if_pos (by omega)]⟩,by simp [intOf]⟩
  ·obtain⟨P1,p1,q1,ll1,rfl,kU,KR⟩:=(show Laid wr B (w.heap.size+5) _ _ from by simpa using g1);obtain rfl:v2=.slice none 0 0:=(by simpa using g2);obtain rfl:v3=.slice none 0 0:=(by simpa using g3);clear g1 g2 g3;have z0:wr.cell? ⟨w.heap.size+4,2,none⟩=some (.slice L2 a2 x2):=lY.2.2.2.2.1.cell 2;have z1:wr.cell? ⟨w.heap.size+4,3,none⟩=some (.pointer (some ⟨w.heap.size+3,3,none⟩)):=lY.2.2.2.2.1.cell 3;have rG:=qqh (kT.alloc lY (.cells #[.slice L2 a2 x2,.pointer (some ⟨w.heap.size+3,3,none⟩)] 166));have HK:=qqh (ai.new wr 166 #[.slice L2 a2 x2,.pointer (some ⟨w.heap.size+3,3,none⟩)]);have KJ:=qqh (KR.keep (af.alloc (.cells #[.slice L2 a2 x2,.pointer (some ⟨w.heap.size+3,3,none⟩)] 166) (fun _ h _=>h)));have KN:=qqh kU;clear lY KR kU;go_wp2_with fail;refine(oo.out _ rG.out.2.2.2.2.2).mono ?_;rintro e w2 ⟨he,bu⟩;obtain⟨A9,n9,c9,o9,rfl,j6,Cz⟩:=BO he;have bl:=kT.below rG.out bu;have hk2:=ai.below HK.out bu HK.out.lt;have t0:w2.cell? ⟨w.heap.size+3,0,none⟩=some (.bool f.start):=bl.2.2.2.1.cell 0;have t1:w2.cell? ⟨w.heap.size+3,1,none⟩=some (.bool f.fin):=bl.2.2.2.1.cell 1;have t2:w2.cell? ⟨w.heap.size+3,2,none⟩=some (.slice P1 p1 q1):=bl.2.2.2.1.cell 2;have t3:w2.cell? ⟨w.heap.size+3,3,none⟩=some (.slice none 0 0):=bl.2.2.2.1.cell 3;have t4:w2.cell? ⟨w.heap.size+3,4,none⟩=some (.slice none 0 0):=bl.2.2.2.1.cell 4;have t5:w2.cell? ⟨w.heap.size+3,5,none⟩=some (.slice none 0 0):=bl.2.2.2.1.cell 5;have t6:w2.cell? ⟨w.heap.size+3,6,none⟩=some (.int .i64 0):=bl.2.2.2.1.cell 6;have s0:w2.cell? ⟨w.heap.size+2,0,none⟩=some (.bool false):=bl.2.2.1.cell 0;have sf0:=bl.2.2.1.frozen 0
   have s1:w2.cell? ⟨w.heap.size+2,1,none⟩=some (.bool false):=bl.2.2.1.cell 1;have Zp:=bl.2.2.1.frozen 1;have s2:w2.cell? ⟨w.heap.size+2,2,none⟩=some (.slice none 0 0):=bl.2.2.1.cell 2;have Zx:=bl.2.2.1.frozen 2;have s3:w2.cell? ⟨w.heap.size+2,3,none⟩=some (.slice none 0 0):=bl.2.2.1.cell 3;have Zd:=bl.2.2.1.frozen 3;have s4:w2.cell? ⟨w.heap.size+2,4,none⟩=some (.slice none 0 0):=bl.2.2.1.cell 4;have sf4:=bl.2.2.1.frozen 4;have s5:w2.cell? ⟨w.heap.size+2,5,none⟩=some (.slice none 0 0):=bl.2.2.1.cell 5;have sf5:=bl.2.2.1.frozen 5;have s6:w2.cell? ⟨w.heap.size+2,6,none⟩=some (.int .i64 0):=bl.2.2.1.cell 6;have sf6:=bl.2.2.1.frozen 6;have m1:w2.cell? ⟨wr.heap.size,1,none⟩=some (.pointer (some ⟨w.heap.size+3,3,none⟩)):=hk2.cell 1;have mf:=bl.2.2.2.1.frozen 3;have DV:=qqh bl;have bG:=qqh bu;have fN:=qqh j6;have On:=qqh Cz;have Ru:=bl.2.2.2.2.1.lt;clear he bl hk2 bu j6 Cz;cases o9
   ·go_wp2_with fail;exact bodyPost_ret (by simp [results,Tryz.results68,go_sem,s0,s1,s2,s3,s4,s5,s6]) rfl ⟨Bz (cs:=[.bool f.start,.bool f.fin,.slice P1 p1 q1,.slice none 0 0,.slice none 0 0,.slice none 0 0,.int .i64 0]) (by rw [← fN.out];simp) rfl (by intro u hu;simp only [List.mem_cons,List.not_mem_nil,or_false]at hu;rcases hu with rfl | rfl | rfl | rfl | rfl | rfl | rfl <;> rfl),Cb DV.out.2.2.2.2.2 (by omega) _ _ _ _ _ _ _⟩
   go_wp2_with fail;obtain⟨Qj,CK⟩:=Option.isSome_iff_exists.1 fN.out.symm;have kk:af w2 (Fr B (w.heap.size+5)) (w2.setCell ⟨w.heap.size+3,3,none⟩ (.slice A9 n9 c9)) (Fr B (w.heap.size+5)):=af.setCell _ (fun b hb=>by rcases hb with h | h <;> dsimp only <;> omega) (fun _ h _=>h);refine⟨⟨2,.slice P1 p1 q1,.slice A9 n9 c9,.slice none 0 0,by omega,by go_num,DV.out.put 3 (.slice A9 n9 c9),by rw [if_neg (by omega)];exact⟨_,_,_,_,rfl,KN.out,KJ.out.keep ((af.below bG.out (fun _ h _=>h)).trans kk)⟩,by rw [if_neg (by omega)];exact⟨_,_,_,Qj,rfl,CK,(On.out Qj CK).keep ((af.refl (X':=Fr B (w.heap.size+5)) (fun b hb=>hb.imp id (fun h=>Nat.le_trans (Nat.succ_le_of_lt rG.out.2.2.2.2.1.lt) h))).trans kk)⟩,by rw [if_pos (by omega)]⟩,by simp [intOf]⟩
  obtain⟨P1,p1,q1,ll1,rfl,kU,KR⟩:=(show Laid wr B (w.heap.size+5) _ _ from by simpa using g1);obtain⟨P2,p2,q2,ll2,rfl,jo,CV⟩:=(show Laid wr B (w.heap.size+5) _ _ from by simpa using g2);obtain rfl:v3=.slice none 0 0:=(by simpa using g3);clear g1 g2 g3;have z0:wr.cell? ⟨w.heap.size+4,4,none⟩=some (.slice L3 a3 x3):=lY.2.2.2.2.1.cell 4;have z1:wr.cell? ⟨w.heap.size+4,5,none⟩=some (.pointer (some ⟨w.heap.size+3,4,none⟩)):=lY.2.2.2.2.1.cell 5;have rG:=qqh (kT.alloc lY (.cells #[.slice L3 a3 x3,.pointer (some ⟨w.heap.size+3,4,none⟩)] 166));have HK:=qqh (ai.new wr 166 #[.slice L3 a3 x3,.pointer (some ⟨w.heap.size+3,4,none⟩)]);have KJ:=qqh (KR.keep (af.alloc (.cells #[.slice L3 a3 x3,.pointer (some ⟨w.heap.size+3,4,none⟩)] 166) (fun _ h _=>h)));have KN:=qqh kU;have QT:=qqh (CV.keep (af.alloc (.cells #[.slice L3 a3 x3,.pointer (some ⟨w.heap.size+3,4,none⟩)] 166) (fun _ h _=>h)));have Qc:=qqh jo;clear lY KR kU CV jo;go_wp2_with fail;refine(Ko.out _ rG.out.2.2.2.2.2).mono ?_;rintro e w2 ⟨he,bu⟩;obtain⟨A9,n9,c9,o9,rfl,j6,Cz⟩:=BO he;have bl:=kT.below rG.out bu;have hk2:=ai.below HK.out bu HK.out.lt;have t0:w2.cell? ⟨w.heap.size+3,0,none⟩=some (.bool f.start):=bl.2.2.2.1.cell 0;have t1:w2.cell? ⟨w.heap.size+3,1,none⟩=some (.bool f.fin):=bl.2.2.2.1.cell 1;have t2:w2.cell? ⟨w.heap.size+3,2,none⟩=some (.slice P1 p1 q1):=bl.2.2.2.1.cell 2;have t3:w2.cell? ⟨w.heap.size+3,3,none⟩=some (.slice P2 p2 q2):=bl.2.2.2.1.cell 3;have t4:w2.cell? ⟨w.heap.size+3,4,none⟩=some (.slice none 0 0):=bl.2.2.2.1.cell 4
  have t5:w2.cell? ⟨w.heap.size+3,5,none⟩=some (.slice none 0 0):=bl.2.2.2.1.cell 5;have t6:w2.cell? ⟨w.heap.size+3,6,none⟩=some (.int .i64 0):=bl.2.2.2.1.cell 6;have s0:w2.cell? ⟨w.heap.size+2,0,none⟩=some (.bool false):=bl.2.2.1.cell 0;have sf0:=bl.2.2.1.frozen 0;have s1:w2.cell? ⟨w.heap.size+2,1,none⟩=some (.bool false):=bl.2.2.1.cell 1;have Zp:=bl.2.2.1.frozen 1;have s2:w2.cell? ⟨w.heap.size+2,2,none⟩=some (.slice none 0 0):=bl.2.2.1.cell 2;have Zx:=bl.2.2.1.frozen 2;have s3:w2.cell? ⟨w.heap.size+2,3,none⟩=some (.slice none 0 0):=bl.2.2.1.cell 3;have Zd:=bl.2.2.1.frozen 3;have s4:w2.cell? ⟨w.heap.size+2,4,none⟩=some (.slice none 0 0):=bl.2.2.1.cell 4;have sf4:=bl.2.2.1.frozen 4;have s5:w2.cell? ⟨w.heap.size+2,5,none⟩=some (.slice none 0 0):=bl.2.2.1.cell 5;have sf5:=bl.2.2.1.frozen 5;have s6:w2.cell? ⟨w.heap.size+2,6,none⟩=some (.int .i64 0):=bl.2.2.1.cell 6;have sf6:=bl.2.2.1.frozen 6;have m1:w2.cell? ⟨wr.heap.size,1,none⟩=some (.pointer (some ⟨w.heap.size+3,4,none⟩)):=hk2.cell 1;have mf:=bl.2.2.2.1.frozen 4;have DV:=qqh bl;have bG:=qqh bu;have fN:=qqh j6;have On:=qqh Cz;have Ru:=bl.2.2.2.2.1.lt;clear he bl hk2 bu j6 Cz;cases o9
  ·go_wp2_with fail;exact bodyPost_ret (by simp [results,Tryz.results68,go_sem,s0,s1,s2,s3,s4,s5,s6]) rfl ⟨Bz (cs:=[.bool f.start,.bool f.fin,.slice P1 p1 q1,.slice P2 p2 q2,.slice none 0 0,.slice none 0 0,.int .i64 0]) (by rw [← fN.out];simp) rfl (by intro u hu;simp only [List.mem_cons,List.not_mem_nil,or_false]at hu;rcases hu with rfl | rfl | rfl | rfl | rfl | rfl | rfl <;> rfl),Cb DV.out.2.2.2.2.2 (by omega) _ _ _ _ _ _ _⟩
  go_wp2_with fail;obtain⟨Qj,CK⟩:=Option.isSome_iff_exists.1 fN.out.symm;have kk:af w2 (Fr B (w.heap.size+5)) (w2.setCell ⟨w.heap.size+3,4,none⟩ (.slice A9 n9 c9)) (Fr B (w.heap.size+5)):=af.setCell _ (fun b hb=>by rcases hb with h | h <;> dsimp only <;> omega) (fun _ h _=>h);refine⟨⟨3,.slice P1 p1 q1,.slice P2 p2 q2,.slice A9 n9 c9,by omega,by go_num,DV.out.put 4 (.slice A9 n9 c9),by rw [if_neg (by omega)];exact⟨_,_,_,_,rfl,KN.out,KJ.out.keep ((af.below bG.out (fun _ h _=>h)).trans kk)⟩,by rw [if_neg (by omega)];exact⟨_,_,_,_,rfl,Qc.out,QT.out.keep ((af.below bG.out (fun _ h _=>h)).trans kk)⟩,by rw [if_neg (by omega)];exact⟨_,_,_,Qj,rfl,CK,(On.out Qj CK).keep ((af.refl (X':=Fr B (w.heap.size+5)) (fun b hb=>hb.imp id (fun h=>Nat.le_trans (Nat.succ_le_of_lt rG.out.2.2.2.2.1.lt) h))).trans kk)⟩⟩,by simp [intOf]⟩
 have Qr:3≤k:=(by omega);rw [if_neg (by omega)]at g1;obtain⟨P1,p1,q1,ll1,rfl,kU,KR⟩:=g1;rw [if_neg (by omega)]at g2;obtain⟨P2,p2,q2,ll2,rfl,jo,CV⟩:=g2;rw [if_neg (by omega)]at g3;obtain⟨P3,p3,q3,ll3,rfl,Ka,hv3⟩:=g3;generalize wr=wz at *;have e3:wz.cell? ⟨w.heap.size+1,3,none⟩=some (.slice R2 b2 y2):=lY.2.1.cell 3;have rG:=qqh lY;have KJ:=qqh KR;have QT:=qqh CV;have X7:=qqh hv3;have KN:=qqh kU;have Qc:=qqh jo;have TI:=qqh Ka;have hz:=lY.2.2.2.2.2.size;have QB:=lY.2.2.2.2.1.lt;clear lY KR CV hv3 kU jo Ka;go_wp2_with fail;go_loopw [56] (WL w wz B #[.bool f.start,.bool f.fin,.slice L1 a1 x1,.slice L2 a2 x2,.slice L3 a3 x3,.int .i64 f.aa] #[.bool t.start,.bool t.fin,.slice R1 b1 y1,.slice R2 b2 y2,.slice R3 b3 y3,.int .i64 t.aa] #[.slice L1 a1 x1,.pointer (some ⟨w.heap.size+3,2,none⟩),.slice L2 a2 x2,.pointer (some ⟨w.heap.size+3,3,none⟩),.slice L3 a3 x3,.pointer (some ⟨w.heap.size+3,4,none⟩)] (.bool f.start) (.bool f.fin) (.slice P1 p1 q1) (.slice P2 p2 q2) (.slice P3 p3 q3) t.source b2) (fun i _=>b2 - (intOf i).toNat);(case atStart=>exact⟨0,.slice none 0 0,Nat.zero_le _,rfl,rG.out,World.ownsRow_nil _ _ _ _,fun b hx hl=>⟨rfl,⟨hx,hl⟩,hl⟩,Nat.le_refl _⟩);obtain⟨k,v,hk,rfl,lY,hown,hkp,hzr⟩:=hrel;by_cases hlt:k<b2
 ·obtain⟨a,ha⟩:∃ z,t.source[k]? = some z:=⟨_,List.getElem?_eq_getElem (by rw [Hf.out];exact hlt)⟩;obtain⟨b,off,A',n',c',rfl,dL,f0,f1,f2,f3,_,_,_,_⟩:=wK iX.out ha;have Wv:=lY.2.2.2.2.2;have kY:b<w.heap.size:=(by omega);have d0:=(Wv.cell (p:=⟨b,off+k*4,none⟩) kY).trans f0;have d1:=(Wv.cell (p:=⟨b,off+k*4+1,none⟩) kY).trans f1;have d2:=(Wv.cell (p:=⟨b,off+k*4+2,none⟩) kY).trans f2;have d3:=(Wv.cell (p:=⟨b,off+k*4+3,none⟩) kY).trans f3;clear f0 f1 f2 f3 Wv;generalize hT:(t.source.take k).map (·.rune)=T at hown;have HTM:=qqh ((Lz ha).trans (by rw [hT]:_=T++[a.rune]));clear hT;obtain⟨Av,cv,rfl,_⟩:=aI hown;have OT:=kT.alloc lY (.cells #[.int .i64 a.kind,.int .i32 a.rune,.slice A' n' c',.string a.name] 171);have hO1:=World.ownsRow.alloc hown (.cells #[.int .i64 a.kind,.int .i32 a.rune,.slice A' n' c',.string a.name] 171);have c5:(wr.alloc (.cells #[.int .i64 a.kind,.int .i32 a.rune,.slice A' n' c',.string a.name] 171)).cell? ⟨w.heap.size+3,5,none⟩=some (.slice Av k cv):=OT.2.2.2.1.cell 5;have Ty:=qqh (kT.alloc OT (.cells #[.int .i32 a.rune] 21));have qS:=qqh (World.ownsRow.alloc hO1 (.cells #[.int .i32 a.rune] 21));have qp:=qqh ((hkp.trans (af.alloc (.cells #[.int .i64 a.kind,.int .i32 a.rune,.slice A' n' c',.string a.name] 171) (fun _ h _=>h))).trans (af.alloc (.cells #[.int .i32 a.rune] 21) (fun _ h _=>h)));have hN:=Rd.new (wr.alloc (.cells #[.int .i64 a.kind,.int .i32 a.rune,.slice A' n' c',.string a.name] 171)) 21 1 1 [.int .i32 a.rune] rfl;rw [show(wr.alloc (.cells #[.int .i64 a.kind,.int .i32 a.rune,.slice A' n' c',.string a.name] 171)).heap.size=wr.heap.size+1 by simp]at hN;have HN:=qqh hN
  have E4:=qqh (show ∀ u ∈ [Value.int .i32 a.rune],u.oneCell'=true by intro x hx;simp at hx;subst hx;rfl);have HZ:=qqh (show wz.heap.size≤((wr.alloc (.cells #[.int .i64 a.kind,.int .i32 a.rune,.slice A' n' c',.string a.name] 171)).alloc (.cells #[.int .i32 a.rune] 21)).heap.size by simp;omega);clear OT hO1 hN lY hown hkp ha;go_wp2_with (at_builtin;refine ak _ rfl (.tmp 61) (.tmp 64) 26 rfl wz.heap.size 21 i0 _ 1 4 Tryz.underlying26 hi hz0 xK yW rfl (by decide) _ _ _ rfl qS.out _ (some ⟨wr.heap.size+1,0,none⟩) 1 1 [.int .i32 a.rune] rfl HN.out E4.out (by simp only [maxLen];omega) (by omega) HZ.out ?_);intro v9 w9 au;have YR:=kT.app Ty.out qS.out (by decide) (by decide) (by decide) hz au;have j6:=au.own;have Wi:=qp.out.trans (af.app (X':=fun b=>Fr B (w.heap.size+5) b∧b<wz.heap.size) au (fun b hx e=>by have:=(aQ qS.out e).1;have:=hx.2;omega) (fun _ h _=>h));have PL:wz.heap.size≤w9.heap.size:=Nat.le_trans HZ.out au.2.1.size;rw [← xe,← HTM.out]at j6;obtain⟨A9,c9,rfl,_⟩:=aI j6;have p5:w9.cell? ⟨w.heap.size+3,5,none⟩=some (.slice Av k cv):=YR.2.2.2.1.cell 5;have p5f:=YR.2.2.2.1.frozen 5;have HA3:=qqh YR;have fN:=qqh j6;have Xd:=qqh Wi;clear au YR j6 Wi;go_wp2_with fail;refine⟨⟨k+1,.slice A9 (k+1) c9,by omega,by go_num,HA3.out.put 5 (.slice A9 (k+1) c9),eM fN.out HA3.out.2.2.2.1 (by decide),Xd.out.trans (af.setCell _ (fun b hx=>?_) (fun _ h _=>h)),by simpa using PL⟩,by simp [intOf];omega⟩;have:=hx.1;dsimp only;rcases this with h | h <;> omega
 obtain rfl:k=b2:=(by omega);rw [List.take_of_length_le (by rw [Hf.out];omega)]at hown;obtain⟨Av,cv,rfl,_⟩:=aI hown;have bl:=lY;have t0:wr.cell? ⟨w.heap.size+3,0,none⟩=some (.bool f.start):=bl.2.2.2.1.cell 0;have t1:wr.cell? ⟨w.heap.size+3,1,none⟩=some (.bool f.fin):=bl.2.2.2.1.cell 1;have t2:wr.cell? ⟨w.heap.size+3,2,none⟩=some (.slice P1 p1 q1):=bl.2.2.2.1.cell 2;have t3:wr.cell? ⟨w.heap.size+3,3,none⟩=some (.slice P2 p2 q2):=bl.2.2.2.1.cell 3;have t4:wr.cell? ⟨w.heap.size+3,4,none⟩=some (.slice P3 p3 q3):=bl.2.2.2.1.cell 4;have t5:wr.cell? ⟨w.heap.size+3,5,none⟩=some (.slice Av k cv):=bl.2.2.2.1.cell 5;have t6:wr.cell? ⟨w.heap.size+3,6,none⟩=some (.int .i64 0):=bl.2.2.2.1.cell 6;have s0:wr.cell? ⟨w.heap.size+2,0,none⟩=some (.bool false):=bl.2.2.1.cell 0;have sf0:=bl.2.2.1.frozen 0;have s1:wr.cell? ⟨w.heap.size+2,1,none⟩=some (.bool false):=bl.2.2.1.cell 1;have Zp:=bl.2.2.1.frozen 1;have s2:wr.cell? ⟨w.heap.size+2,2,none⟩=some (.slice none 0 0):=bl.2.2.1.cell 2;have Zx:=bl.2.2.1.frozen 2;have s3:wr.cell? ⟨w.heap.size+2,3,none⟩=some (.slice none 0 0):=bl.2.2.1.cell 3;have Zd:=bl.2.2.1.frozen 3;have s4:wr.cell? ⟨w.heap.size+2,4,none⟩=some (.slice none 0 0):=bl.2.2.1.cell 4;have sf4:=bl.2.2.1.frozen 4;have s5:wr.cell? ⟨w.heap.size+2,5,none⟩=some (.slice none 0 0):=bl.2.2.1.cell 5;have sf5:=bl.2.2.1.frozen 5;have s6:wr.cell? ⟨w.heap.size+2,6,none⟩=some (.int .i64 0):=bl.2.2.1.cell 6;have sf6:=bl.2.2.1.frozen 6;have t6f:=bl.2.2.2.1.frozen 6;have e5:wr.cell? ⟨w.heap.size+1,5,none⟩=some (.int .i64 t.aa):=bl.2.1.cell 5
 have hend:∀ (we:World) (K:Int),((∃ u,we=wr.setCell ⟨w.heap.size+3,6,none⟩ u)∨∃ u u',we=(wr.setCell ⟨w.heap.size+3,6,none⟩ u).setCell ⟨w.heap.size+3,6,none⟩ u')→K=(if t.aa<0 then (t.source.length:Int)else t.aa) →
     F5 (Lv we (w.heap.size+1+1) (.bool f.start) (.bool f.fin) (.slice P1 p1 q1) (.slice P2 p2 q2) (.slice P3 p3 q3) (.slice Av k cv) (.int .i64 K)) B w.heap.size (eY LP f t) (.returned (.tuple #[.agg #[.bool f.start,.bool f.fin,.slice P1 p1 q1,.slice P2 p2 q2,.slice P3 p3 q3,.slice Av k cv,.int .i64 K],.bool true])) ∧
     Below w.heap.size w (Lv we (w.heap.size+1+1) (.bool f.start) (.bool f.fin) (.slice P1 p1 q1) (.slice P2 p2 q2) (.slice P3 p3 q3) (.slice Av k cv) (.int .i64 K)):=by
   intro we K hwe hK
   have X5:Below w.heap.size w we:=by
     rcases hwe with ⟨u,rfl⟩ | ⟨u,u',rfl⟩
     · exact lY.2.2.2.2.2.setCell (by simp) _
     · exact(lY.2.2.2.2.2.setCell (by simp) _).setCell (by simp) _
   have kw:∀ (X:Nat→Prop),(∀ b,X b→b≠w.heap.size+3)→af wr X we X:=by
     intro X hX
     rcases hwe with ⟨u,rfl⟩ | ⟨u,u',rfl⟩
     · exact af.setCell u (fun b hb=>hX b hb) (fun _ h _=>h)
     · exact(af.setCell (X':=X) u (fun b hb=>hX b hb) (fun _ h _=>h)).trans (af.setCell u' (fun b hb=>hX b hb) (fun _ h _=>h))
   have kk:af wz (Fr B (w.heap.size+5)) (Lv we (w.heap.size+1+1) (.bool f.start) (.bool f.fin) (.slice P1 p1 q1) (.slice P2 p2 q2) (.slice P3 p3 q3) (.slice Av k cv) (.int .i64 K)) (Fr B w.heap.size):=by
     refine(hkp.trans (kw _ (fun b hx=>by rcases hx.1 with h | h <;> omega))).trans ((Qo (fun b hx=>?_) _ _ _ _ _ _ _).trans (af.refl (fun b hx=>?_)))
     · rcases hx.1 with h | h <;> omega
     · exact hx.1.imp id (fun h=>by omega)
   refine⟨⟨[.bool f.start,.bool f.fin,.slice P1 p1 q1,.slice P2 p2 q2,.slice P3 p3 q3,.slice Av k cv,.int .i64 K],rfl,?_,?_,fun rd hrd=>?_⟩,Cb X5 (by omega) _ _ _ _ _ _ _⟩
   · rw [sA,KN.out,Qc.out,TI.out];rfl
   · intro u hu
     simp only [List.mem_cons,List.not_mem_nil,or_false]at hu
     rcases hu with rfl | rfl | rfl | rfl | rfl | rfl | rfl <;> rfl
   · obtain⟨a,b,c,g1,g2,g3,rfl⟩:=Ji hrd
     rw [KN.out]at g1
     rw [Qc.out]at g2
     rw [TI.out]at g3
     cases g1
     cases g2
     cases g3
     refine⟨_,_,_,Av,k,cv,by rw [hK],KJ.out.keep kk,QT.out.keep kk,X7.out.keep kk,?_,by unfold maxLen;omega⟩
     refine(bW.cy (X:=fun b=>wz.heap.size≤b) hown (fun b hb=>(aQ hown hb).1)).keep ((kw _ (fun b hx=>by omega)).trans ((Qo (fun b hx=>by omega) _ _ _ _ _ _ _).trans (af.refl (fun b hx=>.inr (by omega)))))
 have EJ:=qqh hend;have Lx:(t.source.length:Int)=k:=(by rw [Hf.out]);have HKL:=qqh Lx;clear hend Lx lY bl hown hkp;by_cases hc:t.aa<0
 ·have HK:=qqh (show((k:Nat):Int)=(if t.aa<0 then (t.source.length:Int)else t.aa) by rw [if_pos hc,HKL.out]);go_wp2_with fail;obtain⟨hpost,eX⟩:=EJ.out _ _ (.inr ⟨_,_,rfl⟩) HK.out;exact bodyPost_ret (by simp [results,Tryz.results68,go_sem,s0,s1,s2,s3,s4,s5,s6]) rfl ⟨hpost,eX⟩
 have HK:=qqh (show t.aa=(if t.aa<0 then (t.source.length:Int)else t.aa) by rw [if_neg hc]);go_wp2_with fail;obtain⟨hpost,eX⟩:=EJ.out _ _ (.inl ⟨_,rfl⟩) HK.out;exact bodyPost_ret (by simp [results,Tryz.results68,go_sem,s0,s1,s2,s3,s4,s5,s6]) rfl ⟨hpost,eX⟩
end Go.Proofs.YthgkedoildcbcaaGreatDoor
