/- SetsRef + Env + SetsSyn + RuleRef + RuleSyn -/
import Derived.Test.YthgkedoildcbcaaGreatDoorZg6
import Derived.Test.YthgkedoildcbcaaGreatDoorZg11
import Derived.Lib.Strings
import Derived.Deep.DeepCutAuto
import Derived.Test.YthgkedoildcbcaaGreatDoorZg9
import Derived.Test.YthgkedoildcbcaaGreatDoorZg5
import Derived.Maps.OwnSet
import Derived.StringKeys
set_option maxHeartbeats 6400000
set_option maxRecDepth 100000
namespace Go.Proofs.YthgkedoildcbcaaGreatDoor
open Go.RowKit
theorem JL:(Tryz.prog.info? 41).map (fun i=>(i.zero,i.size,i.bytes))=some (some (.slice none 0 0),1,24):=by kernel_rfl
def MB (B lo:Nat) (v:Value) (b:Nat):Prop:=Fr B lo b∧v.ownBlock≠some b
def kH (w:World) (B:Nat) (ll:List af) (v:Value) (wx:World):Prop:=cL (mU wx (MB B w.heap.size v)) 41 1 wx w.heap.size v ll∧Below w.heap.size w wx
section
variable {w wx w2 : World} {B : Nat} {ll : List af} {v v' : Value}
theorem kH.nil (w:World) (B:Nat):kH w B [] (.slice none 0 0) w:=⟨cL.nil _ _,Below.refl _ _⟩
theorem kH.alloc (h:kH w B ll v wx) (o:Obj):kH w B ll v (wx.alloc o) :=
  ⟨h.1.kept (fun _ _ h=>World.ownsRow.alloc h o) (fun _ _ h=>h.keep (aa.alloc o (fun _ h _=>h))),h.2.alloc h.2.size o⟩
theorem kH.below (h:kH w B ll v wx) (hb:Below wx.heap.size wx w2):kH w B ll v w2 :=
  ⟨h.1.kept (fun _ _ h=>ew h hb) (fun _ _ h=>h.keep (aa.below hb (fun _ h _=>h))),h.2.trans (hb.mono h.2.size)⟩
theorem vK {base sz n:Nat} {e:TypeId} {xs:List Value} (h:wx.ownsRow base e sz v n xs) {b:Nat} (hb:b<base∨wx.heap.size≤b):v.ownBlock≠some b:=fun e=>by
 have:=aU h e;omega
theorem kH.push {css:List (List Value)} {s:af} {u:Value} {t:TypeId} (h1:css.length=ll.length) (h2:∀ (i:Nat) (a:af) (cs:List Value),ll[i]? = some a→css[i]? = some cs→mU wx (MB B w.heap.size v) a cs) (h3:∀ cs∈css,cs.length=1)
    (h4:wx.ownsRow w.heap.size 41 1 v ll.length css.flatten) (hb:Below w.heap.size w wx) (hu:ja wx (MB B w.heap.size v) s u)
    (ha:aY w.heap.size 41 1 v (wx.alloc (.cells #[u] t)) (ll.length+1) (css.flatten++[u]) v' w2):kH w B (ll++[s]) v' w2:=by
 have hk:aa wx (MB B w.heap.size v) w2 (MB B w.heap.size v'):=by
  refine(aa.alloc (.cells #[u] t) (fun _ h _=>h)).trans (aa.app (X':=fun b=>MB B w.heap.size v' b) ha (fun b hx=>hx.2) (fun b hx hl=>⟨hx.1,?_⟩));rcases ha.2.2 with e | e
  ·rw [e];exact hx.2
  rw [e];intro he;injection he with he;omega
 refine⟨cL.push h1 h2 h3 (fun _ _ h=>h.keep hk) ⟨u,rfl,hu.keep hk⟩ rfl ha,?_⟩;exact(hb.alloc hb.size (.cells #[u] t)).trans (ha.below (hb.alloc hb.size (.cells #[u] t)).size (World.ownsRow.alloc h4 _))
end
def JE (w:World) (B lo:Nat) (r:Option (List af)) (e:Ending):Prop :=
  match r with
  | some ll=>∃ u,e=.returned (.tuple #[u,.bool true])∧fE w (Fr B lo) ll u
  | none=>e=.returned (.tuple #[.slice none 0 0,.bool false])
theorem kH.post {w wx:World} {B:Nat} {ll:List af} {v:Value} (h:kH w B ll v wx) (hl:ll.length≤maxLen):fE wx (Fr B w.heap.size) ll v:=by
 obtain⟨A,c,rfl,_⟩:=h.1.form;refine⟨A,_,c,rfl,cL.done h.1 (fun _ _ h=>h.keep (aa.refl (fun _ h=>h.1))) (fun b hb=>.inr ?_),hl⟩;obtain⟨css,_,_,_,h4⟩:=h.1;exact(aU h4 hb).1
def Rs (w:World) (B:Nat) (l:List aH) (L:List aG) (n:Nat) (out i:Value) (wr:World):Prop :=
  ∃ (k:Nat) (ll:List af),k≤n∧i=.int .i64 k∧bZ l (L.take k)=some ll∧kH w B ll out wr
end Go.Proofs.YthgkedoildcbcaaGreatDoor
namespace Go.Proofs.YthgkedoildcbcaaGreatDoor
open Go.RowKit Go.Maps
def fq (w:World) (X:Nat→Prop) (mb n:Nat) (l:List aH):Prop :=
  ∃ D:DataW Value,w.ownsMap Tryz.prog 9 Raw mb n D∧IsMap D∧∀ s:ByteArray,match fK l s with
    | some set=>∃ u,D.atKey (eN s) tw=.held u∧has D (eN s)=true∧ja w X set u
    | none=>D.atKey (eN s) tw=tw∧has D (eN s)=false
theorem fq.keep {w w':World} {X X':Nat→Prop} {mb n:Nat} {l:List aH} (hk:aa w X w' X') (hm:w'.heap[mb]? = w.heap[mb]?) (h:fq w X mb n l):fq w' X' mb n l:=by
 obtain⟨D,⟨es,clock,h1,h2⟩,h3,h4⟩:=h;refine⟨D,⟨es,clock,hm.trans h1,h2⟩,h3,fun s=>?_⟩;have:=h4 s;cases hl:fK l s with
 | none=>rw [hl]at this;exact this
 | some set=>
  rw [hl]at this;obtain⟨u,g1,g2,g3⟩:=this;exact⟨u,g1,g2,g3.keep hk⟩
theorem fq.lt {w:World} {X:Nat→Prop} {mb n:Nat} {l:List aH} (h:fq w X mb n l):mb<w.heap.size:=by
 obtain⟨D,h1,_⟩:=h;exact h1.lt
theorem fq.made (w:World) (X:Nat→Prop):fq (w.alloc (.map #[] 0)) X w.heap.size 0 [] :=
  ⟨.map [],World.ownsMap_made _ _ _ _,isMap_empty,fun s=>⟨by simp [DataW.atKey],by simp [has]⟩⟩
theorem vk (l:List aH) (p:aH) (s:ByteArray):fK (l++[p]) s=match fK l s with
    | some x=>some x
    | none=>if p.kind=1∧p.name=s then some p.set else none:=by
 induction l with
 | nil=>simp [fK]
 | cons q l ih=>
  rw [List.cons_append,fK,fK];by_cases h:q.kind=1∧q.name=s
  ·rw [if_pos h,if_pos h]
  rw [if_neg h,if_neg h,ih]
theorem fq.put {w w':World} {X:Nat→Prop} {mb n:Nat} {l:List aH} {p:aH} {u:Value} {D:DataW Value} (hD:IsMap D)
    (h4:∀ s:ByteArray,match fK l s with
      | some set=>∃ u,D.atKey (eN s) tw=.held u∧has D (eN s)=true∧ja w X set u
      | none=>D.atKey (eN s) tw=tw∧has D (eN s)=false)
    (hp:p.kind=1) (hno:fK l p.name=none) (hu:ja w X p.set u) (hk:aa w X w' X)
    (hown:w'.ownsMap Tryz.prog 9 Raw mb n (D.put (eN p.name) (.held u))):fq w' X mb n (l++[p]):=by
 refine⟨_,hown,hD.put _ _,fun s=>?_⟩;rw [vk];by_cases hs:p.name=s
 ·subst hs;rw [hno];dsimp only;rw [if_pos ⟨hp,rfl⟩];exact⟨u,atKey_put_same hD (uq _) _ _,has_put_same hD (uq _) _,hu.keep hk⟩
 have hne:eN s≠eN p.name:=fun e=>hs (CA e).symm;have:=h4 s;cases hl:fK l s with
 | none=>
  rw [hl]at this;dsimp only;rw [if_neg (fun h=>hs h.2),atKey_put_other hne,has_put_other hne];exact this
 | some set=>
  rw [hl]at this;obtain⟨v,g1,g2,g3⟩:=this;dsimp only;exact⟨v,by rw [atKey_put_other hne];exact g1,by rw [has_put_other hne];exact g2,g3.keep hk⟩
theorem fq.other {w:World} {X:Nat→Prop} {mb n:Nat} {l:List aH} {p:aH} (h:fq w X mb n l) (hp:p.kind≠1):fq w X mb n (l++[p]):=by
 obtain⟨D,h1,h2,h3⟩:=h;refine⟨D,h1,h2,fun s=>?_⟩;have:=h3 s;rw [vk];cases hl:fK l s with
 | none=>rw [hl]at this;dsimp only;rw [if_neg (fun h=>hp h.1)];exact this
 | some set=>rw [hl]at this;exact this
theorem l8 {w:World} {ops:Array Oper} {rest:List Oper} {o:Oper} {a:Act} {Q:Exit→Act→World→Prop} (hg:o.guard=none) (m x:Operand) (hop:o.op=Op.lookup 137 m x true)
    (mb n:Nat) (D:DataW Value) (hm:a.eval m=.map (some mb)) (hown:w.ownsMap Tryz.prog 9 Raw mb n D) (s:ByteArray) (hx:a.eval x=.string s) (hs:s.size≤maxLen) (u:Value) (b:Bool)
    (h1:D.atKey (eN s) tw=.held u) (h2:has D (eN s)=b) (hK:wpList Tryz.prog ops Q rest (a.put o.dst (.tuple #[u,.bool b])) w):wpList Tryz.prog ops Q (o::rest) a w :=
  wpList_lookup_own_ok w hg m x _ hop 9 41 gQ Tryz.underlying137 Raw (NR w) tw [] rfl mb n D hm hown (.string s) (eN s) hx (ju hs) (fun v ps hv=>by
    rw [h1]at hv
    unfold Raw at hv
    injection hv with hv
    injection hv with hv
    injection hv with hv
    subst hv
    rw [h2]
    exact hK)
theorem nB (A:Option Addr) (n c B:Nat) (s:af) (w:World) (h:Rd w B 2 A n (ak s)) (hn:n≤1000) :
    Calls Tryz.prog 66 #[.slice A n c] w fun e w'=>(∃ u,e=.returned u∧ja w' (fun b=>w.heap.size≤b) s u)∧Below w.heap.size w w':=by
 obtain⟨i0,hi,hz0,pY,tG⟩:=info_parts jj;have q22:∀ (w:World) (a:Option Addr) (n c n' c':Nat),(binOp .eql 41 (.slice a n c) (.slice none n' c')).run Tryz.prog w=.ok (.bool a.isNone) w:=fun w a n c n' c'=>Lib.run_eql_slice_nil w _ _ a n c n' c' Tryz.underlying41;have H:=qqh h;clear h;cases A with
 | none=>
  have hn0:n=0:=by
   rcases Nat.eq_zero_or_pos n with h0 | h0;exact h0;obtain⟨_,_,e,_⟩:=H.out.2 h0;cases e
  subst hn0;go_enter Tryz.func66,Tryz.ntmps66;go_wp2_with fail;go_ret;exact⟨⟨_,rfl,none,0,0,rfl,⟨H.out.1,fun h=>absurd h (Nat.lt_irrefl 0)⟩,Nat.zero_le _⟩,Below.refl _ _⟩
 | some ad=>
  have HO:=qqh (nR w 77 2 w.heap.size w.heap.size rfl (Nat.le_refl _));have HB:=qqh ((Below.refl w.heap.size w).alloc (Nat.le_refl _) (.cells #[] 77));have HR:=qqh (Rd.more (Rd.below (B:=min B w.heap.size) ⟨H.out.1,fun h=>by
   obtain⟨b,off,e,_,hc⟩:=H.out.2 h;obtain⟨u,hu⟩:∃ u,(ak s)[0]? = some u:=⟨_,List.getElem?_eq_getElem (by have:=H.out.1;omega)⟩;have hl:=World.block_lt_of_cell? w _ (hc 0 u hu);exact⟨b,off,e,by dsimp only at hl;omega,hc⟩⟩ (HB.out.mono (Nat.min_le_right _ _))) (Nat.le_refl _))
  go_enter Tryz.func66,Tryz.ntmps66;go_wp2_with (at_builtin;refine aj _ rfl (.tmp 5) (.tmp 6) 41 rfl w.heap.size 77 i0 _ 2 8 Tryz.underlying41 hi hz0 pY tG rfl (by decide) _ _ _ rfl HO.out _ (some ad) n c (ak s) rfl HR.out (lu s) (by simp only [maxLen];omega) (by omega) (by simp) ?_);intro v' w' an;have ho:=an.own;obtain⟨A2,c2,rfl,_⟩:=aI ho;have bw:=qqh (HB.out.trans (an.below (by simp) HO.out));have HV:=qqh (show ja w' (fun b=>w.heap.size≤b) s (.slice A2 n c2) from⟨A2,n,c2,rfl,cE.ck ho (fun b hb=>(aU ho hb).1),by unfold maxLen;omega⟩);clear an ho;go_wp2_with fail;go_ret;exact⟨⟨_,rfl,HV.out⟩,bw.out⟩
end Go.Proofs.YthgkedoildcbcaaGreatDoor
namespace Go.Proofs.YthgkedoildcbcaaGreatDoor
open Go.RowKit Go.Maps
theorem nZ {l:af} (h:bA l=0):l.length≤200:=by
 unfold bA at h;by_cases h2:200<l.length
 ·rw [if_pos h2]at h;cases h
 omega
theorem Kg (mb nm:Nat) (LP:List aH) (A2:Option Addr) (n2 c2:Nat) (L:List aG) (w:World) (B:Nat) (hB:B≤w.heap.size) (hE:fq w (· < B) mb nm LP) (JA:∀ s set,fK LP s=some set→set.length≤200) (hL:bO w B A2 n2 L) (hok:b7 L=0) :
    Calls Tryz.prog 93 #[.map (some mb),.slice A2 n2 c2] w fun e w'=>JE w' B w.heap.size (bZ LP L) e∧Below w.heap.size w w':=by
 obtain⟨i0,hi,hz0,pY,tG⟩:=info_parts JL;obtain⟨h20,hall⟩:=Df hok;have UY:n2≤20:=(by rw [← jR.len hL];exact h20);have hmb:=hE.lt;have aO:=qqh (jR.len hL);have HL:=qqh hL;have HA:=qqh hall;have HE:=qqh hE;have Dq:=qqh JA;clear hL hok h20 hall hE JA;go_enter Tryz.func93,Tryz.ntmps93;go_wp2_with fail;go_loopw [6,13] (Rs w B LP L n2) (fun _ i _=>n2 - (intOf i).toNat);(case atStart=>exact⟨0,[],Nat.zero_le _,rfl,rfl,kH.nil w B⟩);obtain⟨k,ll,hk,rfl,aV,hst⟩:=hrel;have hll:=Ig aV;have ac1:ll.length≤k:=(by rw [hll];exact List.length_take_le _ _);clear hll;have hz:=hst.2.size;by_cases hlt:k<n2
 ·obtain⟨a,ha⟩:∃ z,L[k]? = some z:=⟨_,List.getElem?_eq_getElem (by rw [aO.out];exact hlt)⟩;have hka:=EK (HA.out a (List.mem_of_getElem? ha));obtain⟨b,off,A',n',c',rfl,cC,f0,f1,f2,f3,xe,hn',_,hnm⟩:=uu HL.out ha;have jX:b<w.heap.size:=(by omega);have d0:=(hst.2.cell (p:=⟨b,off+k*4,none⟩) jX).trans f0;have d1:=(hst.2.cell (p:=⟨b,off+k*4+1,none⟩) jX).trans f1;have d2:=(hst.2.cell (p:=⟨b,off+k*4+2,none⟩) jX).trans f2;have d3:=(hst.2.cell (p:=⟨b,off+k*4+3,none⟩) jX).trans f3;clear f0 f1 f2 f3;have T7:=qqh xe;have iV:=qqh (kH.alloc hst (.cells #[.int .i64 a.kind,.int .i32 a.rune,.slice A' n' c',.string a.name] 171));have MG:=qqh (ai.new wr 171 #[.int .i64 a.kind,.int .i32 a.rune,.slice A' n' c',.string a.name]);have dQ:=qqh aV;have oG:=qqh ha;clear xe hn' aV hst;rcases hka with ⟨hk1,hk2⟩ | ⟨hk1,hk2⟩ | ⟨hk1,hk2⟩
  ·have pW:=qqh (show tQ LP a=some [(a.rune,a.rune)] by unfold tQ;rw [if_pos hk1]);have q1:(a.kind == 1)=true:=(by rw [hk1];rfl);clear hk1 hk2;have O5:=kH.alloc iV.out (.cells #[.int .i32 a.rune,.int .i32 a.rune] 77);have XY:=cE.new (w:=wr.alloc (.cells #[.int .i64 a.kind,.int .i32 a.rune,.slice A' n' c',.string a.name] 171)) (X:=MB B w.heap.size u6) (n:=1) (sz:=2) 77 [.int .i32 a.rune,.int .i32 a.rune] rfl (by
    obtain⟨⟨css,g1,g2,g3,g4⟩,g5⟩:=iV.out;exact⟨.inr g5.size,vK g4 (.inr (Nat.le_refl _))⟩)
   rw [show(wr.alloc (.cells #[.int .i64 a.kind,.int .i32 a.rune,.slice A' n' c',.string a.name] 171)).heap.size=wr.heap.size+1 by simp]at XY;have HU:=qqh (show ja ((wr.alloc (.cells #[.int .i64 a.kind,.int .i32 a.rune,.slice A' n' c',.string a.name] 171)).alloc (.cells #[.int .i32 a.rune,.int .i32 a.rune] 77)) (MB B w.heap.size u6) [(a.rune,a.rune)] (.slice (some ⟨wr.heap.size+1,0,none⟩) 1 1) from⟨_,_,_,rfl,XY,by decide⟩);have Pn:=qqh O5;clear O5 XY;obtain⟨⟨css,g1,g2,g3,g4⟩,g5⟩:=Pn.out;have hN:=Rd.new ((wr.alloc (.cells #[.int .i64 a.kind,.int .i32 a.rune,.slice A' n' c',.string a.name] 171)).alloc (.cells #[.int .i32 a.rune,.int .i32 a.rune] 77)) 41 1 1 [.slice (some ⟨wr.heap.size+1,0,none⟩) 1 1] rfl;rw [show((wr.alloc (.cells #[.int .i64 a.kind,.int .i32 a.rune,.slice A' n' c',.string a.name] 171)).alloc (.cells #[.int .i32 a.rune,.int .i32 a.rune] 77)).heap.size=wr.heap.size+1+1 by simp]at hN;have HN:=qqh hN;have HO:=qqh (World.ownsRow.alloc g4 (.cells #[.slice (some ⟨wr.heap.size+1,0,none⟩) 1 1] 41));have HZ:=qqh ((g5.alloc g5.size (.cells #[.slice (some ⟨wr.heap.size+1,0,none⟩) 1 1] 41)).size);have G1:=qqh g1;have G2:=qqh g2;have G3:=qqh g3;have G4:=qqh g4;have G5:=qqh g5;clear g1 g2 g3 g4 g5 hN;go_wp2_with (at_builtin;refine aj _ rfl (.tmp 35) (.tmp 42) 66 rfl w.heap.size 41 i0 _ 1 24 Tryz.underlying66 hi hz0 pY tG rfl (by decide) _ _ _ rfl HO.out _ (some ⟨wr.heap.size+1+1,0,none⟩) 1 1 [.slice (some ⟨wr.heap.size+1,0,none⟩) 1 1] rfl HN.out ?one1 (by simp only [maxLen];omega) (by omega) HZ.out ?_);(case one1=>intro x hx;simp at hx;subst hx;rfl);intro v9 w9 an
   have ff:=qqh (kH.push G1.out G2.out G3.out G4.out G5.out HU.out an);clear an;go_wp2_with fail;exact⟨⟨k+1,ll++[_],by omega,by go_num,pH oG.out dQ.out pW.out,ff.out⟩,by simp [intOf];omega⟩
  ·have pW:=qqh (show tQ LP a=some a.set by unfold tQ;rw [hk1,if_neg (by decide),if_pos rfl]);have q1:(a.kind == 1)=false:=(by rw [hk1];rfl);have q2:(a.kind == 2)=true:=(by rw [hk1];rfl);have Fb:=nZ hk2;have hlen:=jz.len T7.out;have hn2:n'≤1000:=(by omega);clear hk1 hk2 hlen Fb;go_wp2_with fail;refine(nB A' n' c' B a.set _ (Rd.below T7.out (iV.out.2.mono hB)) hn2).mono ?_;rintro e wx ⟨⟨u,rfl,hu⟩,hb⟩;have Pn:=qqh (kH.below iV.out hb);have OD:=hu;obtain⟨A7,n7,c7,rfl,_⟩:=OD;have HU:=qqh (show ja wx (MB B w.heap.size u6) a.set (.slice A7 n7 c7) from ja.keep (aa.refl (fun b hb=>by
    have g:=iV.out;obtain⟨⟨css,g1,g2,g3,g4⟩,g5⟩:=g;exact⟨.inr (Nat.le_trans g5.size hb),vK g4 (.inr hb)⟩)) hu)
   clear hu hb;obtain⟨⟨css,g1,g2,g3,g4⟩,g5⟩:=Pn.out;have HN:=qqh (Rd.new wx 41 1 1 [(.slice A7 n7 c7)] rfl);have HO:=qqh (World.ownsRow.alloc g4 (.cells #[(.slice A7 n7 c7)] 41));have HZ:=qqh (Nat.le_trans g5.size (show wx.heap.size≤(wx.alloc (.cells #[(.slice A7 n7 c7)] 41)).heap.size by simp));have G1:=qqh g1;have G2:=qqh g2;have G3:=qqh g3;have G4:=qqh g4;have G5:=qqh g5;clear g1 g2 g3 g4 g5;go_wp2_with (at_builtin;refine aj _ rfl (.tmp 46) (.tmp 50) 66 rfl w.heap.size 41 i0 _ 1 24 Tryz.underlying66 hi hz0 pY tG rfl (by decide) _ _ _ rfl HO.out _ (some ⟨wx.heap.size,0,none⟩) 1 1 [(.slice A7 n7 c7)] rfl HN.out ?one2 (by simp only [maxLen];omega) (by omega) HZ.out ?_);(case one2=>intro x hx;simp at hx;subst hx;rfl);intro v9 w9 an;have ff:=qqh (kH.push G1.out G2.out G3.out G4.out G5.out HU.out an);clear an;go_wp2_with fail;exact⟨⟨k+1,ll++[_],by omega,by go_num,pH oG.out dQ.out pW.out,ff.out⟩,by simp [intOf];omega⟩
  have hsp:tQ LP a=fK LP a.name:=(by unfold tQ;rw [hk1,if_neg (by decide),if_neg (by decide)]);have q1:(a.kind == 1)=false:=(by rw [hk1];rfl);have q2:(a.kind == 2)=false:=(by rw [hk1];rfl);clear hk1 hk2;have XN:=fq.keep (X':=(· < B)) (aa.below iV.out.2 (fun _ h _=>h)) (iV.out.2.block mb hmb) HE.out;obtain⟨D,hD,_,jV⟩:=XN;have jV:=jV a.name;have HD:=qqh hD;clear hD;cases hlk:fK LP a.name with
  | none=>
   rw [hlk]at jV;have pW:=qqh (hsp.trans hlk);have Qh:=qqh jV.1;have RF:=qqh jV.2;clear hsp hlk jV;go_wp2_with (at_lookup;refine l8 rfl (.tmp 20) (.tmp 22) rfl mb nm D rfl HD.out a.name rfl hnm (.slice none 0 0) false Qh.out RF.out ?_);go_ret2;rw [Ew oG.out pW.out];exact⟨rfl,iV.out.2⟩
  | some s=>
   rw [hlk]at jV;obtain⟨u,h1,h2,h3⟩:=jV;obtain⟨A6,n6,c6,rfl,hrd,_⟩:=h3;have pW:=qqh (hsp.trans hlk);have Qh:=qqh h1;have RF:=qqh h2;have Fb:=Dq.out a.name s hlk;have Fq:Rd (wr.alloc (.cells #[.int .i64 a.kind,.int .i32 a.rune,.slice A' n' c',.string a.name] 171)) B 2 A6 n6 (ak s):=cE.rd hrd (fun _ h _=>h);have hlen:=jz.len Fq;have hn2:n6≤1000:=(by omega);have kF:=qqh Fq;clear hsp hlk h1 h2 hrd Fb Fq hlen;go_wp2_with (at_lookup;refine l8 rfl (.tmp 20) (.tmp 22) rfl mb nm D rfl HD.out a.name rfl hnm (.slice A6 n6 c6) true Qh.out RF.out ?_);refine(nB A6 n6 c6 B s _ kF.out hn2).mono ?_;rintro e wx ⟨⟨u,rfl,hu⟩,hb⟩;have Pn:=qqh (kH.below iV.out hb);have OD:=hu;obtain⟨A7,n7,c7,rfl,_⟩:=OD;have HU:=qqh (show ja wx (MB B w.heap.size u6) s (.slice A7 n7 c7) from ja.keep (aa.refl (fun b hb=>by
    have g:=iV.out;obtain⟨⟨css,g1,g2,g3,g4⟩,g5⟩:=g;exact⟨.inr (Nat.le_trans g5.size hb),vK g4 (.inr hb)⟩)) hu)
   clear hu hb;obtain⟨⟨css,g1,g2,g3,g4⟩,g5⟩:=Pn.out;have HN:=qqh (Rd.new wx 41 1 1 [(.slice A7 n7 c7)] rfl);have HO:=qqh (World.ownsRow.alloc g4 (.cells #[(.slice A7 n7 c7)] 41));have HZ:=qqh (Nat.le_trans g5.size (show wx.heap.size≤(wx.alloc (.cells #[(.slice A7 n7 c7)] 41)).heap.size by simp));have G1:=qqh g1;have G2:=qqh g2;have G3:=qqh g3;have G4:=qqh g4;have G5:=qqh g5;clear g1 g2 g3 g4 g5;go_wp2_with (at_builtin;refine aj _ rfl (.tmp 28) (.tmp 31) 66 rfl w.heap.size 41 i0 _ 1 24 Tryz.underlying66 hi hz0 pY tG rfl (by decide) _ _ _ rfl HO.out _ (some ⟨wx.heap.size,0,none⟩) 1 1 [(.slice A7 n7 c7)] rfl HN.out ?one3 (by simp only [maxLen];omega) (by omega) HZ.out ?_);(case one3=>intro x hx;simp at hx;subst hx;rfl);intro v9 w9 an;have ff:=qqh (kH.push G1.out G2.out G3.out G4.out G5.out HU.out an);clear an;go_wp2_with fail;exact⟨⟨k+1,ll++[_],by omega,by go_num,pH oG.out dQ.out pW.out,ff.out⟩,by simp [intOf];omega⟩
 obtain rfl:k=n2:=(by omega);rw [List.take_of_length_le (by rw [aO.out];omega)]at aV;have HG:=qqh aV;have HS:=qqh hst;clear aV hst;obtain⟨AO,cO,rfl,_⟩:=HS.out.1.form;go_wp2_with fail;go_ret2;rw [HG.out];exact⟨⟨_,rfl,kH.post HS.out (by unfold maxLen;omega)⟩,HS.out.2⟩
end Go.Proofs.YthgkedoildcbcaaGreatDoor
namespace Go.Proofs.YthgkedoildcbcaaGreatDoor
open Go.RowKit Go.Maps
theorem JM:(Tryz.prog.info? 21).map (fun i=>(i.zero,i.size,i.bytes))=some (some (.int .i32 0),1,4):=by kernel_rfl
theorem zX {w:World} {B lo:Nat} {r:Option (List af)} {e:Ending} (h:JE w B lo r e) :
    ∃ A n c b,e=.returned (.tuple #[.slice A n c,.bool b])∧b=r.isSome∧∀ ll,r=some ll→fE w (Fr B lo) ll (.slice A n c):=by
 cases r with
 | none=>exact⟨none,0,0,false,h,rfl,fun _ h=>by cases h⟩
 | some ll=>
  obtain⟨u,rfl,hu⟩:=h;have OD:=hu;obtain⟨A,n,c,rfl,_⟩:=OD;exact⟨A,n,c,true,rfl,rfl,fun _ h=>by cases h;exact hu⟩
abbrev iB:Array Value:=#[.bool false,.bool false,.slice none 0 0,.slice none 0 0,.slice none 0 0,.slice none 0 0,.int .i64 0]
def ym (w:World) (uf uv:Array Value) (wx:World):Prop :=
  ai wx w.heap.size 95 uf∧ai wx (w.heap.size+1) 95 uv∧ai wx (w.heap.size+2) 68 iB∧Below w.heap.size w wx
theorem ym.made (w:World) (uf uv:Array Value):ym w uf uv (((w.alloc (.cells uf 95)).alloc (.cells uv 95)).alloc (.cells iB 68)):=by
 refine⟨ai.alloc (ai.alloc (ai.new _ _ _) _) _,?_,?_,(((Below.refl _ _).alloc (Nat.le_refl _) _).alloc (by simp) _).alloc (by simp;omega) _⟩
 ·have:=ai.alloc (ai.new (w.alloc (.cells uf 95)) 95 uv) (.cells iB 68);simpa using this
 have:=ai.new ((w.alloc (.cells uf 95)).alloc (.cells uv 95)) 68 iB;simpa using this
theorem ym.below {w wx w2:World} {uf uv:Array Value} (h:ym w uf uv wx) (hb:Below wx.heap.size wx w2):ym w uf uv w2 :=
  ⟨ai.below h.1 hb h.1.lt,ai.below h.2.1 hb h.2.1.lt,ai.below h.2.2.1 hb h.2.2.1.lt,h.2.2.2.trans (hb.mono h.2.2.2.size)⟩
def DV (w:World) (B lo:Nat) (r:Option ax) (e:Ending):Prop :=
  ∃ cs:List Value,cs.length=7∧e=.returned (.tuple #[.agg cs.toArray,.bool r.isSome])∧(∀ u∈cs,u.oneCell'=true)∧∀ rd,r=some rd→aW w (Fr B lo) rd cs
theorem KA {L:List aG} {k:Nat} {a:aG} (h:L[k]? = some a):(L.take (k+1)).map (·.rune)=(L.take k).map (·.rune)++[a.rune]:=by
 rw [List.take_add_one,h];simp
theorem qK (l:List aH) (f t:bQ):(eD l f t).isSome=((bZ l f.before).isSome && (bZ l f.source).isSome && (bZ l f.after).isSome):=by
 unfold eD;cases bZ l f.before <;> cases bZ l f.source <;> cases bZ l f.after <;> rfl
theorem Gy {l:List aH} {f t:bQ} {rd:ax} (h:eD l f t=some rd):∃ a b c,bZ l f.before=some a∧bZ l f.source=some b∧bZ l f.after=some c ∧
    rd=⟨f.start,f.fin,a,b,c,t.source.map (·.rune),if t.ag<0 then (t.source.length:Int)else t.ag⟩:=by
 unfold eD at h;cases h1:bZ l f.before with
 | none=>rw [h1]at h;cases h
 | some a=>
  cases h2:bZ l f.source with
  | none=>rw [h1,h2]at h;cases h
  | some b=>
   cases h3:bZ l f.after with
   | none=>rw [h1,h2,h3]at h;cases h
   | some c=>
    rw [h1,h2,h3]at h;cases h;exact⟨a,b,c,rfl,rfl,rfl,rfl⟩
abbrev Ko (w:World) (g:Nat) (u0 u1 u2 u3 u4 u5 u6:Value):World :=
  ((((((w.setCell ⟨g,0,none⟩ u0).setCell ⟨g,1,none⟩ u1).setCell ⟨g,2,none⟩ u2).setCell ⟨g,3,none⟩ u3).setCell ⟨g,4,none⟩ u4).setCell ⟨g,5,none⟩ u5).setCell ⟨g,6,none⟩ u6
theorem Pw {w:World} {X:Nat→Prop} {g:Nat} (h:∀ b,X b→b≠g) (u0 u1 u2 u3 u4 u5 u6:Value):aa w X (Ko w g u0 u1 u2 u3 u4 u5 u6) X:=by
 have one:∀ (w:World) (i:Nat) (u:Value),aa w X (w.setCell ⟨g,i,none⟩ u) X:=fun w i u=>aa.setCell u (fun b hb=>h b hb) (fun _ h _=>h);exact((((((one _ 0 u0).trans (one _ 1 u1)).trans (one _ 2 u2)).trans (one _ 3 u3)).trans (one _ 4 u4)).trans (one _ 5 u5)).trans (one _ 6 u6)
theorem zI {w w0:World} {g B:Nat} (h:Below B w0 w) (hg:B≤g) (u0 u1 u2 u3 u4 u5 u6:Value):Below B w0 (Ko w g u0 u1 u2 u3 u4 u5 u6) :=
  ((((((h.setCell hg _).setCell hg _).setCell hg _).setCell hg _).setCell hg _).setCell hg _).setCell hg _
end Go.Proofs.YthgkedoildcbcaaGreatDoor
namespace Go.Proofs.YthgkedoildcbcaaGreatDoor
open Go.RowKit Go.Maps
def jG (w:World) (uf uv MH arr:Array Value) (wx:World):Prop :=
  ai wx w.heap.size 95 uf∧ai wx (w.heap.size+1) 95 uv∧ai wx (w.heap.size+2) 68 iB ∧
  ai wx (w.heap.size+3) 68 MH∧ai wx (w.heap.size+4) 166 arr∧Below w.heap.size w wx
section
variable {w wx w2 : World} {uf uv MH arr : Array Value}
theorem jG.below (h:jG w uf uv MH arr wx) (hb:Below wx.heap.size wx w2):jG w uf uv MH arr w2 :=
  ⟨ai.below h.1 hb h.1.lt,ai.below h.2.1 hb h.2.1.lt,ai.below h.2.2.1 hb h.2.2.1.lt,ai.below h.2.2.2.1 hb h.2.2.2.1.lt,ai.below h.2.2.2.2.1 hb h.2.2.2.2.1.lt,h.2.2.2.2.2.trans (hb.mono h.2.2.2.2.2.size)⟩
theorem jG.alloc (h:jG w uf uv MH arr wx) (o:Obj):jG w uf uv MH arr (wx.alloc o):=h.below ((Below.refl _ _).alloc (Nat.le_refl _) o)
theorem jG.put (h:jG w uf uv MH arr wx) (i:Nat) (u:Value):jG w uf uv (MH.setIfInBounds i u) arr (wx.setCell ⟨w.heap.size+3,i,none⟩ u) :=
  ⟨au h.1 (by omega),au h.2.1 (by omega),au h.2.2.1 (by omega),h.2.2.2.1.put i u,au h.2.2.2.2.1 (by omega),h.2.2.2.2.2.setCell (by simp) _⟩
theorem jG.app {base sz n m:Nat} {e:TypeId} {v v':Value} {xs ys:List Value} (h:jG w uf uv MH arr wx) (ho:wx.ownsRow base e sz v n xs) (h1 : 95 ≠ e) (h2 : 68 ≠ e) (h3 : 166 ≠ e) (hb:w.heap.size≤base) (ha:aY base e sz v wx m ys v' w2):jG w uf uv MH arr w2 :=
  ⟨bX h.1 ho h1 ha,bX h.2.1 ho h1 ha,bX h.2.2.1 ho h2 ha,bX h.2.2.2.1 ho h2 ha,bX h.2.2.2.2.1 ho h3 ha,h.2.2.2.2.2.trans (ha.below h.2.2.2.2.2.size (lX ho hb))⟩
end
def Laid (w:World) (B lo:Nat) (r:Option (List af)) (v:Value):Prop:=∃ A n c ll,v=.slice A n c∧r=some ll∧fE w (Fr B lo) ll v
theorem Laid.keep {w w':World} {B lo:Nat} {r:Option (List af)} {v:Value} (hk:aa w (Fr B lo) w' (Fr B lo)) (h:Laid w B lo r v):Laid w' B lo r v:=by
 obtain⟨A,n,c,ll,e,h1,h2⟩:=h;exact⟨A,n,c,ll,e,h1,h2.keep hk⟩
def Vp (w:World) (B:Nat) (uf uv arr:Array Value) (c0 c1:Value) (r1 r2 r3:Option (List af)) (i:Value) (wr:World):Prop :=
  ∃ (k:Nat) (v1 v2 v3:Value),k≤3∧i=.int .i64 k∧jG w uf uv #[c0,c1,v1,v2,v3,.slice none 0 0,.int .i64 0] arr wr ∧
    (if k<1 then v1=.slice none 0 0 else Laid wr B (w.heap.size+5) r1 v1)∧(if k<2 then v2=.slice none 0 0 else Laid wr B (w.heap.size+5) r2 v2)∧(if k<3 then v3=.slice none 0 0 else Laid wr B (w.heap.size+5) r3 v3)
def UM (w w0:World) (B:Nat) (uf uv arr:Array Value) (c0 c1 c2 c3 c4:Value) (L:List aG) (n:Nat) (i:Value) (wr:World):Prop :=
  ∃ (k:Nat) (v:Value),k≤n∧i=.int .i64 k∧jG w uf uv #[c0,c1,c2,c3,c4,v,.int .i64 0] arr wr∧wr.ownsRow w0.heap.size 21 1 v k (runeCells ((L.take k).map (·.rune))) ∧
    aa w0 (Fr B (w.heap.size+5)) wr (fun b=>Fr B (w.heap.size+5) b∧b<w0.heap.size)∧w0.heap.size≤wr.heap.size
theorem zv {w:World} {B lo:Nat} {l:List aH} {f t:bQ} {cs:List Value} (h:((bZ l f.before).isSome && (bZ l f.source).isSome && (bZ l f.after).isSome)=false) (hc:cs.length=7) (h1:∀ u∈cs,u.oneCell'=true) :
    DV w B lo (eD l f t) (.returned (.tuple #[.agg cs.toArray,.bool false])):=by
 have hn:=(qK l f t).trans h;refine⟨cs,hc,by rw [hn],h1,fun rd hr=>?_⟩;rw [hr]at hn;cases hn
theorem BV (mb nm:Nat) (LP:List aH) (f t:bQ) (L1 L2 L3 R1 R2 R3:Option Addr) (a1 a2 a3 x1 x2 x3 b1 b2 b3 y1 y2 y3:Nat) (w:World) (B:Nat) (hB:B≤w.heap.size) (hE:fq w (· < B) mb nm LP) (JA:∀ s set,fK LP s=some set→set.length≤200)
    (l1:bO w B L1 a1 f.before) (l2:bO w B L2 a2 f.source) (l3:bO w B L3 a3 f.after) (k1:b7 f.before=0) (k2:b7 f.source=0) (k3:b7 f.after=0) (r2:bO w B R2 b2 t.source) (j2:b7 t.source=0) :
    Calls Tryz.prog 68 #[.map (some mb),.agg #[.bool f.start,.bool f.fin,.slice L1 a1 x1,.slice L2 a2 x2,.slice L3 a3 x3,.int .i64 f.ag],.agg #[.bool t.start,.bool t.fin,.slice R1 b1 y1,.slice R2 b2 y2,.slice R3 b3 y3,.int .i64 t.ag]] w
      fun e w'=>DV w' B w.heap.size (eD LP f t) e∧Below w.heap.size w w':=by
 obtain⟨i0,hi,hz0,pY,tG⟩:=info_parts JM;obtain⟨h20,_⟩:=Df j2;have aft:b2≤20:=(by rw [← jR.len r2];exact h20);have FV:=qqh (jR.len r2);have iT:=qqh r2;have hs:=fun(w':World) (hb:Below w.heap.size w w') (A':Option Addr) (n' c':Nat) (L:List aG) (hL:bO w B A' n' L) (hok:b7 L=0)=>Kg mb nm LP A' n' c' L w' B (Nat.le_trans hB hb.size) (fq.keep (aa.below hb (fun _ h _=>h)) (hb.block mb hE.lt) hE) JA (bO.weak (eO (hb.mono hB) (Nat.le_refl _)) hL) hok;have iV:=qqh (fun(w':World) (hb:Below w.heap.size w w')=>hs w' hb L1 a1 x1 f.before l1 k1);have jl:=qqh (fun(w':World) (hb:Below w.heap.size w w')=>hs w' hb L2 a2 x2 f.source l2 k2);have Br:=qqh (fun(w':World) (hb:Below w.heap.size w w')=>hs w' hb L3 a3 x3 f.after l3 k3);have hx0:=ym.made w #[.bool f.start,.bool f.fin,.slice L1 a1 x1,.slice L2 a2 x2,.slice L3 a3 x3,.int .i64 f.ag] #[.bool t.start,.bool t.fin,.slice R1 b1 y1,.slice R2 b2 y2,.slice R3 b3 y3,.int .i64 t.ag];have hx1:jG w #[.bool f.start,.bool f.fin,.slice L1 a1 x1,.slice L2 a2 x2,.slice L3 a3 x3,.int .i64 f.ag] #[.bool t.start,.bool t.fin,.slice R1 b1 y1,.slice R2 b2 y2,.slice R3 b3 y3,.int .i64 t.ag] #[.bool f.start,.bool f.fin,.slice none 0 0,.slice none 0 0,.slice none 0 0,.slice none 0 0,.int .i64 0] #[.slice L1 a1 x1,.pointer (some ⟨w.heap.size+3,2,none⟩),.slice L2 a2 x2,.pointer (some ⟨w.heap.size+3,3,none⟩),.slice L3 a3 x3,.pointer (some ⟨w.heap.size+3,4,none⟩)] ((((((w.alloc (.cells #[.bool f.start,.bool f.fin,.slice L1 a1 x1,.slice L2 a2 x2,.slice L3 a3 x3,.int .i64 f.ag] 95)).alloc (.cells #[.bool t.start,.bool t.fin,.slice R1 b1 y1,.slice R2 b2 y2,.slice R3 b3 y3,.int .i64 t.ag] 95)).alloc (.cells iB 68))).alloc (.cells #[.bool f.start,.bool f.fin,.slice none 0 0,.slice none 0 0,.slice none 0 0,.slice none 0 0,.int .i64 0] 68)).alloc (.cells #[.slice L1 a1 x1,.pointer (some ⟨w.heap.size+3,2,none⟩),.slice L2 a2 x2,.pointer (some ⟨w.heap.size+3,3,none⟩),.slice L3 a3 x3,.pointer (some ⟨w.heap.size+3,4,none⟩)] 166)):=by
  obtain⟨g1,g2,g3,g4⟩:=hx0;refine⟨ai.alloc (ai.alloc g1 _) _,ai.alloc (ai.alloc g2 _) _,ai.alloc (ai.alloc g3 _) _,ai.alloc ?_ _,?_,(g4.alloc g4.size _).alloc (g4.alloc g4.size _).size _⟩
  ·have:=ai.new (((w.alloc (.cells #[.bool f.start,.bool f.fin,.slice L1 a1 x1,.slice L2 a2 x2,.slice L3 a3 x3,.int .i64 f.ag] 95)).alloc (.cells #[.bool t.start,.bool t.fin,.slice R1 b1 y1,.slice R2 b2 y2,.slice R3 b3 y3,.int .i64 t.ag] 95)).alloc (.cells iB 68)) 68 #[.bool f.start,.bool f.fin,.slice none 0 0,.slice none 0 0,.slice none 0 0,.slice none 0 0,.int .i64 0];simpa using this
  have:=ai.new ((((w.alloc (.cells #[.bool f.start,.bool f.fin,.slice L1 a1 x1,.slice L2 a2 x2,.slice L3 a3 x3,.int .i64 f.ag] 95)).alloc (.cells #[.bool t.start,.bool t.fin,.slice R1 b1 y1,.slice R2 b2 y2,.slice R3 b3 y3,.int .i64 t.ag] 95)).alloc (.cells iB 68)).alloc (.cells #[.bool f.start,.bool f.fin,.slice none 0 0,.slice none 0 0,.slice none 0 0,.slice none 0 0,.int .i64 0] 68)) 166 #[.slice L1 a1 x1,.pointer (some ⟨w.heap.size+3,2,none⟩),.slice L2 a2 x2,.pointer (some ⟨w.heap.size+3,3,none⟩),.slice L3 a3 x3,.pointer (some ⟨w.heap.size+3,4,none⟩)];simpa using this
 have rY:=qqh hx1;clear hs l1 l2 l3 r2 k1 k2 k3 j2 h20 hx0 hx1 hE JA;go_enter Tryz.func68,Tryz.ntmps68;go_wp2_with fail;go_loopw [34] (Vp w B #[.bool f.start,.bool f.fin,.slice L1 a1 x1,.slice L2 a2 x2,.slice L3 a3 x3,.int .i64 f.ag] #[.bool t.start,.bool t.fin,.slice R1 b1 y1,.slice R2 b2 y2,.slice R3 b3 y3,.int .i64 t.ag] #[.slice L1 a1 x1,.pointer (some ⟨w.heap.size+3,2,none⟩),.slice L2 a2 x2,.pointer (some ⟨w.heap.size+3,3,none⟩),.slice L3 a3 x3,.pointer (some ⟨w.heap.size+3,4,none⟩)] (.bool f.start) (.bool f.fin) (bZ LP f.before) (bZ LP f.source) (bZ LP f.after)) (fun i _=>3 - (intOf i).toNat);(case atStart=>exact⟨0,_,_,_,by omega,rfl,rY.out,by simp,by simp,by simp⟩);obtain⟨k,v1,v2,v3,hk,rfl,jV,g1,g2,g3⟩:=hrel;by_cases hlt:k<3
 ·obtain rfl | rfl | rfl:k=0∨k=1∨k=2:=(by omega)
  ·obtain rfl:v1=.slice none 0 0:=(by simpa using g1);obtain rfl:v2=.slice none 0 0:=(by simpa using g2);obtain rfl:v3=.slice none 0 0:=(by simpa using g3);clear g1 g2 g3;have z0:wr.cell? ⟨w.heap.size+4,0,none⟩=some (.slice L1 a1 x1):=jV.2.2.2.2.1.cell 0;have z1:wr.cell? ⟨w.heap.size+4,1,none⟩=some (.pointer (some ⟨w.heap.size+3,2,none⟩)):=jV.2.2.2.2.1.cell 1;have th:=qqh (jG.alloc jV (.cells #[.slice L1 a1 x1,.pointer (some ⟨w.heap.size+3,2,none⟩)] 166));have HK:=qqh (ai.new wr 166 #[.slice L1 a1 x1,.pointer (some ⟨w.heap.size+3,2,none⟩)]);clear jV;go_wp2_with fail;refine(iV.out _ th.out.2.2.2.2.2).mono ?_;rintro e w2 ⟨he,aR⟩;obtain⟨A9,n9,c9,o9,rfl,jo,AZ⟩:=zX he;have aX:=jG.below th.out aR;have hk2:=ai.below HK.out aR HK.out.lt;have t0:w2.cell? ⟨w.heap.size+3,0,none⟩=some (.bool f.start):=aX.2.2.2.1.cell 0;have t1:w2.cell? ⟨w.heap.size+3,1,none⟩=some (.bool f.fin):=aX.2.2.2.1.cell 1;have t2:w2.cell? ⟨w.heap.size+3,2,none⟩=some (.slice none 0 0):=aX.2.2.2.1.cell 2;have t3:w2.cell? ⟨w.heap.size+3,3,none⟩=some (.slice none 0 0):=aX.2.2.2.1.cell 3;have t4:w2.cell? ⟨w.heap.size+3,4,none⟩=some (.slice none 0 0):=aX.2.2.2.1.cell 4;have t5:w2.cell? ⟨w.heap.size+3,5,none⟩=some (.slice none 0 0):=aX.2.2.2.1.cell 5;have t6:w2.cell? ⟨w.heap.size+3,6,none⟩=some (.int .i64 0):=aX.2.2.2.1.cell 6;have s0:w2.cell? ⟨w.heap.size+2,0,none⟩=some (.bool false):=aX.2.2.1.cell 0;have Yr:=aX.2.2.1.frozen 0;have s1:w2.cell? ⟨w.heap.size+2,1,none⟩=some (.bool false):=aX.2.2.1.cell 1;have Y0:=aX.2.2.1.frozen 1;have s2:w2.cell? ⟨w.heap.size+2,2,none⟩=some (.slice none 0 0):=aX.2.2.1.cell 2;have Zu:=aX.2.2.1.frozen 2
   have s3:w2.cell? ⟨w.heap.size+2,3,none⟩=some (.slice none 0 0):=aX.2.2.1.cell 3;have Yp:=aX.2.2.1.frozen 3;have s4:w2.cell? ⟨w.heap.size+2,4,none⟩=some (.slice none 0 0):=aX.2.2.1.cell 4;have sf4:=aX.2.2.1.frozen 4;have s5:w2.cell? ⟨w.heap.size+2,5,none⟩=some (.slice none 0 0):=aX.2.2.1.cell 5;have Zf:=aX.2.2.1.frozen 5;have s6:w2.cell? ⟨w.heap.size+2,6,none⟩=some (.int .i64 0):=aX.2.2.1.cell 6;have sf6:=aX.2.2.1.frozen 6;have m1:w2.cell? ⟨wr.heap.size,1,none⟩=some (.pointer (some ⟨w.heap.size+3,2,none⟩)):=hk2.cell 1;have mf:=aX.2.2.2.1.frozen 2;have C0:=qqh aX;have bw:=qqh aR;have gS:=qqh jo;have Od:=qqh AZ;have QS:=aX.2.2.2.2.1.lt;clear he aX hk2 aR jo AZ;cases o9
   ·go_wp2_with fail;exact bodyPost_ret (by simp [results,Tryz.results68,go_sem,s0,s1,s2,s3,s4,s5,s6]) rfl ⟨zv (cs:=[.bool f.start,.bool f.fin,.slice none 0 0,.slice none 0 0,.slice none 0 0,.slice none 0 0,.int .i64 0]) (by rw [← gS.out];simp) rfl (by intro u hu;simp only [List.mem_cons,List.not_mem_nil,or_false]at hu;rcases hu with rfl | rfl | rfl | rfl | rfl | rfl | rfl <;> rfl),zI C0.out.2.2.2.2.2 (by omega) _ _ _ _ _ _ _⟩
   go_wp2_with fail;obtain⟨OO,Bx⟩:=Option.isSome_iff_exists.1 gS.out.symm;have kk:aa w2 (Fr B (w.heap.size+5)) (w2.setCell ⟨w.heap.size+3,2,none⟩ (.slice A9 n9 c9)) (Fr B (w.heap.size+5)):=aa.setCell _ (fun b hb=>by rcases hb with h | h <;> dsimp only <;> omega) (fun _ h _=>h);refine⟨⟨1,.slice A9 n9 c9,.slice none 0 0,.slice none 0 0,by omega,by go_num,C0.out.put 2 (.slice A9 n9 c9),by rw [if_neg (by omega)];exact⟨_,_,_,OO,rfl,Bx,(Od.out OO Bx).keep ((aa.refl (X':=Fr B (w.heap.size+5)) (fun b hb=>hb.imp id (fun h=>Nat.le_trans (Nat.succ_le_of_lt th.out.2.2.2.2.1.lt) h))).trans kk)⟩,by rw [if_pos (by omega)],by rw [if_pos (by omega)]⟩,by simp [intOf]⟩
  ·obtain⟨P1,p1,q1,ll1,rfl,jB,Jm⟩:=(show Laid wr B (w.heap.size+5) _ _ from by simpa using g1);obtain rfl:v2=.slice none 0 0:=(by simpa using g2);obtain rfl:v3=.slice none 0 0:=(by simpa using g3);clear g1 g2 g3;have z0:wr.cell? ⟨w.heap.size+4,2,none⟩=some (.slice L2 a2 x2):=jV.2.2.2.2.1.cell 2;have z1:wr.cell? ⟨w.heap.size+4,3,none⟩=some (.pointer (some ⟨w.heap.size+3,3,none⟩)):=jV.2.2.2.2.1.cell 3;have th:=qqh (jG.alloc jV (.cells #[.slice L2 a2 x2,.pointer (some ⟨w.heap.size+3,3,none⟩)] 166));have HK:=qqh (ai.new wr 166 #[.slice L2 a2 x2,.pointer (some ⟨w.heap.size+3,3,none⟩)]);have Jp:=qqh (Jm.keep (aa.alloc (.cells #[.slice L2 a2 x2,.pointer (some ⟨w.heap.size+3,3,none⟩)] 166) (fun _ h _=>h)));have Je:=qqh jB;clear jV Jm jB;go_wp2_with fail;refine(jl.out _ th.out.2.2.2.2.2).mono ?_;rintro e w2 ⟨he,aR⟩;obtain⟨A9,n9,c9,o9,rfl,jo,AZ⟩:=zX he;have aX:=jG.below th.out aR;have hk2:=ai.below HK.out aR HK.out.lt;have t0:w2.cell? ⟨w.heap.size+3,0,none⟩=some (.bool f.start):=aX.2.2.2.1.cell 0;have t1:w2.cell? ⟨w.heap.size+3,1,none⟩=some (.bool f.fin):=aX.2.2.2.1.cell 1;have t2:w2.cell? ⟨w.heap.size+3,2,none⟩=some (.slice P1 p1 q1):=aX.2.2.2.1.cell 2;have t3:w2.cell? ⟨w.heap.size+3,3,none⟩=some (.slice none 0 0):=aX.2.2.2.1.cell 3;have t4:w2.cell? ⟨w.heap.size+3,4,none⟩=some (.slice none 0 0):=aX.2.2.2.1.cell 4;have t5:w2.cell? ⟨w.heap.size+3,5,none⟩=some (.slice none 0 0):=aX.2.2.2.1.cell 5;have t6:w2.cell? ⟨w.heap.size+3,6,none⟩=some (.int .i64 0):=aX.2.2.2.1.cell 6;have s0:w2.cell? ⟨w.heap.size+2,0,none⟩=some (.bool false):=aX.2.2.1.cell 0;have Yr:=aX.2.2.1.frozen 0
   have s1:w2.cell? ⟨w.heap.size+2,1,none⟩=some (.bool false):=aX.2.2.1.cell 1;have Y0:=aX.2.2.1.frozen 1;have s2:w2.cell? ⟨w.heap.size+2,2,none⟩=some (.slice none 0 0):=aX.2.2.1.cell 2;have Zu:=aX.2.2.1.frozen 2;have s3:w2.cell? ⟨w.heap.size+2,3,none⟩=some (.slice none 0 0):=aX.2.2.1.cell 3;have Yp:=aX.2.2.1.frozen 3;have s4:w2.cell? ⟨w.heap.size+2,4,none⟩=some (.slice none 0 0):=aX.2.2.1.cell 4;have sf4:=aX.2.2.1.frozen 4;have s5:w2.cell? ⟨w.heap.size+2,5,none⟩=some (.slice none 0 0):=aX.2.2.1.cell 5;have Zf:=aX.2.2.1.frozen 5;have s6:w2.cell? ⟨w.heap.size+2,6,none⟩=some (.int .i64 0):=aX.2.2.1.cell 6;have sf6:=aX.2.2.1.frozen 6;have m1:w2.cell? ⟨wr.heap.size,1,none⟩=some (.pointer (some ⟨w.heap.size+3,3,none⟩)):=hk2.cell 1;have mf:=aX.2.2.2.1.frozen 3;have C0:=qqh aX;have bw:=qqh aR;have gS:=qqh jo;have Od:=qqh AZ;have QS:=aX.2.2.2.2.1.lt;clear he aX hk2 aR jo AZ;cases o9
   ·go_wp2_with fail;exact bodyPost_ret (by simp [results,Tryz.results68,go_sem,s0,s1,s2,s3,s4,s5,s6]) rfl ⟨zv (cs:=[.bool f.start,.bool f.fin,.slice P1 p1 q1,.slice none 0 0,.slice none 0 0,.slice none 0 0,.int .i64 0]) (by rw [← gS.out];simp) rfl (by intro u hu;simp only [List.mem_cons,List.not_mem_nil,or_false]at hu;rcases hu with rfl | rfl | rfl | rfl | rfl | rfl | rfl <;> rfl),zI C0.out.2.2.2.2.2 (by omega) _ _ _ _ _ _ _⟩
   go_wp2_with fail;obtain⟨OO,Bx⟩:=Option.isSome_iff_exists.1 gS.out.symm;have kk:aa w2 (Fr B (w.heap.size+5)) (w2.setCell ⟨w.heap.size+3,3,none⟩ (.slice A9 n9 c9)) (Fr B (w.heap.size+5)):=aa.setCell _ (fun b hb=>by rcases hb with h | h <;> dsimp only <;> omega) (fun _ h _=>h);refine⟨⟨2,.slice P1 p1 q1,.slice A9 n9 c9,.slice none 0 0,by omega,by go_num,C0.out.put 3 (.slice A9 n9 c9),by rw [if_neg (by omega)];exact⟨_,_,_,_,rfl,Je.out,Jp.out.keep ((aa.below bw.out (fun _ h _=>h)).trans kk)⟩,by rw [if_neg (by omega)];exact⟨_,_,_,OO,rfl,Bx,(Od.out OO Bx).keep ((aa.refl (X':=Fr B (w.heap.size+5)) (fun b hb=>hb.imp id (fun h=>Nat.le_trans (Nat.succ_le_of_lt th.out.2.2.2.2.1.lt) h))).trans kk)⟩,by rw [if_pos (by omega)]⟩,by simp [intOf]⟩
  obtain⟨P1,p1,q1,ll1,rfl,jB,Jm⟩:=(show Laid wr B (w.heap.size+5) _ _ from by simpa using g1);obtain⟨P2,p2,q2,ll2,rfl,ia,wT⟩:=(show Laid wr B (w.heap.size+5) _ _ from by simpa using g2);obtain rfl:v3=.slice none 0 0:=(by simpa using g3);clear g1 g2 g3;have z0:wr.cell? ⟨w.heap.size+4,4,none⟩=some (.slice L3 a3 x3):=jV.2.2.2.2.1.cell 4;have z1:wr.cell? ⟨w.heap.size+4,5,none⟩=some (.pointer (some ⟨w.heap.size+3,4,none⟩)):=jV.2.2.2.2.1.cell 5;have th:=qqh (jG.alloc jV (.cells #[.slice L3 a3 x3,.pointer (some ⟨w.heap.size+3,4,none⟩)] 166));have HK:=qqh (ai.new wr 166 #[.slice L3 a3 x3,.pointer (some ⟨w.heap.size+3,4,none⟩)]);have Jp:=qqh (Jm.keep (aa.alloc (.cells #[.slice L3 a3 x3,.pointer (some ⟨w.heap.size+3,4,none⟩)] 166) (fun _ h _=>h)));have Je:=qqh jB;have OF:=qqh (wT.keep (aa.alloc (.cells #[.slice L3 a3 x3,.pointer (some ⟨w.heap.size+3,4,none⟩)] 166) (fun _ h _=>h)));have O6:=qqh ia;clear jV Jm jB wT ia;go_wp2_with fail;refine(Br.out _ th.out.2.2.2.2.2).mono ?_;rintro e w2 ⟨he,aR⟩;obtain⟨A9,n9,c9,o9,rfl,jo,AZ⟩:=zX he;have aX:=jG.below th.out aR;have hk2:=ai.below HK.out aR HK.out.lt;have t0:w2.cell? ⟨w.heap.size+3,0,none⟩=some (.bool f.start):=aX.2.2.2.1.cell 0;have t1:w2.cell? ⟨w.heap.size+3,1,none⟩=some (.bool f.fin):=aX.2.2.2.1.cell 1;have t2:w2.cell? ⟨w.heap.size+3,2,none⟩=some (.slice P1 p1 q1):=aX.2.2.2.1.cell 2;have t3:w2.cell? ⟨w.heap.size+3,3,none⟩=some (.slice P2 p2 q2):=aX.2.2.2.1.cell 3;have t4:w2.cell? ⟨w.heap.size+3,4,none⟩=some (.slice none 0 0):=aX.2.2.2.1.cell 4
  have t5:w2.cell? ⟨w.heap.size+3,5,none⟩=some (.slice none 0 0):=aX.2.2.2.1.cell 5;have t6:w2.cell? ⟨w.heap.size+3,6,none⟩=some (.int .i64 0):=aX.2.2.2.1.cell 6;have s0:w2.cell? ⟨w.heap.size+2,0,none⟩=some (.bool false):=aX.2.2.1.cell 0;have Yr:=aX.2.2.1.frozen 0;have s1:w2.cell? ⟨w.heap.size+2,1,none⟩=some (.bool false):=aX.2.2.1.cell 1;have Y0:=aX.2.2.1.frozen 1;have s2:w2.cell? ⟨w.heap.size+2,2,none⟩=some (.slice none 0 0):=aX.2.2.1.cell 2;have Zu:=aX.2.2.1.frozen 2;have s3:w2.cell? ⟨w.heap.size+2,3,none⟩=some (.slice none 0 0):=aX.2.2.1.cell 3;have Yp:=aX.2.2.1.frozen 3;have s4:w2.cell? ⟨w.heap.size+2,4,none⟩=some (.slice none 0 0):=aX.2.2.1.cell 4;have sf4:=aX.2.2.1.frozen 4;have s5:w2.cell? ⟨w.heap.size+2,5,none⟩=some (.slice none 0 0):=aX.2.2.1.cell 5;have Zf:=aX.2.2.1.frozen 5;have s6:w2.cell? ⟨w.heap.size+2,6,none⟩=some (.int .i64 0):=aX.2.2.1.cell 6;have sf6:=aX.2.2.1.frozen 6;have m1:w2.cell? ⟨wr.heap.size,1,none⟩=some (.pointer (some ⟨w.heap.size+3,4,none⟩)):=hk2.cell 1;have mf:=aX.2.2.2.1.frozen 4;have C0:=qqh aX;have bw:=qqh aR;have gS:=qqh jo;have Od:=qqh AZ;have QS:=aX.2.2.2.2.1.lt;clear he aX hk2 aR jo AZ;cases o9
  ·go_wp2_with fail;exact bodyPost_ret (by simp [results,Tryz.results68,go_sem,s0,s1,s2,s3,s4,s5,s6]) rfl ⟨zv (cs:=[.bool f.start,.bool f.fin,.slice P1 p1 q1,.slice P2 p2 q2,.slice none 0 0,.slice none 0 0,.int .i64 0]) (by rw [← gS.out];simp) rfl (by intro u hu;simp only [List.mem_cons,List.not_mem_nil,or_false]at hu;rcases hu with rfl | rfl | rfl | rfl | rfl | rfl | rfl <;> rfl),zI C0.out.2.2.2.2.2 (by omega) _ _ _ _ _ _ _⟩
  go_wp2_with fail;obtain⟨OO,Bx⟩:=Option.isSome_iff_exists.1 gS.out.symm;have kk:aa w2 (Fr B (w.heap.size+5)) (w2.setCell ⟨w.heap.size+3,4,none⟩ (.slice A9 n9 c9)) (Fr B (w.heap.size+5)):=aa.setCell _ (fun b hb=>by rcases hb with h | h <;> dsimp only <;> omega) (fun _ h _=>h);refine⟨⟨3,.slice P1 p1 q1,.slice P2 p2 q2,.slice A9 n9 c9,by omega,by go_num,C0.out.put 4 (.slice A9 n9 c9),by rw [if_neg (by omega)];exact⟨_,_,_,_,rfl,Je.out,Jp.out.keep ((aa.below bw.out (fun _ h _=>h)).trans kk)⟩,by rw [if_neg (by omega)];exact⟨_,_,_,_,rfl,O6.out,OF.out.keep ((aa.below bw.out (fun _ h _=>h)).trans kk)⟩,by rw [if_neg (by omega)];exact⟨_,_,_,OO,rfl,Bx,(Od.out OO Bx).keep ((aa.refl (X':=Fr B (w.heap.size+5)) (fun b hb=>hb.imp id (fun h=>Nat.le_trans (Nat.succ_le_of_lt th.out.2.2.2.2.1.lt) h))).trans kk)⟩⟩,by simp [intOf]⟩
 have OY:3≤k:=(by omega);rw [if_neg (by omega)]at g1;obtain⟨P1,p1,q1,ll1,rfl,jB,Jm⟩:=g1;rw [if_neg (by omega)]at g2;obtain⟨P2,p2,q2,ll2,rfl,ia,wT⟩:=g2;rw [if_neg (by omega)]at g3;obtain⟨P3,p3,q3,ll3,rfl,IE,hv3⟩:=g3;generalize wr=wz at *;have e3:wz.cell? ⟨w.heap.size+1,3,none⟩=some (.slice R2 b2 y2):=jV.2.1.cell 3;have th:=qqh jV;have Jp:=qqh Jm;have OF:=qqh wT;have Wi:=qqh hv3;have Je:=qqh jB;have O6:=qqh ia;have Nc:=qqh IE;have hz:=jV.2.2.2.2.2.size;have Pu:=jV.2.2.2.2.1.lt;clear jV Jm wT hv3 jB ia IE;go_wp2_with fail;go_loopw [56] (UM w wz B #[.bool f.start,.bool f.fin,.slice L1 a1 x1,.slice L2 a2 x2,.slice L3 a3 x3,.int .i64 f.ag] #[.bool t.start,.bool t.fin,.slice R1 b1 y1,.slice R2 b2 y2,.slice R3 b3 y3,.int .i64 t.ag] #[.slice L1 a1 x1,.pointer (some ⟨w.heap.size+3,2,none⟩),.slice L2 a2 x2,.pointer (some ⟨w.heap.size+3,3,none⟩),.slice L3 a3 x3,.pointer (some ⟨w.heap.size+3,4,none⟩)] (.bool f.start) (.bool f.fin) (.slice P1 p1 q1) (.slice P2 p2 q2) (.slice P3 p3 q3) t.source b2) (fun i _=>b2 - (intOf i).toNat);(case atStart=>exact⟨0,.slice none 0 0,Nat.zero_le _,rfl,th.out,World.ownsRow_nil _ _ _ _,fun b hx hl=>⟨rfl,⟨hx,hl⟩,hl⟩,Nat.le_refl _⟩);obtain⟨k,v,hk,rfl,jV,hown,hkp,hzr⟩:=hrel;by_cases hlt:k<b2
 ·obtain⟨a,ha⟩:∃ z,t.source[k]? = some z:=⟨_,List.getElem?_eq_getElem (by rw [FV.out];exact hlt)⟩;obtain⟨b,off,A',n',c',rfl,cC,f0,f1,f2,f3,_,_,_,_⟩:=uu iT.out ha;have Uq:=jV.2.2.2.2.2;have jX:b<w.heap.size:=(by omega);have d0:=(Uq.cell (p:=⟨b,off+k*4,none⟩) jX).trans f0;have d1:=(Uq.cell (p:=⟨b,off+k*4+1,none⟩) jX).trans f1;have d2:=(Uq.cell (p:=⟨b,off+k*4+2,none⟩) jX).trans f2;have d3:=(Uq.cell (p:=⟨b,off+k*4+3,none⟩) jX).trans f3;clear f0 f1 f2 f3 Uq;generalize hT:(t.source.take k).map (·.rune)=T at hown;have HTM:=qqh ((KA ha).trans (by rw [hT]:_=T++[a.rune]));clear hT;obtain⟨Av,cv,rfl,_⟩:=aI hown;have PN:=jG.alloc jV (.cells #[.int .i64 a.kind,.int .i32 a.rune,.slice A' n' c',.string a.name] 171);have hO1:=World.ownsRow.alloc hown (.cells #[.int .i64 a.kind,.int .i32 a.rune,.slice A' n' c',.string a.name] 171);have c5:(wr.alloc (.cells #[.int .i64 a.kind,.int .i32 a.rune,.slice A' n' c',.string a.name] 171)).cell? ⟨w.heap.size+3,5,none⟩=some (.slice Av k cv):=PN.2.2.2.1.cell 5;have HA2:=qqh (jG.alloc PN (.cells #[.int .i32 a.rune] 21));have sj:=qqh (World.ownsRow.alloc hO1 (.cells #[.int .i32 a.rune] 21));have ox:=qqh ((hkp.trans (aa.alloc (.cells #[.int .i64 a.kind,.int .i32 a.rune,.slice A' n' c',.string a.name] 171) (fun _ h _=>h))).trans (aa.alloc (.cells #[.int .i32 a.rune] 21) (fun _ h _=>h)));have hN:=Rd.new (wr.alloc (.cells #[.int .i64 a.kind,.int .i32 a.rune,.slice A' n' c',.string a.name] 171)) 21 1 1 [.int .i32 a.rune] rfl;rw [show(wr.alloc (.cells #[.int .i64 a.kind,.int .i32 a.rune,.slice A' n' c',.string a.name] 171)).heap.size=wr.heap.size+1 by simp]at hN;have HN:=qqh hN
  have Ds:=qqh (show ∀ u ∈ [Value.int .i32 a.rune],u.oneCell'=true by intro x hx;simp at hx;subst hx;rfl);have HZ:=qqh (show wz.heap.size≤((wr.alloc (.cells #[.int .i64 a.kind,.int .i32 a.rune,.slice A' n' c',.string a.name] 171)).alloc (.cells #[.int .i32 a.rune] 21)).heap.size by simp;omega);clear PN hO1 hN jV hown hkp ha;go_wp2_with (at_builtin;refine aj _ rfl (.tmp 61) (.tmp 64) 26 rfl wz.heap.size 21 i0 _ 1 4 Tryz.underlying26 hi hz0 pY tG rfl (by decide) _ _ _ rfl sj.out _ (some ⟨wr.heap.size+1,0,none⟩) 1 1 [.int .i32 a.rune] rfl HN.out Ds.out (by simp only [maxLen];omega) (by omega) HZ.out ?_);intro v9 w9 an;have Wp:=jG.app HA2.out sj.out (by decide) (by decide) (by decide) hz an;have jo:=an.own;have SQ:=ox.out.trans (aa.app (X':=fun b=>Fr B (w.heap.size+5) b∧b<wz.heap.size) an (fun b hx e=>by have:=(aU sj.out e).1;have:=hx.2;omega) (fun _ h _=>h));have M6:wz.heap.size≤w9.heap.size:=Nat.le_trans HZ.out an.2.1.size;rw [← vu,← HTM.out]at jo;obtain⟨A9,c9,rfl,_⟩:=aI jo;have p5:w9.cell? ⟨w.heap.size+3,5,none⟩=some (.slice Av k cv):=Wp.2.2.2.1.cell 5;have p5f:=Wp.2.2.2.1.frozen 5;have HA3:=qqh Wp;have gS:=qqh jo;have T0:=qqh SQ;clear an Wp jo SQ;go_wp2_with fail;refine⟨⟨k+1,.slice A9 (k+1) c9,by omega,by go_num,HA3.out.put 5 (.slice A9 (k+1) c9),gl gS.out HA3.out.2.2.2.1 (by decide),T0.out.trans (aa.setCell _ (fun b hx=>?_) (fun _ h _=>h)),by simpa using M6⟩,by simp [intOf];omega⟩;have:=hx.1;dsimp only;rcases this with h | h <;> omega
 obtain rfl:k=b2:=(by omega);rw [List.take_of_length_le (by rw [FV.out];omega)]at hown;obtain⟨Av,cv,rfl,_⟩:=aI hown;have aX:=jV;have t0:wr.cell? ⟨w.heap.size+3,0,none⟩=some (.bool f.start):=aX.2.2.2.1.cell 0;have t1:wr.cell? ⟨w.heap.size+3,1,none⟩=some (.bool f.fin):=aX.2.2.2.1.cell 1;have t2:wr.cell? ⟨w.heap.size+3,2,none⟩=some (.slice P1 p1 q1):=aX.2.2.2.1.cell 2;have t3:wr.cell? ⟨w.heap.size+3,3,none⟩=some (.slice P2 p2 q2):=aX.2.2.2.1.cell 3;have t4:wr.cell? ⟨w.heap.size+3,4,none⟩=some (.slice P3 p3 q3):=aX.2.2.2.1.cell 4;have t5:wr.cell? ⟨w.heap.size+3,5,none⟩=some (.slice Av k cv):=aX.2.2.2.1.cell 5;have t6:wr.cell? ⟨w.heap.size+3,6,none⟩=some (.int .i64 0):=aX.2.2.2.1.cell 6;have s0:wr.cell? ⟨w.heap.size+2,0,none⟩=some (.bool false):=aX.2.2.1.cell 0;have Yr:=aX.2.2.1.frozen 0;have s1:wr.cell? ⟨w.heap.size+2,1,none⟩=some (.bool false):=aX.2.2.1.cell 1;have Y0:=aX.2.2.1.frozen 1;have s2:wr.cell? ⟨w.heap.size+2,2,none⟩=some (.slice none 0 0):=aX.2.2.1.cell 2;have Zu:=aX.2.2.1.frozen 2;have s3:wr.cell? ⟨w.heap.size+2,3,none⟩=some (.slice none 0 0):=aX.2.2.1.cell 3;have Yp:=aX.2.2.1.frozen 3;have s4:wr.cell? ⟨w.heap.size+2,4,none⟩=some (.slice none 0 0):=aX.2.2.1.cell 4;have sf4:=aX.2.2.1.frozen 4;have s5:wr.cell? ⟨w.heap.size+2,5,none⟩=some (.slice none 0 0):=aX.2.2.1.cell 5;have Zf:=aX.2.2.1.frozen 5;have s6:wr.cell? ⟨w.heap.size+2,6,none⟩=some (.int .i64 0):=aX.2.2.1.cell 6;have sf6:=aX.2.2.1.frozen 6;have t6f:=aX.2.2.2.1.frozen 6;have e5:wr.cell? ⟨w.heap.size+1,5,none⟩=some (.int .i64 t.ag):=aX.2.1.cell 5
 have hend:∀ (we:World) (K:Int),((∃ u,we=wr.setCell ⟨w.heap.size+3,6,none⟩ u)∨∃ u u',we=(wr.setCell ⟨w.heap.size+3,6,none⟩ u).setCell ⟨w.heap.size+3,6,none⟩ u')→K=(if t.ag<0 then (t.source.length:Int)else t.ag) →
     DV (Ko we (w.heap.size+1+1) (.bool f.start) (.bool f.fin) (.slice P1 p1 q1) (.slice P2 p2 q2) (.slice P3 p3 q3) (.slice Av k cv) (.int .i64 K)) B w.heap.size (eD LP f t) (.returned (.tuple #[.agg #[.bool f.start,.bool f.fin,.slice P1 p1 q1,.slice P2 p2 q2,.slice P3 p3 q3,.slice Av k cv,.int .i64 K],.bool true])) ∧
     Below w.heap.size w (Ko we (w.heap.size+1+1) (.bool f.start) (.bool f.fin) (.slice P1 p1 q1) (.slice P2 p2 q2) (.slice P3 p3 q3) (.slice Av k cv) (.int .i64 K)):=by
   intro we K hwe hK
   have WO:Below w.heap.size w we:=by
     rcases hwe with ⟨u,rfl⟩ | ⟨u,u',rfl⟩
     · exact jV.2.2.2.2.2.setCell (by simp) _
     · exact(jV.2.2.2.2.2.setCell (by simp) _).setCell (by simp) _
   have kw:∀ (X:Nat→Prop),(∀ b,X b→b≠w.heap.size+3)→aa wr X we X:=by
     intro X hX
     rcases hwe with ⟨u,rfl⟩ | ⟨u,u',rfl⟩
     · exact aa.setCell u (fun b hb=>hX b hb) (fun _ h _=>h)
     · exact(aa.setCell (X':=X) u (fun b hb=>hX b hb) (fun _ h _=>h)).trans (aa.setCell u' (fun b hb=>hX b hb) (fun _ h _=>h))
   have kk:aa wz (Fr B (w.heap.size+5)) (Ko we (w.heap.size+1+1) (.bool f.start) (.bool f.fin) (.slice P1 p1 q1) (.slice P2 p2 q2) (.slice P3 p3 q3) (.slice Av k cv) (.int .i64 K)) (Fr B w.heap.size):=by
     refine(hkp.trans (kw _ (fun b hx=>by rcases hx.1 with h | h <;> omega))).trans ((Pw (fun b hx=>?_) _ _ _ _ _ _ _).trans (aa.refl (fun b hx=>?_)))
     · rcases hx.1 with h | h <;> omega
     · exact hx.1.imp id (fun h=>by omega)
   refine⟨⟨[.bool f.start,.bool f.fin,.slice P1 p1 q1,.slice P2 p2 q2,.slice P3 p3 q3,.slice Av k cv,.int .i64 K],rfl,?_,?_,fun rd hrd=>?_⟩,zI WO (by omega) _ _ _ _ _ _ _⟩
   · rw [qK,Je.out,O6.out,Nc.out];rfl
   · intro u hu
     simp only [List.mem_cons,List.not_mem_nil,or_false]at hu
     rcases hu with rfl | rfl | rfl | rfl | rfl | rfl | rfl <;> rfl
   · obtain⟨a,b,c,g1,g2,g3,rfl⟩:=Gy hrd
     rw [Je.out]at g1
     rw [O6.out]at g2
     rw [Nc.out]at g3
     cases g1
     cases g2
     cases g3
     refine⟨_,_,_,Av,k,cv,by rw [hK],Jp.out.keep kk,OF.out.keep kk,Wi.out.keep kk,?_,by unfold maxLen;omega⟩
     refine(cE.ck (X:=fun b=>wz.heap.size≤b) hown (fun b hb=>(aU hown hb).1)).keep ((kw _ (fun b hx=>by omega)).trans ((Pw (fun b hx=>by omega) _ _ _ _ _ _ _).trans (aa.refl (fun b hx=>.inr (by omega)))))
 have Co:=qqh hend;have Kc:(t.source.length:Int)=k:=(by rw [FV.out]);have HKL:=qqh Kc;clear hend Kc jV aX hown hkp;by_cases hc:t.ag<0
 ·have HK:=qqh (show((k:Nat):Int)=(if t.ag<0 then (t.source.length:Int)else t.ag) by rw [if_pos hc,HKL.out]);go_wp2_with fail;obtain⟨hpost,dV⟩:=Co.out _ _ (.inr ⟨_,_,rfl⟩) HK.out;exact bodyPost_ret (by simp [results,Tryz.results68,go_sem,s0,s1,s2,s3,s4,s5,s6]) rfl ⟨hpost,dV⟩
 have HK:=qqh (show t.ag=(if t.ag<0 then (t.source.length:Int)else t.ag) by rw [if_neg hc]);go_wp2_with fail;obtain⟨hpost,dV⟩:=Co.out _ _ (.inl ⟨_,rfl⟩) HK.out;exact bodyPost_ret (by simp [results,Tryz.results68,go_sem,s0,s1,s2,s3,s4,s5,s6]) rfl ⟨hpost,dV⟩
end Go.Proofs.YthgkedoildcbcaaGreatDoor
