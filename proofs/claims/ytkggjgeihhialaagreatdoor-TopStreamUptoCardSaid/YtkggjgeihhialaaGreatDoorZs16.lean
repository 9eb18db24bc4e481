/- SetsRef + Env + SetsSyn + RuleRef + RuleSyn -/
import Derived.Test.YtkggjgeihhialaaGreatDoorZs6
import Derived.Test.YtkggjgeihhialaaGreatDoorZs12
import Derived.Lib.Strings
import Derived.Deep.DeepCutAuto
import Derived.Test.YtkggjgeihhialaaGreatDoorZs10
import Derived.Test.YtkggjgeihhialaaGreatDoorZs5
import Derived.Maps.OwnSet
import Derived.StringKeys
set_option maxHeartbeats 6400000
set_option maxRecDepth 100000
namespace Go.Proofs.YtkggjgeihhialaaGreatDoor
open Go.RowKit
theorem JN:(Tryz.prog.info? 24).map (fun i=>(i.zero,i.size,i.bytes))=some (some (.slice none 0 0),1,24):=by kernel_rfl
def Mo (B lo:Nat) (v:Value) (b:Nat):Prop:=Fr B lo b∧v.ownBlock≠some b
def kC (w:World) (B:Nat) (ll:List ag) (v:Value) (wx:World):Prop:=bX (mc wx (Mo B w.heap.size v)) 24 1 wx w.heap.size v ll∧Below w.heap.size w wx
section
variable {w wx w2 : World} {B : Nat} {ll : List ag} {v v' : Value}
theorem kC.nil (w:World) (B:Nat):kC w B [] (.slice none 0 0) w:=⟨bX.nil _ _,Below.refl _ _⟩
theorem kC.alloc (h:kC w B ll v wx) (o:Obj):kC w B ll v (wx.alloc o) :=
  ⟨h.1.kept (fun _ _ h=>World.ownsRow.alloc h o) (fun _ _ h=>h.keep (aa.alloc o (fun _ h _=>h))),h.2.alloc h.2.size o⟩
theorem kC.below (h:kC w B ll v wx) (hb:Below wx.heap.size wx w2):kC w B ll v w2 :=
  ⟨h.1.kept (fun _ _ h=>dJ h hb) (fun _ _ h=>h.keep (aa.below hb (fun _ h _=>h))),h.2.trans (hb.mono h.2.size)⟩
theorem vh {base sz n:Nat} {e:TypeId} {xs:List Value} (h:wx.ownsRow base e sz v n xs) {b:Nat} (hb:b<base∨wx.heap.size≤b):v.ownBlock≠some b:=fun e=>by
 have:=aU h e;omega
theorem kC.push {css:List (List Value)} {s:ag} {u:Value} {t:TypeId} (h1:css.length=ll.length) (h2:∀ (i:Nat) (a:ag) (cs:List Value),ll[i]? = some a→css[i]? = some cs→mc wx (Mo B w.heap.size v) a cs) (h3:∀ cs∈css,cs.length=1)
    (h4:wx.ownsRow w.heap.size 24 1 v ll.length css.flatten) (hb:Below w.heap.size w wx) (hu:iD wx (Mo B w.heap.size v) s u)
    (ha:aV w.heap.size 24 1 v (wx.alloc (.cells #[u] t)) (ll.length+1) (css.flatten++[u]) v' w2):kC w B (ll++[s]) v' w2:=by
 have hk:aa wx (Mo B w.heap.size v) w2 (Mo B w.heap.size v'):=by
  refine(aa.alloc (.cells #[u] t) (fun _ h _=>h)).trans (aa.app (X':=fun b=>Mo B w.heap.size v' b) ha (fun b hx=>hx.2) (fun b hx hl=>⟨hx.1,?_⟩));rcases ha.2.2 with e | e
  ·rw [e];exact hx.2
  rw [e];intro he;injection he with he;omega
 refine⟨bX.push h1 h2 h3 (fun _ _ h=>h.keep hk) ⟨u,rfl,hu.keep hk⟩ rfl ha,?_⟩;exact(hb.alloc hb.size (.cells #[u] t)).trans (ha.below (hb.alloc hb.size (.cells #[u] t)).size (World.ownsRow.alloc h4 _))
end
def JU (w:World) (B lo:Nat) (r:Option (List ag)) (e:Ending):Prop :=
  match r with
  | some ll=>∃ u,e=.returned (.tuple #[u,.bool true])∧eU w (Fr B lo) ll u
  | none=>e=.returned (.tuple #[.slice none 0 0,.bool false])
theorem kC.post {w wx:World} {B:Nat} {ll:List ag} {v:Value} (h:kC w B ll v wx) (hl:ll.length≤maxLen):eU wx (Fr B w.heap.size) ll v:=by
 obtain⟨A,c,rfl,_⟩:=h.1.form;refine⟨A,_,c,rfl,bX.done h.1 (fun _ _ h=>h.keep (aa.refl (fun _ h=>h.1))) (fun b hb=>?_),hl⟩;obtain⟨css,_,_,_,h4⟩:=h.1;exact⟨.inr (aU h4 hb).1,Gf (id h4) hb⟩
def Q5 (w:World) (B:Nat) (l:List aF) (L:List aE) (n:Nat) (out i:Value) (wr:World):Prop :=
  ∃ (k:Nat) (ll:List ag),k≤n∧i=.int .i64 k∧bY l (L.take k)=some ll∧kC w B ll out wr
end Go.Proofs.YtkggjgeihhialaaGreatDoor
namespace Go.Proofs.YtkggjgeihhialaaGreatDoor
open Go.RowKit Go.Maps
def fq (w:World) (X:Nat→Prop) (mb n:Nat) (l:List aF):Prop :=
  ∃ D:DataW Value,w.ownsMap Tryz.prog 9 Raw mb n D∧IsMap D∧∀ s:ByteArray,match fF l s with
    | some set=>∃ u,D.atKey (eV s) sM=.held u∧has D (eV s)=true∧iD w X set u
    | none=>D.atKey (eV s) sM=sM∧has D (eV s)=false
theorem fq.keep {w w':World} {X X':Nat→Prop} {mb n:Nat} {l:List aF} (hk:aa w X w' X') (hm:w'.heap[mb]? = w.heap[mb]?) (h:fq w X mb n l):fq w' X' mb n l:=by
 obtain⟨D,⟨es,clock,h1,h2⟩,h3,h4⟩:=h;refine⟨D,⟨es,clock,hm.trans h1,h2⟩,h3,fun s=>?_⟩;have:=h4 s;cases hl:fF l s with
 | none=>rw [hl]at this;exact this
 | some set=>
  rw [hl]at this;obtain⟨u,g1,g2,g3⟩:=this;exact⟨u,g1,g2,g3.keep hk⟩
theorem fq.lt {w:World} {X:Nat→Prop} {mb n:Nat} {l:List aF} (h:fq w X mb n l):mb<w.heap.size:=by
 obtain⟨D,h1,_⟩:=h;exact h1.lt
theorem fq.made (w:World) (X:Nat→Prop):fq (w.alloc (.map #[] 0)) X w.heap.size 0 [] :=
  ⟨.map [],World.ownsMap_made _ _ _ _,isMap_empty,fun s=>⟨by simp [DataW.atKey],by simp [has]⟩⟩
theorem uC (l:List aF) (p:aF) (s:ByteArray):fF (l++[p]) s=match fF l s with
    | some x=>some x
    | none=>if p.kind=1∧p.name=s then some p.set else none:=by
 induction l with
 | nil=>simp [fF]
 | cons q l ih=>
  rw [List.cons_append,fF,fF];by_cases h:q.kind=1∧q.name=s
  ·rw [if_pos h,if_pos h]
  rw [if_neg h,if_neg h,ih]
theorem fq.put {w w':World} {X:Nat→Prop} {mb n:Nat} {l:List aF} {p:aF} {u:Value} {D:DataW Value} (hD:IsMap D)
    (h4:∀ s:ByteArray,match fF l s with
      | some set=>∃ u,D.atKey (eV s) sM=.held u∧has D (eV s)=true∧iD w X set u
      | none=>D.atKey (eV s) sM=sM∧has D (eV s)=false)
    (hp:p.kind=1) (hno:fF l p.name=none) (hu:iD w X p.set u) (hk:aa w X w' X)
    (hown:w'.ownsMap Tryz.prog 9 Raw mb n (D.put (eV p.name) (.held u))):fq w' X mb n (l++[p]):=by
 refine⟨_,hown,hD.put _ _,fun s=>?_⟩;rw [uC];by_cases hs:p.name=s
 ·subst hs;rw [hno];dsimp only;rw [if_pos ⟨hp,rfl⟩];exact⟨u,atKey_put_same hD (tN _) _ _,has_put_same hD (tN _) _,hu.keep hk⟩
 have hne:eV s≠eV p.name:=fun e=>hs (BF e).symm;have:=h4 s;cases hl:fF l s with
 | none=>
  rw [hl]at this;dsimp only;rw [if_neg (fun h=>hs h.2),atKey_put_other hne,has_put_other hne];exact this
 | some set=>
  rw [hl]at this;obtain⟨v,g1,g2,g3⟩:=this;dsimp only;exact⟨v,by rw [atKey_put_other hne];exact g1,by rw [has_put_other hne];exact g2,g3.keep hk⟩
theorem fq.other {w:World} {X:Nat→Prop} {mb n:Nat} {l:List aF} {p:aF} (h:fq w X mb n l) (hp:p.kind≠1):fq w X mb n (l++[p]):=by
 obtain⟨D,h1,h2,h3⟩:=h;refine⟨D,h1,h2,fun s=>?_⟩;have:=h3 s;rw [uC];cases hl:fF l s with
 | none=>rw [hl]at this;dsimp only;rw [if_neg (fun h=>hp h.1)];exact this
 | some set=>rw [hl]at this;exact this
theorem mg {w:World} {ops:Array Oper} {rest:List Oper} {o:Oper} {a:Act} {Q:Exit→Act→World→Prop} (hg:o.guard=none) (m x:Operand) (hop:o.op=Op.lookup 142 m x true)
    (mb n:Nat) (D:DataW Value) (hm:a.eval m=.map (some mb)) (hown:w.ownsMap Tryz.prog 9 Raw mb n D) (s:ByteArray) (hx:a.eval x=.string s) (hs:s.size≤maxLen) (u:Value) (b:Bool)
    (h1:D.atKey (eV s) sM=.held u) (h2:has D (eV s)=b) (hK:wpList Tryz.prog ops Q rest (a.put o.dst (.tuple #[u,.bool b])) w):wpList Tryz.prog ops Q (o::rest) a w :=
  wpList_lookup_own_ok w hg m x _ hop 9 24 gR Tryz.underlying142 Raw (NV w) sM [] rfl mb n D hm hown (.string s) (eV s) hx (jv hs) (fun v ps hv=>by
    rw [h1]at hv
    unfold Raw at hv
    injection hv with hv
    injection hv with hv
    injection hv with hv
    subst hv
    rw [h2]
    exact hK)
theorem nH (A:Option Addr) (n c B:Nat) (s:ag) (w:World) (h:Rd w B 2 A n (ak s)) (hn:n≤1000) :
    Calls Tryz.prog 78 #[.slice A n c] w fun e w'=>(∃ u,e=.returned u∧iD w' (fun b=>w.heap.size≤b) s u)∧Below w.heap.size w w':=by
 obtain⟨i0,hi,hz0,sJ,zT⟩:=info_parts ja;have q22:∀ (w:World) (a:Option Addr) (n c n' c':Nat),(binOp .eql 24 (.slice a n c) (.slice none n' c')).run Tryz.prog w=.ok (.bool a.isNone) w:=fun w a n c n' c'=>Lib.run_eql_slice_nil w _ _ a n c n' c' Tryz.underlying24;have H:=qqh h;clear h;cases A with
 | none=>
  have hn0:n=0:=by
   rcases Nat.eq_zero_or_pos n with h0 | h0;exact h0;obtain⟨_,_,e,_⟩:=H.out.2 h0;cases e
  subst hn0;go_enter Tryz.func78,Tryz.ntmps78;go_wp2_with fail;go_ret;exact⟨⟨_,rfl,none,0,0,rfl,⟨H.out.1,fun h=>absurd h (Nat.lt_irrefl 0)⟩,Nat.zero_le _⟩,Below.refl _ _⟩
 | some ad=>
  have HO:=qqh (nK w 82 2 w.heap.size w.heap.size rfl (Nat.le_refl _));have HB:=qqh ((Below.refl w.heap.size w).alloc (Nat.le_refl _) (.cells #[] 82));have HR:=qqh (Rd.more (Rd.below (B:=min B w.heap.size) ⟨H.out.1,fun h=>by
   obtain⟨b,off,e,_,hc⟩:=H.out.2 h;obtain⟨u,hu⟩:∃ u,(ak s)[0]? = some u:=⟨_,List.getElem?_eq_getElem (by have:=H.out.1;omega)⟩;have hl:=World.block_lt_of_cell? w _ (hc 0 u hu);exact⟨b,off,e,by dsimp only at hl;omega,hc⟩⟩ (HB.out.mono (Nat.min_le_right _ _))) (Nat.le_refl _))
  go_enter Tryz.func78,Tryz.ntmps78;go_wp2_with (at_builtin;refine ai _ rfl (.tmp 5) (.tmp 6) 24 rfl w.heap.size 82 i0 _ 2 8 Tryz.underlying24 hi hz0 sJ zT rfl (by decide) _ _ _ rfl HO.out _ (some ad) n c (ak s) rfl HR.out (kT s) (by simp only [maxLen];omega) (by omega) (by simp) ?_);intro v' w' an;have ho:=an.own;obtain⟨A2,c2,rfl,_⟩:=aJ ho;have bt:=qqh (HB.out.trans (an.below (by simp) HO.out));have HV:=qqh (show iD w' (fun b=>w.heap.size≤b) s (.slice A2 n c2) from⟨A2,n,c2,rfl,cy.cj ho (fun b hb=>(aU ho hb).1),by unfold maxLen;omega⟩);clear an ho;go_wp2_with fail;go_ret;exact⟨⟨_,rfl,HV.out⟩,bt.out⟩
end Go.Proofs.YtkggjgeihhialaaGreatDoor
namespace Go.Proofs.YtkggjgeihhialaaGreatDoor
open Go.RowKit Go.Maps
theorem nO {l:ag} (h:bL l=0):l.length≤200:=by
 unfold bL at h;by_cases h2:200<l.length
 ·rw [if_pos h2]at h;cases h
 omega
theorem JK (mb nm:Nat) (LP:List aF) (A2:Option Addr) (n2 c2:Nat) (L:List aE) (w:World) (B:Nat) (hB:B≤w.heap.size) (hE:fq w (· < B) mb nm LP) (KT:∀ s set,fF LP s=some set→set.length≤200) (hL:bM w B A2 n2 L) (hok:b8 L=0) :
    Calls Tryz.prog 105 #[.map (some mb),.slice A2 n2 c2] w fun e w'=>JU w' B w.heap.size (bY LP L) e∧Below w.heap.size w w':=by
 obtain⟨i0,hi,hz0,sJ,zT⟩:=info_parts JN;obtain⟨h20,hall⟩:=Be hok;have UJ:n2≤20:=(by rw [← jR.len hL];exact h20);have hmb:=hE.lt;have aS:=qqh (jR.len hL);have HL:=qqh hL;have HA:=qqh hall;have HE:=qqh hE;have Ll:=qqh KT;clear hL hok h20 hall hE KT;go_enter Tryz.func105,Tryz.ntmps105;go_wp2_with fail;go_loopw [6,13] (Q5 w B LP L n2) (fun _ i _=>n2 - (intOf i).toNat);(case atStart=>exact⟨0,[],Nat.zero_le _,rfl,rfl,kC.nil w B⟩);obtain⟨k,ll,hk,rfl,aY,hst⟩:=hrel;have Zg:=Iv aY;have afX:ll.length≤k:=(by rw [Zg];exact List.length_take_le _ _);clear Zg;have hz:=hst.2.size;by_cases hlt:k<n2
 ·obtain⟨a,ha⟩:∃ z,L[k]? = some z:=⟨_,List.getElem?_eq_getElem (by rw [aS.out];exact hlt)⟩;have hka:=Dn (HA.out a (List.mem_of_getElem? ha));obtain⟨b,off,A',n',c',rfl,dL,f0,f1,f2,f3,wS,hn',_,hnm⟩:=tG HL.out ha;have jg:b<w.heap.size:=(by omega);have d0:=(hst.2.cell (p:=⟨b,off+k*4,none⟩) jg).trans f0;have d1:=(hst.2.cell (p:=⟨b,off+k*4+1,none⟩) jg).trans f1;have d2:=(hst.2.cell (p:=⟨b,off+k*4+2,none⟩) jg).trans f2;have d3:=(hst.2.cell (p:=⟨b,off+k*4+3,none⟩) jg).trans f3;clear f0 f1 f2 f3;have Td:=qqh wS;have iV:=qqh (kC.alloc hst (.cells #[.int .i64 a.kind,.int .i32 a.rune,.slice A' n' c',.string a.name] 172));have Mk:=qqh (aj.new wr 172 #[.int .i64 a.kind,.int .i32 a.rune,.slice A' n' c',.string a.name]);have ep:=qqh aY;have oo:=qqh ha;clear wS hn' aY hst;rcases hka with ⟨hk1,hk2⟩ | ⟨hk1,hk2⟩ | ⟨hk1,hk2⟩
  ·have pM:=qqh (show sL LP a=some [(a.rune,a.rune)] by unfold sL;rw [if_pos hk1]);have q1:(a.kind == 1)=true:=(by rw [hk1];rfl);clear hk1 hk2;have O3:=kC.alloc iV.out (.cells #[.int .i32 a.rune,.int .i32 a.rune] 82);have Zc:=cy.new (w:=wr.alloc (.cells #[.int .i64 a.kind,.int .i32 a.rune,.slice A' n' c',.string a.name] 172)) (X:=Mo B w.heap.size u6) (n:=1) (sz:=2) 82 [.int .i32 a.rune,.int .i32 a.rune] rfl (by
    obtain⟨⟨css,g1,g2,g3,g4⟩,g5⟩:=iV.out;exact⟨.inr g5.size,vh g4 (.inr (Nat.le_refl _))⟩)
   rw [show(wr.alloc (.cells #[.int .i64 a.kind,.int .i32 a.rune,.slice A' n' c',.string a.name] 172)).heap.size=wr.heap.size+1 by simp]at Zc;have HU:=qqh (show iD ((wr.alloc (.cells #[.int .i64 a.kind,.int .i32 a.rune,.slice A' n' c',.string a.name] 172)).alloc (.cells #[.int .i32 a.rune,.int .i32 a.rune] 82)) (Mo B w.heap.size u6) [(a.rune,a.rune)] (.slice (some ⟨wr.heap.size+1,0,none⟩) 1 1) from⟨_,_,_,rfl,Zc,by decide⟩);have OQ:=qqh O3;clear O3 Zc;obtain⟨⟨css,g1,g2,g3,g4⟩,g5⟩:=OQ.out;have hN:=Rd.new ((wr.alloc (.cells #[.int .i64 a.kind,.int .i32 a.rune,.slice A' n' c',.string a.name] 172)).alloc (.cells #[.int .i32 a.rune,.int .i32 a.rune] 82)) 24 1 1 [.slice (some ⟨wr.heap.size+1,0,none⟩) 1 1] rfl;rw [show((wr.alloc (.cells #[.int .i64 a.kind,.int .i32 a.rune,.slice A' n' c',.string a.name] 172)).alloc (.cells #[.int .i32 a.rune,.int .i32 a.rune] 82)).heap.size=wr.heap.size+1+1 by simp]at hN;have HN:=qqh hN;have HO:=qqh (World.ownsRow.alloc g4 (.cells #[.slice (some ⟨wr.heap.size+1,0,none⟩) 1 1] 24));have HZ:=qqh ((g5.alloc g5.size (.cells #[.slice (some ⟨wr.heap.size+1,0,none⟩) 1 1] 24)).size);have G1:=qqh g1;have G2:=qqh g2;have G3:=qqh g3;have G4:=qqh g4;have G5:=qqh g5;clear g1 g2 g3 g4 g5 hN;go_wp2_with (at_builtin;refine ai _ rfl (.tmp 35) (.tmp 42) 87 rfl w.heap.size 24 i0 _ 1 24 Tryz.underlying87 hi hz0 sJ zT rfl (by decide) _ _ _ rfl HO.out _ (some ⟨wr.heap.size+1+1,0,none⟩) 1 1 [.slice (some ⟨wr.heap.size+1,0,none⟩) 1 1] rfl HN.out ?one1 (by simp only [maxLen];omega) (by omega) HZ.out ?_);(case one1=>intro x hx;simp at hx;subst hx;rfl);intro v9 w9 an
   have fk:=qqh (kC.push G1.out G2.out G3.out G4.out G5.out HU.out an);clear an;go_wp2_with fail;exact⟨⟨k+1,ll++[_],by omega,by go_num,pI oo.out ep.out pM.out,fk.out⟩,by simp [intOf];omega⟩
  ·have pM:=qqh (show sL LP a=some a.set by unfold sL;rw [hk1,if_neg (by decide),if_pos rfl]);have q1:(a.kind == 1)=false:=(by rw [hk1];rfl);have q2:(a.kind == 2)=true:=(by rw [hk1];rfl);have AK:=nO hk2;have hlen:=lR.len Td.out;have hn2:n'≤1000:=(by omega);clear hk1 hk2 hlen AK;go_wp2_with fail;refine(nH A' n' c' B a.set _ (Rd.below Td.out (iV.out.2.mono hB)) hn2).mono ?_;rintro e wx ⟨⟨u,rfl,hu⟩,hb⟩;have OQ:=qqh (kC.below iV.out hb);have Nl:=hu;obtain⟨A7,n7,c7,rfl,_⟩:=Nl;have HU:=qqh (show iD wx (Mo B w.heap.size u6) a.set (.slice A7 n7 c7) from iD.keep (aa.refl (fun b hb=>by
    have g:=iV.out;obtain⟨⟨css,g1,g2,g3,g4⟩,g5⟩:=g;exact⟨.inr (Nat.le_trans g5.size hb),vh g4 (.inr hb)⟩)) hu)
   clear hu hb;obtain⟨⟨css,g1,g2,g3,g4⟩,g5⟩:=OQ.out;have HN:=qqh (Rd.new wx 24 1 1 [(.slice A7 n7 c7)] rfl);have HO:=qqh (World.ownsRow.alloc g4 (.cells #[(.slice A7 n7 c7)] 24));have HZ:=qqh (Nat.le_trans g5.size (show wx.heap.size≤(wx.alloc (.cells #[(.slice A7 n7 c7)] 24)).heap.size by simp));have G1:=qqh g1;have G2:=qqh g2;have G3:=qqh g3;have G4:=qqh g4;have G5:=qqh g5;clear g1 g2 g3 g4 g5;go_wp2_with (at_builtin;refine ai _ rfl (.tmp 46) (.tmp 50) 87 rfl w.heap.size 24 i0 _ 1 24 Tryz.underlying87 hi hz0 sJ zT rfl (by decide) _ _ _ rfl HO.out _ (some ⟨wx.heap.size,0,none⟩) 1 1 [(.slice A7 n7 c7)] rfl HN.out ?one2 (by simp only [maxLen];omega) (by omega) HZ.out ?_);(case one2=>intro x hx;simp at hx;subst hx;rfl);intro v9 w9 an;have fk:=qqh (kC.push G1.out G2.out G3.out G4.out G5.out HU.out an);clear an;go_wp2_with fail;exact⟨⟨k+1,ll++[_],by omega,by go_num,pI oo.out ep.out pM.out,fk.out⟩,by simp [intOf];omega⟩
  have hsp:sL LP a=fF LP a.name:=(by unfold sL;rw [hk1,if_neg (by decide),if_neg (by decide)]);have q1:(a.kind == 1)=false:=(by rw [hk1];rfl);have q2:(a.kind == 2)=false:=(by rw [hk1];rfl);clear hk1 hk2;have Y6:=fq.keep (X':=(· < B)) (aa.below iV.out.2 (fun _ h _=>h)) (iV.out.2.block mb hmb) HE.out;obtain⟨D,hD,_,jB⟩:=Y6;have jB:=jB a.name;have HD:=qqh hD;clear hD;cases hlk:fF LP a.name with
  | none=>
   rw [hlk]at jB;have pM:=qqh (hsp.trans hlk);have Qv:=qqh jB.1;have RE:=qqh jB.2;clear hsp hlk jB;go_wp2_with (at_lookup;refine mg rfl (.tmp 20) (.tmp 22) rfl mb nm D rfl HD.out a.name rfl hnm (.slice none 0 0) false Qv.out RE.out ?_);go_ret2;rw [ED oo.out pM.out];exact⟨rfl,iV.out.2⟩
  | some s=>
   rw [hlk]at jB;obtain⟨u,h1,h2,h3⟩:=jB;obtain⟨A6,n6,c6,rfl,hrd,_⟩:=h3;have pM:=qqh (hsp.trans hlk);have Qv:=qqh h1;have RE:=qqh h2;have AK:=Ll.out a.name s hlk;have Er:Rd (wr.alloc (.cells #[.int .i64 a.kind,.int .i32 a.rune,.slice A' n' c',.string a.name] 172)) B 2 A6 n6 (ak s):=cy.rd hrd (fun _ h _=>h);have hlen:=lR.len Er;have hn2:n6≤1000:=(by omega);have mw:=qqh Er;clear hsp hlk h1 h2 hrd AK Er hlen;go_wp2_with (at_lookup;refine mg rfl (.tmp 20) (.tmp 22) rfl mb nm D rfl HD.out a.name rfl hnm (.slice A6 n6 c6) true Qv.out RE.out ?_);refine(nH A6 n6 c6 B s _ mw.out hn2).mono ?_;rintro e wx ⟨⟨u,rfl,hu⟩,hb⟩;have OQ:=qqh (kC.below iV.out hb);have Nl:=hu;obtain⟨A7,n7,c7,rfl,_⟩:=Nl;have HU:=qqh (show iD wx (Mo B w.heap.size u6) s (.slice A7 n7 c7) from iD.keep (aa.refl (fun b hb=>by
    have g:=iV.out;obtain⟨⟨css,g1,g2,g3,g4⟩,g5⟩:=g;exact⟨.inr (Nat.le_trans g5.size hb),vh g4 (.inr hb)⟩)) hu)
   clear hu hb;obtain⟨⟨css,g1,g2,g3,g4⟩,g5⟩:=OQ.out;have HN:=qqh (Rd.new wx 24 1 1 [(.slice A7 n7 c7)] rfl);have HO:=qqh (World.ownsRow.alloc g4 (.cells #[(.slice A7 n7 c7)] 24));have HZ:=qqh (Nat.le_trans g5.size (show wx.heap.size≤(wx.alloc (.cells #[(.slice A7 n7 c7)] 24)).heap.size by simp));have G1:=qqh g1;have G2:=qqh g2;have G3:=qqh g3;have G4:=qqh g4;have G5:=qqh g5;clear g1 g2 g3 g4 g5;go_wp2_with (at_builtin;refine ai _ rfl (.tmp 28) (.tmp 31) 87 rfl w.heap.size 24 i0 _ 1 24 Tryz.underlying87 hi hz0 sJ zT rfl (by decide) _ _ _ rfl HO.out _ (some ⟨wx.heap.size,0,none⟩) 1 1 [(.slice A7 n7 c7)] rfl HN.out ?one3 (by simp only [maxLen];omega) (by omega) HZ.out ?_);(case one3=>intro x hx;simp at hx;subst hx;rfl);intro v9 w9 an;have fk:=qqh (kC.push G1.out G2.out G3.out G4.out G5.out HU.out an);clear an;go_wp2_with fail;exact⟨⟨k+1,ll++[_],by omega,by go_num,pI oo.out ep.out pM.out,fk.out⟩,by simp [intOf];omega⟩
 obtain rfl:k=n2:=(by omega);rw [List.take_of_length_le (by rw [aS.out];omega)]at aY;have HG:=qqh aY;have HS:=qqh hst;clear aY hst;obtain⟨AO,cO,rfl,_⟩:=HS.out.1.form;go_wp2_with fail;go_ret2;rw [HG.out];exact⟨⟨_,rfl,kC.post HS.out (by unfold maxLen;omega)⟩,HS.out.2⟩
end Go.Proofs.YtkggjgeihhialaaGreatDoor
namespace Go.Proofs.YtkggjgeihhialaaGreatDoor
open Go.RowKit Go.Maps
theorem Jw:(Tryz.prog.info? 21).map (fun i=>(i.zero,i.size,i.bytes))=some (some (.int .i32 0),1,4):=by kernel_rfl
theorem zv {w:World} {B lo:Nat} {r:Option (List ag)} {e:Ending} (h:JU w B lo r e) :
    ∃ A n c b,e=.returned (.tuple #[.slice A n c,.bool b])∧b=r.isSome∧∀ ll,r=some ll→eU w (Fr B lo) ll (.slice A n c):=by
 cases r with
 | none=>exact⟨none,0,0,false,h,rfl,fun _ h=>by cases h⟩
 | some ll=>
  obtain⟨u,rfl,hu⟩:=h;have Nl:=hu;obtain⟨A,n,c,rfl,_⟩:=Nl;exact⟨A,n,c,true,rfl,rfl,fun _ h=>by cases h;exact hu⟩
abbrev iy:Array Value:=#[.bool false,.bool false,.slice none 0 0,.slice none 0 0,.slice none 0 0,.slice none 0 0,.int .i64 0]
def xT (w:World) (tZ tX:Array Value) (wx:World):Prop :=
  aj wx w.heap.size 101 tZ∧aj wx (w.heap.size+1) 101 tX∧aj wx (w.heap.size+2) 89 iy∧Below w.heap.size w wx
theorem xT.made (w:World) (tZ tX:Array Value):xT w tZ tX (((w.alloc (.cells tZ 101)).alloc (.cells tX 101)).alloc (.cells iy 89)):=by
 refine⟨aj.alloc (aj.alloc (aj.new _ _ _) _) _,?_,?_,(((Below.refl _ _).alloc (Nat.le_refl _) _).alloc (by simp) _).alloc (by simp;omega) _⟩
 ·have:=aj.alloc (aj.new (w.alloc (.cells tZ 101)) 101 tX) (.cells iy 89);simpa using this
 have:=aj.new ((w.alloc (.cells tZ 101)).alloc (.cells tX 101)) 89 iy;simpa using this
theorem xT.below {w wx w2:World} {tZ tX:Array Value} (h:xT w tZ tX wx) (hb:Below wx.heap.size wx w2):xT w tZ tX w2 :=
  ⟨aj.below h.1 hb h.1.lt,aj.below h.2.1 hb h.2.1.lt,aj.below h.2.2.1 hb h.2.2.1.lt,h.2.2.2.trans (hb.mono h.2.2.2.size)⟩
def DA (w:World) (B lo:Nat) (r:Option ax) (e:Ending):Prop :=
  ∃ cs:List Value,cs.length=7∧e=.returned (.tuple #[.agg cs.toArray,.bool r.isSome])∧(∀ u∈cs,u.oneCell'=true)∧∀ rd,r=some rd→aO w (Fr B lo) rd cs
theorem Kl {L:List aE} {k:Nat} {a:aE} (h:L[k]? = some a):(L.take (k+1)).map (·.rune)=(L.take k).map (·.rune)++[a.rune]:=by
 rw [List.take_add_one,h];simp
theorem qv (l:List aF) (f t:bO):(eO l f t).isSome=((bY l f.before).isSome && (bY l f.source).isSome && (bY l f.after).isSome):=by
 unfold eO;cases bY l f.before <;> cases bY l f.source <;> cases bY l f.after <;> rfl
theorem IY {l:List aF} {f t:bO} {rd:ax} (h:eO l f t=some rd):∃ a b c,bY l f.before=some a∧bY l f.source=some b∧bY l f.after=some c ∧
    rd=⟨f.start,f.fin,a,b,c,t.source.map (·.rune),if t.af<0 then (t.source.length:Int)else t.af⟩:=by
 unfold eO at h;cases h1:bY l f.before with
 | none=>rw [h1]at h;cases h
 | some a=>
  cases h2:bY l f.source with
  | none=>rw [h1,h2]at h;cases h
  | some b=>
   cases h3:bY l f.after with
   | none=>rw [h1,h2,h3]at h;cases h
   | some c=>
    rw [h1,h2,h3]at h;cases h;exact⟨a,b,c,rfl,rfl,rfl,rfl⟩
abbrev JX (w:World) (g:Nat) (u0 u1 u2 u3 u4 u5 u6:Value):World :=
  ((((((w.setCell ⟨g,0,none⟩ u0).setCell ⟨g,1,none⟩ u1).setCell ⟨g,2,none⟩ u2).setCell ⟨g,3,none⟩ u3).setCell ⟨g,4,none⟩ u4).setCell ⟨g,5,none⟩ u5).setCell ⟨g,6,none⟩ u6
theorem Oy {w:World} {X:Nat→Prop} {g:Nat} (h:∀ b,X b→b≠g) (u0 u1 u2 u3 u4 u5 u6:Value):aa w X (JX w g u0 u1 u2 u3 u4 u5 u6) X:=by
 have one:∀ (w:World) (i:Nat) (u:Value),aa w X (w.setCell ⟨g,i,none⟩ u) X:=fun w i u=>aa.setCell u (fun b hb=>h b hb) (fun _ h _=>h);exact((((((one _ 0 u0).trans (one _ 1 u1)).trans (one _ 2 u2)).trans (one _ 3 u3)).trans (one _ 4 u4)).trans (one _ 5 u5)).trans (one _ 6 u6)
theorem zF {w w0:World} {g B:Nat} (h:Below B w0 w) (hg:B≤g) (u0 u1 u2 u3 u4 u5 u6:Value):Below B w0 (JX w g u0 u1 u2 u3 u4 u5 u6) :=
  ((((((h.setCell hg _).setCell hg _).setCell hg _).setCell hg _).setCell hg _).setCell hg _).setCell hg _
end Go.Proofs.YtkggjgeihhialaaGreatDoor
namespace Go.Proofs.YtkggjgeihhialaaGreatDoor
open Go.RowKit Go.Maps
def jD (w:World) (tZ tX Mn arr:Array Value) (wx:World):Prop :=
  aj wx w.heap.size 101 tZ∧aj wx (w.heap.size+1) 101 tX∧aj wx (w.heap.size+2) 89 iy ∧
  aj wx (w.heap.size+3) 89 Mn∧aj wx (w.heap.size+4) 167 arr∧Below w.heap.size w wx
section
variable {w wx w2 : World} {tZ tX Mn arr : Array Value}
theorem jD.below (h:jD w tZ tX Mn arr wx) (hb:Below wx.heap.size wx w2):jD w tZ tX Mn arr w2 :=
  ⟨aj.below h.1 hb h.1.lt,aj.below h.2.1 hb h.2.1.lt,aj.below h.2.2.1 hb h.2.2.1.lt,aj.below h.2.2.2.1 hb h.2.2.2.1.lt,aj.below h.2.2.2.2.1 hb h.2.2.2.2.1.lt,h.2.2.2.2.2.trans (hb.mono h.2.2.2.2.2.size)⟩
theorem jD.alloc (h:jD w tZ tX Mn arr wx) (o:Obj):jD w tZ tX Mn arr (wx.alloc o):=h.below ((Below.refl _ _).alloc (Nat.le_refl _) o)
theorem jD.put (h:jD w tZ tX Mn arr wx) (i:Nat) (u:Value):jD w tZ tX (Mn.setIfInBounds i u) arr (wx.setCell ⟨w.heap.size+3,i,none⟩ u) :=
  ⟨au h.1 (by omega),au h.2.1 (by omega),au h.2.2.1 (by omega),h.2.2.2.1.put i u,au h.2.2.2.2.1 (by omega),h.2.2.2.2.2.setCell (by simp) _⟩
theorem jD.app {base sz n m:Nat} {e:TypeId} {v v':Value} {xs ys:List Value} (h:jD w tZ tX Mn arr wx) (ho:wx.ownsRow base e sz v n xs) (h1 : 101 ≠ e) (h2 : 89 ≠ e) (h3 : 167 ≠ e) (hb:w.heap.size≤base) (ha:aV base e sz v wx m ys v' w2):jD w tZ tX Mn arr w2 :=
  ⟨bV h.1 ho h1 ha,bV h.2.1 ho h1 ha,bV h.2.2.1 ho h2 ha,bV h.2.2.2.1 ho h2 ha,bV h.2.2.2.2.1 ho h3 ha,h.2.2.2.2.2.trans (ha.below h.2.2.2.2.2.size (lJ ho hb))⟩
end
def Laid (w:World) (B lo:Nat) (r:Option (List ag)) (v:Value):Prop:=∃ A n c ll,v=.slice A n c∧r=some ll∧eU w (Fr B lo) ll v
theorem Laid.keep {w w':World} {B lo:Nat} {r:Option (List ag)} {v:Value} (hk:aa w (Fr B lo) w' (Fr B lo)) (h:Laid w B lo r v):Laid w' B lo r v:=by
 obtain⟨A,n,c,ll,e,h1,h2⟩:=h;exact⟨A,n,c,ll,e,h1,h2.keep hk⟩
def VP (w:World) (B:Nat) (tZ tX arr:Array Value) (c0 c1:Value) (r1 r2 r3:Option (List ag)) (i:Value) (wr:World):Prop :=
  ∃ (k:Nat) (v1 v2 v3:Value),k≤3∧i=.int .i64 k∧jD w tZ tX #[c0,c1,v1,v2,v3,.slice none 0 0,.int .i64 0] arr wr ∧
    (if k<1 then v1=.slice none 0 0 else Laid wr B (w.heap.size+5) r1 v1)∧(if k<2 then v2=.slice none 0 0 else Laid wr B (w.heap.size+5) r2 v2)∧(if k<3 then v3=.slice none 0 0 else Laid wr B (w.heap.size+5) r3 v3)
def Vo (w w0:World) (B:Nat) (tZ tX arr:Array Value) (c0 c1 c2 c3 c4:Value) (L:List aE) (n:Nat) (i:Value) (wr:World):Prop :=
  ∃ (k:Nat) (v:Value),k≤n∧i=.int .i64 k∧jD w tZ tX #[c0,c1,c2,c3,c4,v,.int .i64 0] arr wr∧wr.ownsRow w0.heap.size 21 1 v k (runeCells ((L.take k).map (·.rune))) ∧
    aa w0 (Fr B (w.heap.size+5)) wr (fun b=>Fr B (w.heap.size+5) b∧b<w0.heap.size)∧w0.heap.size≤wr.heap.size
theorem zo {w:World} {B lo:Nat} {l:List aF} {f t:bO} {cs:List Value} (h:((bY l f.before).isSome && (bY l f.source).isSome && (bY l f.after).isSome)=false) (hc:cs.length=7) (h1:∀ u∈cs,u.oneCell'=true) :
    DA w B lo (eO l f t) (.returned (.tuple #[.agg cs.toArray,.bool false])):=by
 have hn:=(qv l f t).trans h;refine⟨cs,hc,by rw [hn],h1,fun rd hr=>?_⟩;rw [hr]at hn;cases hn
theorem Ca (mb nm:Nat) (LP:List aF) (f t:bO) (L1 L2 L3 R1 R2 R3:Option Addr) (a1 a2 a3 x1 x2 x3 b1 b2 b3 y1 y2 y3:Nat) (w:World) (B:Nat) (hB:B≤w.heap.size) (hE:fq w (· < B) mb nm LP) (KT:∀ s set,fF LP s=some set→set.length≤200)
    (l1:bM w B L1 a1 f.before) (l2:bM w B L2 a2 f.source) (l3:bM w B L3 a3 f.after) (k1:b8 f.before=0) (k2:b8 f.source=0) (k3:b8 f.after=0) (r2:bM w B R2 b2 t.source) (j2:b8 t.source=0) :
    Calls Tryz.prog 80 #[.map (some mb),.agg #[.bool f.start,.bool f.fin,.slice L1 a1 x1,.slice L2 a2 x2,.slice L3 a3 x3,.int .i64 f.af],.agg #[.bool t.start,.bool t.fin,.slice R1 b1 y1,.slice R2 b2 y2,.slice R3 b3 y3,.int .i64 t.af]] w
      fun e w'=>DA w' B w.heap.size (eO LP f t) e∧Below w.heap.size w w':=by
 obtain⟨i0,hi,hz0,sJ,zT⟩:=info_parts Jw;obtain⟨h20,_⟩:=Be j2;have agO:b2≤20:=(by rw [← jR.len r2];exact h20);have HRL:=qqh (jR.len r2);have gM:=qqh r2;have hs:=fun(w':World) (hb:Below w.heap.size w w') (A':Option Addr) (n' c':Nat) (L:List aE) (hL:bM w B A' n' L) (hok:b8 L=0)=>JK mb nm LP A' n' c' L w' B (Nat.le_trans hB hb.size) (fq.keep (aa.below hb (fun _ h _=>h)) (hb.block mb hE.lt) hE) KT (bM.weak (fS (hb.mono hB) (Nat.le_refl _)) hL) hok;have iV:=qqh (fun(w':World) (hb:Below w.heap.size w w')=>hs w' hb L1 a1 x1 f.before l1 k1);have iz:=qqh (fun(w':World) (hb:Below w.heap.size w w')=>hs w' hb L2 a2 x2 f.source l2 k2);have GV:=qqh (fun(w':World) (hb:Below w.heap.size w w')=>hs w' hb L3 a3 x3 f.after l3 k3);have hx0:=xT.made w #[.bool f.start,.bool f.fin,.slice L1 a1 x1,.slice L2 a2 x2,.slice L3 a3 x3,.int .i64 f.af] #[.bool t.start,.bool t.fin,.slice R1 b1 y1,.slice R2 b2 y2,.slice R3 b3 y3,.int .i64 t.af];have hx1:jD w #[.bool f.start,.bool f.fin,.slice L1 a1 x1,.slice L2 a2 x2,.slice L3 a3 x3,.int .i64 f.af] #[.bool t.start,.bool t.fin,.slice R1 b1 y1,.slice R2 b2 y2,.slice R3 b3 y3,.int .i64 t.af] #[.bool f.start,.bool f.fin,.slice none 0 0,.slice none 0 0,.slice none 0 0,.slice none 0 0,.int .i64 0] #[.slice L1 a1 x1,.pointer (some ⟨w.heap.size+3,2,none⟩),.slice L2 a2 x2,.pointer (some ⟨w.heap.size+3,3,none⟩),.slice L3 a3 x3,.pointer (some ⟨w.heap.size+3,4,none⟩)] ((((((w.alloc (.cells #[.bool f.start,.bool f.fin,.slice L1 a1 x1,.slice L2 a2 x2,.slice L3 a3 x3,.int .i64 f.af] 101)).alloc (.cells #[.bool t.start,.bool t.fin,.slice R1 b1 y1,.slice R2 b2 y2,.slice R3 b3 y3,.int .i64 t.af] 101)).alloc (.cells iy 89))).alloc (.cells #[.bool f.start,.bool f.fin,.slice none 0 0,.slice none 0 0,.slice none 0 0,.slice none 0 0,.int .i64 0] 89)).alloc (.cells #[.slice L1 a1 x1,.pointer (some ⟨w.heap.size+3,2,none⟩),.slice L2 a2 x2,.pointer (some ⟨w.heap.size+3,3,none⟩),.slice L3 a3 x3,.pointer (some ⟨w.heap.size+3,4,none⟩)] 167)):=by
  obtain⟨g1,g2,g3,g4⟩:=hx0;refine⟨aj.alloc (aj.alloc g1 _) _,aj.alloc (aj.alloc g2 _) _,aj.alloc (aj.alloc g3 _) _,aj.alloc ?_ _,?_,(g4.alloc g4.size _).alloc (g4.alloc g4.size _).size _⟩
  ·have:=aj.new (((w.alloc (.cells #[.bool f.start,.bool f.fin,.slice L1 a1 x1,.slice L2 a2 x2,.slice L3 a3 x3,.int .i64 f.af] 101)).alloc (.cells #[.bool t.start,.bool t.fin,.slice R1 b1 y1,.slice R2 b2 y2,.slice R3 b3 y3,.int .i64 t.af] 101)).alloc (.cells iy 89)) 89 #[.bool f.start,.bool f.fin,.slice none 0 0,.slice none 0 0,.slice none 0 0,.slice none 0 0,.int .i64 0];simpa using this
  have:=aj.new ((((w.alloc (.cells #[.bool f.start,.bool f.fin,.slice L1 a1 x1,.slice L2 a2 x2,.slice L3 a3 x3,.int .i64 f.af] 101)).alloc (.cells #[.bool t.start,.bool t.fin,.slice R1 b1 y1,.slice R2 b2 y2,.slice R3 b3 y3,.int .i64 t.af] 101)).alloc (.cells iy 89)).alloc (.cells #[.bool f.start,.bool f.fin,.slice none 0 0,.slice none 0 0,.slice none 0 0,.slice none 0 0,.int .i64 0] 89)) 167 #[.slice L1 a1 x1,.pointer (some ⟨w.heap.size+3,2,none⟩),.slice L2 a2 x2,.pointer (some ⟨w.heap.size+3,3,none⟩),.slice L3 a3 x3,.pointer (some ⟨w.heap.size+3,4,none⟩)];simpa using this
 have sv:=qqh hx1;clear hs l1 l2 l3 r2 k1 k2 k3 j2 h20 hx0 hx1 hE KT;go_enter Tryz.func80,Tryz.ntmps80;go_wp2_with fail;go_loopw [34] (VP w B #[.bool f.start,.bool f.fin,.slice L1 a1 x1,.slice L2 a2 x2,.slice L3 a3 x3,.int .i64 f.af] #[.bool t.start,.bool t.fin,.slice R1 b1 y1,.slice R2 b2 y2,.slice R3 b3 y3,.int .i64 t.af] #[.slice L1 a1 x1,.pointer (some ⟨w.heap.size+3,2,none⟩),.slice L2 a2 x2,.pointer (some ⟨w.heap.size+3,3,none⟩),.slice L3 a3 x3,.pointer (some ⟨w.heap.size+3,4,none⟩)] (.bool f.start) (.bool f.fin) (bY LP f.before) (bY LP f.source) (bY LP f.after)) (fun i _=>3 - (intOf i).toNat);(case atStart=>exact⟨0,_,_,_,by omega,rfl,sv.out,by simp,by simp,by simp⟩);obtain⟨k,v1,v2,v3,hk,rfl,jB,g1,g2,g3⟩:=hrel;by_cases hlt:k<3
 ·obtain rfl | rfl | rfl:k=0∨k=1∨k=2:=(by omega)
  ·obtain rfl:v1=.slice none 0 0:=(by simpa using g1);obtain rfl:v2=.slice none 0 0:=(by simpa using g2);obtain rfl:v3=.slice none 0 0:=(by simpa using g3);clear g1 g2 g3;have z0:wr.cell? ⟨w.heap.size+4,0,none⟩=some (.slice L1 a1 x1):=jB.2.2.2.2.1.cell 0;have z1:wr.cell? ⟨w.heap.size+4,1,none⟩=some (.pointer (some ⟨w.heap.size+3,2,none⟩)):=jB.2.2.2.2.1.cell 1;have tw:=qqh (jD.alloc jB (.cells #[.slice L1 a1 x1,.pointer (some ⟨w.heap.size+3,2,none⟩)] 167));have HK:=qqh (aj.new wr 167 #[.slice L1 a1 x1,.pointer (some ⟨w.heap.size+3,2,none⟩)]);clear jB;go_wp2_with fail;refine(iV.out _ tw.out.2.2.2.2.2).mono ?_;rintro e w2 ⟨he,aQ⟩;obtain⟨A9,n9,c9,o9,rfl,jl,AG⟩:=zv he;have bg:=jD.below tw.out aQ;have hk2:=aj.below HK.out aQ HK.out.lt;have t0:w2.cell? ⟨w.heap.size+3,0,none⟩=some (.bool f.start):=bg.2.2.2.1.cell 0;have t1:w2.cell? ⟨w.heap.size+3,1,none⟩=some (.bool f.fin):=bg.2.2.2.1.cell 1;have t2:w2.cell? ⟨w.heap.size+3,2,none⟩=some (.slice none 0 0):=bg.2.2.2.1.cell 2;have t3:w2.cell? ⟨w.heap.size+3,3,none⟩=some (.slice none 0 0):=bg.2.2.2.1.cell 3;have t4:w2.cell? ⟨w.heap.size+3,4,none⟩=some (.slice none 0 0):=bg.2.2.2.1.cell 4;have t5:w2.cell? ⟨w.heap.size+3,5,none⟩=some (.slice none 0 0):=bg.2.2.2.1.cell 5;have t6:w2.cell? ⟨w.heap.size+3,6,none⟩=some (.int .i64 0):=bg.2.2.2.1.cell 6;have s0:w2.cell? ⟨w.heap.size+2,0,none⟩=some (.bool false):=bg.2.2.1.cell 0;have XH:=bg.2.2.1.frozen 0;have s1:w2.cell? ⟨w.heap.size+2,1,none⟩=some (.bool false):=bg.2.2.1.cell 1;have Zy:=bg.2.2.1.frozen 1;have s2:w2.cell? ⟨w.heap.size+2,2,none⟩=some (.slice none 0 0):=bg.2.2.1.cell 2;have sf2:=bg.2.2.1.frozen 2
   have s3:w2.cell? ⟨w.heap.size+2,3,none⟩=some (.slice none 0 0):=bg.2.2.1.cell 3;have Yx:=bg.2.2.1.frozen 3;have s4:w2.cell? ⟨w.heap.size+2,4,none⟩=some (.slice none 0 0):=bg.2.2.1.cell 4;have X9:=bg.2.2.1.frozen 4;have s5:w2.cell? ⟨w.heap.size+2,5,none⟩=some (.slice none 0 0):=bg.2.2.1.cell 5;have ZF:=bg.2.2.1.frozen 5;have s6:w2.cell? ⟨w.heap.size+2,6,none⟩=some (.int .i64 0):=bg.2.2.1.cell 6;have Zw:=bg.2.2.1.frozen 6;have m1:w2.cell? ⟨wr.heap.size,1,none⟩=some (.pointer (some ⟨w.heap.size+3,2,none⟩)):=hk2.cell 1;have mf:=bg.2.2.2.1.frozen 2;have AS:=qqh bg;have bt:=qqh aQ;have gV:=qqh jl;have Og:=qqh AG;have Qd:=bg.2.2.2.2.1.lt;clear he bg hk2 aQ jl AG;cases o9
   ·go_wp2_with fail;exact bodyPost_ret (by simp [results,Tryz.results80,go_sem,s0,s1,s2,s3,s4,s5,s6]) rfl ⟨zo (cs:=[.bool f.start,.bool f.fin,.slice none 0 0,.slice none 0 0,.slice none 0 0,.slice none 0 0,.int .i64 0]) (by rw [← gV.out];simp) rfl (by intro u hu;simp only [List.mem_cons,List.not_mem_nil,or_false]at hu;rcases hu with rfl | rfl | rfl | rfl | rfl | rfl | rfl <;> rfl),zF AS.out.2.2.2.2.2 (by omega) _ _ _ _ _ _ _⟩
   go_wp2_with fail;obtain⟨OZ,AW⟩:=Option.isSome_iff_exists.1 gV.out.symm;have kk:aa w2 (Fr B (w.heap.size+5)) (w2.setCell ⟨w.heap.size+3,2,none⟩ (.slice A9 n9 c9)) (Fr B (w.heap.size+5)):=aa.setCell _ (fun b hb=>by rcases hb with h | h <;> dsimp only <;> omega) (fun _ h _=>h);refine⟨⟨1,.slice A9 n9 c9,.slice none 0 0,.slice none 0 0,by omega,by go_num,AS.out.put 2 (.slice A9 n9 c9),by rw [if_neg (by omega)];exact⟨_,_,_,OZ,rfl,AW,(Og.out OZ AW).keep ((aa.refl (X':=Fr B (w.heap.size+5)) (fun b hb=>hb.imp id (fun h=>Nat.le_trans (Nat.succ_le_of_lt tw.out.2.2.2.2.1.lt) h))).trans kk)⟩,by rw [if_pos (by omega)],by rw [if_pos (by omega)]⟩,by simp [intOf]⟩
  ·obtain⟨P1,p1,q1,ll1,rfl,kB,I6⟩:=(show Laid wr B (w.heap.size+5) _ _ from by simpa using g1);obtain rfl:v2=.slice none 0 0:=(by simpa using g2);obtain rfl:v3=.slice none 0 0:=(by simpa using g3);clear g1 g2 g3;have z0:wr.cell? ⟨w.heap.size+4,2,none⟩=some (.slice L2 a2 x2):=jB.2.2.2.2.1.cell 2;have z1:wr.cell? ⟨w.heap.size+4,3,none⟩=some (.pointer (some ⟨w.heap.size+3,3,none⟩)):=jB.2.2.2.2.1.cell 3;have tw:=qqh (jD.alloc jB (.cells #[.slice L2 a2 x2,.pointer (some ⟨w.heap.size+3,3,none⟩)] 167));have HK:=qqh (aj.new wr 167 #[.slice L2 a2 x2,.pointer (some ⟨w.heap.size+3,3,none⟩)]);have I1:=qqh (I6.keep (aa.alloc (.cells #[.slice L2 a2 x2,.pointer (some ⟨w.heap.size+3,3,none⟩)] 167) (fun _ h _=>h)));have C0:=qqh kB;clear jB I6 kB;go_wp2_with fail;refine(iz.out _ tw.out.2.2.2.2.2).mono ?_;rintro e w2 ⟨he,aQ⟩;obtain⟨A9,n9,c9,o9,rfl,jl,AG⟩:=zv he;have bg:=jD.below tw.out aQ;have hk2:=aj.below HK.out aQ HK.out.lt;have t0:w2.cell? ⟨w.heap.size+3,0,none⟩=some (.bool f.start):=bg.2.2.2.1.cell 0;have t1:w2.cell? ⟨w.heap.size+3,1,none⟩=some (.bool f.fin):=bg.2.2.2.1.cell 1;have t2:w2.cell? ⟨w.heap.size+3,2,none⟩=some (.slice P1 p1 q1):=bg.2.2.2.1.cell 2;have t3:w2.cell? ⟨w.heap.size+3,3,none⟩=some (.slice none 0 0):=bg.2.2.2.1.cell 3;have t4:w2.cell? ⟨w.heap.size+3,4,none⟩=some (.slice none 0 0):=bg.2.2.2.1.cell 4;have t5:w2.cell? ⟨w.heap.size+3,5,none⟩=some (.slice none 0 0):=bg.2.2.2.1.cell 5;have t6:w2.cell? ⟨w.heap.size+3,6,none⟩=some (.int .i64 0):=bg.2.2.2.1.cell 6;have s0:w2.cell? ⟨w.heap.size+2,0,none⟩=some (.bool false):=bg.2.2.1.cell 0;have XH:=bg.2.2.1.frozen 0
   have s1:w2.cell? ⟨w.heap.size+2,1,none⟩=some (.bool false):=bg.2.2.1.cell 1;have Zy:=bg.2.2.1.frozen 1;have s2:w2.cell? ⟨w.heap.size+2,2,none⟩=some (.slice none 0 0):=bg.2.2.1.cell 2;have sf2:=bg.2.2.1.frozen 2;have s3:w2.cell? ⟨w.heap.size+2,3,none⟩=some (.slice none 0 0):=bg.2.2.1.cell 3;have Yx:=bg.2.2.1.frozen 3;have s4:w2.cell? ⟨w.heap.size+2,4,none⟩=some (.slice none 0 0):=bg.2.2.1.cell 4;have X9:=bg.2.2.1.frozen 4;have s5:w2.cell? ⟨w.heap.size+2,5,none⟩=some (.slice none 0 0):=bg.2.2.1.cell 5;have ZF:=bg.2.2.1.frozen 5;have s6:w2.cell? ⟨w.heap.size+2,6,none⟩=some (.int .i64 0):=bg.2.2.1.cell 6;have Zw:=bg.2.2.1.frozen 6;have m1:w2.cell? ⟨wr.heap.size,1,none⟩=some (.pointer (some ⟨w.heap.size+3,3,none⟩)):=hk2.cell 1;have mf:=bg.2.2.2.1.frozen 3;have AS:=qqh bg;have bt:=qqh aQ;have gV:=qqh jl;have Og:=qqh AG;have Qd:=bg.2.2.2.2.1.lt;clear he bg hk2 aQ jl AG;cases o9
   ·go_wp2_with fail;exact bodyPost_ret (by simp [results,Tryz.results80,go_sem,s0,s1,s2,s3,s4,s5,s6]) rfl ⟨zo (cs:=[.bool f.start,.bool f.fin,.slice P1 p1 q1,.slice none 0 0,.slice none 0 0,.slice none 0 0,.int .i64 0]) (by rw [← gV.out];simp) rfl (by intro u hu;simp only [List.mem_cons,List.not_mem_nil,or_false]at hu;rcases hu with rfl | rfl | rfl | rfl | rfl | rfl | rfl <;> rfl),zF AS.out.2.2.2.2.2 (by omega) _ _ _ _ _ _ _⟩
   go_wp2_with fail;obtain⟨OZ,AW⟩:=Option.isSome_iff_exists.1 gV.out.symm;have kk:aa w2 (Fr B (w.heap.size+5)) (w2.setCell ⟨w.heap.size+3,3,none⟩ (.slice A9 n9 c9)) (Fr B (w.heap.size+5)):=aa.setCell _ (fun b hb=>by rcases hb with h | h <;> dsimp only <;> omega) (fun _ h _=>h);refine⟨⟨2,.slice P1 p1 q1,.slice A9 n9 c9,.slice none 0 0,by omega,by go_num,AS.out.put 3 (.slice A9 n9 c9),by rw [if_neg (by omega)];exact⟨_,_,_,_,rfl,C0.out,I1.out.keep ((aa.below bt.out (fun _ h _=>h)).trans kk)⟩,by rw [if_neg (by omega)];exact⟨_,_,_,OZ,rfl,AW,(Og.out OZ AW).keep ((aa.refl (X':=Fr B (w.heap.size+5)) (fun b hb=>hb.imp id (fun h=>Nat.le_trans (Nat.succ_le_of_lt tw.out.2.2.2.2.1.lt) h))).trans kk)⟩,by rw [if_pos (by omega)]⟩,by simp [intOf]⟩
  obtain⟨P1,p1,q1,ll1,rfl,kB,I6⟩:=(show Laid wr B (w.heap.size+5) _ _ from by simpa using g1);obtain⟨P2,p2,q2,ll2,rfl,jd,wV⟩:=(show Laid wr B (w.heap.size+5) _ _ from by simpa using g2);obtain rfl:v3=.slice none 0 0:=(by simpa using g3);clear g1 g2 g3;have z0:wr.cell? ⟨w.heap.size+4,4,none⟩=some (.slice L3 a3 x3):=jB.2.2.2.2.1.cell 4;have z1:wr.cell? ⟨w.heap.size+4,5,none⟩=some (.pointer (some ⟨w.heap.size+3,4,none⟩)):=jB.2.2.2.2.1.cell 5;have tw:=qqh (jD.alloc jB (.cells #[.slice L3 a3 x3,.pointer (some ⟨w.heap.size+3,4,none⟩)] 167));have HK:=qqh (aj.new wr 167 #[.slice L3 a3 x3,.pointer (some ⟨w.heap.size+3,4,none⟩)]);have I1:=qqh (I6.keep (aa.alloc (.cells #[.slice L3 a3 x3,.pointer (some ⟨w.heap.size+3,4,none⟩)] 167) (fun _ h _=>h)));have C0:=qqh kB;have O1:=qqh (wV.keep (aa.alloc (.cells #[.slice L3 a3 x3,.pointer (some ⟨w.heap.size+3,4,none⟩)] 167) (fun _ h _=>h)));have IQ:=qqh jd;clear jB I6 kB wV jd;go_wp2_with fail;refine(GV.out _ tw.out.2.2.2.2.2).mono ?_;rintro e w2 ⟨he,aQ⟩;obtain⟨A9,n9,c9,o9,rfl,jl,AG⟩:=zv he;have bg:=jD.below tw.out aQ;have hk2:=aj.below HK.out aQ HK.out.lt;have t0:w2.cell? ⟨w.heap.size+3,0,none⟩=some (.bool f.start):=bg.2.2.2.1.cell 0;have t1:w2.cell? ⟨w.heap.size+3,1,none⟩=some (.bool f.fin):=bg.2.2.2.1.cell 1;have t2:w2.cell? ⟨w.heap.size+3,2,none⟩=some (.slice P1 p1 q1):=bg.2.2.2.1.cell 2;have t3:w2.cell? ⟨w.heap.size+3,3,none⟩=some (.slice P2 p2 q2):=bg.2.2.2.1.cell 3;have t4:w2.cell? ⟨w.heap.size+3,4,none⟩=some (.slice none 0 0):=bg.2.2.2.1.cell 4
  have t5:w2.cell? ⟨w.heap.size+3,5,none⟩=some (.slice none 0 0):=bg.2.2.2.1.cell 5;have t6:w2.cell? ⟨w.heap.size+3,6,none⟩=some (.int .i64 0):=bg.2.2.2.1.cell 6;have s0:w2.cell? ⟨w.heap.size+2,0,none⟩=some (.bool false):=bg.2.2.1.cell 0;have XH:=bg.2.2.1.frozen 0;have s1:w2.cell? ⟨w.heap.size+2,1,none⟩=some (.bool false):=bg.2.2.1.cell 1;have Zy:=bg.2.2.1.frozen 1;have s2:w2.cell? ⟨w.heap.size+2,2,none⟩=some (.slice none 0 0):=bg.2.2.1.cell 2;have sf2:=bg.2.2.1.frozen 2;have s3:w2.cell? ⟨w.heap.size+2,3,none⟩=some (.slice none 0 0):=bg.2.2.1.cell 3;have Yx:=bg.2.2.1.frozen 3;have s4:w2.cell? ⟨w.heap.size+2,4,none⟩=some (.slice none 0 0):=bg.2.2.1.cell 4;have X9:=bg.2.2.1.frozen 4;have s5:w2.cell? ⟨w.heap.size+2,5,none⟩=some (.slice none 0 0):=bg.2.2.1.cell 5;have ZF:=bg.2.2.1.frozen 5;have s6:w2.cell? ⟨w.heap.size+2,6,none⟩=some (.int .i64 0):=bg.2.2.1.cell 6;have Zw:=bg.2.2.1.frozen 6;have m1:w2.cell? ⟨wr.heap.size,1,none⟩=some (.pointer (some ⟨w.heap.size+3,4,none⟩)):=hk2.cell 1;have mf:=bg.2.2.2.1.frozen 4;have AS:=qqh bg;have bt:=qqh aQ;have gV:=qqh jl;have Og:=qqh AG;have Qd:=bg.2.2.2.2.1.lt;clear he bg hk2 aQ jl AG;cases o9
  ·go_wp2_with fail;exact bodyPost_ret (by simp [results,Tryz.results80,go_sem,s0,s1,s2,s3,s4,s5,s6]) rfl ⟨zo (cs:=[.bool f.start,.bool f.fin,.slice P1 p1 q1,.slice P2 p2 q2,.slice none 0 0,.slice none 0 0,.int .i64 0]) (by rw [← gV.out];simp) rfl (by intro u hu;simp only [List.mem_cons,List.not_mem_nil,or_false]at hu;rcases hu with rfl | rfl | rfl | rfl | rfl | rfl | rfl <;> rfl),zF AS.out.2.2.2.2.2 (by omega) _ _ _ _ _ _ _⟩
  go_wp2_with fail;obtain⟨OZ,AW⟩:=Option.isSome_iff_exists.1 gV.out.symm;have kk:aa w2 (Fr B (w.heap.size+5)) (w2.setCell ⟨w.heap.size+3,4,none⟩ (.slice A9 n9 c9)) (Fr B (w.heap.size+5)):=aa.setCell _ (fun b hb=>by rcases hb with h | h <;> dsimp only <;> omega) (fun _ h _=>h);refine⟨⟨3,.slice P1 p1 q1,.slice P2 p2 q2,.slice A9 n9 c9,by omega,by go_num,AS.out.put 4 (.slice A9 n9 c9),by rw [if_neg (by omega)];exact⟨_,_,_,_,rfl,C0.out,I1.out.keep ((aa.below bt.out (fun _ h _=>h)).trans kk)⟩,by rw [if_neg (by omega)];exact⟨_,_,_,_,rfl,IQ.out,O1.out.keep ((aa.below bt.out (fun _ h _=>h)).trans kk)⟩,by rw [if_neg (by omega)];exact⟨_,_,_,OZ,rfl,AW,(Og.out OZ AW).keep ((aa.refl (X':=Fr B (w.heap.size+5)) (fun b hb=>hb.imp id (fun h=>Nat.le_trans (Nat.succ_le_of_lt tw.out.2.2.2.2.1.lt) h))).trans kk)⟩⟩,by simp [intOf]⟩
 have Pe:3≤k:=(by omega);rw [if_neg (by omega)]at g1;obtain⟨P1,p1,q1,ll1,rfl,kB,I6⟩:=g1;rw [if_neg (by omega)]at g2;obtain⟨P2,p2,q2,ll2,rfl,jd,wV⟩:=g2;rw [if_neg (by omega)]at g3;obtain⟨P3,p3,q3,ll3,rfl,Fl,hv3⟩:=g3;generalize wr=wz at *;have e3:wz.cell? ⟨w.heap.size+1,3,none⟩=some (.slice R2 b2 y2):=jB.2.1.cell 3;have tw:=qqh jB;have I1:=qqh I6;have O1:=qqh wV;have Wr:=qqh hv3;have C0:=qqh kB;have IQ:=qqh jd;have Pb:=qqh Fl;have hz:=jB.2.2.2.2.2.size;have OE:=jB.2.2.2.2.1.lt;clear jB I6 wV hv3 kB jd Fl;go_wp2_with fail;go_loopw [56] (Vo w wz B #[.bool f.start,.bool f.fin,.slice L1 a1 x1,.slice L2 a2 x2,.slice L3 a3 x3,.int .i64 f.af] #[.bool t.start,.bool t.fin,.slice R1 b1 y1,.slice R2 b2 y2,.slice R3 b3 y3,.int .i64 t.af] #[.slice L1 a1 x1,.pointer (some ⟨w.heap.size+3,2,none⟩),.slice L2 a2 x2,.pointer (some ⟨w.heap.size+3,3,none⟩),.slice L3 a3 x3,.pointer (some ⟨w.heap.size+3,4,none⟩)] (.bool f.start) (.bool f.fin) (.slice P1 p1 q1) (.slice P2 p2 q2) (.slice P3 p3 q3) t.source b2) (fun i _=>b2 - (intOf i).toNat);(case atStart=>exact⟨0,.slice none 0 0,Nat.zero_le _,rfl,tw.out,World.ownsRow_nil _ _ _ _,fun b hx hl=>⟨rfl,⟨hx,hl⟩,hl⟩,Nat.le_refl _⟩);obtain⟨k,v,hk,rfl,jB,hown,hkp,hzr⟩:=hrel;by_cases hlt:k<b2
 ·obtain⟨a,ha⟩:∃ z,t.source[k]? = some z:=⟨_,List.getElem?_eq_getElem (by rw [HRL.out];exact hlt)⟩;obtain⟨b,off,A',n',c',rfl,dL,f0,f1,f2,f3,_,_,_,_⟩:=tG gM.out ha;have Vl:=jB.2.2.2.2.2;have jg:b<w.heap.size:=(by omega);have d0:=(Vl.cell (p:=⟨b,off+k*4,none⟩) jg).trans f0;have d1:=(Vl.cell (p:=⟨b,off+k*4+1,none⟩) jg).trans f1;have d2:=(Vl.cell (p:=⟨b,off+k*4+2,none⟩) jg).trans f2;have d3:=(Vl.cell (p:=⟨b,off+k*4+3,none⟩) jg).trans f3;clear f0 f1 f2 f3 Vl;generalize hT:(t.source.take k).map (·.rune)=T at hown;have HTM:=qqh ((Kl ha).trans (by rw [hT]:_=T++[a.rune]));clear hT;obtain⟨Av,cv,rfl,_⟩:=aJ hown;have PJ:=jD.alloc jB (.cells #[.int .i64 a.kind,.int .i32 a.rune,.slice A' n' c',.string a.name] 172);have hO1:=World.ownsRow.alloc hown (.cells #[.int .i64 a.kind,.int .i32 a.rune,.slice A' n' c',.string a.name] 172);have c5:(wr.alloc (.cells #[.int .i64 a.kind,.int .i32 a.rune,.slice A' n' c',.string a.name] 172)).cell? ⟨w.heap.size+3,5,none⟩=some (.slice Av k cv):=PJ.2.2.2.1.cell 5;have HA2:=qqh (jD.alloc PJ (.cells #[.int .i32 a.rune] 21));have tA:=qqh (World.ownsRow.alloc hO1 (.cells #[.int .i32 a.rune] 21));have oe:=qqh ((hkp.trans (aa.alloc (.cells #[.int .i64 a.kind,.int .i32 a.rune,.slice A' n' c',.string a.name] 172) (fun _ h _=>h))).trans (aa.alloc (.cells #[.int .i32 a.rune] 21) (fun _ h _=>h)));have hN:=Rd.new (wr.alloc (.cells #[.int .i64 a.kind,.int .i32 a.rune,.slice A' n' c',.string a.name] 172)) 21 1 1 [.int .i32 a.rune] rfl;rw [show(wr.alloc (.cells #[.int .i64 a.kind,.int .i32 a.rune,.slice A' n' c',.string a.name] 172)).heap.size=wr.heap.size+1 by simp]at hN;have HN:=qqh hN
  have Dg:=qqh (show ∀ u ∈ [Value.int .i32 a.rune],u.oneCell'=true by intro x hx;simp at hx;subst hx;rfl);have HZ:=qqh (show wz.heap.size≤((wr.alloc (.cells #[.int .i64 a.kind,.int .i32 a.rune,.slice A' n' c',.string a.name] 172)).alloc (.cells #[.int .i32 a.rune] 21)).heap.size by simp;omega);clear PJ hO1 hN jB hown hkp ha;go_wp2_with (at_builtin;refine ai _ rfl (.tmp 61) (.tmp 64) 33 rfl wz.heap.size 21 i0 _ 1 4 Tryz.underlying33 hi hz0 sJ zT rfl (by decide) _ _ _ rfl tA.out _ (some ⟨wr.heap.size+1,0,none⟩) 1 1 [.int .i32 a.rune] rfl HN.out Dg.out (by simp only [maxLen];omega) (by omega) HZ.out ?_);intro v9 w9 an;have Xi:=jD.app HA2.out tA.out (by decide) (by decide) (by decide) hz an;have jl:=an.own;have VQ:=oe.out.trans (aa.app (X':=fun b=>Fr B (w.heap.size+5) b∧b<wz.heap.size) an (fun b hx e=>by have:=(aU tA.out e).1;have:=hx.2;omega) (fun _ h _=>h));have NW:wz.heap.size≤w9.heap.size:=Nat.le_trans HZ.out an.2.1.size;rw [← vO,← HTM.out]at jl;obtain⟨A9,c9,rfl,_⟩:=aJ jl;have p5:w9.cell? ⟨w.heap.size+3,5,none⟩=some (.slice Av k cv):=Xi.2.2.2.1.cell 5;have p5f:=Xi.2.2.2.1.frozen 5;have HA3:=qqh Xi;have gV:=qqh jl;have SM:=qqh VQ;clear an Xi jl VQ;go_wp2_with fail;refine⟨⟨k+1,.slice A9 (k+1) c9,by omega,by go_num,HA3.out.put 5 (.slice A9 (k+1) c9),fY gV.out HA3.out.2.2.2.1 (by decide),SM.out.trans (aa.setCell _ (fun b hx=>?_) (fun _ h _=>h)),by simpa using NW⟩,by simp [intOf];omega⟩;have:=hx.1;dsimp only;rcases this with h | h <;> omega
 obtain rfl:k=b2:=(by omega);rw [List.take_of_length_le (by rw [HRL.out];omega)]at hown;obtain⟨Av,cv,rfl,_⟩:=aJ hown;have bg:=jB;have t0:wr.cell? ⟨w.heap.size+3,0,none⟩=some (.bool f.start):=bg.2.2.2.1.cell 0;have t1:wr.cell? ⟨w.heap.size+3,1,none⟩=some (.bool f.fin):=bg.2.2.2.1.cell 1;have t2:wr.cell? ⟨w.heap.size+3,2,none⟩=some (.slice P1 p1 q1):=bg.2.2.2.1.cell 2;have t3:wr.cell? ⟨w.heap.size+3,3,none⟩=some (.slice P2 p2 q2):=bg.2.2.2.1.cell 3;have t4:wr.cell? ⟨w.heap.size+3,4,none⟩=some (.slice P3 p3 q3):=bg.2.2.2.1.cell 4;have t5:wr.cell? ⟨w.heap.size+3,5,none⟩=some (.slice Av k cv):=bg.2.2.2.1.cell 5;have t6:wr.cell? ⟨w.heap.size+3,6,none⟩=some (.int .i64 0):=bg.2.2.2.1.cell 6;have s0:wr.cell? ⟨w.heap.size+2,0,none⟩=some (.bool false):=bg.2.2.1.cell 0;have XH:=bg.2.2.1.frozen 0;have s1:wr.cell? ⟨w.heap.size+2,1,none⟩=some (.bool false):=bg.2.2.1.cell 1;have Zy:=bg.2.2.1.frozen 1;have s2:wr.cell? ⟨w.heap.size+2,2,none⟩=some (.slice none 0 0):=bg.2.2.1.cell 2;have sf2:=bg.2.2.1.frozen 2;have s3:wr.cell? ⟨w.heap.size+2,3,none⟩=some (.slice none 0 0):=bg.2.2.1.cell 3;have Yx:=bg.2.2.1.frozen 3;have s4:wr.cell? ⟨w.heap.size+2,4,none⟩=some (.slice none 0 0):=bg.2.2.1.cell 4;have X9:=bg.2.2.1.frozen 4;have s5:wr.cell? ⟨w.heap.size+2,5,none⟩=some (.slice none 0 0):=bg.2.2.1.cell 5;have ZF:=bg.2.2.1.frozen 5;have s6:wr.cell? ⟨w.heap.size+2,6,none⟩=some (.int .i64 0):=bg.2.2.1.cell 6;have Zw:=bg.2.2.1.frozen 6;have t6f:=bg.2.2.2.1.frozen 6;have e5:wr.cell? ⟨w.heap.size+1,5,none⟩=some (.int .i64 t.af):=bg.2.1.cell 5
 have hend:∀ (we:World) (K:Int),((∃ u,we=wr.setCell ⟨w.heap.size+3,6,none⟩ u)∨∃ u u',we=(wr.setCell ⟨w.heap.size+3,6,none⟩ u).setCell ⟨w.heap.size+3,6,none⟩ u')→K=(if t.af<0 then (t.source.length:Int)else t.af) →
     DA (JX we (w.heap.size+1+1) (.bool f.start) (.bool f.fin) (.slice P1 p1 q1) (.slice P2 p2 q2) (.slice P3 p3 q3) (.slice Av k cv) (.int .i64 K)) B w.heap.size (eO LP f t) (.returned (.tuple #[.agg #[.bool f.start,.bool f.fin,.slice P1 p1 q1,.slice P2 p2 q2,.slice P3 p3 q3,.slice Av k cv,.int .i64 K],.bool true])) ∧
     Below w.heap.size w (JX we (w.heap.size+1+1) (.bool f.start) (.bool f.fin) (.slice P1 p1 q1) (.slice P2 p2 q2) (.slice P3 p3 q3) (.slice Av k cv) (.int .i64 K)):=by
   intro we K hwe hK
   have Wj:Below w.heap.size w we:=by
     rcases hwe with ⟨u,rfl⟩ | ⟨u,u',rfl⟩
     · exact jB.2.2.2.2.2.setCell (by simp) _
     · exact(jB.2.2.2.2.2.setCell (by simp) _).setCell (by simp) _
   have kw:∀ (X:Nat→Prop),(∀ b,X b→b≠w.heap.size+3)→aa wr X we X:=by
     intro X hX
     rcases hwe with ⟨u,rfl⟩ | ⟨u,u',rfl⟩
     · exact aa.setCell u (fun b hb=>hX b hb) (fun _ h _=>h)
     · exact(aa.setCell (X':=X) u (fun b hb=>hX b hb) (fun _ h _=>h)).trans (aa.setCell u' (fun b hb=>hX b hb) (fun _ h _=>h))
   have kk:aa wz (Fr B (w.heap.size+5)) (JX we (w.heap.size+1+1) (.bool f.start) (.bool f.fin) (.slice P1 p1 q1) (.slice P2 p2 q2) (.slice P3 p3 q3) (.slice Av k cv) (.int .i64 K)) (Fr B w.heap.size):=by
     refine(hkp.trans (kw _ (fun b hx=>by rcases hx.1 with h | h <;> omega))).trans ((Oy (fun b hx=>?_) _ _ _ _ _ _ _).trans (aa.refl (fun b hx=>?_)))
     · rcases hx.1 with h | h <;> omega
     · exact hx.1.imp id (fun h=>by omega)
   refine⟨⟨[.bool f.start,.bool f.fin,.slice P1 p1 q1,.slice P2 p2 q2,.slice P3 p3 q3,.slice Av k cv,.int .i64 K],rfl,?_,?_,fun rd hrd=>?_⟩,zF Wj (by omega) _ _ _ _ _ _ _⟩
   · rw [qv,C0.out,IQ.out,Pb.out];rfl
   · intro u hu
     simp only [List.mem_cons,List.not_mem_nil,or_false]at hu
     rcases hu with rfl | rfl | rfl | rfl | rfl | rfl | rfl <;> rfl
   · obtain⟨a,b,c,g1,g2,g3,rfl⟩:=IY hrd
     rw [C0.out]at g1
     rw [IQ.out]at g2
     rw [Pb.out]at g3
     cases g1
     cases g2
     cases g3
     refine⟨_,_,_,Av,k,cv,by rw [hK],I1.out.keep kk,O1.out.keep kk,Wr.out.keep kk,?_,by unfold maxLen;omega⟩
     refine(cy.cj (X:=fun b=>wz.heap.size≤b) hown (fun b hb=>(aU hown hb).1)).keep ((kw _ (fun b hx=>by omega)).trans ((Oy (fun b hx=>by omega) _ _ _ _ _ _ _).trans (aa.refl (fun b hx=>.inr (by omega)))))
 have Bd:=qqh hend;have Lj:(t.source.length:Int)=k:=(by rw [HRL.out]);have HKL:=qqh Lj;clear hend Lj jB bg hown hkp;by_cases hc:t.af<0
 ·have HK:=qqh (show((k:Nat):Int)=(if t.af<0 then (t.source.length:Int)else t.af) by rw [if_pos hc,HKL.out]);go_wp2_with fail;obtain⟨hpost,eD⟩:=Bd.out _ _ (.inr ⟨_,_,rfl⟩) HK.out;exact bodyPost_ret (by simp [results,Tryz.results80,go_sem,s0,s1,s2,s3,s4,s5,s6]) rfl ⟨hpost,eD⟩
 have HK:=qqh (show t.af=(if t.af<0 then (t.source.length:Int)else t.af) by rw [if_neg hc]);go_wp2_with fail;obtain⟨hpost,eD⟩:=Bd.out _ _ (.inl ⟨_,rfl⟩) HK.out;exact bodyPost_ret (by simp [results,Tryz.results80,go_sem,s0,s1,s2,s3,s4,s5,s6]) rfl ⟨hpost,eD⟩
end Go.Proofs.YtkggjgeihhialaaGreatDoor
