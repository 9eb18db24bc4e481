/- SetsRef + Env + SetsSyn + RuleRef + RuleSyn -/
import Derived.Test.YtkggjgeihhialaaGreatDoorZu6
import Derived.Test.YtkggjgeihhialaaGreatDoorZu11
import Derived.Lib.Strings
import Derived.Deep.DeepCutAuto
import Derived.Test.YtkggjgeihhialaaGreatDoorZu9
import Derived.Test.YtkggjgeihhialaaGreatDoorZu5
import Derived.Maps.OwnSet
import Derived.StringKeys
set_option maxHeartbeats 6400000
set_option maxRecDepth 100000
namespace Go.Proofs.YtkggjgeihhialaaGreatDoor
open Go.RowKit
theorem KJ:(Tryz.prog.info? 24).map (fun i=>(i.zero,i.size,i.bytes))=some (some (.slice none 0 0),1,24):=by kernel_rfl
def NB (B lo:Nat) (v:Value) (b:Nat):Prop:=Fr B lo b∧v.ownBlock≠some b
def kU (w:World) (B:Nat) (ll:List af) (v:Value) (wx:World):Prop:=cR (mG wx (NB B w.heap.size v)) 24 1 wx w.heap.size v ll∧Below w.heap.size w wx
section
variable {w wx w2 : World} {B : Nat} {ll : List af} {v v' : Value}
theorem kU.nil (w:World) (B:Nat):kU w B [] (.slice none 0 0) w:=⟨cR.nil _ _,Below.refl _ _⟩
theorem kU.alloc (h:kU w B ll v wx) (o:Obj):kU w B ll v (wx.alloc o) :=
  ⟨h.1.kept (fun _ _ h=>World.ownsRow.alloc h o) (fun _ _ h=>h.keep (aa.alloc o (fun _ h _=>h))),h.2.alloc h.2.size o⟩
theorem kU.below (h:kU w B ll v wx) (hb:Below wx.heap.size wx w2):kU w B ll v w2 :=
  ⟨h.1.kept (fun _ _ h=>cC h hb) (fun _ _ h=>h.keep (aa.below hb (fun _ h _=>h))),h.2.trans (hb.mono h.2.size)⟩
theorem xm {base sz n:Nat} {e:TypeId} {xs:List Value} (h:wx.ownsRow base e sz v n xs) {b:Nat} (hb:b<base∨wx.heap.size≤b):v.ownBlock≠some b:=fun e=>by
 have:=aY h e;omega
theorem kU.push {css:List (List Value)} {s:af} {u:Value} {t:TypeId} (h1:css.length=ll.length) (h2:∀ (i:Nat) (a:af) (cs:List Value),ll[i]? = some a→css[i]? = some cs→mG wx (NB B w.heap.size v) a cs) (h3:∀ cs∈css,cs.length=1)
    (h4:wx.ownsRow w.heap.size 24 1 v ll.length css.flatten) (hb:Below w.heap.size w wx) (hu:jr wx (NB B w.heap.size v) s u) (AQ:MB u)
    (ha:aX w.heap.size 24 1 v (wx.alloc (.cells #[u] t)) (ll.length+1) (css.flatten++[u]) v' w2):kU w B (ll++[s]) v' w2:=by
 have hk:aa wx (NB B w.heap.size v) w2 (NB B w.heap.size v'):=by
  refine(aa.alloc (.cells #[u] t) (fun _ h _=>h)).trans (aa.app (X':=fun b=>NB B w.heap.size v' b) ha (fun b hx=>hx.2) (fun b hx hl=>⟨hx.1,?_⟩));rcases ha.2.2 with e | e
  ·rw [e];exact hx.2
  rw [e];intro he;injection he with he;omega
 refine⟨cR.push h1 h2 h3 (fun _ _ h=>h.keep hk) ⟨u,rfl,hu.keep hk,AQ⟩ rfl ha,?_⟩;exact(hb.alloc hb.size (.cells #[u] t)).trans (ha.below (hb.alloc hb.size (.cells #[u] t)).size (World.ownsRow.alloc h4 _))
end
def Lh (w:World) (B lo:Nat) (r:Option (List af)) (e:Ending):Prop :=
  match r with
  | some ll=>∃ u,e=.returned (.tuple #[u,.bool true])∧fq w (Fr B lo) ll u
  | none=>e=.returned (.tuple #[.slice none 0 0,.bool false])
theorem kU.post {w wx:World} {B:Nat} {ll:List af} {v:Value} (h:kU w B ll v wx) (hl:ll.length≤maxLen):fq wx (Fr B w.heap.size) ll v:=by
 obtain⟨A,c,rfl,_⟩:=h.1.form;refine⟨A,_,c,rfl,cR.done h.1 (fun _ _ h=>h.keep (aa.refl (fun _ h=>h.1))) (fun b hb=>?_),hl⟩;obtain⟨css,_,_,_,h4⟩:=h.1;exact⟨.inr (aY h4 hb).1,Im (id h4) hb⟩
def Q9 (w:World) (B:Nat) (l:List aH) (L:List aG) (n:Nat) (out i:Value) (wr:World):Prop :=
  ∃ (k:Nat) (ll:List af),k≤n∧i=.int .i64 k∧cn l (L.take k)=some ll∧kU w B ll out wr
end Go.Proofs.YtkggjgeihhialaaGreatDoor
namespace Go.Proofs.YtkggjgeihhialaaGreatDoor
open Go.RowKit Go.Maps
def fF (w:World) (X:Nat→Prop) (mb n:Nat) (l:List aH):Prop :=
  ∃ D:DataW Value,w.ownsMap Tryz.prog 9 Raw mb n D∧IsMap D∧∀ s:ByteArray,match fK l s with
    | some set=>∃ u,D.atKey (eV s) uv=.held u∧has D (eV s)=true∧jr w X set u
    | none=>D.atKey (eV s) uv=uv∧has D (eV s)=false
theorem fF.keep {w w':World} {X X':Nat→Prop} {mb n:Nat} {l:List aH} (hk:aa w X w' X') (hm:w'.heap[mb]? = w.heap[mb]?) (h:fF w X mb n l):fF w' X' mb n l:=by
 obtain⟨D,⟨es,clock,h1,h2⟩,h3,h4⟩:=h;refine⟨D,⟨es,clock,hm.trans h1,h2⟩,h3,fun s=>?_⟩;have:=h4 s;cases hl:fK l s with
 | none=>rw [hl]at this;exact this
 | some set=>
  rw [hl]at this;obtain⟨u,g1,g2,g3⟩:=this;exact⟨u,g1,g2,g3.keep hk⟩
theorem fF.lt {w:World} {X:Nat→Prop} {mb n:Nat} {l:List aH} (h:fF w X mb n l):mb<w.heap.size:=by
 obtain⟨D,h1,_⟩:=h;exact h1.lt
theorem fF.made (w:World) (X:Nat→Prop):fF (w.alloc (.map #[] 0)) X w.heap.size 0 [] :=
  ⟨.map [],World.ownsMap_made _ _ _ _,isMap_empty,fun s=>⟨by simp [DataW.atKey],by simp [has]⟩⟩
theorem wJ (l:List aH) (p:aH) (s:ByteArray):fK (l++[p]) s=match fK l s with
    | some x=>some x
    | none=>if p.kind=1∧p.name=s then some p.set else none:=by
 induction l with
 | nil=>simp [fK]
 | cons q l ih=>
  rw [List.cons_append,fK,fK];by_cases h:q.kind=1∧q.name=s
  ·rw [if_pos h,if_pos h]
  rw [if_neg h,if_neg h,ih]
theorem fF.put {w w':World} {X:Nat→Prop} {mb n:Nat} {l:List aH} {p:aH} {u:Value} {D:DataW Value} (hD:IsMap D)
    (h4:∀ s:ByteArray,match fK l s with
      | some set=>∃ u,D.atKey (eV s) uv=.held u∧has D (eV s)=true∧jr w X set u
      | none=>D.atKey (eV s) uv=uv∧has D (eV s)=false)
    (hp:p.kind=1) (hno:fK l p.name=none) (hu:jr w X p.set u) (hk:aa w X w' X)
    (hown:w'.ownsMap Tryz.prog 9 Raw mb n (D.put (eV p.name) (.held u))):fF w' X mb n (l++[p]):=by
 refine⟨_,hown,hD.put _ _,fun s=>?_⟩;rw [wJ];by_cases hs:p.name=s
 ·subst hs;rw [hno];dsimp only;rw [if_pos ⟨hp,rfl⟩];exact⟨u,atKey_put_same hD (uX _) _ _,has_put_same hD (uX _) _,hu.keep hk⟩
 have hne:eV s≠eV p.name:=fun e=>hs (Ea e).symm;have:=h4 s;cases hl:fK l s with
 | none=>
  rw [hl]at this;dsimp only;rw [if_neg (fun h=>hs h.2),atKey_put_other hne,has_put_other hne];exact this
 | some set=>
  rw [hl]at this;obtain⟨v,g1,g2,g3⟩:=this;dsimp only;exact⟨v,by rw [atKey_put_other hne];exact g1,by rw [has_put_other hne];exact g2,g3.keep hk⟩
theorem fF.other {w:World} {X:Nat→Prop} {mb n:Nat} {l:List aH} {p:aH} (h:fF w X mb n l) (hp:p.kind≠1):fF w X mb n (l++[p]):=by
 obtain⟨D,h1,h2,h3⟩:=h;refine⟨D,h1,h2,fun s=>?_⟩;have:=h3 s;rw [wJ];cases hl:fK l s with
 | none=>rw [hl]at this;dsimp only;rw [if_neg (fun h=>hp h.1)];exact this
 | some set=>rw [hl]at this;exact this
theorem mX {w:World} {ops:Array Oper} {rest:List Oper} {o:Oper} {a:Act} {Q:Exit→Act→World→Prop} (hg:o.guard=none) (m x:Operand) (hop:o.op=Op.lookup 142 m x true)
    (mb n:Nat) (D:DataW Value) (hm:a.eval m=.map (some mb)) (hown:w.ownsMap Tryz.prog 9 Raw mb n D) (s:ByteArray) (hx:a.eval x=.string s) (hs:s.size≤maxLen) (u:Value) (b:Bool)
    (h1:D.atKey (eV s) uv=.held u) (h2:has D (eV s)=b) (hK:wpList Tryz.prog ops Q rest (a.put o.dst (.tuple #[u,.bool b])) w):wpList Tryz.prog ops Q (o::rest) a w :=
  wpList_lookup_own_ok w hg m x _ hop 9 24 gU Tryz.underlying142 Raw (OY w) uv [] rfl mb n D hm hown (.string s) (eV s) hx (jI hs) (fun v ps hv=>by
    rw [h1]at hv
    unfold Raw at hv
    injection hv with hv
    injection hv with hv
    injection hv with hv
    subst hv
    rw [h2]
    exact hK)
theorem oc (A:Option Addr) (n c B:Nat) (s:af) (w:World) (h:Rd w B 2 A n (an s)) (hn:n≤1000) :
    Calls Tryz.prog 78 #[.slice A n c] w fun e w'=>(∃ u,e=.returned u∧jr w' (fun b=>w.heap.size≤b) s u∧MB u)∧Below w.heap.size w w':=by
 obtain⟨i0,hi,hz0,nQ,rM⟩:=info_parts jj;have q22:∀ (w:World) (a:Option Addr) (n c n' c':Nat),(binOp .eql 24 (.slice a n c) (.slice none n' c')).run Tryz.prog w=.ok (.bool a.isNone) w:=fun w a n c n' c'=>Lib.run_eql_slice_nil w _ _ a n c n' c' Tryz.underlying24;have H:=qqh h;clear h;cases A with
 | none=>
  have hn0:n=0:=by
   rcases Nat.eq_zero_or_pos n with h0 | h0;exact h0;obtain⟨_,_,e,_⟩:=H.out.2 h0;cases e
  subst hn0;go_enter Tryz.func78,Tryz.ntmps78;go_wp2_with fail;go_ret;exact⟨⟨_,rfl,⟨none,0,0,rfl,⟨H.out.1,fun h=>absurd h (Nat.lt_irrefl 0)⟩,Nat.zero_le _⟩,⟨none,0,0,rfl,Nat.le_refl _⟩⟩,Below.refl _ _⟩
 | some ad=>
  have HO:=qqh (om w 82 2 w.heap.size w.heap.size rfl (Nat.le_refl _));have HB:=qqh ((Below.refl w.heap.size w).alloc (Nat.le_refl _) (.cells #[] 82));have HR:=qqh (Rd.more (Rd.below (B:=min B w.heap.size) ⟨H.out.1,fun h=>by
   obtain⟨b,off,e,_,hc⟩:=H.out.2 h;obtain⟨u,hu⟩:∃ u,(an s)[0]? = some u:=⟨_,List.getElem?_eq_getElem (by have:=H.out.1;omega)⟩;have hl:=World.block_lt_of_cell? w _ (hc 0 u hu);exact⟨b,off,e,by dsimp only at hl;omega,hc⟩⟩ (HB.out.mono (Nat.min_le_right _ _))) (Nat.le_refl _))
  go_enter Tryz.func78,Tryz.ntmps78;go_wp2_with (at_builtin;refine ak _ rfl (.tmp 5) (.tmp 6) 24 rfl w.heap.size 82 i0 _ 2 8 Tryz.underlying24 hi hz0 nQ rM rfl (by decide) _ _ _ rfl HO.out _ (some ad) n c (an s) rfl HR.out (lJ s) (by simp only [maxLen];omega) (by omega) (by simp) ?_);intro v' w' au;have ho:=au.own;obtain⟨A2,c2,rfl,Bf⟩:=aI ho;have Kg:=qqh Bf;clear Bf;have bD:=qqh (HB.out.trans (au.below (by simp) HO.out));have HV:=qqh (show jr w' (fun b=>w.heap.size≤b) s (.slice A2 n c2) from⟨A2,n,c2,rfl,cE.cP ho (fun b hb=>(aY ho hb).1),by unfold maxLen;omega⟩);clear au ho;go_wp2_with fail;go_ret;exact⟨⟨_,rfl,HV.out,⟨_,_,_,rfl,Kg.out⟩⟩,bD.out⟩
end Go.Proofs.YtkggjgeihhialaaGreatDoor
namespace Go.Proofs.YtkggjgeihhialaaGreatDoor
open Go.RowKit Go.Maps
theorem ox {l:af} (h:bC l=0):l.length≤200:=by
 unfold bC at h;by_cases h2:200<l.length
 ·rw [if_pos h2]at h;cases h
 omega
theorem Lr (mb nm:Nat) (LP:List aH) (A2:Option Addr) (n2 c2:Nat) (L:List aG) (w:World) (B:Nat) (hB:B≤w.heap.size) (hE:fF w (· < B) mb nm LP) (MX:∀ s set,fK LP s=some set→set.length≤200) (hL:bT w B A2 n2 L) (hok:cz L=0) :
    Calls Tryz.prog 105 #[.map (some mb),.slice A2 n2 c2] w fun e w'=>Lh w' B w.heap.size (cn LP L) e∧Below w.heap.size w w':=by
 obtain⟨i0,hi,hz0,nQ,rM⟩:=info_parts KJ;obtain⟨h20,hall⟩:=BT hok;have Su:n2≤20:=(by rw [← j7.len hL];exact h20);have hmb:=hE.lt;have aQ:=qqh (j7.len hL);have HL:=qqh hL;have HA:=qqh hall;have HE:=qqh hE;have Gp:=qqh MX;clear hL hok h20 hall hE MX;go_enter Tryz.func105,Tryz.ntmps105;go_wp2_with fail;go_loopw [6,13] (Q9 w B LP L n2) (fun _ i _=>n2 - (intOf i).toNat);(case atStart=>exact⟨0,[],Nat.zero_le _,rfl,rfl,kU.nil w B⟩);obtain⟨k,ll,hk,rfl,aV,hst⟩:=hrel;have hll:=Hp aV;have agh:ll.length≤k:=(by rw [hll];exact List.length_take_le _ _);clear hll;have hz:=hst.2.size;by_cases hlt:k<n2
 ·obtain⟨a,ha⟩:∃ z,L[k]? = some z:=⟨_,List.getElem?_eq_getElem (by rw [aQ.out];exact hlt)⟩;have hka:=E8 (HA.out a (List.mem_of_getElem? ha));obtain⟨b,off,A',n',c',rfl,cH,f0,f1,f2,f3,yz,hn',_,hnm⟩:=uE HL.out ha;have j6:b<w.heap.size:=(by omega);have d0:=(hst.2.cell (p:=⟨b,off+k*4,none⟩) j6).trans f0;have d1:=(hst.2.cell (p:=⟨b,off+k*4+1,none⟩) j6).trans f1;have d2:=(hst.2.cell (p:=⟨b,off+k*4+2,none⟩) j6).trans f2;have d3:=(hst.2.cell (p:=⟨b,off+k*4+3,none⟩) j6).trans f3;clear f0 f1 f2 f3;have VJ:=qqh yz;have i9:=qqh (kU.alloc hst (.cells #[.int .i64 a.kind,.int .i32 a.rune,.slice A' n' c',.string a.name] 172));have NO:=qqh (aj.new wr 172 #[.int .i64 a.kind,.int .i32 a.rune,.slice A' n' c',.string a.name]);have dO:=qqh aV;have oX:=qqh ha;clear yz hn' aV hst;rcases hka with ⟨hk1,hk2⟩ | ⟨hk1,hk2⟩ | ⟨hk1,hk2⟩
  ·have qq:=qqh (show uD LP a=some [(a.rune,a.rune)] by unfold uD;rw [if_pos hk1]);have q1:(a.kind == 1)=true:=(by rw [hk1];rfl);clear hk1 hk2;have Qd:=kU.alloc i9.out (.cells #[.int .i32 a.rune,.int .i32 a.rune] 82);have hux:=cE.new (w:=wr.alloc (.cells #[.int .i64 a.kind,.int .i32 a.rune,.slice A' n' c',.string a.name] 172)) (X:=NB B w.heap.size u6) (n:=1) (sz:=2) 82 [.int .i32 a.rune,.int .i32 a.rune] rfl (by
    obtain⟨⟨css,g1,g2,g3,g4⟩,g5⟩:=i9.out;exact⟨.inr g5.size,xm g4 (.inr (Nat.le_refl _))⟩)
   rw [show(wr.alloc (.cells #[.int .i64 a.kind,.int .i32 a.rune,.slice A' n' c',.string a.name] 172)).heap.size=wr.heap.size+1 by simp]at hux;have HU:=qqh (show jr ((wr.alloc (.cells #[.int .i64 a.kind,.int .i32 a.rune,.slice A' n' c',.string a.name] 172)).alloc (.cells #[.int .i32 a.rune,.int .i32 a.rune] 82)) (NB B w.heap.size u6) [(a.rune,a.rune)] (.slice (some ⟨wr.heap.size+1,0,none⟩) 1 1) from⟨_,_,_,rfl,hux,by decide⟩);have PO:=qqh Qd;clear Qd hux;obtain⟨⟨css,g1,g2,g3,g4⟩,g5⟩:=PO.out;have hN:=Rd.new ((wr.alloc (.cells #[.int .i64 a.kind,.int .i32 a.rune,.slice A' n' c',.string a.name] 172)).alloc (.cells #[.int .i32 a.rune,.int .i32 a.rune] 82)) 24 1 1 [.slice (some ⟨wr.heap.size+1,0,none⟩) 1 1] rfl;rw [show((wr.alloc (.cells #[.int .i64 a.kind,.int .i32 a.rune,.slice A' n' c',.string a.name] 172)).alloc (.cells #[.int .i32 a.rune,.int .i32 a.rune] 82)).heap.size=wr.heap.size+1+1 by simp]at hN;have HN:=qqh hN;have HO:=qqh (World.ownsRow.alloc g4 (.cells #[.slice (some ⟨wr.heap.size+1,0,none⟩) 1 1] 24));have HZ:=qqh ((g5.alloc g5.size (.cells #[.slice (some ⟨wr.heap.size+1,0,none⟩) 1 1] 24)).size);have G1:=qqh g1;have G2:=qqh g2;have G3:=qqh g3;have G4:=qqh g4;have G5:=qqh g5;clear g1 g2 g3 g4 g5 hN;go_wp2_with (at_builtin;refine ak _ rfl (.tmp 35) (.tmp 42) 87 rfl w.heap.size 24 i0 _ 1 24 Tryz.underlying87 hi hz0 nQ rM rfl (by decide) _ _ _ rfl HO.out _ (some ⟨wr.heap.size+1+1,0,none⟩) 1 1 [.slice (some ⟨wr.heap.size+1,0,none⟩) 1 1] rfl HN.out ?one1 (by simp only [maxLen];omega) (by omega) HZ.out ?_);(case one1=>intro x hx;simp at hx;subst hx;rfl);intro v9 w9 au
   have fD:=qqh (kU.push G1.out G2.out G3.out G4.out G5.out HU.out (show MB _ from⟨_,_,_,rfl,Nat.le_refl 1⟩) au);clear au;go_wp2_with fail;exact⟨⟨k+1,ll++[_],by omega,by go_num,qi oX.out dO.out qq.out,fD.out⟩,by simp [intOf];omega⟩
  ·have qq:=qqh (show uD LP a=some a.set by unfold uD;rw [hk1,if_neg (by decide),if_pos rfl]);have q1:(a.kind == 1)=false:=(by rw [hk1];rfl);have q2:(a.kind == 2)=true:=(by rw [hk1];rfl);have Fm:=ox hk2;have hlen:=jz.len VJ.out;have hn2:n'≤1000:=(by omega);clear hk1 hk2 hlen Fm;go_wp2_with fail;refine(oc A' n' c' B a.set _ (Rd.below VJ.out (i9.out.2.mono hB)) hn2).mono ?_;rintro e wx ⟨⟨u,rfl,hu,AQ⟩,hb⟩;have PO:=qqh (kU.below i9.out hb);have N8:=hu;obtain⟨A7,n7,c7,rfl,_⟩:=N8;have HCU:=qqh AQ;clear AQ;have HU:=qqh (show jr wx (NB B w.heap.size u6) a.set (.slice A7 n7 c7) from jr.keep (aa.refl (fun b hb=>by
    have g:=i9.out;obtain⟨⟨css,g1,g2,g3,g4⟩,g5⟩:=g;exact⟨.inr (Nat.le_trans g5.size hb),xm g4 (.inr hb)⟩)) hu)
   clear hu hb;obtain⟨⟨css,g1,g2,g3,g4⟩,g5⟩:=PO.out;have HN:=qqh (Rd.new wx 24 1 1 [(.slice A7 n7 c7)] rfl);have HO:=qqh (World.ownsRow.alloc g4 (.cells #[(.slice A7 n7 c7)] 24));have HZ:=qqh (Nat.le_trans g5.size (show wx.heap.size≤(wx.alloc (.cells #[(.slice A7 n7 c7)] 24)).heap.size by simp));have G1:=qqh g1;have G2:=qqh g2;have G3:=qqh g3;have G4:=qqh g4;have G5:=qqh g5;clear g1 g2 g3 g4 g5;go_wp2_with (at_builtin;refine ak _ rfl (.tmp 46) (.tmp 50) 87 rfl w.heap.size 24 i0 _ 1 24 Tryz.underlying87 hi hz0 nQ rM rfl (by decide) _ _ _ rfl HO.out _ (some ⟨wx.heap.size,0,none⟩) 1 1 [(.slice A7 n7 c7)] rfl HN.out ?one2 (by simp only [maxLen];omega) (by omega) HZ.out ?_);(case one2=>intro x hx;simp at hx;subst hx;rfl);intro v9 w9 au;have fD:=qqh (kU.push G1.out G2.out G3.out G4.out G5.out HU.out HCU.out au);clear au;go_wp2_with fail;exact⟨⟨k+1,ll++[_],by omega,by go_num,qi oX.out dO.out qq.out,fD.out⟩,by simp [intOf];omega⟩
  have hsp:uD LP a=fK LP a.name:=(by unfold uD;rw [hk1,if_neg (by decide),if_neg (by decide)]);have q1:(a.kind == 1)=false:=(by rw [hk1];rfl);have q2:(a.kind == 2)=false:=(by rw [hk1];rfl);clear hk1 hk2;have he1:=fF.keep (X':=(· < B)) (aa.below i9.out.2 (fun _ h _=>h)) (i9.out.2.block mb hmb) HE.out;obtain⟨D,hD,_,kf⟩:=he1;have kf:=kf a.name;have HD:=qqh hD;clear hD;cases hlk:fK LP a.name with
  | none=>
   rw [hlk]at kf;have qq:=qqh (hsp.trans hlk);have Te:=qqh kf.1;have QU:=qqh kf.2;clear hsp hlk kf;go_wp2_with (at_lookup;refine mX rfl (.tmp 20) (.tmp 22) rfl mb nm D rfl HD.out a.name rfl hnm (.slice none 0 0) false Te.out QU.out ?_);go_ret2;rw [Et oX.out qq.out];exact⟨rfl,i9.out.2⟩
  | some s=>
   rw [hlk]at kf;obtain⟨u,h1,h2,h3⟩:=kf;obtain⟨A6,n6,c6,rfl,hrd,_⟩:=h3;have qq:=qqh (hsp.trans hlk);have Te:=qqh h1;have QU:=qqh h2;have Fm:=Gp.out a.name s hlk;have EL:Rd (wr.alloc (.cells #[.int .i64 a.kind,.int .i32 a.rune,.slice A' n' c',.string a.name] 172)) B 2 A6 n6 (an s):=cE.rd hrd (fun _ h _=>h);have hlen:=jz.len EL;have hn2:n6≤1000:=(by omega);have kT:=qqh EL;clear hsp hlk h1 h2 hrd Fm EL hlen;go_wp2_with (at_lookup;refine mX rfl (.tmp 20) (.tmp 22) rfl mb nm D rfl HD.out a.name rfl hnm (.slice A6 n6 c6) true Te.out QU.out ?_);refine(oc A6 n6 c6 B s _ kT.out hn2).mono ?_;rintro e wx ⟨⟨u,rfl,hu,AQ⟩,hb⟩;have PO:=qqh (kU.below i9.out hb);have N8:=hu;obtain⟨A7,n7,c7,rfl,_⟩:=N8;have HCU:=qqh AQ;clear AQ;have HU:=qqh (show jr wx (NB B w.heap.size u6) s (.slice A7 n7 c7) from jr.keep (aa.refl (fun b hb=>by
    have g:=i9.out;obtain⟨⟨css,g1,g2,g3,g4⟩,g5⟩:=g;exact⟨.inr (Nat.le_trans g5.size hb),xm g4 (.inr hb)⟩)) hu)
   clear hu hb;obtain⟨⟨css,g1,g2,g3,g4⟩,g5⟩:=PO.out;have HN:=qqh (Rd.new wx 24 1 1 [(.slice A7 n7 c7)] rfl);have HO:=qqh (World.ownsRow.alloc g4 (.cells #[(.slice A7 n7 c7)] 24));have HZ:=qqh (Nat.le_trans g5.size (show wx.heap.size≤(wx.alloc (.cells #[(.slice A7 n7 c7)] 24)).heap.size by simp));have G1:=qqh g1;have G2:=qqh g2;have G3:=qqh g3;have G4:=qqh g4;have G5:=qqh g5;clear g1 g2 g3 g4 g5;go_wp2_with (at_builtin;refine ak _ rfl (.tmp 28) (.tmp 31) 87 rfl w.heap.size 24 i0 _ 1 24 Tryz.underlying87 hi hz0 nQ rM rfl (by decide) _ _ _ rfl HO.out _ (some ⟨wx.heap.size,0,none⟩) 1 1 [(.slice A7 n7 c7)] rfl HN.out ?one3 (by simp only [maxLen];omega) (by omega) HZ.out ?_);(case one3=>intro x hx;simp at hx;subst hx;rfl);intro v9 w9 au;have fD:=qqh (kU.push G1.out G2.out G3.out G4.out G5.out HU.out HCU.out au);clear au;go_wp2_with fail;exact⟨⟨k+1,ll++[_],by omega,by go_num,qi oX.out dO.out qq.out,fD.out⟩,by simp [intOf];omega⟩
 obtain rfl:k=n2:=(by omega);rw [List.take_of_length_le (by rw [aQ.out];omega)]at aV;have HG:=qqh aV;have HS:=qqh hst;clear aV hst;obtain⟨AO,cO,rfl,_⟩:=HS.out.1.form;go_wp2_with fail;go_ret2;rw [HG.out];exact⟨⟨_,rfl,kU.post HS.out (by unfold maxLen;omega)⟩,HS.out.2⟩
end Go.Proofs.YtkggjgeihhialaaGreatDoor
namespace Go.Proofs.YtkggjgeihhialaaGreatDoor
open Go.RowKit Go.Maps
theorem L7:(Tryz.prog.info? 21).map (fun i=>(i.zero,i.size,i.bytes))=some (some (.int .i32 0),1,4):=by kernel_rfl
theorem An {w:World} {B lo:Nat} {r:Option (List af)} {e:Ending} (h:Lh w B lo r e) :
    ∃ A n c b,e=.returned (.tuple #[.slice A n c,.bool b])∧b=r.isSome∧∀ ll,r=some ll→fq w (Fr B lo) ll (.slice A n c):=by
 cases r with
 | none=>exact⟨none,0,0,false,h,rfl,fun _ h=>by cases h⟩
 | some ll=>
  obtain⟨u,rfl,hu⟩:=h;have N8:=hu;obtain⟨A,n,c,rfl,_⟩:=N8;exact⟨A,n,c,true,rfl,rfl,fun _ h=>by cases h;exact hu⟩
abbrev iG:Array Value:=#[.bool false,.bool false,.slice none 0 0,.slice none 0 0,.slice none 0 0,.slice none 0 0,.int .i64 0]
def zL (w:World) (uR uJ:Array Value) (wx:World):Prop :=
  aj wx w.heap.size 101 uR∧aj wx (w.heap.size+1) 101 uJ∧aj wx (w.heap.size+2) 89 iG∧Below w.heap.size w wx
theorem zL.made (w:World) (uR uJ:Array Value):zL w uR uJ (((w.alloc (.cells uR 101)).alloc (.cells uJ 101)).alloc (.cells iG 89)):=by
 refine⟨aj.alloc (aj.alloc (aj.new _ _ _) _) _,?_,?_,(((Below.refl _ _).alloc (Nat.le_refl _) _).alloc (by simp) _).alloc (by simp;omega) _⟩
 ·have:=aj.alloc (aj.new (w.alloc (.cells uR 101)) 101 uJ) (.cells iG 89);simpa using this
 have:=aj.new ((w.alloc (.cells uR 101)).alloc (.cells uJ 101)) 89 iG;simpa using this
theorem zL.below {w wx w2:World} {uR uJ:Array Value} (h:zL w uR uJ wx) (hb:Below wx.heap.size wx w2):zL w uR uJ w2 :=
  ⟨aj.below h.1 hb h.1.lt,aj.below h.2.1 hb h.2.1.lt,aj.below h.2.2.1 hb h.2.2.1.lt,h.2.2.2.trans (hb.mono h.2.2.2.size)⟩
def FJ (w:World) (B lo:Nat) (r:Option ai) (e:Ending):Prop :=
  ∃ cs:List Value,cs.length=7∧e=.returned (.tuple #[.agg cs.toArray,.bool r.isSome])∧(∀ u∈cs,u.oneCell'=true)∧∀ rd,r=some rd→aL w (Fr B lo) rd cs
theorem M6 {L:List aG} {k:Nat} {a:aG} (h:L[k]? = some a):(L.take (k+1)).map (·.rune)=(L.take k).map (·.rune)++[a.rune]:=by
 rw [List.take_add_one,h];simp
theorem q7 (l:List aH) (f t:bW):(eM l f t).isSome=((cn l f.before).isSome && (cn l f.source).isSome && (cn l f.after).isSome):=by
 unfold eM;cases cn l f.before <;> cases cn l f.source <;> cases cn l f.after <;> rfl
theorem It {l:List aH} {f t:bW} {rd:ai} (h:eM l f t=some rd):∃ a b c,cn l f.before=some a∧cn l f.source=some b∧cn l f.after=some c ∧
    rd=⟨f.start,f.fin,a,b,c,t.source.map (·.rune),if t.ag<0 then (t.source.length:Int)else t.ag⟩:=by
 unfold eM at h;cases h1:cn l f.before with
 | none=>rw [h1]at h;cases h
 | some a=>
  cases h2:cn l f.source with
  | none=>rw [h1,h2]at h;cases h
  | some b=>
   cases h3:cn l f.after with
   | none=>rw [h1,h2,h3]at h;cases h
   | some c=>
    rw [h1,h2,h3]at h;cases h;exact⟨a,b,c,rfl,rfl,rfl,rfl⟩
abbrev Mf (w:World) (g:Nat) (u0 u1 u2 u3 u4 u5 u6:Value):World :=
  ((((((w.setCell ⟨g,0,none⟩ u0).setCell ⟨g,1,none⟩ u1).setCell ⟨g,2,none⟩ u2).setCell ⟨g,3,none⟩ u3).setCell ⟨g,4,none⟩ u4).setCell ⟨g,5,none⟩ u5).setCell ⟨g,6,none⟩ u6
theorem Qn {w:World} {X:Nat→Prop} {g:Nat} (h:∀ b,X b→b≠g) (u0 u1 u2 u3 u4 u5 u6:Value):aa w X (Mf w g u0 u1 u2 u3 u4 u5 u6) X:=by
 have one:∀ (w:World) (i:Nat) (u:Value),aa w X (w.setCell ⟨g,i,none⟩ u) X:=fun w i u=>aa.setCell u (fun b hb=>h b hb) (fun _ h _=>h);exact((((((one _ 0 u0).trans (one _ 1 u1)).trans (one _ 2 u2)).trans (one _ 3 u3)).trans (one _ 4 u4)).trans (one _ 5 u5)).trans (one _ 6 u6)
theorem Am {w w0:World} {g B:Nat} (h:Below B w0 w) (hg:B≤g) (u0 u1 u2 u3 u4 u5 u6:Value):Below B w0 (Mf w g u0 u1 u2 u3 u4 u5 u6) :=
  ((((((h.setCell hg _).setCell hg _).setCell hg _).setCell hg _).setCell hg _).setCell hg _).setCell hg _
end Go.Proofs.YtkggjgeihhialaaGreatDoor
namespace Go.Proofs.YtkggjgeihhialaaGreatDoor
open Go.RowKit Go.Maps
def jQ (w:World) (uR uJ Ny arr:Array Value) (wx:World):Prop :=
  aj wx w.heap.size 101 uR∧aj wx (w.heap.size+1) 101 uJ∧aj wx (w.heap.size+2) 89 iG ∧
  aj wx (w.heap.size+3) 89 Ny∧aj wx (w.heap.size+4) 167 arr∧Below w.heap.size w wx
section
variable {w wx w2 : World} {uR uJ Ny arr : Array Value}
theorem jQ.below (h:jQ w uR uJ Ny arr wx) (hb:Below wx.heap.size wx w2):jQ w uR uJ Ny arr w2 :=
  ⟨aj.below h.1 hb h.1.lt,aj.below h.2.1 hb h.2.1.lt,aj.below h.2.2.1 hb h.2.2.1.lt,aj.below h.2.2.2.1 hb h.2.2.2.1.lt,aj.below h.2.2.2.2.1 hb h.2.2.2.2.1.lt,h.2.2.2.2.2.trans (hb.mono h.2.2.2.2.2.size)⟩
theorem jQ.alloc (h:jQ w uR uJ Ny arr wx) (o:Obj):jQ w uR uJ Ny arr (wx.alloc o):=h.below ((Below.refl _ _).alloc (Nat.le_refl _) o)
theorem jQ.put (h:jQ w uR uJ Ny arr wx) (i:Nat) (u:Value):jQ w uR uJ (Ny.setIfInBounds i u) arr (wx.setCell ⟨w.heap.size+3,i,none⟩ u) :=
  ⟨av h.1 (by omega),av h.2.1 (by omega),av h.2.2.1 (by omega),h.2.2.2.1.put i u,av h.2.2.2.2.1 (by omega),h.2.2.2.2.2.setCell (by simp) _⟩
theorem jQ.app {base sz n m:Nat} {e:TypeId} {v v':Value} {xs ys:List Value} (h:jQ w uR uJ Ny arr wx) (ho:wx.ownsRow base e sz v n xs) (h1 : 101 ≠ e) (h2 : 89 ≠ e) (h3 : 167 ≠ e) (hb:w.heap.size≤base) (ha:aX base e sz v wx m ys v' w2):jQ w uR uJ Ny arr w2 :=
  ⟨cm h.1 ho h1 ha,cm h.2.1 ho h1 ha,cm h.2.2.1 ho h2 ha,cm h.2.2.2.1 ho h2 ha,cm h.2.2.2.2.1 ho h3 ha,h.2.2.2.2.2.trans (ha.below h.2.2.2.2.2.size (lZ ho hb))⟩
end
def Laid (w:World) (B lo:Nat) (r:Option (List af)) (v:Value):Prop:=∃ A n c ll,v=.slice A n c∧r=some ll∧fq w (Fr B lo) ll v
theorem Laid.keep {w w':World} {B lo:Nat} {r:Option (List af)} {v:Value} (hk:aa w (Fr B lo) w' (Fr B lo)) (h:Laid w B lo r v):Laid w' B lo r v:=by
 obtain⟨A,n,c,ll,e,h1,h2⟩:=h;exact⟨A,n,c,ll,e,h1,h2.keep hk⟩
def Vp (w:World) (B:Nat) (uR uJ arr:Array Value) (c0 c1:Value) (r1 r2 r3:Option (List af)) (i:Value) (wr:World):Prop :=
  ∃ (k:Nat) (v1 v2 v3:Value),k≤3∧i=.int .i64 k∧jQ w uR uJ #[c0,c1,v1,v2,v3,.slice none 0 0,.int .i64 0] arr wr ∧
    (if k<1 then v1=.slice none 0 0 else Laid wr B (w.heap.size+5) r1 v1)∧(if k<2 then v2=.slice none 0 0 else Laid wr B (w.heap.size+5) r2 v2)∧(if k<3 then v3=.slice none 0 0 else Laid wr B (w.heap.size+5) r3 v3)
def XO (w w0:World) (B:Nat) (uR uJ arr:Array Value) (c0 c1 c2 c3 c4:Value) (L:List aG) (n:Nat) (i:Value) (wr:World):Prop :=
  ∃ (k:Nat) (v:Value),k≤n∧i=.int .i64 k∧jQ w uR uJ #[c0,c1,c2,c3,c4,v,.int .i64 0] arr wr∧wr.ownsRow w0.heap.size 21 1 v k (runeCells ((L.take k).map (·.rune))) ∧
    aa w0 (Fr B (w.heap.size+5)) wr (fun b=>Fr B (w.heap.size+5) b∧b<w0.heap.size)∧w0.heap.size≤wr.heap.size
theorem AX {w:World} {B lo:Nat} {l:List aH} {f t:bW} {cs:List Value} (h:((cn l f.before).isSome && (cn l f.source).isSome && (cn l f.after).isSome)=false) (hc:cs.length=7) (h1:∀ u∈cs,u.oneCell'=true) :
    FJ w B lo (eM l f t) (.returned (.tuple #[.agg cs.toArray,.bool false])):=by
 have hn:=(q7 l f t).trans h;refine⟨cs,hc,by rw [hn],h1,fun rd hr=>?_⟩;rw [hr]at hn;cases hn
theorem DY (mb nm:Nat) (LP:List aH) (f t:bW) (L1 L2 L3 R1 R2 R3:Option Addr) (a1 a2 a3 x1 x2 x3 b1 b2 b3 y1 y2 y3:Nat) (w:World) (B:Nat) (hB:B≤w.heap.size) (hE:fF w (· < B) mb nm LP) (MX:∀ s set,fK LP s=some set→set.length≤200)
    (l1:bT w B L1 a1 f.before) (l2:bT w B L2 a2 f.source) (l3:bT w B L3 a3 f.after) (k1:cz f.before=0) (k2:cz f.source=0) (k3:cz f.after=0) (r2:bT w B R2 b2 t.source) (j2:cz t.source=0) :
    Calls Tryz.prog 80 #[.map (some mb),.agg #[.bool f.start,.bool f.fin,.slice L1 a1 x1,.slice L2 a2 x2,.slice L3 a3 x3,.int .i64 f.ag],.agg #[.bool t.start,.bool t.fin,.slice R1 b1 y1,.slice R2 b2 y2,.slice R3 b3 y3,.int .i64 t.ag]] w
      fun e w'=>FJ w' B w.heap.size (eM LP f t) e∧Below w.heap.size w w':=by
 obtain⟨i0,hi,hz0,nQ,rM⟩:=info_parts L7;obtain⟨h20,_⟩:=BT j2;have afo:b2≤20:=(by rw [← j7.len r2];exact h20);have Gr:=qqh (j7.len r2);have gJ:=qqh r2;have hs:=fun(w':World) (hb:Below w.heap.size w w') (A':Option Addr) (n' c':Nat) (L:List aG) (hL:bT w B A' n' L) (hok:cz L=0)=>Lr mb nm LP A' n' c' L w' B (Nat.le_trans hB hb.size) (fF.keep (aa.below hb (fun _ h _=>h)) (hb.block mb hE.lt) hE) MX (bT.weak (eW (hb.mono hB) (Nat.le_refl _)) hL) hok;have i9:=qqh (fun(w':World) (hb:Below w.heap.size w w')=>hs w' hb L1 a1 x1 f.before l1 k1);have jx:=qqh (fun(w':World) (hb:Below w.heap.size w w')=>hs w' hb L2 a2 x2 f.source l2 k2);have CW:=qqh (fun(w':World) (hb:Below w.heap.size w w')=>hs w' hb L3 a3 x3 f.after l3 k3);have hx0:=zL.made w #[.bool f.start,.bool f.fin,.slice L1 a1 x1,.slice L2 a2 x2,.slice L3 a3 x3,.int .i64 f.ag] #[.bool t.start,.bool t.fin,.slice R1 b1 y1,.slice R2 b2 y2,.slice R3 b3 y3,.int .i64 t.ag];have hx1:jQ w #[.bool f.start,.bool f.fin,.slice L1 a1 x1,.slice L2 a2 x2,.slice L3 a3 x3,.int .i64 f.ag] #[.bool t.start,.bool t.fin,.slice R1 b1 y1,.slice R2 b2 y2,.slice R3 b3 y3,.int .i64 t.ag] #[.bool f.start,.bool f.fin,.slice none 0 0,.slice none 0 0,.slice none 0 0,.slice none 0 0,.int .i64 0] #[.slice L1 a1 x1,.pointer (some ⟨w.heap.size+3,2,none⟩),.slice L2 a2 x2,.pointer (some ⟨w.heap.size+3,3,none⟩),.slice L3 a3 x3,.pointer (some ⟨w.heap.size+3,4,none⟩)] ((((((w.alloc (.cells #[.bool f.start,.bool f.fin,.slice L1 a1 x1,.slice L2 a2 x2,.slice L3 a3 x3,.int .i64 f.ag] 101)).alloc (.cells #[.bool t.start,.bool t.fin,.slice R1 b1 y1,.slice R2 b2 y2,.slice R3 b3 y3,.int .i64 t.ag] 101)).alloc (.cells iG 89))).alloc (.cells #[.bool f.start,.bool f.fin,.slice none 0 0,.slice none 0 0,.slice none 0 0,.slice none 0 0,.int .i64 0] 89)).alloc (.cells #[.slice L1 a1 x1,.pointer (some ⟨w.heap.size+3,2,none⟩),.slice L2 a2 x2,.pointer (some ⟨w.heap.size+3,3,none⟩),.slice L3 a3 x3,.pointer (some ⟨w.heap.size+3,4,none⟩)] 167)):=by
  obtain⟨g1,g2,g3,g4⟩:=hx0;refine⟨aj.alloc (aj.alloc g1 _) _,aj.alloc (aj.alloc g2 _) _,aj.alloc (aj.alloc g3 _) _,aj.alloc ?_ _,?_,(g4.alloc g4.size _).alloc (g4.alloc g4.size _).size _⟩
  ·have:=aj.new (((w.alloc (.cells #[.bool f.start,.bool f.fin,.slice L1 a1 x1,.slice L2 a2 x2,.slice L3 a3 x3,.int .i64 f.ag] 101)).alloc (.cells #[.bool t.start,.bool t.fin,.slice R1 b1 y1,.slice R2 b2 y2,.slice R3 b3 y3,.int .i64 t.ag] 101)).alloc (.cells iG 89)) 89 #[.bool f.start,.bool f.fin,.slice none 0 0,.slice none 0 0,.slice none 0 0,.slice none 0 0,.int .i64 0];simpa using this
  have:=aj.new ((((w.alloc (.cells #[.bool f.start,.bool f.fin,.slice L1 a1 x1,.slice L2 a2 x2,.slice L3 a3 x3,.int .i64 f.ag] 101)).alloc (.cells #[.bool t.start,.bool t.fin,.slice R1 b1 y1,.slice R2 b2 y2,.slice R3 b3 y3,.int .i64 t.ag] 101)).alloc (.cells iG 89)).alloc (.cells #[.bool f.start,.bool f.fin,.slice none 0 0,.slice none 0 0,.slice none 0 0,.slice none 0 0,.int .i64 0] 89)) 167 #[.slice L1 a1 x1,.pointer (some ⟨w.heap.size+3,2,none⟩),.slice L2 a2 x2,.pointer (some ⟨w.heap.size+3,3,none⟩),.slice L3 a3 x3,.pointer (some ⟨w.heap.size+3,4,none⟩)];simpa using this
 have sN:=qqh hx1;clear hs l1 l2 l3 r2 k1 k2 k3 j2 h20 hx0 hx1 hE MX;go_enter Tryz.func80,Tryz.ntmps80;go_wp2_with fail;go_loopw [34] (Vp w B #[.bool f.start,.bool f.fin,.slice L1 a1 x1,.slice L2 a2 x2,.slice L3 a3 x3,.int .i64 f.ag] #[.bool t.start,.bool t.fin,.slice R1 b1 y1,.slice R2 b2 y2,.slice R3 b3 y3,.int .i64 t.ag] #[.slice L1 a1 x1,.pointer (some ⟨w.heap.size+3,2,none⟩),.slice L2 a2 x2,.pointer (some ⟨w.heap.size+3,3,none⟩),.slice L3 a3 x3,.pointer (some ⟨w.heap.size+3,4,none⟩)] (.bool f.start) (.bool f.fin) (cn LP f.before) (cn LP f.source) (cn LP f.after)) (fun i _=>3 - (intOf i).toNat);(case atStart=>exact⟨0,_,_,_,by omega,rfl,sN.out,by simp,by simp,by simp⟩);obtain⟨k,v1,v2,v3,hk,rfl,kf,g1,g2,g3⟩:=hrel;by_cases hlt:k<3
 ·obtain rfl | rfl | rfl:k=0∨k=1∨k=2:=(by omega)
  ·obtain rfl:v1=.slice none 0 0:=(by simpa using g1);obtain rfl:v2=.slice none 0 0:=(by simpa using g2);obtain rfl:v3=.slice none 0 0:=(by simpa using g3);clear g1 g2 g3;have z0:wr.cell? ⟨w.heap.size+4,0,none⟩=some (.slice L1 a1 x1):=kf.2.2.2.2.1.cell 0;have z1:wr.cell? ⟨w.heap.size+4,1,none⟩=some (.pointer (some ⟨w.heap.size+3,2,none⟩)):=kf.2.2.2.2.1.cell 1;have uf:=qqh (jQ.alloc kf (.cells #[.slice L1 a1 x1,.pointer (some ⟨w.heap.size+3,2,none⟩)] 167));have HK:=qqh (aj.new wr 167 #[.slice L1 a1 x1,.pointer (some ⟨w.heap.size+3,2,none⟩)]);clear kf;go_wp2_with fail;refine(i9.out _ uf.out.2.2.2.2.2).mono ?_;rintro e w2 ⟨he,aU⟩;obtain⟨A9,n9,c9,o9,rfl,iP,BI⟩:=An he;have bh:=jQ.below uf.out aU;have hk2:=aj.below HK.out aU HK.out.lt;have t0:w2.cell? ⟨w.heap.size+3,0,none⟩=some (.bool f.start):=bh.2.2.2.1.cell 0;have t1:w2.cell? ⟨w.heap.size+3,1,none⟩=some (.bool f.fin):=bh.2.2.2.1.cell 1;have t2:w2.cell? ⟨w.heap.size+3,2,none⟩=some (.slice none 0 0):=bh.2.2.2.1.cell 2;have t3:w2.cell? ⟨w.heap.size+3,3,none⟩=some (.slice none 0 0):=bh.2.2.2.1.cell 3;have t4:w2.cell? ⟨w.heap.size+3,4,none⟩=some (.slice none 0 0):=bh.2.2.2.1.cell 4;have t5:w2.cell? ⟨w.heap.size+3,5,none⟩=some (.slice none 0 0):=bh.2.2.2.1.cell 5;have t6:w2.cell? ⟨w.heap.size+3,6,none⟩=some (.int .i64 0):=bh.2.2.2.1.cell 6;have s0:w2.cell? ⟨w.heap.size+2,0,none⟩=some (.bool false):=bh.2.2.1.cell 0;have sf0:=bh.2.2.1.frozen 0;have s1:w2.cell? ⟨w.heap.size+2,1,none⟩=some (.bool false):=bh.2.2.1.cell 1;have sf1:=bh.2.2.1.frozen 1;have s2:w2.cell? ⟨w.heap.size+2,2,none⟩=some (.slice none 0 0):=bh.2.2.1.cell 2;have ZK:=bh.2.2.1.frozen 2
   have s3:w2.cell? ⟨w.heap.size+2,3,none⟩=some (.slice none 0 0):=bh.2.2.1.cell 3;have sf3:=bh.2.2.1.frozen 3;have s4:w2.cell? ⟨w.heap.size+2,4,none⟩=some (.slice none 0 0):=bh.2.2.1.cell 4;have Zp:=bh.2.2.1.frozen 4;have s5:w2.cell? ⟨w.heap.size+2,5,none⟩=some (.slice none 0 0):=bh.2.2.1.cell 5;have sf5:=bh.2.2.1.frozen 5;have s6:w2.cell? ⟨w.heap.size+2,6,none⟩=some (.int .i64 0):=bh.2.2.1.cell 6;have sf6:=bh.2.2.1.frozen 6;have m1:w2.cell? ⟨wr.heap.size,1,none⟩=some (.pointer (some ⟨w.heap.size+3,2,none⟩)):=hk2.cell 1;have mf:=bh.2.2.2.1.frozen 2;have CR:=qqh bh;have bD:=qqh aU;have gL:=qqh iP;have N5:=qqh BI;have S0:=bh.2.2.2.2.1.lt;clear he bh hk2 aU iP BI;cases o9
   ·go_wp2_with fail;exact bodyPost_ret (by simp [results,Tryz.results80,go_sem,s0,s1,s2,s3,s4,s5,s6]) rfl ⟨AX (cs:=[.bool f.start,.bool f.fin,.slice none 0 0,.slice none 0 0,.slice none 0 0,.slice none 0 0,.int .i64 0]) (by rw [← gL.out];simp) rfl (by intro u hu;simp only [List.mem_cons,List.not_mem_nil,or_false]at hu;rcases hu with rfl | rfl | rfl | rfl | rfl | rfl | rfl <;> rfl),Am CR.out.2.2.2.2.2 (by omega) _ _ _ _ _ _ _⟩
   go_wp2_with fail;obtain⟨Qi,DM⟩:=Option.isSome_iff_exists.1 gL.out.symm;have kk:aa w2 (Fr B (w.heap.size+5)) (w2.setCell ⟨w.heap.size+3,2,none⟩ (.slice A9 n9 c9)) (Fr B (w.heap.size+5)):=aa.setCell _ (fun b hb=>by rcases hb with h | h <;> dsimp only <;> omega) (fun _ h _=>h);refine⟨⟨1,.slice A9 n9 c9,.slice none 0 0,.slice none 0 0,by omega,by go_num,CR.out.put 2 (.slice A9 n9 c9),by rw [if_neg (by omega)];exact⟨_,_,_,Qi,rfl,DM,(N5.out Qi DM).keep ((aa.refl (X':=Fr B (w.heap.size+5)) (fun b hb=>hb.imp id (fun h=>Nat.le_trans (Nat.succ_le_of_lt uf.out.2.2.2.2.1.lt) h))).trans kk)⟩,by rw [if_pos (by omega)],by rw [if_pos (by omega)]⟩,by simp [intOf]⟩
  ·obtain⟨P1,p1,q1,ll1,rfl,ja,J'⟩:=(show Laid wr B (w.heap.size+5) _ _ from by simpa using g1);obtain rfl:v2=.slice none 0 0:=(by simpa using g2);obtain rfl:v3=.slice none 0 0:=(by simpa using g3);clear g1 g2 g3;have z0:wr.cell? ⟨w.heap.size+4,2,none⟩=some (.slice L2 a2 x2):=kf.2.2.2.2.1.cell 2;have z1:wr.cell? ⟨w.heap.size+4,3,none⟩=some (.pointer (some ⟨w.heap.size+3,3,none⟩)):=kf.2.2.2.2.1.cell 3;have uf:=qqh (jQ.alloc kf (.cells #[.slice L2 a2 x2,.pointer (some ⟨w.heap.size+3,3,none⟩)] 167));have HK:=qqh (aj.new wr 167 #[.slice L2 a2 x2,.pointer (some ⟨w.heap.size+3,3,none⟩)]);have Kc:=qqh (J'.keep (aa.alloc (.cells #[.slice L2 a2 x2,.pointer (some ⟨w.heap.size+3,3,none⟩)] 167) (fun _ h _=>h)));have Ki:=qqh ja;clear kf J' ja;go_wp2_with fail;refine(jx.out _ uf.out.2.2.2.2.2).mono ?_;rintro e w2 ⟨he,aU⟩;obtain⟨A9,n9,c9,o9,rfl,iP,BI⟩:=An he;have bh:=jQ.below uf.out aU;have hk2:=aj.below HK.out aU HK.out.lt;have t0:w2.cell? ⟨w.heap.size+3,0,none⟩=some (.bool f.start):=bh.2.2.2.1.cell 0;have t1:w2.cell? ⟨w.heap.size+3,1,none⟩=some (.bool f.fin):=bh.2.2.2.1.cell 1;have t2:w2.cell? ⟨w.heap.size+3,2,none⟩=some (.slice P1 p1 q1):=bh.2.2.2.1.cell 2;have t3:w2.cell? ⟨w.heap.size+3,3,none⟩=some (.slice none 0 0):=bh.2.2.2.1.cell 3;have t4:w2.cell? ⟨w.heap.size+3,4,none⟩=some (.slice none 0 0):=bh.2.2.2.1.cell 4;have t5:w2.cell? ⟨w.heap.size+3,5,none⟩=some (.slice none 0 0):=bh.2.2.2.1.cell 5;have t6:w2.cell? ⟨w.heap.size+3,6,none⟩=some (.int .i64 0):=bh.2.2.2.1.cell 6;have s0:w2.cell? ⟨w.heap.size+2,0,none⟩=some (.bool false):=bh.2.2.1.cell 0;have sf0:=bh.2.2.1.frozen 0
   have s1:w2.cell? ⟨w.heap.size+2,1,none⟩=some (.bool false):=bh.2.2.1.cell 1;have sf1:=bh.2.2.1.frozen 1;have s2:w2.cell? ⟨w.heap.size+2,2,none⟩=some (.slice none 0 0):=bh.2.2.1.cell 2;have ZK:=bh.2.2.1.frozen 2;have s3:w2.cell? ⟨w.heap.size+2,3,none⟩=some (.slice none 0 0):=bh.2.2.1.cell 3;have sf3:=bh.2.2.1.frozen 3;have s4:w2.cell? ⟨w.heap.size+2,4,none⟩=some (.slice none 0 0):=bh.2.2.1.cell 4;have Zp:=bh.2.2.1.frozen 4;have s5:w2.cell? ⟨w.heap.size+2,5,none⟩=some (.slice none 0 0):=bh.2.2.1.cell 5;have sf5:=bh.2.2.1.frozen 5;have s6:w2.cell? ⟨w.heap.size+2,6,none⟩=some (.int .i64 0):=bh.2.2.1.cell 6;have sf6:=bh.2.2.1.frozen 6;have m1:w2.cell? ⟨wr.heap.size,1,none⟩=some (.pointer (some ⟨w.heap.size+3,3,none⟩)):=hk2.cell 1;have mf:=bh.2.2.2.1.frozen 3;have CR:=qqh bh;have bD:=qqh aU;have gL:=qqh iP;have N5:=qqh BI;have S0:=bh.2.2.2.2.1.lt;clear he bh hk2 aU iP BI;cases o9
   ·go_wp2_with fail;exact bodyPost_ret (by simp [results,Tryz.results80,go_sem,s0,s1,s2,s3,s4,s5,s6]) rfl ⟨AX (cs:=[.bool f.start,.bool f.fin,.slice P1 p1 q1,.slice none 0 0,.slice none 0 0,.slice none 0 0,.int .i64 0]) (by rw [← gL.out];simp) rfl (by intro u hu;simp only [List.mem_cons,List.not_mem_nil,or_false]at hu;rcases hu with rfl | rfl | rfl | rfl | rfl | rfl | rfl <;> rfl),Am CR.out.2.2.2.2.2 (by omega) _ _ _ _ _ _ _⟩
   go_wp2_with fail;obtain⟨Qi,DM⟩:=Option.isSome_iff_exists.1 gL.out.symm;have kk:aa w2 (Fr B (w.heap.size+5)) (w2.setCell ⟨w.heap.size+3,3,none⟩ (.slice A9 n9 c9)) (Fr B (w.heap.size+5)):=aa.setCell _ (fun b hb=>by rcases hb with h | h <;> dsimp only <;> omega) (fun _ h _=>h);refine⟨⟨2,.slice P1 p1 q1,.slice A9 n9 c9,.slice none 0 0,by omega,by go_num,CR.out.put 3 (.slice A9 n9 c9),by rw [if_neg (by omega)];exact⟨_,_,_,_,rfl,Ki.out,Kc.out.keep ((aa.below bD.out (fun _ h _=>h)).trans kk)⟩,by rw [if_neg (by omega)];exact⟨_,_,_,Qi,rfl,DM,(N5.out Qi DM).keep ((aa.refl (X':=Fr B (w.heap.size+5)) (fun b hb=>hb.imp id (fun h=>Nat.le_trans (Nat.succ_le_of_lt uf.out.2.2.2.2.1.lt) h))).trans kk)⟩,by rw [if_pos (by omega)]⟩,by simp [intOf]⟩
  obtain⟨P1,p1,q1,ll1,rfl,ja,J'⟩:=(show Laid wr B (w.heap.size+5) _ _ from by simpa using g1);obtain⟨P2,p2,q2,ll2,rfl,iw,xP⟩:=(show Laid wr B (w.heap.size+5) _ _ from by simpa using g2);obtain rfl:v3=.slice none 0 0:=(by simpa using g3);clear g1 g2 g3;have z0:wr.cell? ⟨w.heap.size+4,4,none⟩=some (.slice L3 a3 x3):=kf.2.2.2.2.1.cell 4;have z1:wr.cell? ⟨w.heap.size+4,5,none⟩=some (.pointer (some ⟨w.heap.size+3,4,none⟩)):=kf.2.2.2.2.1.cell 5;have uf:=qqh (jQ.alloc kf (.cells #[.slice L3 a3 x3,.pointer (some ⟨w.heap.size+3,4,none⟩)] 167));have HK:=qqh (aj.new wr 167 #[.slice L3 a3 x3,.pointer (some ⟨w.heap.size+3,4,none⟩)]);have Kc:=qqh (J'.keep (aa.alloc (.cells #[.slice L3 a3 x3,.pointer (some ⟨w.heap.size+3,4,none⟩)] 167) (fun _ h _=>h)));have Ki:=qqh ja;have Qh:=qqh (xP.keep (aa.alloc (.cells #[.slice L3 a3 x3,.pointer (some ⟨w.heap.size+3,4,none⟩)] 167) (fun _ h _=>h)));have KD:=qqh iw;clear kf J' ja xP iw;go_wp2_with fail;refine(CW.out _ uf.out.2.2.2.2.2).mono ?_;rintro e w2 ⟨he,aU⟩;obtain⟨A9,n9,c9,o9,rfl,iP,BI⟩:=An he;have bh:=jQ.below uf.out aU;have hk2:=aj.below HK.out aU HK.out.lt;have t0:w2.cell? ⟨w.heap.size+3,0,none⟩=some (.bool f.start):=bh.2.2.2.1.cell 0;have t1:w2.cell? ⟨w.heap.size+3,1,none⟩=some (.bool f.fin):=bh.2.2.2.1.cell 1;have t2:w2.cell? ⟨w.heap.size+3,2,none⟩=some (.slice P1 p1 q1):=bh.2.2.2.1.cell 2;have t3:w2.cell? ⟨w.heap.size+3,3,none⟩=some (.slice P2 p2 q2):=bh.2.2.2.1.cell 3;have t4:w2.cell? ⟨w.heap.size+3,4,none⟩=some (.slice none 0 0):=bh.2.2.2.1.cell 4
  have t5:w2.cell? ⟨w.heap.size+3,5,none⟩=some (.slice none 0 0):=bh.2.2.2.1.cell 5;have t6:w2.cell? ⟨w.heap.size+3,6,none⟩=some (.int .i64 0):=bh.2.2.2.1.cell 6;have s0:w2.cell? ⟨w.heap.size+2,0,none⟩=some (.bool false):=bh.2.2.1.cell 0;have sf0:=bh.2.2.1.frozen 0;have s1:w2.cell? ⟨w.heap.size+2,1,none⟩=some (.bool false):=bh.2.2.1.cell 1;have sf1:=bh.2.2.1.frozen 1;have s2:w2.cell? ⟨w.heap.size+2,2,none⟩=some (.slice none 0 0):=bh.2.2.1.cell 2;have ZK:=bh.2.2.1.frozen 2;have s3:w2.cell? ⟨w.heap.size+2,3,none⟩=some (.slice none 0 0):=bh.2.2.1.cell 3;have sf3:=bh.2.2.1.frozen 3;have s4:w2.cell? ⟨w.heap.size+2,4,none⟩=some (.slice none 0 0):=bh.2.2.1.cell 4;have Zp:=bh.2.2.1.frozen 4;have s5:w2.cell? ⟨w.heap.size+2,5,none⟩=some (.slice none 0 0):=bh.2.2.1.cell 5;have sf5:=bh.2.2.1.frozen 5;have s6:w2.cell? ⟨w.heap.size+2,6,none⟩=some (.int .i64 0):=bh.2.2.1.cell 6;have sf6:=bh.2.2.1.frozen 6;have m1:w2.cell? ⟨wr.heap.size,1,none⟩=some (.pointer (some ⟨w.heap.size+3,4,none⟩)):=hk2.cell 1;have mf:=bh.2.2.2.1.frozen 4;have CR:=qqh bh;have bD:=qqh aU;have gL:=qqh iP;have N5:=qqh BI;have S0:=bh.2.2.2.2.1.lt;clear he bh hk2 aU iP BI;cases o9
  ·go_wp2_with fail;exact bodyPost_ret (by simp [results,Tryz.results80,go_sem,s0,s1,s2,s3,s4,s5,s6]) rfl ⟨AX (cs:=[.bool f.start,.bool f.fin,.slice P1 p1 q1,.slice P2 p2 q2,.slice none 0 0,.slice none 0 0,.int .i64 0]) (by rw [← gL.out];simp) rfl (by intro u hu;simp only [List.mem_cons,List.not_mem_nil,or_false]at hu;rcases hu with rfl | rfl | rfl | rfl | rfl | rfl | rfl <;> rfl),Am CR.out.2.2.2.2.2 (by omega) _ _ _ _ _ _ _⟩
  go_wp2_with fail;obtain⟨Qi,DM⟩:=Option.isSome_iff_exists.1 gL.out.symm;have kk:aa w2 (Fr B (w.heap.size+5)) (w2.setCell ⟨w.heap.size+3,4,none⟩ (.slice A9 n9 c9)) (Fr B (w.heap.size+5)):=aa.setCell _ (fun b hb=>by rcases hb with h | h <;> dsimp only <;> omega) (fun _ h _=>h);refine⟨⟨3,.slice P1 p1 q1,.slice P2 p2 q2,.slice A9 n9 c9,by omega,by go_num,CR.out.put 4 (.slice A9 n9 c9),by rw [if_neg (by omega)];exact⟨_,_,_,_,rfl,Ki.out,Kc.out.keep ((aa.below bD.out (fun _ h _=>h)).trans kk)⟩,by rw [if_neg (by omega)];exact⟨_,_,_,_,rfl,KD.out,Qh.out.keep ((aa.below bD.out (fun _ h _=>h)).trans kk)⟩,by rw [if_neg (by omega)];exact⟨_,_,_,Qi,rfl,DM,(N5.out Qi DM).keep ((aa.refl (X':=Fr B (w.heap.size+5)) (fun b hb=>hb.imp id (fun h=>Nat.le_trans (Nat.succ_le_of_lt uf.out.2.2.2.2.1.lt) h))).trans kk)⟩⟩,by simp [intOf]⟩
 have Qs:3≤k:=(by omega);rw [if_neg (by omega)]at g1;obtain⟨P1,p1,q1,ll1,rfl,ja,J'⟩:=g1;rw [if_neg (by omega)]at g2;obtain⟨P2,p2,q2,ll2,rfl,iw,xP⟩:=g2;rw [if_neg (by omega)]at g3;obtain⟨P3,p3,q3,ll3,rfl,ze,hv3⟩:=g3;generalize wr=wz at *;have e3:wz.cell? ⟨w.heap.size+1,3,none⟩=some (.slice R2 b2 y2):=kf.2.1.cell 3;have uf:=qqh kf;have Kc:=qqh J';have Qh:=qqh xP;have XY:=qqh hv3;have Ki:=qqh ja;have KD:=qqh iw;have Ob:=qqh ze;have hz:=kf.2.2.2.2.2.size;have P4:=kf.2.2.2.2.1.lt;clear kf J' xP hv3 ja iw ze;go_wp2_with fail;go_loopw [56] (XO w wz B #[.bool f.start,.bool f.fin,.slice L1 a1 x1,.slice L2 a2 x2,.slice L3 a3 x3,.int .i64 f.ag] #[.bool t.start,.bool t.fin,.slice R1 b1 y1,.slice R2 b2 y2,.slice R3 b3 y3,.int .i64 t.ag] #[.slice L1 a1 x1,.pointer (some ⟨w.heap.size+3,2,none⟩),.slice L2 a2 x2,.pointer (some ⟨w.heap.size+3,3,none⟩),.slice L3 a3 x3,.pointer (some ⟨w.heap.size+3,4,none⟩)] (.bool f.start) (.bool f.fin) (.slice P1 p1 q1) (.slice P2 p2 q2) (.slice P3 p3 q3) t.source b2) (fun i _=>b2 - (intOf i).toNat);(case atStart=>exact⟨0,.slice none 0 0,Nat.zero_le _,rfl,uf.out,World.ownsRow_nil _ _ _ _,fun b hx hl=>⟨rfl,⟨hx,hl⟩,hl⟩,Nat.le_refl _⟩);obtain⟨k,v,hk,rfl,kf,hown,hkp,hzr⟩:=hrel;by_cases hlt:k<b2
 ·obtain⟨a,ha⟩:∃ z,t.source[k]? = some z:=⟨_,List.getElem?_eq_getElem (by rw [Gr.out];exact hlt)⟩;obtain⟨b,off,A',n',c',rfl,cH,f0,f1,f2,f3,_,_,_,_⟩:=uE gJ.out ha;have UU:=kf.2.2.2.2.2;have j6:b<w.heap.size:=(by omega);have d0:=(UU.cell (p:=⟨b,off+k*4,none⟩) j6).trans f0;have d1:=(UU.cell (p:=⟨b,off+k*4+1,none⟩) j6).trans f1;have d2:=(UU.cell (p:=⟨b,off+k*4+2,none⟩) j6).trans f2;have d3:=(UU.cell (p:=⟨b,off+k*4+3,none⟩) j6).trans f3;clear f0 f1 f2 f3 UU;generalize hT:(t.source.take k).map (·.rune)=T at hown;have HTM:=qqh ((M6 ha).trans (by rw [hT]:_=T++[a.rune]));clear hT;obtain⟨Av,cv,rfl,_⟩:=aI hown;have S6:=jQ.alloc kf (.cells #[.int .i64 a.kind,.int .i32 a.rune,.slice A' n' c',.string a.name] 172);have hO1:=World.ownsRow.alloc hown (.cells #[.int .i64 a.kind,.int .i32 a.rune,.slice A' n' c',.string a.name] 172);have c5:(wr.alloc (.cells #[.int .i64 a.kind,.int .i32 a.rune,.slice A' n' c',.string a.name] 172)).cell? ⟨w.heap.size+3,5,none⟩=some (.slice Av k cv):=S6.2.2.2.1.cell 5;have HA2:=qqh (jQ.alloc S6 (.cells #[.int .i32 a.rune] 21));have uS:=qqh (World.ownsRow.alloc hO1 (.cells #[.int .i32 a.rune] 21));have oC:=qqh ((hkp.trans (aa.alloc (.cells #[.int .i64 a.kind,.int .i32 a.rune,.slice A' n' c',.string a.name] 172) (fun _ h _=>h))).trans (aa.alloc (.cells #[.int .i32 a.rune] 21) (fun _ h _=>h)));have hN:=Rd.new (wr.alloc (.cells #[.int .i64 a.kind,.int .i32 a.rune,.slice A' n' c',.string a.name] 172)) 21 1 1 [.int .i32 a.rune] rfl;rw [show(wr.alloc (.cells #[.int .i64 a.kind,.int .i32 a.rune,.slice A' n' c',.string a.name] 172)).heap.size=wr.heap.size+1 by simp]at hN;have HN:=qqh hN
  have Em:=qqh (show ∀ u ∈ [Value.int .i32 a.rune],u.oneCell'=true by intro x hx;simp at hx;subst hx;rfl);have HZ:=qqh (show wz.heap.size≤((wr.alloc (.cells #[.int .i64 a.kind,.int .i32 a.rune,.slice A' n' c',.string a.name] 172)).alloc (.cells #[.int .i32 a.rune] 21)).heap.size by simp;omega);clear S6 hO1 hN kf hown hkp ha;go_wp2_with (at_builtin;refine ak _ rfl (.tmp 61) (.tmp 64) 33 rfl wz.heap.size 21 i0 _ 1 4 Tryz.underlying33 hi hz0 nQ rM rfl (by decide) _ _ _ rfl uS.out _ (some ⟨wr.heap.size+1,0,none⟩) 1 1 [.int .i32 a.rune] rfl HN.out Em.out (by simp only [maxLen];omega) (by omega) HZ.out ?_);intro v9 w9 au;have Yi:=jQ.app HA2.out uS.out (by decide) (by decide) (by decide) hz au;have iP:=au.own;have Wx:=oC.out.trans (aa.app (X':=fun b=>Fr B (w.heap.size+5) b∧b<wz.heap.size) au (fun b hx e=>by have:=(aY uS.out e).1;have:=hx.2;omega) (fun _ h _=>h));have N6:wz.heap.size≤w9.heap.size:=Nat.le_trans HZ.out au.2.1.size;rw [← wD,← HTM.out]at iP;obtain⟨A9,c9,rfl,_⟩:=aI iP;have p5:w9.cell? ⟨w.heap.size+3,5,none⟩=some (.slice Av k cv):=Yi.2.2.2.1.cell 5;have p5f:=Yi.2.2.2.1.frozen 5;have HA3:=qqh Yi;have gL:=qqh iP;have Wc:=qqh Wx;clear au Yi iP Wx;go_wp2_with fail;refine⟨⟨k+1,.slice A9 (k+1) c9,by omega,by go_num,HA3.out.put 5 (.slice A9 (k+1) c9),gi gL.out HA3.out.2.2.2.1 (by decide),Wc.out.trans (aa.setCell _ (fun b hx=>?_) (fun _ h _=>h)),by simpa using N6⟩,by simp [intOf];omega⟩;have:=hx.1;dsimp only;rcases this with h | h <;> omega
 obtain rfl:k=b2:=(by omega);rw [List.take_of_length_le (by rw [Gr.out];omega)]at hown;obtain⟨Av,cv,rfl,_⟩:=aI hown;have bh:=kf;have t0:wr.cell? ⟨w.heap.size+3,0,none⟩=some (.bool f.start):=bh.2.2.2.1.cell 0;have t1:wr.cell? ⟨w.heap.size+3,1,none⟩=some (.bool f.fin):=bh.2.2.2.1.cell 1;have t2:wr.cell? ⟨w.heap.size+3,2,none⟩=some (.slice P1 p1 q1):=bh.2.2.2.1.cell 2;have t3:wr.cell? ⟨w.heap.size+3,3,none⟩=some (.slice P2 p2 q2):=bh.2.2.2.1.cell 3;have t4:wr.cell? ⟨w.heap.size+3,4,none⟩=some (.slice P3 p3 q3):=bh.2.2.2.1.cell 4;have t5:wr.cell? ⟨w.heap.size+3,5,none⟩=some (.slice Av k cv):=bh.2.2.2.1.cell 5;have t6:wr.cell? ⟨w.heap.size+3,6,none⟩=some (.int .i64 0):=bh.2.2.2.1.cell 6;have s0:wr.cell? ⟨w.heap.size+2,0,none⟩=some (.bool false):=bh.2.2.1.cell 0;have sf0:=bh.2.2.1.frozen 0;have s1:wr.cell? ⟨w.heap.size+2,1,none⟩=some (.bool false):=bh.2.2.1.cell 1;have sf1:=bh.2.2.1.frozen 1;have s2:wr.cell? ⟨w.heap.size+2,2,none⟩=some (.slice none 0 0):=bh.2.2.1.cell 2;have ZK:=bh.2.2.1.frozen 2;have s3:wr.cell? ⟨w.heap.size+2,3,none⟩=some (.slice none 0 0):=bh.2.2.1.cell 3;have sf3:=bh.2.2.1.frozen 3;have s4:wr.cell? ⟨w.heap.size+2,4,none⟩=some (.slice none 0 0):=bh.2.2.1.cell 4;have Zp:=bh.2.2.1.frozen 4;have s5:wr.cell? ⟨w.heap.size+2,5,none⟩=some (.slice none 0 0):=bh.2.2.1.cell 5;have sf5:=bh.2.2.1.frozen 5;have s6:wr.cell? ⟨w.heap.size+2,6,none⟩=some (.int .i64 0):=bh.2.2.1.cell 6;have sf6:=bh.2.2.1.frozen 6;have t6f:=bh.2.2.2.1.frozen 6;have e5:wr.cell? ⟨w.heap.size+1,5,none⟩=some (.int .i64 t.ag):=bh.2.1.cell 5
 have hend:∀ (we:World) (K:Int),((∃ u,we=wr.setCell ⟨w.heap.size+3,6,none⟩ u)∨∃ u u',we=(wr.setCell ⟨w.heap.size+3,6,none⟩ u).setCell ⟨w.heap.size+3,6,none⟩ u')→K=(if t.ag<0 then (t.source.length:Int)else t.ag) →
     FJ (Mf we (w.heap.size+1+1) (.bool f.start) (.bool f.fin) (.slice P1 p1 q1) (.slice P2 p2 q2) (.slice P3 p3 q3) (.slice Av k cv) (.int .i64 K)) B w.heap.size (eM LP f t) (.returned (.tuple #[.agg #[.bool f.start,.bool f.fin,.slice P1 p1 q1,.slice P2 p2 q2,.slice P3 p3 q3,.slice Av k cv,.int .i64 K],.bool true])) ∧
     Below w.heap.size w (Mf we (w.heap.size+1+1) (.bool f.start) (.bool f.fin) (.slice P1 p1 q1) (.slice P2 p2 q2) (.slice P3 p3 q3) (.slice Av k cv) (.int .i64 K)):=by
   intro we K hwe hK
   have YB:Below w.heap.size w we:=by
     rcases hwe with ⟨u,rfl⟩ | ⟨u,u',rfl⟩
     · exact kf.2.2.2.2.2.setCell (by simp) _
     · exact(kf.2.2.2.2.2.setCell (by simp) _).setCell (by simp) _
   have kw:∀ (X:Nat→Prop),(∀ b,X b→b≠w.heap.size+3)→aa wr X we X:=by
     intro X hX
     rcases hwe with ⟨u,rfl⟩ | ⟨u,u',rfl⟩
     · exact aa.setCell u (fun b hb=>hX b hb) (fun _ h _=>h)
     · exact(aa.setCell (X':=X) u (fun b hb=>hX b hb) (fun _ h _=>h)).trans (aa.setCell u' (fun b hb=>hX b hb) (fun _ h _=>h))
   have kk:aa wz (Fr B (w.heap.size+5)) (Mf we (w.heap.size+1+1) (.bool f.start) (.bool f.fin) (.slice P1 p1 q1) (.slice P2 p2 q2) (.slice P3 p3 q3) (.slice Av k cv) (.int .i64 K)) (Fr B w.heap.size):=by
     refine(hkp.trans (kw _ (fun b hx=>by rcases hx.1 with h | h <;> omega))).trans ((Qn (fun b hx=>?_) _ _ _ _ _ _ _).trans (aa.refl (fun b hx=>?_)))
     · rcases hx.1 with h | h <;> omega
     · exact hx.1.imp id (fun h=>by omega)
   refine⟨⟨[.bool f.start,.bool f.fin,.slice P1 p1 q1,.slice P2 p2 q2,.slice P3 p3 q3,.slice Av k cv,.int .i64 K],rfl,?_,?_,fun rd hrd=>?_⟩,Am YB (by omega) _ _ _ _ _ _ _⟩
   · rw [q7,Ki.out,KD.out,Ob.out];rfl
   · intro u hu
     simp only [List.mem_cons,List.not_mem_nil,or_false]at hu
     rcases hu with rfl | rfl | rfl | rfl | rfl | rfl | rfl <;> rfl
   · obtain⟨a,b,c,g1,g2,g3,rfl⟩:=It hrd
     rw [Ki.out]at g1
     rw [KD.out]at g2
     rw [Ob.out]at g3
     cases g1
     cases g2
     cases g3
     refine⟨_,_,_,Av,k,cv,by rw [hK],Kc.out.keep kk,Qh.out.keep kk,XY.out.keep kk,?_,by unfold maxLen;omega⟩
     refine(cE.cP (X:=fun b=>wz.heap.size≤b) hown (fun b hb=>(aY hown hb).1)).keep ((kw _ (fun b hx=>by omega)).trans ((Qn (fun b hx=>by omega) _ _ _ _ _ _ _).trans (aa.refl (fun b hx=>.inr (by omega)))))
 have CP:=qqh hend;have J6:(t.source.length:Int)=k:=(by rw [Gr.out]);have HKL:=qqh J6;clear hend J6 kf bh hown hkp;by_cases hc:t.ag<0
 ·have HK:=qqh (show((k:Nat):Int)=(if t.ag<0 then (t.source.length:Int)else t.ag) by rw [if_pos hc,HKL.out]);go_wp2_with fail;obtain⟨hpost,eF⟩:=CP.out _ _ (.inr ⟨_,_,rfl⟩) HK.out;exact bodyPost_ret (by simp [results,Tryz.results80,go_sem,s0,s1,s2,s3,s4,s5,s6]) rfl ⟨hpost,eF⟩
 have HK:=qqh (show t.ag=(if t.ag<0 then (t.source.length:Int)else t.ag) by rw [if_neg hc]);go_wp2_with fail;obtain⟨hpost,eF⟩:=CP.out _ _ (.inl ⟨_,rfl⟩) HK.out;exact bodyPost_ret (by simp [results,Tryz.results80,go_sem,s0,s1,s2,s3,s4,s5,s6]) rfl ⟨hpost,eF⟩
end Go.Proofs.YtkggjgeihhialaaGreatDoor
