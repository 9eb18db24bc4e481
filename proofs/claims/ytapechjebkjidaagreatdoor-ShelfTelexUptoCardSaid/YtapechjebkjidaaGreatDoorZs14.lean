/- SetsRef + Env + SetsSyn + RuleRef + RuleSyn -/
import Derived.Test.YtapechjebkjidaaGreatDoorZs5
import Derived.Test.YtapechjebkjidaaGreatDoorZs10
import Derived.Lib.Strings
import Derived.Deep.DeepCutAuto
import Derived.Test.YtapechjebkjidaaGreatDoorZs8
import Derived.Test.YtapechjebkjidaaGreatDoorZs4
import Derived.Maps.OwnSet
import Derived.StringKeys
set_option maxHeartbeats 6400000
set_option maxRecDepth 100000
namespace Go.Proofs.YtapechjebkjidaaGreatDoor
open Go.RowKit
theorem Mu:(Tryz.prog.info? 44).map (fun i=>(i.zero,i.size,i.bytes))=some (some (.slice none 0 0),1,24):=by kernel_rfl
def OT (B lo:Nat) (v:Value) (b:Nat):Prop:=Fr B lo b∧v.ownBlock≠some b
def lB (w:World) (B:Nat) (ll:List af) (v:Value) (wx:World):Prop:=dD (mV wx (OT B w.heap.size v)) 44 1 wx w.heap.size v ll∧Below w.heap.size w wx
section
variable {w wx w2 : World} {B : Nat} {ll : List af} {v v' : Value}
theorem lB.nil (w:World) (B:Nat):lB w B [] (.slice none 0 0) w:=⟨dD.nil _ _,Below.refl _ _⟩
theorem lB.alloc (h:lB w B ll v wx) (o:Obj):lB w B ll v (wx.alloc o) :=
  ⟨h.1.kept (fun _ _ h=>World.ownsRow.alloc h o) (fun _ _ h=>h.keep (ag.alloc o (fun _ h _=>h))),h.2.alloc h.2.size o⟩
theorem lB.below (h:lB w B ll v wx) (hb:Below wx.heap.size wx w2):lB w B ll v w2 :=
  ⟨h.1.kept (fun _ _ h=>cS h hb) (fun _ _ h=>h.keep (ag.below hb (fun _ h _=>h))),h.2.trans (hb.mono h.2.size)⟩
theorem yg {base sz n:Nat} {e:TypeId} {xs:List Value} (h:wx.ownsRow base e sz v n xs) {b:Nat} (hb:b<base∨wx.heap.size≤b):v.ownBlock≠some b:=fun e=>by
 have:=bG h e;omega
theorem lB.push {css:List (List Value)} {s:af} {u:Value} {t:TypeId} (h1:css.length=ll.length) (h2:∀ (i:Nat) (a:af) (cs:List Value),ll[i]? = some a→css[i]? = some cs→mV wx (OT B w.heap.size v) a cs) (h3:∀ cs∈css,cs.length=1)
    (h4:wx.ownsRow w.heap.size 44 1 v ll.length css.flatten) (hb:Below w.heap.size w wx) (hu:iQ wx (OT B w.heap.size v) s u)
    (ha:aS w.heap.size 44 1 v (wx.alloc (.cells #[u] t)) (ll.length+1) (css.flatten++[u]) v' w2):lB w B (ll++[s]) v' w2:=by
 have hk:ag wx (OT B w.heap.size v) w2 (OT B w.heap.size v'):=by
  refine(ag.alloc (.cells #[u] t) (fun _ h _=>h)).trans (ag.app (X':=fun b=>OT B w.heap.size v' b) ha (fun b hx=>hx.2) (fun b hx hl=>⟨hx.1,?_⟩));rcases ha.2.2 with e | e
  ·rw [e];exact hx.2
  rw [e];intro he;injection he with he;omega
 refine⟨dD.push h1 h2 h3 (fun _ _ h=>h.keep hk) ⟨u,rfl,hu.keep hk⟩ rfl ha,?_⟩;exact(hb.alloc hb.size (.cells #[u] t)).trans (ha.below (hb.alloc hb.size (.cells #[u] t)).size (World.ownsRow.alloc h4 _))
end
def Nl (w:World) (B lo:Nat) (r:Option (List af)) (e:Ending):Prop :=
  match r with
  | some ll=>∃ u,e=.returned (.tuple #[u,.bool true])∧gj w (Fr B lo) ll u
  | none=>e=.returned (.tuple #[.slice none 0 0,.bool false])
theorem lB.post {w wx:World} {B:Nat} {ll:List af} {v:Value} (h:lB w B ll v wx) (hl:ll.length≤maxLen):gj wx (Fr B w.heap.size) ll v:=by
 obtain⟨A,c,rfl,_⟩:=h.1.form;refine⟨A,_,c,rfl,dD.done h.1 (fun _ _ h=>h.keep (ag.refl (fun _ h=>h.1))) (fun b hb=>.inr ?_),hl⟩;obtain⟨css,_,_,_,h4⟩:=h.1;exact(bG h4 hb).1
def T4 (w:World) (B:Nat) (l:List aI) (L:List aG) (n:Nat) (out i:Value) (wr:World):Prop :=
  ∃ (k:Nat) (ll:List af),k≤n∧i=.int .i64 k∧cB l (L.take k)=some ll∧lB w B ll out wr
end Go.Proofs.YtapechjebkjidaaGreatDoor
namespace Go.Proofs.YtapechjebkjidaaGreatDoor
open Go.RowKit Go.Maps
def fU (w:World) (X:Nat→Prop) (mb n:Nat) (l:List aI):Prop :=
  ∃ D:DataW Value,w.ownsMap Tryz.prog 9 Raw mb n D∧IsMap D∧∀ s:ByteArray,match fY l s with
    | some set=>∃ u,D.atKey (fl s) vE=.held u∧has D (fl s)=true∧iQ w X set u
    | none=>D.atKey (fl s) vE=vE∧has D (fl s)=false
theorem fU.keep {w w':World} {X X':Nat→Prop} {mb n:Nat} {l:List aI} (hk:ag w X w' X') (hm:w'.heap[mb]? = w.heap[mb]?) (h:fU w X mb n l):fU w' X' mb n l:=by
 obtain⟨D,⟨es,clock,h1,h2⟩,h3,h4⟩:=h;refine⟨D,⟨es,clock,hm.trans h1,h2⟩,h3,fun s=>?_⟩;have:=h4 s;cases hl:fY l s with
 | none=>rw [hl]at this;exact this
 | some set=>
  rw [hl]at this;obtain⟨u,g1,g2,g3⟩:=this;exact⟨u,g1,g2,g3.keep hk⟩
theorem fU.lt {w:World} {X:Nat→Prop} {mb n:Nat} {l:List aI} (h:fU w X mb n l):mb<w.heap.size:=by
 obtain⟨D,h1,_⟩:=h;exact h1.lt
theorem fU.made (w:World) (X:Nat→Prop):fU (w.alloc (.map #[] 0)) X w.heap.size 0 [] :=
  ⟨.map [],World.ownsMap_made _ _ _ _,isMap_empty,fun s=>⟨by simp [DataW.atKey],by simp [has]⟩⟩
theorem xy (l:List aI) (p:aI) (s:ByteArray):fY (l++[p]) s=match fY l s with
    | some x=>some x
    | none=>if p.kind=1∧p.name=s then some p.set else none:=by
 induction l with
 | nil=>simp [fY]
 | cons q l ih=>
  rw [List.cons_append,fY,fY];by_cases h:q.kind=1∧q.name=s
  ·rw [if_pos h,if_pos h]
  rw [if_neg h,if_neg h,ih]
theorem fU.put {w w':World} {X:Nat→Prop} {mb n:Nat} {l:List aI} {p:aI} {u:Value} {D:DataW Value} (hD:IsMap D)
    (h4:∀ s:ByteArray,match fY l s with
      | some set=>∃ u,D.atKey (fl s) vE=.held u∧has D (fl s)=true∧iQ w X set u
      | none=>D.atKey (fl s) vE=vE∧has D (fl s)=false)
    (hp:p.kind=1) (hno:fY l p.name=none) (hu:iQ w X p.set u) (hk:ag w X w' X)
    (hown:w'.ownsMap Tryz.prog 9 Raw mb n (D.put (fl p.name) (.held u))):fU w' X mb n (l++[p]):=by
 refine⟨_,hown,hD.put _ _,fun s=>?_⟩;rw [xy];by_cases hs:p.name=s
 ·subst hs;rw [hno];dsimp only;rw [if_pos ⟨hp,rfl⟩];exact⟨u,atKey_put_same hD (wF _) _ _,has_put_same hD (wF _) _,hu.keep hk⟩
 have hne:fl s≠fl p.name:=fun e=>hs (El e).symm;have:=h4 s;cases hl:fY l s with
 | none=>
  rw [hl]at this;dsimp only;rw [if_neg (fun h=>hs h.2),atKey_put_other hne,has_put_other hne];exact this
 | some set=>
  rw [hl]at this;obtain⟨v,g1,g2,g3⟩:=this;dsimp only;exact⟨v,by rw [atKey_put_other hne];exact g1,by rw [has_put_other hne];exact g2,g3.keep hk⟩
theorem fU.other {w:World} {X:Nat→Prop} {mb n:Nat} {l:List aI} {p:aI} (h:fU w X mb n l) (hp:p.kind≠1):fU w X mb n (l++[p]):=by
 obtain⟨D,h1,h2,h3⟩:=h;refine⟨D,h1,h2,fun s=>?_⟩;have:=h3 s;rw [xy];cases hl:fY l s with
 | none=>rw [hl]at this;dsimp only;rw [if_neg (fun h=>hp h.1)];exact this
 | some set=>rw [hl]at this;exact this
theorem nM {w:World} {ops:Array Oper} {rest:List Oper} {o:Oper} {a:Act} {Q:Exit→Act→World→Prop} (hg:o.guard=none) (m x:Operand) (hop:o.op=Op.lookup 129 m x true)
    (mb n:Nat) (D:DataW Value) (hm:a.eval m=.map (some mb)) (hown:w.ownsMap Tryz.prog 9 Raw mb n D) (s:ByteArray) (hx:a.eval x=.string s) (hs:s.size≤maxLen) (u:Value) (b:Bool)
    (h1:D.atKey (fl s) vE=.held u) (h2:has D (fl s)=b) (hK:wpList Tryz.prog ops Q rest (a.put o.dst (.tuple #[u,.bool b])) w):wpList Tryz.prog ops Q (o::rest) a w :=
  wpList_lookup_own_ok w hg m x _ hop 9 44 iy Tryz.underlying129 Raw (P9 w) vE [] rfl mb n D hm hown (.string s) (fl s) hx (jU hs) (fun v ps hv=>by
    rw [h1]at hv
    unfold Raw at hv
    injection hv with hv
    injection hv with hv
    injection hv with hv
    subst hv
    rw [h2]
    exact hK)
theorem pE (A:Option Addr) (n c B:Nat) (s:af) (w:World) (h:Rd w B 2 A n (aj s)) (hn:n≤1000) :
    Calls Tryz.prog 88 #[.slice A n c] w fun e w'=>(∃ u,e=.returned u∧iQ w' (fun b=>w.heap.size≤b) s u)∧Below w.heap.size w w':=by
 obtain⟨i0,hi,hz0,rj,sY⟩:=info_parts jB;have q22:∀ (w:World) (a:Option Addr) (n c n' c':Nat),(binOp .eql 44 (.slice a n c) (.slice none n' c')).run Tryz.prog w=.ok (.bool a.isNone) w:=fun w a n c n' c'=>Lib.run_eql_slice_nil w _ _ a n c n' c' Tryz.underlying44;have H:=Lib.hid h;clear h;cases A with
 | none=>
  have hn0:n=0:=by
   rcases Nat.eq_zero_or_pos n with h0 | h0;exact h0;obtain⟨_,_,e,_⟩:=H.out.2 h0;cases e
  subst hn0;go_enter Tryz.func88,Tryz.ntmps88;go_wp2_with fail;go_ret;exact⟨⟨_,rfl,none,0,0,rfl,⟨H.out.1,fun h=>absurd h (Nat.lt_irrefl 0)⟩,Nat.zero_le _⟩,Below.refl _ _⟩
 | some ad=>
  have HO:=Lib.hid (tj w 112 2 w.heap.size w.heap.size rfl (Nat.le_refl _));have HB:=Lib.hid ((Below.refl w.heap.size w).alloc (Nat.le_refl _) (.cells #[] 112));have HR:=Lib.hid (Rd.more (Rd.below (B:=min B w.heap.size) ⟨H.out.1,fun h=>by
   obtain⟨b,off,e,_,hc⟩:=H.out.2 h;obtain⟨u,hu⟩:∃ u,(aj s)[0]? = some u:=⟨_,List.getElem?_eq_getElem (by have:=H.out.1;omega)⟩;have hl:=World.block_lt_of_cell? w _ (hc 0 u hu);exact⟨b,off,e,by dsimp only at hl;omega,hc⟩⟩ (HB.out.mono (Nat.min_le_right _ _))) (Nat.le_refl _))
  go_enter Tryz.func88,Tryz.ntmps88;go_wp2_with (at_builtin;refine ai _ rfl (.tmp 5) (.tmp 6) 44 rfl w.heap.size 112 i0 _ 2 8 Tryz.underlying44 hi hz0 rj sY rfl (by decide) _ _ _ rfl HO.out _ (some ad) n c (aj s) rfl HR.out (lZ s) (by simp only [maxLen];omega) (by omega) (by simp) ?_);intro v' w' an;have ho:=an.own;obtain⟨A2,c2,rfl,_⟩:=aH ho;have aW:=Lib.hid (HB.out.trans (an.below (by simp) HO.out));have HV:=Lib.hid (show iQ w' (fun b=>w.heap.size≤b) s (.slice A2 n c2) from⟨A2,n,c2,rfl,di.cj ho (fun b hb=>(bG ho hb).1),by unfold maxLen;omega⟩);clear an ho;go_wp2_with fail;go_ret;exact⟨⟨_,rfl,HV.out⟩,aW.out⟩
end Go.Proofs.YtapechjebkjidaaGreatDoor
namespace Go.Proofs.YtapechjebkjidaaGreatDoor
open Go.RowKit Go.Maps
theorem pn {l:af} (h:bV l=0):l.length≤200:=by
 unfold bV at h;by_cases h2:200<l.length
 ·rw [if_pos h2]at h;cases h
 omega
theorem Mc (mb nm:Nat) (LP:List aI) (A2:Option Addr) (n2 c2:Nat) (L:List aG) (w:World) (B:Nat) (hB:B≤w.heap.size) (hE:fU w (· < B) mb nm LP) (MC:∀ s set,fY LP s=some set→set.length≤200) (hL:bX w B A2 n2 L) (hok:cC L=0) :
    Calls Tryz.prog 114 #[.map (some mb),.slice A2 n2 c2] w fun e w'=>Nl w' B w.heap.size (cB LP L) e∧Below w.heap.size w w':=by
 obtain⟨i0,hi,hz0,rj,sY⟩:=info_parts Mu;obtain⟨h20,hall⟩:=E4 hok;have Zf:n2≤20:=(by rw [← kD.len hL];exact h20);have hmb:=hE.lt;have aY:=Lib.hid (kD.len hL);have HL:=Lib.hid hL;have HA:=Lib.hid hall;have HE:=Lib.hid hE;have Nu:=Lib.hid MC;clear hL hok h20 hall hE MC;go_enter Tryz.func114,Tryz.ntmps114;go_wp2_with fail;go_loopw [6,13] (T4 w B LP L n2) (fun _ i _=>n2 - (intOf i).toNat);(case atStart=>exact⟨0,[],Nat.zero_le _,rfl,rfl,lB.nil w B⟩);obtain⟨k,ll,hk,rfl,bf,hst⟩:=hrel;have Ya:=JW bf;have afl:ll.length≤k:=(by rw [Ya];exact List.length_take_le _ _);clear Ya;have hz:=hst.2.size;by_cases hlt:k<n2
 ·obtain⟨a,ha⟩:∃ z,L[k]? = some z:=⟨_,List.getElem?_eq_getElem (by rw [aY.out];exact hlt)⟩;have hka:=FV (HA.out a (List.mem_of_getElem? ha));obtain⟨b,off,A',n',c',rfl,dL,f0,f1,f2,f3,yP,hn',_,hnm⟩:=wG HL.out ha;have kC:b<w.heap.size:=(by omega);have d0:=(hst.2.cell (p:=⟨b,off+k*4,none⟩) kC).trans f0;have d1:=(hst.2.cell (p:=⟨b,off+k*4+1,none⟩) kC).trans f1;have d2:=(hst.2.cell (p:=⟨b,off+k*4+2,none⟩) kC).trans f2;have d3:=(hst.2.cell (p:=⟨b,off+k*4+3,none⟩) kC).trans f3;clear f0 f1 f2 f3;have VT:=Lib.hid yP;have jq:=Lib.hid (lB.alloc hst (.cells #[.int .i64 a.kind,.int .i32 a.rune,.slice A' n' c',.string a.name] 167));have OW:=Lib.hid (ak.new wr 167 #[.int .i64 a.kind,.int .i32 a.rune,.slice A' n' c',.string a.name]);have fh:=Lib.hid bf;have qh:=Lib.hid ha;clear yP hn' bf hst;rcases hka with ⟨hk1,hk2⟩ | ⟨hk1,hk2⟩ | ⟨hk1,hk2⟩
  ·have rq:=Lib.hid (show vC LP a=some [(a.rune,a.rune)] by unfold vC;rw [if_pos hk1]);have q1:(a.kind == 1)=true:=(by rw [hk1];rfl);clear hk1 hk2;have vc:=lB.alloc jq.out (.cells #[.int .i32 a.rune,.int .i32 a.rune] 112);have hux:=di.new (w:=wr.alloc (.cells #[.int .i64 a.kind,.int .i32 a.rune,.slice A' n' c',.string a.name] 167)) (X:=OT B w.heap.size u6) (n:=1) (sz:=2) 112 [.int .i32 a.rune,.int .i32 a.rune] rfl (by
    obtain⟨⟨css,g1,g2,g3,g4⟩,g5⟩:=jq.out;exact⟨.inr g5.size,yg g4 (.inr (Nat.le_refl _))⟩)
   rw [show(wr.alloc (.cells #[.int .i64 a.kind,.int .i32 a.rune,.slice A' n' c',.string a.name] 167)).heap.size=wr.heap.size+1 by simp]at hux;have HU:=Lib.hid (show iQ ((wr.alloc (.cells #[.int .i64 a.kind,.int .i32 a.rune,.slice A' n' c',.string a.name] 167)).alloc (.cells #[.int .i32 a.rune,.int .i32 a.rune] 112)) (OT B w.heap.size u6) [(a.rune,a.rune)] (.slice (some ⟨wr.heap.size+1,0,none⟩) 1 1) from⟨_,_,_,rfl,hux,by decide⟩);have Q6:=Lib.hid vc;clear vc hux;obtain⟨⟨css,g1,g2,g3,g4⟩,g5⟩:=Q6.out;have hN:=Rd.new ((wr.alloc (.cells #[.int .i64 a.kind,.int .i32 a.rune,.slice A' n' c',.string a.name] 167)).alloc (.cells #[.int .i32 a.rune,.int .i32 a.rune] 112)) 44 1 1 [.slice (some ⟨wr.heap.size+1,0,none⟩) 1 1] rfl;rw [show((wr.alloc (.cells #[.int .i64 a.kind,.int .i32 a.rune,.slice A' n' c',.string a.name] 167)).alloc (.cells #[.int .i32 a.rune,.int .i32 a.rune] 112)).heap.size=wr.heap.size+1+1 by simp]at hN;have HN:=Lib.hid hN;have HO:=Lib.hid (World.ownsRow.alloc g4 (.cells #[.slice (some ⟨wr.heap.size+1,0,none⟩) 1 1] 44));have HZ:=Lib.hid ((g5.alloc g5.size (.cells #[.slice (some ⟨wr.heap.size+1,0,none⟩) 1 1] 44)).size);have G1:=Lib.hid g1;have G2:=Lib.hid g2;have G3:=Lib.hid g3;have G4:=Lib.hid g4;have G5:=Lib.hid g5;clear g1 g2 g3 g4 g5 hN;go_wp2_with (at_builtin;refine ai _ rfl (.tmp 35) (.tmp 42) 134 rfl w.heap.size 44 i0 _ 1 24 Tryz.underlying134 hi hz0 rj sY rfl (by decide) _ _ _ rfl HO.out _ (some ⟨wr.heap.size+1+1,0,none⟩) 1 1 [.slice (some ⟨wr.heap.size+1,0,none⟩) 1 1] rfl HN.out ?one1 (by simp only [maxLen];omega) (by omega) HZ.out ?_);(case one1=>intro x hx;simp at hx;subst hx;rfl);intro v9 w9 an
   have fW:=Lib.hid (lB.push G1.out G2.out G3.out G4.out G5.out HU.out an);clear an;go_wp2_with fail;exact⟨⟨k+1,ll++[_],by omega,by go_num,qH qh.out fh.out rq.out,fW.out⟩,by simp [intOf];omega⟩
  ·have rq:=Lib.hid (show vC LP a=some a.set by unfold vC;rw [hk1,if_neg (by decide),if_pos rfl]);have q1:(a.kind == 1)=false:=(by rw [hk1];rfl);have q2:(a.kind == 2)=true:=(by rw [hk1];rfl);have FO:=pn hk2;have hlen:=mX.len VT.out;have hn2:n'≤1000:=(by omega);clear hk1 hk2 hlen FO;go_wp2_with fail;refine(pE A' n' c' B a.set _ (Rd.below VT.out (jq.out.2.mono hB)) hn2).mono ?_;rintro e wx ⟨⟨u,rfl,hu⟩,hb⟩;have Q6:=Lib.hid (lB.below jq.out hb);have Qr:=hu;obtain⟨A7,n7,c7,rfl,_⟩:=Qr;have HU:=Lib.hid (show iQ wx (OT B w.heap.size u6) a.set (.slice A7 n7 c7) from iQ.keep (ag.refl (fun b hb=>by
    have g:=jq.out;obtain⟨⟨css,g1,g2,g3,g4⟩,g5⟩:=g;exact⟨.inr (Nat.le_trans g5.size hb),yg g4 (.inr hb)⟩)) hu)
   clear hu hb;obtain⟨⟨css,g1,g2,g3,g4⟩,g5⟩:=Q6.out;have HN:=Lib.hid (Rd.new wx 44 1 1 [(.slice A7 n7 c7)] rfl);have HO:=Lib.hid (World.ownsRow.alloc g4 (.cells #[(.slice A7 n7 c7)] 44));have HZ:=Lib.hid (Nat.le_trans g5.size (show wx.heap.size≤(wx.alloc (.cells #[(.slice A7 n7 c7)] 44)).heap.size by simp));have G1:=Lib.hid g1;have G2:=Lib.hid g2;have G3:=Lib.hid g3;have G4:=Lib.hid g4;have G5:=Lib.hid g5;clear g1 g2 g3 g4 g5;go_wp2_with (at_builtin;refine ai _ rfl (.tmp 46) (.tmp 50) 134 rfl w.heap.size 44 i0 _ 1 24 Tryz.underlying134 hi hz0 rj sY rfl (by decide) _ _ _ rfl HO.out _ (some ⟨wx.heap.size,0,none⟩) 1 1 [(.slice A7 n7 c7)] rfl HN.out ?one2 (by simp only [maxLen];omega) (by omega) HZ.out ?_);(case one2=>intro x hx;simp at hx;subst hx;rfl);intro v9 w9 an;have fW:=Lib.hid (lB.push G1.out G2.out G3.out G4.out G5.out HU.out an);clear an;go_wp2_with fail;exact⟨⟨k+1,ll++[_],by omega,by go_num,qH qh.out fh.out rq.out,fW.out⟩,by simp [intOf];omega⟩
  have hsp:vC LP a=fY LP a.name:=(by unfold vC;rw [hk1,if_neg (by decide),if_neg (by decide)]);have q1:(a.kind == 1)=false:=(by rw [hk1];rfl);have q2:(a.kind == 2)=false:=(by rw [hk1];rfl);clear hk1 hk2;have he1:=fU.keep (X':=(· < B)) (ag.below jq.out.2 (fun _ h _=>h)) (jq.out.2.block mb hmb) HE.out;obtain⟨D,hD,_,lz⟩:=he1;have lz:=lz a.name;have HD:=Lib.hid hD;clear hD;cases hlk:fY LP a.name with
  | none=>
   rw [hlk]at lz;have rq:=Lib.hid (hsp.trans hlk);have Ub:=Lib.hid lz.1;have T5:=Lib.hid lz.2;clear hsp hlk lz;go_wp2_with (at_lookup;refine nM rfl (.tmp 20) (.tmp 22) rfl mb nm D rfl HD.out a.name rfl hnm (.slice none 0 0) false Ub.out T5.out ?_);go_ret2;rw [Hq qh.out rq.out];exact⟨rfl,jq.out.2⟩
  | some s=>
   rw [hlk]at lz;obtain⟨u,h1,h2,h3⟩:=lz;obtain⟨A6,n6,c6,rfl,hrd,_⟩:=h3;have rq:=Lib.hid (hsp.trans hlk);have Ub:=Lib.hid h1;have T5:=Lib.hid h2;have FO:=Nu.out a.name s hlk;have Hj:Rd (wr.alloc (.cells #[.int .i64 a.kind,.int .i32 a.rune,.slice A' n' c',.string a.name] 167)) B 2 A6 n6 (aj s):=di.rd hrd (fun _ h _=>h);have hlen:=mX.len Hj;have hn2:n6≤1000:=(by omega);have qn:=Lib.hid Hj;clear hsp hlk h1 h2 hrd FO Hj hlen;go_wp2_with (at_lookup;refine nM rfl (.tmp 20) (.tmp 22) rfl mb nm D rfl HD.out a.name rfl hnm (.slice A6 n6 c6) true Ub.out T5.out ?_);refine(pE A6 n6 c6 B s _ qn.out hn2).mono ?_;rintro e wx ⟨⟨u,rfl,hu⟩,hb⟩;have Q6:=Lib.hid (lB.below jq.out hb);have Qr:=hu;obtain⟨A7,n7,c7,rfl,_⟩:=Qr;have HU:=Lib.hid (show iQ wx (OT B w.heap.size u6) s (.slice A7 n7 c7) from iQ.keep (ag.refl (fun b hb=>by
    have g:=jq.out;obtain⟨⟨css,g1,g2,g3,g4⟩,g5⟩:=g;exact⟨.inr (Nat.le_trans g5.size hb),yg g4 (.inr hb)⟩)) hu)
   clear hu hb;obtain⟨⟨css,g1,g2,g3,g4⟩,g5⟩:=Q6.out;have HN:=Lib.hid (Rd.new wx 44 1 1 [(.slice A7 n7 c7)] rfl);have HO:=Lib.hid (World.ownsRow.alloc g4 (.cells #[(.slice A7 n7 c7)] 44));have HZ:=Lib.hid (Nat.le_trans g5.size (show wx.heap.size≤(wx.alloc (.cells #[(.slice A7 n7 c7)] 44)).heap.size by simp));have G1:=Lib.hid g1;have G2:=Lib.hid g2;have G3:=Lib.hid g3;have G4:=Lib.hid g4;have G5:=Lib.hid g5;clear g1 g2 g3 g4 g5;go_wp2_with (at_builtin;refine ai _ rfl (.tmp 28) (.tmp 31) 134 rfl w.heap.size 44 i0 _ 1 24 Tryz.underlying134 hi hz0 rj sY rfl (by decide) _ _ _ rfl HO.out _ (some ⟨wx.heap.size,0,none⟩) 1 1 [(.slice A7 n7 c7)] rfl HN.out ?one3 (by simp only [maxLen];omega) (by omega) HZ.out ?_);(case one3=>intro x hx;simp at hx;subst hx;rfl);intro v9 w9 an;have fW:=Lib.hid (lB.push G1.out G2.out G3.out G4.out G5.out HU.out an);clear an;go_wp2_with fail;exact⟨⟨k+1,ll++[_],by omega,by go_num,qH qh.out fh.out rq.out,fW.out⟩,by simp [intOf];omega⟩
 obtain rfl:k=n2:=(by omega);rw [List.take_of_length_le (by rw [aY.out];omega)]at bf;have HG:=Lib.hid bf;have HS:=Lib.hid hst;clear bf hst;obtain⟨AO,cO,rfl,_⟩:=HS.out.1.form;go_wp2_with fail;go_ret2;rw [HG.out];exact⟨⟨_,rfl,lB.post HS.out (by unfold maxLen;omega)⟩,HS.out.2⟩
end Go.Proofs.YtapechjebkjidaaGreatDoor
namespace Go.Proofs.YtapechjebkjidaaGreatDoor
open Go.RowKit Go.Maps
theorem Md:(Tryz.prog.info? 21).map (fun i=>(i.zero,i.size,i.bytes))=some (some (.int .i32 0),1,4):=by kernel_rfl
theorem Ci {w:World} {B lo:Nat} {r:Option (List af)} {e:Ending} (h:Nl w B lo r e) :
    ∃ A n c b,e=.returned (.tuple #[.slice A n c,.bool b])∧b=r.isSome∧∀ ll,r=some ll→gj w (Fr B lo) ll (.slice A n c):=by
 cases r with
 | none=>exact⟨none,0,0,false,h,rfl,fun _ h=>by cases h⟩
 | some ll=>
  obtain⟨u,rfl,hu⟩:=h;have Qr:=hu;obtain⟨A,n,c,rfl,_⟩:=Qr;exact⟨A,n,c,true,rfl,rfl,fun _ h=>by cases h;exact hu⟩
abbrev i4:Array Value:=#[.bool false,.bool false,.slice none 0 0,.slice none 0 0,.slice none 0 0,.slice none 0 0,.int .i64 0]
def Ay (w:World) (wB vR:Array Value) (wx:World):Prop :=
  ak wx w.heap.size 95 wB∧ak wx (w.heap.size+1) 95 vR∧ak wx (w.heap.size+2) 136 i4∧Below w.heap.size w wx
theorem Ay.made (w:World) (wB vR:Array Value):Ay w wB vR (((w.alloc (.cells wB 95)).alloc (.cells vR 95)).alloc (.cells i4 136)):=by
 refine⟨ak.alloc (ak.alloc (ak.new _ _ _) _) _,?_,?_,(((Below.refl _ _).alloc (Nat.le_refl _) _).alloc (by simp) _).alloc (by simp;omega) _⟩
 ·have:=ak.alloc (ak.new (w.alloc (.cells wB 95)) 95 vR) (.cells i4 136);simpa using this
 have:=ak.new ((w.alloc (.cells wB 95)).alloc (.cells vR 95)) 136 i4;simpa using this
theorem Ay.below {w wx w2:World} {wB vR:Array Value} (h:Ay w wB vR wx) (hb:Below wx.heap.size wx w2):Ay w wB vR w2 :=
  ⟨ak.below h.1 hb h.1.lt,ak.below h.2.1 hb h.2.1.lt,ak.below h.2.2.1 hb h.2.2.1.lt,h.2.2.2.trans (hb.mono h.2.2.2.size)⟩
def FR (w:World) (B lo:Nat) (r:Option au) (e:Ending):Prop :=
  ∃ cs:List Value,cs.length=7∧e=.returned (.tuple #[.agg cs.toArray,.bool r.isSome])∧(∀ u∈cs,u.oneCell'=true)∧∀ rd,r=some rd→bE w (Fr B lo) rd cs
theorem No {L:List aG} {k:Nat} {a:aG} (h:L[k]? = some a):(L.take (k+1)).map (·.rune)=(L.take k).map (·.rune)++[a.rune]:=by
 rw [List.take_add_one,h];simp
theorem su (l:List aI) (f t:cn):(eX l f t).isSome=((cB l f.before).isSome && (cB l f.source).isSome && (cB l f.after).isSome):=by
 unfold eX;cases cB l f.before <;> cases cB l f.source <;> cases cB l f.after <;> rfl
theorem KF {l:List aI} {f t:cn} {rd:au} (h:eX l f t=some rd):∃ a b c,cB l f.before=some a∧cB l f.source=some b∧cB l f.after=some c ∧
    rd=⟨f.start,f.fin,a,b,c,t.source.map (·.rune),if t.aa<0 then (t.source.length:Int)else t.aa⟩:=by
 unfold eX at h;cases h1:cB l f.before with
 | none=>rw [h1]at h;cases h
 | some a=>
  cases h2:cB l f.source with
  | none=>rw [h1,h2]at h;cases h
  | some b=>
   cases h3:cB l f.after with
   | none=>rw [h1,h2,h3]at h;cases h
   | some c=>
    rw [h1,h2,h3]at h;cases h;exact⟨a,b,c,rfl,rfl,rfl,rfl⟩
abbrev OH (w:World) (g:Nat) (u0 u1 u2 u3 u4 u5 u6:Value):World :=
  ((((((w.setCell ⟨g,0,none⟩ u0).setCell ⟨g,1,none⟩ u1).setCell ⟨g,2,none⟩ u2).setCell ⟨g,3,none⟩ u3).setCell ⟨g,4,none⟩ u4).setCell ⟨g,5,none⟩ u5).setCell ⟨g,6,none⟩ u6
theorem Rr {w:World} {X:Nat→Prop} {g:Nat} (h:∀ b,X b→b≠g) (u0 u1 u2 u3 u4 u5 u6:Value):ag w X (OH w g u0 u1 u2 u3 u4 u5 u6) X:=by
 have one:∀ (w:World) (i:Nat) (u:Value),ag w X (w.setCell ⟨g,i,none⟩ u) X:=fun w i u=>ag.setCell u (fun b hb=>h b hb) (fun _ h _=>h);exact((((((one _ 0 u0).trans (one _ 1 u1)).trans (one _ 2 u2)).trans (one _ 3 u3)).trans (one _ 4 u4)).trans (one _ 5 u5)).trans (one _ 6 u6)
theorem Cl {w w0:World} {g B:Nat} (h:Below B w0 w) (hg:B≤g) (u0 u1 u2 u3 u4 u5 u6:Value):Below B w0 (OH w g u0 u1 u2 u3 u4 u5 u6) :=
  ((((((h.setCell hg _).setCell hg _).setCell hg _).setCell hg _).setCell hg _).setCell hg _).setCell hg _
end Go.Proofs.YtapechjebkjidaaGreatDoor
namespace Go.Proofs.YtapechjebkjidaaGreatDoor
open Go.RowKit Go.Maps
def kg (w:World) (wB vR O5 arr:Array Value) (wx:World):Prop :=
  ak wx w.heap.size 95 wB∧ak wx (w.heap.size+1) 95 vR∧ak wx (w.heap.size+2) 136 i4 ∧
  ak wx (w.heap.size+3) 136 O5∧ak wx (w.heap.size+4) 162 arr∧Below w.heap.size w wx
section
variable {w wx w2 : World} {wB vR O5 arr : Array Value}
theorem kg.below (h:kg w wB vR O5 arr wx) (hb:Below wx.heap.size wx w2):kg w wB vR O5 arr w2 :=
  ⟨ak.below h.1 hb h.1.lt,ak.below h.2.1 hb h.2.1.lt,ak.below h.2.2.1 hb h.2.2.1.lt,ak.below h.2.2.2.1 hb h.2.2.2.1.lt,ak.below h.2.2.2.2.1 hb h.2.2.2.2.1.lt,h.2.2.2.2.2.trans (hb.mono h.2.2.2.2.2.size)⟩
theorem kg.alloc (h:kg w wB vR O5 arr wx) (o:Obj):kg w wB vR O5 arr (wx.alloc o):=h.below ((Below.refl _ _).alloc (Nat.le_refl _) o)
theorem kg.put (h:kg w wB vR O5 arr wx) (i:Nat) (u:Value):kg w wB vR (O5.setIfInBounds i u) arr (wx.setCell ⟨w.heap.size+3,i,none⟩ u) :=
  ⟨av h.1 (by omega),av h.2.1 (by omega),av h.2.2.1 (by omega),h.2.2.2.1.put i u,av h.2.2.2.2.1 (by omega),h.2.2.2.2.2.setCell (by simp) _⟩
theorem kg.app {base sz n m:Nat} {e:TypeId} {v v':Value} {xs ys:List Value} (h:kg w wB vR O5 arr wx) (ho:wx.ownsRow base e sz v n xs) (h1 : 95 ≠ e) (h2 : 136 ≠ e) (h3 : 162 ≠ e) (hb:w.heap.size≤base) (ha:aS base e sz v wx m ys v' w2):kg w wB vR O5 arr w2 :=
  ⟨bH h.1 ho h1 ha,bH h.2.1 ho h1 ha,bH h.2.2.1 ho h2 ha,bH h.2.2.2.1 ho h2 ha,bH h.2.2.2.2.1 ho h3 ha,h.2.2.2.2.2.trans (ha.below h.2.2.2.2.2.size (jD ho hb))⟩
end
def Laid (w:World) (B lo:Nat) (r:Option (List af)) (v:Value):Prop:=∃ A n c ll,v=.slice A n c∧r=some ll∧gj w (Fr B lo) ll v
theorem Laid.keep {w w':World} {B lo:Nat} {r:Option (List af)} {v:Value} (hk:ag w (Fr B lo) w' (Fr B lo)) (h:Laid w B lo r v):Laid w' B lo r v:=by
 obtain⟨A,n,c,ll,e,h1,h2⟩:=h;exact⟨A,n,c,ll,e,h1,h2.keep hk⟩
def VY (w:World) (B:Nat) (wB vR arr:Array Value) (c0 c1:Value) (r1 r2 r3:Option (List af)) (i:Value) (wr:World):Prop :=
  ∃ (k:Nat) (v1 v2 v3:Value),k≤3∧i=.int .i64 k∧kg w wB vR #[c0,c1,v1,v2,v3,.slice none 0 0,.int .i64 0] arr wr ∧
    (if k<1 then v1=.slice none 0 0 else Laid wr B (w.heap.size+5) r1 v1)∧(if k<2 then v2=.slice none 0 0 else Laid wr B (w.heap.size+5) r2 v2)∧(if k<3 then v3=.slice none 0 0 else Laid wr B (w.heap.size+5) r3 v3)
def XH (w w0:World) (B:Nat) (wB vR arr:Array Value) (c0 c1 c2 c3 c4:Value) (L:List aG) (n:Nat) (i:Value) (wr:World):Prop :=
  ∃ (k:Nat) (v:Value),k≤n∧i=.int .i64 k∧kg w wB vR #[c0,c1,c2,c3,c4,v,.int .i64 0] arr wr∧wr.ownsRow w0.heap.size 21 1 v k (runeCells ((L.take k).map (·.rune))) ∧
    ag w0 (Fr B (w.heap.size+5)) wr (fun b=>Fr B (w.heap.size+5) b∧b<w0.heap.size)∧w0.heap.size≤wr.heap.size
theorem CF {w:World} {B lo:Nat} {l:List aI} {f t:cn} {cs:List Value} (h:((cB l f.before).isSome && (cB l f.source).isSome && (cB l f.after).isSome)=false) (hc:cs.length=7) (h1:∀ u∈cs,u.oneCell'=true) :
    FR w B lo (eX l f t) (.returned (.tuple #[.agg cs.toArray,.bool false])):=by
 have hn:=(su l f t).trans h;refine⟨cs,hc,by rw [hn],h1,fun rd hr=>?_⟩;rw [hr]at hn;cases hn
theorem DO (mb nm:Nat) (LP:List aI) (f t:cn) (L1 L2 L3 R1 R2 R3:Option Addr) (a1 a2 a3 x1 x2 x3 b1 b2 b3 y1 y2 y3:Nat) (w:World) (B:Nat) (hB:B≤w.heap.size) (hE:fU w (· < B) mb nm LP) (MC:∀ s set,fY LP s=some set→set.length≤200)
    (l1:bX w B L1 a1 f.before) (l2:bX w B L2 a2 f.source) (l3:bX w B L3 a3 f.after) (k1:cC f.before=0) (k2:cC f.source=0) (k3:cC f.after=0) (r2:bX w B R2 b2 t.source) (j2:cC t.source=0) :
    Calls Tryz.prog 90 #[.map (some mb),.agg #[.bool f.start,.bool f.fin,.slice L1 a1 x1,.slice L2 a2 x2,.slice L3 a3 x3,.int .i64 f.aa],.agg #[.bool t.start,.bool t.fin,.slice R1 b1 y1,.slice R2 b2 y2,.slice R3 b3 y3,.int .i64 t.aa]] w
      fun e w'=>FR w' B w.heap.size (eX LP f t) e∧Below w.heap.size w w':=by
 obtain⟨i0,hi,hz0,rj,sY⟩:=info_parts Md;obtain⟨h20,_⟩:=E4 j2;have af5:b2≤20:=(by rw [← kD.len r2];exact h20);have Z8:=Lib.hid (kD.len r2);have iW:=Lib.hid r2;have hs:=fun(w':World) (hb:Below w.heap.size w w') (A':Option Addr) (n' c':Nat) (L:List aG) (hL:bX w B A' n' L) (hok:cC L=0)=>Mc mb nm LP A' n' c' L w' B (Nat.le_trans hB hb.size) (fU.keep (ag.below hb (fun _ h _=>h)) (hb.block mb hE.lt) hE) MC (bX.weak (gA (hb.mono hB) (Nat.le_refl _)) hL) hok;have jq:=Lib.hid (fun(w':World) (hb:Below w.heap.size w w')=>hs w' hb L1 a1 x1 f.before l1 k1);have ld:=Lib.hid (fun(w':World) (hb:Below w.heap.size w w')=>hs w' hb L2 a2 x2 f.source l2 k2);have Ki:=Lib.hid (fun(w':World) (hb:Below w.heap.size w w')=>hs w' hb L3 a3 x3 f.after l3 k3);have hx0:=Ay.made w #[.bool f.start,.bool f.fin,.slice L1 a1 x1,.slice L2 a2 x2,.slice L3 a3 x3,.int .i64 f.aa] #[.bool t.start,.bool t.fin,.slice R1 b1 y1,.slice R2 b2 y2,.slice R3 b3 y3,.int .i64 t.aa];have hx1:kg w #[.bool f.start,.bool f.fin,.slice L1 a1 x1,.slice L2 a2 x2,.slice L3 a3 x3,.int .i64 f.aa] #[.bool t.start,.bool t.fin,.slice R1 b1 y1,.slice R2 b2 y2,.slice R3 b3 y3,.int .i64 t.aa] #[.bool f.start,.bool f.fin,.slice none 0 0,.slice none 0 0,.slice none 0 0,.slice none 0 0,.int .i64 0] #[.slice L1 a1 x1,.pointer (some ⟨w.heap.size+3,2,none⟩),.slice L2 a2 x2,.pointer (some ⟨w.heap.size+3,3,none⟩),.slice L3 a3 x3,.pointer (some ⟨w.heap.size+3,4,none⟩)] ((((((w.alloc (.cells #[.bool f.start,.bool f.fin,.slice L1 a1 x1,.slice L2 a2 x2,.slice L3 a3 x3,.int .i64 f.aa] 95)).alloc (.cells #[.bool t.start,.bool t.fin,.slice R1 b1 y1,.slice R2 b2 y2,.slice R3 b3 y3,.int .i64 t.aa] 95)).alloc (.cells i4 136))).alloc (.cells #[.bool f.start,.bool f.fin,.slice none 0 0,.slice none 0 0,.slice none 0 0,.slice none 0 0,.int .i64 0] 136)).alloc (.cells #[.slice L1 a1 x1,.pointer (some ⟨w.heap.size+3,2,none⟩),.slice L2 a2 x2,.pointer (some ⟨w.heap.size+3,3,none⟩),.slice L3 a3 x3,.pointer (some ⟨w.heap.size+3,4,none⟩)] 162)):=by
  obtain⟨g1,g2,g3,g4⟩:=hx0;refine⟨ak.alloc (ak.alloc g1 _) _,ak.alloc (ak.alloc g2 _) _,ak.alloc (ak.alloc g3 _) _,ak.alloc ?_ _,?_,(g4.alloc g4.size _).alloc (g4.alloc g4.size _).size _⟩
  ·have:=ak.new (((w.alloc (.cells #[.bool f.start,.bool f.fin,.slice L1 a1 x1,.slice L2 a2 x2,.slice L3 a3 x3,.int .i64 f.aa] 95)).alloc (.cells #[.bool t.start,.bool t.fin,.slice R1 b1 y1,.slice R2 b2 y2,.slice R3 b3 y3,.int .i64 t.aa] 95)).alloc (.cells i4 136)) 136 #[.bool f.start,.bool f.fin,.slice none 0 0,.slice none 0 0,.slice none 0 0,.slice none 0 0,.int .i64 0];simpa using this
  have:=ak.new ((((w.alloc (.cells #[.bool f.start,.bool f.fin,.slice L1 a1 x1,.slice L2 a2 x2,.slice L3 a3 x3,.int .i64 f.aa] 95)).alloc (.cells #[.bool t.start,.bool t.fin,.slice R1 b1 y1,.slice R2 b2 y2,.slice R3 b3 y3,.int .i64 t.aa] 95)).alloc (.cells i4 136)).alloc (.cells #[.bool f.start,.bool f.fin,.slice none 0 0,.slice none 0 0,.slice none 0 0,.slice none 0 0,.int .i64 0] 136)) 162 #[.slice L1 a1 x1,.pointer (some ⟨w.heap.size+3,2,none⟩),.slice L2 a2 x2,.pointer (some ⟨w.heap.size+3,3,none⟩),.slice L3 a3 x3,.pointer (some ⟨w.heap.size+3,4,none⟩)];simpa using this
 have Ls:=Lib.hid hx1;clear hs l1 l2 l3 r2 k1 k2 k3 j2 h20 hx0 hx1 hE MC;go_enter Tryz.func90,Tryz.ntmps90;go_wp2_with fail;go_loopw [34] (VY w B #[.bool f.start,.bool f.fin,.slice L1 a1 x1,.slice L2 a2 x2,.slice L3 a3 x3,.int .i64 f.aa] #[.bool t.start,.bool t.fin,.slice R1 b1 y1,.slice R2 b2 y2,.slice R3 b3 y3,.int .i64 t.aa] #[.slice L1 a1 x1,.pointer (some ⟨w.heap.size+3,2,none⟩),.slice L2 a2 x2,.pointer (some ⟨w.heap.size+3,3,none⟩),.slice L3 a3 x3,.pointer (some ⟨w.heap.size+3,4,none⟩)] (.bool f.start) (.bool f.fin) (cB LP f.before) (cB LP f.source) (cB LP f.after)) (fun i _=>3 - (intOf i).toNat);(case atStart=>exact⟨0,_,_,_,by omega,rfl,Ls.out,by simp,by simp,by simp⟩);obtain⟨k,v1,v2,v3,hk,rfl,lz,g1,g2,g3⟩:=hrel;by_cases hlt:k<3
 ·obtain rfl | rfl | rfl:k=0∨k=1∨k=2:=(by omega)
  ·obtain rfl:v1=.slice none 0 0:=(by simpa using g1);obtain rfl:v2=.slice none 0 0:=(by simpa using g2);obtain rfl:v3=.slice none 0 0:=(by simpa using g3);clear g1 g2 g3;have z0:wr.cell? ⟨w.heap.size+4,0,none⟩=some (.slice L1 a1 x1):=lz.2.2.2.2.1.cell 0;have z1:wr.cell? ⟨w.heap.size+4,1,none⟩=some (.pointer (some ⟨w.heap.size+3,2,none⟩)):=lz.2.2.2.2.1.cell 1;have uZ:=Lib.hid (kg.alloc lz (.cells #[.slice L1 a1 x1,.pointer (some ⟨w.heap.size+3,2,none⟩)] 162));have HK:=Lib.hid (ak.new wr 162 #[.slice L1 a1 x1,.pointer (some ⟨w.heap.size+3,2,none⟩)]);clear lz;go_wp2_with fail;refine(jq.out _ uZ.out.2.2.2.2.2).mono ?_;rintro e w2 ⟨he,aL⟩;obtain⟨A9,n9,c9,o9,rfl,lE,CR⟩:=Ci he;have aZ:=kg.below uZ.out aL;have hk2:=ak.below HK.out aL HK.out.lt;have t0:w2.cell? ⟨w.heap.size+3,0,none⟩=some (.bool f.start):=aZ.2.2.2.1.cell 0;have t1:w2.cell? ⟨w.heap.size+3,1,none⟩=some (.bool f.fin):=aZ.2.2.2.1.cell 1;have t2:w2.cell? ⟨w.heap.size+3,2,none⟩=some (.slice none 0 0):=aZ.2.2.2.1.cell 2;have t3:w2.cell? ⟨w.heap.size+3,3,none⟩=some (.slice none 0 0):=aZ.2.2.2.1.cell 3;have t4:w2.cell? ⟨w.heap.size+3,4,none⟩=some (.slice none 0 0):=aZ.2.2.2.1.cell 4;have t5:w2.cell? ⟨w.heap.size+3,5,none⟩=some (.slice none 0 0):=aZ.2.2.2.1.cell 5;have t6:w2.cell? ⟨w.heap.size+3,6,none⟩=some (.int .i64 0):=aZ.2.2.2.1.cell 6;have s0:w2.cell? ⟨w.heap.size+2,0,none⟩=some (.bool false):=aZ.2.2.1.cell 0;have sf0:=aZ.2.2.1.frozen 0;have s1:w2.cell? ⟨w.heap.size+2,1,none⟩=some (.bool false):=aZ.2.2.1.cell 1;have ZI:=aZ.2.2.1.frozen 1;have s2:w2.cell? ⟨w.heap.size+2,2,none⟩=some (.slice none 0 0):=aZ.2.2.1.cell 2;have sf2:=aZ.2.2.1.frozen 2
   have s3:w2.cell? ⟨w.heap.size+2,3,none⟩=some (.slice none 0 0):=aZ.2.2.1.cell 3;have sf3:=aZ.2.2.1.frozen 3;have s4:w2.cell? ⟨w.heap.size+2,4,none⟩=some (.slice none 0 0):=aZ.2.2.1.cell 4;have sf4:=aZ.2.2.1.frozen 4;have s5:w2.cell? ⟨w.heap.size+2,5,none⟩=some (.slice none 0 0):=aZ.2.2.1.cell 5;have sf5:=aZ.2.2.1.frozen 5;have s6:w2.cell? ⟨w.heap.size+2,6,none⟩=some (.int .i64 0):=aZ.2.2.1.cell 6;have sf6:=aZ.2.2.1.frozen 6;have m1:w2.cell? ⟨wr.heap.size,1,none⟩=some (.pointer (some ⟨w.heap.size+3,2,none⟩)):=hk2.cell 1;have mf:=aZ.2.2.2.1.frozen 2;have E7:=Lib.hid aZ;have aW:=Lib.hid aL;have jw:=Lib.hid lE;have PZ:=Lib.hid CR;have Sc:=aZ.2.2.2.2.1.lt;clear he aZ hk2 aL lE CR;cases o9
   ·go_wp2_with fail;exact bodyPost_ret (by simp [results,Tryz.results90,go_sem,s0,s1,s2,s3,s4,s5,s6]) rfl ⟨CF (cs:=[.bool f.start,.bool f.fin,.slice none 0 0,.slice none 0 0,.slice none 0 0,.slice none 0 0,.int .i64 0]) (by rw [← jw.out];simp) rfl (by intro u hu;simp only [List.mem_cons,List.not_mem_nil,or_false]at hu;rcases hu with rfl | rfl | rfl | rfl | rfl | rfl | rfl <;> rfl),Cl E7.out.2.2.2.2.2 (by omega) _ _ _ _ _ _ _⟩
   go_wp2_with fail;obtain⟨Rs,Fa⟩:=Option.isSome_iff_exists.1 jw.out.symm;have kk:ag w2 (Fr B (w.heap.size+5)) (w2.setCell ⟨w.heap.size+3,2,none⟩ (.slice A9 n9 c9)) (Fr B (w.heap.size+5)):=ag.setCell _ (fun b hb=>by rcases hb with h | h <;> dsimp only <;> omega) (fun _ h _=>h);refine⟨⟨1,.slice A9 n9 c9,.slice none 0 0,.slice none 0 0,by omega,by go_num,E7.out.put 2 (.slice A9 n9 c9),by rw [if_neg (by omega)];exact⟨_,_,_,Rs,rfl,Fa,(PZ.out Rs Fa).keep ((ag.refl (X':=Fr B (w.heap.size+5)) (fun b hb=>hb.imp id (fun h=>Nat.le_trans (Nat.succ_le_of_lt uZ.out.2.2.2.2.1.lt) h))).trans kk)⟩,by rw [if_pos (by omega)],by rw [if_pos (by omega)]⟩,by simp [intOf]⟩
  ·obtain⟨P1,p1,q1,ll1,rfl,nV,Lx⟩:=(show Laid wr B (w.heap.size+5) _ _ from by simpa using g1);obtain rfl:v2=.slice none 0 0:=(by simpa using g2);obtain rfl:v3=.slice none 0 0:=(by simpa using g3);clear g1 g2 g3;have z0:wr.cell? ⟨w.heap.size+4,2,none⟩=some (.slice L2 a2 x2):=lz.2.2.2.2.1.cell 2;have z1:wr.cell? ⟨w.heap.size+4,3,none⟩=some (.pointer (some ⟨w.heap.size+3,3,none⟩)):=lz.2.2.2.2.1.cell 3;have uZ:=Lib.hid (kg.alloc lz (.cells #[.slice L2 a2 x2,.pointer (some ⟨w.heap.size+3,3,none⟩)] 162));have HK:=Lib.hid (ak.new wr 162 #[.slice L2 a2 x2,.pointer (some ⟨w.heap.size+3,3,none⟩)]);have Lz:=Lib.hid (Lx.keep (ag.alloc (.cells #[.slice L2 a2 x2,.pointer (some ⟨w.heap.size+3,3,none⟩)] 162) (fun _ h _=>h)));have LC:=Lib.hid nV;clear lz Lx nV;go_wp2_with fail;refine(ld.out _ uZ.out.2.2.2.2.2).mono ?_;rintro e w2 ⟨he,aL⟩;obtain⟨A9,n9,c9,o9,rfl,lE,CR⟩:=Ci he;have aZ:=kg.below uZ.out aL;have hk2:=ak.below HK.out aL HK.out.lt;have t0:w2.cell? ⟨w.heap.size+3,0,none⟩=some (.bool f.start):=aZ.2.2.2.1.cell 0;have t1:w2.cell? ⟨w.heap.size+3,1,none⟩=some (.bool f.fin):=aZ.2.2.2.1.cell 1;have t2:w2.cell? ⟨w.heap.size+3,2,none⟩=some (.slice P1 p1 q1):=aZ.2.2.2.1.cell 2;have t3:w2.cell? ⟨w.heap.size+3,3,none⟩=some (.slice none 0 0):=aZ.2.2.2.1.cell 3;have t4:w2.cell? ⟨w.heap.size+3,4,none⟩=some (.slice none 0 0):=aZ.2.2.2.1.cell 4;have t5:w2.cell? ⟨w.heap.size+3,5,none⟩=some (.slice none 0 0):=aZ.2.2.2.1.cell 5;have t6:w2.cell? ⟨w.heap.size+3,6,none⟩=some (.int .i64 0):=aZ.2.2.2.1.cell 6;have s0:w2.cell? ⟨w.heap.size+2,0,none⟩=some (.bool false):=aZ.2.2.1.cell 0;have sf0:=aZ.2.2.1.frozen 0
   have s1:w2.cell? ⟨w.heap.size+2,1,none⟩=some (.bool false):=aZ.2.2.1.cell 1;have ZI:=aZ.2.2.1.frozen 1;have s2:w2.cell? ⟨w.heap.size+2,2,none⟩=some (.slice none 0 0):=aZ.2.2.1.cell 2;have sf2:=aZ.2.2.1.frozen 2;have s3:w2.cell? ⟨w.heap.size+2,3,none⟩=some (.slice none 0 0):=aZ.2.2.1.cell 3;have sf3:=aZ.2.2.1.frozen 3;have s4:w2.cell? ⟨w.heap.size+2,4,none⟩=some (.slice none 0 0):=aZ.2.2.1.cell 4;have sf4:=aZ.2.2.1.frozen 4;have s5:w2.cell? ⟨w.heap.size+2,5,none⟩=some (.slice none 0 0):=aZ.2.2.1.cell 5;have sf5:=aZ.2.2.1.frozen 5;have s6:w2.cell? ⟨w.heap.size+2,6,none⟩=some (.int .i64 0):=aZ.2.2.1.cell 6;have sf6:=aZ.2.2.1.frozen 6;have m1:w2.cell? ⟨wr.heap.size,1,none⟩=some (.pointer (some ⟨w.heap.size+3,3,none⟩)):=hk2.cell 1;have mf:=aZ.2.2.2.1.frozen 3;have E7:=Lib.hid aZ;have aW:=Lib.hid aL;have jw:=Lib.hid lE;have PZ:=Lib.hid CR;have Sc:=aZ.2.2.2.2.1.lt;clear he aZ hk2 aL lE CR;cases o9
   ·go_wp2_with fail;exact bodyPost_ret (by simp [results,Tryz.results90,go_sem,s0,s1,s2,s3,s4,s5,s6]) rfl ⟨CF (cs:=[.bool f.start,.bool f.fin,.slice P1 p1 q1,.slice none 0 0,.slice none 0 0,.slice none 0 0,.int .i64 0]) (by rw [← jw.out];simp) rfl (by intro u hu;simp only [List.mem_cons,List.not_mem_nil,or_false]at hu;rcases hu with rfl | rfl | rfl | rfl | rfl | rfl | rfl <;> rfl),Cl E7.out.2.2.2.2.2 (by omega) _ _ _ _ _ _ _⟩
   go_wp2_with fail;obtain⟨Rs,Fa⟩:=Option.isSome_iff_exists.1 jw.out.symm;have kk:ag w2 (Fr B (w.heap.size+5)) (w2.setCell ⟨w.heap.size+3,3,none⟩ (.slice A9 n9 c9)) (Fr B (w.heap.size+5)):=ag.setCell _ (fun b hb=>by rcases hb with h | h <;> dsimp only <;> omega) (fun _ h _=>h);refine⟨⟨2,.slice P1 p1 q1,.slice A9 n9 c9,.slice none 0 0,by omega,by go_num,E7.out.put 3 (.slice A9 n9 c9),by rw [if_neg (by omega)];exact⟨_,_,_,_,rfl,LC.out,Lz.out.keep ((ag.below aW.out (fun _ h _=>h)).trans kk)⟩,by rw [if_neg (by omega)];exact⟨_,_,_,Rs,rfl,Fa,(PZ.out Rs Fa).keep ((ag.refl (X':=Fr B (w.heap.size+5)) (fun b hb=>hb.imp id (fun h=>Nat.le_trans (Nat.succ_le_of_lt uZ.out.2.2.2.2.1.lt) h))).trans kk)⟩,by rw [if_pos (by omega)]⟩,by simp [intOf]⟩
  obtain⟨P1,p1,q1,ll1,rfl,nV,Lx⟩:=(show Laid wr B (w.heap.size+5) _ _ from by simpa using g1);obtain⟨P2,p2,q2,ll2,rfl,jR,ng⟩:=(show Laid wr B (w.heap.size+5) _ _ from by simpa using g2);obtain rfl:v3=.slice none 0 0:=(by simpa using g3);clear g1 g2 g3;have z0:wr.cell? ⟨w.heap.size+4,4,none⟩=some (.slice L3 a3 x3):=lz.2.2.2.2.1.cell 4;have z1:wr.cell? ⟨w.heap.size+4,5,none⟩=some (.pointer (some ⟨w.heap.size+3,4,none⟩)):=lz.2.2.2.2.1.cell 5;have uZ:=Lib.hid (kg.alloc lz (.cells #[.slice L3 a3 x3,.pointer (some ⟨w.heap.size+3,4,none⟩)] 162));have HK:=Lib.hid (ak.new wr 162 #[.slice L3 a3 x3,.pointer (some ⟨w.heap.size+3,4,none⟩)]);have Lz:=Lib.hid (Lx.keep (ag.alloc (.cells #[.slice L3 a3 x3,.pointer (some ⟨w.heap.size+3,4,none⟩)] 162) (fun _ h _=>h)));have LC:=Lib.hid nV;have RU:=Lib.hid (ng.keep (ag.alloc (.cells #[.slice L3 a3 x3,.pointer (some ⟨w.heap.size+3,4,none⟩)] 162) (fun _ h _=>h)));have Ri:=Lib.hid jR;clear lz Lx nV ng jR;go_wp2_with fail;refine(Ki.out _ uZ.out.2.2.2.2.2).mono ?_;rintro e w2 ⟨he,aL⟩;obtain⟨A9,n9,c9,o9,rfl,lE,CR⟩:=Ci he;have aZ:=kg.below uZ.out aL;have hk2:=ak.below HK.out aL HK.out.lt;have t0:w2.cell? ⟨w.heap.size+3,0,none⟩=some (.bool f.start):=aZ.2.2.2.1.cell 0;have t1:w2.cell? ⟨w.heap.size+3,1,none⟩=some (.bool f.fin):=aZ.2.2.2.1.cell 1;have t2:w2.cell? ⟨w.heap.size+3,2,none⟩=some (.slice P1 p1 q1):=aZ.2.2.2.1.cell 2;have t3:w2.cell? ⟨w.heap.size+3,3,none⟩=some (.slice P2 p2 q2):=aZ.2.2.2.1.cell 3;have t4:w2.cell? ⟨w.heap.size+3,4,none⟩=some (.slice none 0 0):=aZ.2.2.2.1.cell 4
  have t5:w2.cell? ⟨w.heap.size+3,5,none⟩=some (.slice none 0 0):=aZ.2.2.2.1.cell 5;have t6:w2.cell? ⟨w.heap.size+3,6,none⟩=some (.int .i64 0):=aZ.2.2.2.1.cell 6;have s0:w2.cell? ⟨w.heap.size+2,0,none⟩=some (.bool false):=aZ.2.2.1.cell 0;have sf0:=aZ.2.2.1.frozen 0;have s1:w2.cell? ⟨w.heap.size+2,1,none⟩=some (.bool false):=aZ.2.2.1.cell 1;have ZI:=aZ.2.2.1.frozen 1;have s2:w2.cell? ⟨w.heap.size+2,2,none⟩=some (.slice none 0 0):=aZ.2.2.1.cell 2;have sf2:=aZ.2.2.1.frozen 2;have s3:w2.cell? ⟨w.heap.size+2,3,none⟩=some (.slice none 0 0):=aZ.2.2.1.cell 3;have sf3:=aZ.2.2.1.frozen 3;have s4:w2.cell? ⟨w.heap.size+2,4,none⟩=some (.slice none 0 0):=aZ.2.2.1.cell 4;have sf4:=aZ.2.2.1.frozen 4;have s5:w2.cell? ⟨w.heap.size+2,5,none⟩=some (.slice none 0 0):=aZ.2.2.1.cell 5;have sf5:=aZ.2.2.1.frozen 5;have s6:w2.cell? ⟨w.heap.size+2,6,none⟩=some (.int .i64 0):=aZ.2.2.1.cell 6;have sf6:=aZ.2.2.1.frozen 6;have m1:w2.cell? ⟨wr.heap.size,1,none⟩=some (.pointer (some ⟨w.heap.size+3,4,none⟩)):=hk2.cell 1;have mf:=aZ.2.2.2.1.frozen 4;have E7:=Lib.hid aZ;have aW:=Lib.hid aL;have jw:=Lib.hid lE;have PZ:=Lib.hid CR;have Sc:=aZ.2.2.2.2.1.lt;clear he aZ hk2 aL lE CR;cases o9
  ·go_wp2_with fail;exact bodyPost_ret (by simp [results,Tryz.results90,go_sem,s0,s1,s2,s3,s4,s5,s6]) rfl ⟨CF (cs:=[.bool f.start,.bool f.fin,.slice P1 p1 q1,.slice P2 p2 q2,.slice none 0 0,.slice none 0 0,.int .i64 0]) (by rw [← jw.out];simp) rfl (by intro u hu;simp only [List.mem_cons,List.not_mem_nil,or_false]at hu;rcases hu with rfl | rfl | rfl | rfl | rfl | rfl | rfl <;> rfl),Cl E7.out.2.2.2.2.2 (by omega) _ _ _ _ _ _ _⟩
  go_wp2_with fail;obtain⟨Rs,Fa⟩:=Option.isSome_iff_exists.1 jw.out.symm;have kk:ag w2 (Fr B (w.heap.size+5)) (w2.setCell ⟨w.heap.size+3,4,none⟩ (.slice A9 n9 c9)) (Fr B (w.heap.size+5)):=ag.setCell _ (fun b hb=>by rcases hb with h | h <;> dsimp only <;> omega) (fun _ h _=>h);refine⟨⟨3,.slice P1 p1 q1,.slice P2 p2 q2,.slice A9 n9 c9,by omega,by go_num,E7.out.put 4 (.slice A9 n9 c9),by rw [if_neg (by omega)];exact⟨_,_,_,_,rfl,LC.out,Lz.out.keep ((ag.below aW.out (fun _ h _=>h)).trans kk)⟩,by rw [if_neg (by omega)];exact⟨_,_,_,_,rfl,Ri.out,RU.out.keep ((ag.below aW.out (fun _ h _=>h)).trans kk)⟩,by rw [if_neg (by omega)];exact⟨_,_,_,Rs,rfl,Fa,(PZ.out Rs Fa).keep ((ag.refl (X':=Fr B (w.heap.size+5)) (fun b hb=>hb.imp id (fun h=>Nat.le_trans (Nat.succ_le_of_lt uZ.out.2.2.2.2.1.lt) h))).trans kk)⟩⟩,by simp [intOf]⟩
 have Q3:3≤k:=(by omega);rw [if_neg (by omega)]at g1;obtain⟨P1,p1,q1,ll1,rfl,nV,Lx⟩:=g1;rw [if_neg (by omega)]at g2;obtain⟨P2,p2,q2,ll2,rfl,jR,ng⟩:=g2;rw [if_neg (by omega)]at g3;obtain⟨P3,p3,q3,ll3,rfl,TD,hv3⟩:=g3;generalize wr=wz at *;have e3:wz.cell? ⟨w.heap.size+1,3,none⟩=some (.slice R2 b2 y2):=lz.2.1.cell 3;have uZ:=Lib.hid lz;have Lz:=Lib.hid Lx;have RU:=Lib.hid ng;have Yl:=Lib.hid hv3;have LC:=Lib.hid nV;have Ri:=Lib.hid jR;have Uq:=Lib.hid TD;have hz:=lz.2.2.2.2.2.size;have RV:=lz.2.2.2.2.1.lt;clear lz Lx ng hv3 nV jR TD;go_wp2_with fail;go_loopw [56] (XH w wz B #[.bool f.start,.bool f.fin,.slice L1 a1 x1,.slice L2 a2 x2,.slice L3 a3 x3,.int .i64 f.aa] #[.bool t.start,.bool t.fin,.slice R1 b1 y1,.slice R2 b2 y2,.slice R3 b3 y3,.int .i64 t.aa] #[.slice L1 a1 x1,.pointer (some ⟨w.heap.size+3,2,none⟩),.slice L2 a2 x2,.pointer (some ⟨w.heap.size+3,3,none⟩),.slice L3 a3 x3,.pointer (some ⟨w.heap.size+3,4,none⟩)] (.bool f.start) (.bool f.fin) (.slice P1 p1 q1) (.slice P2 p2 q2) (.slice P3 p3 q3) t.source b2) (fun i _=>b2 - (intOf i).toNat);(case atStart=>exact⟨0,.slice none 0 0,Nat.zero_le _,rfl,uZ.out,World.ownsRow_nil _ _ _ _,fun b hx hl=>⟨rfl,⟨hx,hl⟩,hl⟩,Nat.le_refl _⟩);obtain⟨k,v,hk,rfl,lz,hown,hkp,hzr⟩:=hrel;by_cases hlt:k<b2
 ·obtain⟨a,ha⟩:∃ z,t.source[k]? = some z:=⟨_,List.getElem?_eq_getElem (by rw [Z8.out];exact hlt)⟩;obtain⟨b,off,A',n',c',rfl,dL,f0,f1,f2,f3,_,_,_,_⟩:=wG iW.out ha;have WW:=lz.2.2.2.2.2;have kC:b<w.heap.size:=(by omega);have d0:=(WW.cell (p:=⟨b,off+k*4,none⟩) kC).trans f0;have d1:=(WW.cell (p:=⟨b,off+k*4+1,none⟩) kC).trans f1;have d2:=(WW.cell (p:=⟨b,off+k*4+2,none⟩) kC).trans f2;have d3:=(WW.cell (p:=⟨b,off+k*4+3,none⟩) kC).trans f3;clear f0 f1 f2 f3 WW;generalize hT:(t.source.take k).map (·.rune)=T at hown;have HTM:=Lib.hid ((No ha).trans (by rw [hT]:_=T++[a.rune]));clear hT;obtain⟨Av,cv,rfl,_⟩:=aH hown;have TJ:=kg.alloc lz (.cells #[.int .i64 a.kind,.int .i32 a.rune,.slice A' n' c',.string a.name] 167);have hO1:=World.ownsRow.alloc hown (.cells #[.int .i64 a.kind,.int .i32 a.rune,.slice A' n' c',.string a.name] 167);have c5:(wr.alloc (.cells #[.int .i64 a.kind,.int .i32 a.rune,.slice A' n' c',.string a.name] 167)).cell? ⟨w.heap.size+3,5,none⟩=some (.slice Av k cv):=TJ.2.2.2.1.cell 5;have HA2:=Lib.hid (kg.alloc TJ (.cells #[.int .i32 a.rune] 21));have wv:=Lib.hid (World.ownsRow.alloc hO1 (.cells #[.int .i32 a.rune] 21));have pN:=Lib.hid ((hkp.trans (ag.alloc (.cells #[.int .i64 a.kind,.int .i32 a.rune,.slice A' n' c',.string a.name] 167) (fun _ h _=>h))).trans (ag.alloc (.cells #[.int .i32 a.rune] 21) (fun _ h _=>h)));have hN:=Rd.new (wr.alloc (.cells #[.int .i64 a.kind,.int .i32 a.rune,.slice A' n' c',.string a.name] 167)) 21 1 1 [.int .i32 a.rune] rfl;rw [show(wr.alloc (.cells #[.int .i64 a.kind,.int .i32 a.rune,.slice A' n' c',.string a.name] 167)).heap.size=wr.heap.size+1 by simp]at hN;have HN:=Lib.hid hN
  have Fi:=Lib.hid (show ∀ u ∈ [Value.int .i32 a.rune],u.oneCell'=true by intro x hx;simp at hx;subst hx;rfl);have HZ:=Lib.hid (show wz.heap.size≤((wr.alloc (.cells #[.int .i64 a.kind,.int .i32 a.rune,.slice A' n' c',.string a.name] 167)).alloc (.cells #[.int .i32 a.rune] 21)).heap.size by simp;omega);clear TJ hO1 hN lz hown hkp ha;go_wp2_with (at_builtin;refine ai _ rfl (.tmp 61) (.tmp 64) 29 rfl wz.heap.size 21 i0 _ 1 4 Tryz.underlying29 hi hz0 rj sY rfl (by decide) _ _ _ rfl wv.out _ (some ⟨wr.heap.size+1,0,none⟩) 1 1 [.int .i32 a.rune] rfl HN.out Fi.out (by simp only [maxLen];omega) (by omega) HZ.out ?_);intro v9 w9 an;have Yd:=kg.app HA2.out wv.out (by decide) (by decide) (by decide) hz an;have lE:=an.own;have Wf:=pN.out.trans (ag.app (X':=fun b=>Fr B (w.heap.size+5) b∧b<wz.heap.size) an (fun b hx e=>by have:=(bG wv.out e).1;have:=hx.2;omega) (fun _ h _=>h));have Py:wz.heap.size≤w9.heap.size:=Nat.le_trans HZ.out an.2.1.size;rw [← x7,← HTM.out]at lE;obtain⟨A9,c9,rfl,_⟩:=aH lE;have p5:w9.cell? ⟨w.heap.size+3,5,none⟩=some (.slice Av k cv):=Yd.2.2.2.1.cell 5;have p5f:=Yd.2.2.2.1.frozen 5;have HA3:=Lib.hid Yd;have jw:=Lib.hid lE;have WV:=Lib.hid Wf;clear an Yd lE Wf;go_wp2_with fail;refine⟨⟨k+1,.slice A9 (k+1) c9,by omega,by go_num,HA3.out.put 5 (.slice A9 (k+1) c9),gJ jw.out HA3.out.2.2.2.1 (by decide),WV.out.trans (ag.setCell _ (fun b hx=>?_) (fun _ h _=>h)),by simpa using Py⟩,by simp [intOf];omega⟩;have:=hx.1;dsimp only;rcases this with h | h <;> omega
 obtain rfl:k=b2:=(by omega);rw [List.take_of_length_le (by rw [Z8.out];omega)]at hown;obtain⟨Av,cv,rfl,_⟩:=aH hown;have aZ:=lz;have t0:wr.cell? ⟨w.heap.size+3,0,none⟩=some (.bool f.start):=aZ.2.2.2.1.cell 0;have t1:wr.cell? ⟨w.heap.size+3,1,none⟩=some (.bool f.fin):=aZ.2.2.2.1.cell 1;have t2:wr.cell? ⟨w.heap.size+3,2,none⟩=some (.slice P1 p1 q1):=aZ.2.2.2.1.cell 2;have t3:wr.cell? ⟨w.heap.size+3,3,none⟩=some (.slice P2 p2 q2):=aZ.2.2.2.1.cell 3;have t4:wr.cell? ⟨w.heap.size+3,4,none⟩=some (.slice P3 p3 q3):=aZ.2.2.2.1.cell 4;have t5:wr.cell? ⟨w.heap.size+3,5,none⟩=some (.slice Av k cv):=aZ.2.2.2.1.cell 5;have t6:wr.cell? ⟨w.heap.size+3,6,none⟩=some (.int .i64 0):=aZ.2.2.2.1.cell 6;have s0:wr.cell? ⟨w.heap.size+2,0,none⟩=some (.bool false):=aZ.2.2.1.cell 0;have sf0:=aZ.2.2.1.frozen 0;have s1:wr.cell? ⟨w.heap.size+2,1,none⟩=some (.bool false):=aZ.2.2.1.cell 1;have ZI:=aZ.2.2.1.frozen 1;have s2:wr.cell? ⟨w.heap.size+2,2,none⟩=some (.slice none 0 0):=aZ.2.2.1.cell 2;have sf2:=aZ.2.2.1.frozen 2;have s3:wr.cell? ⟨w.heap.size+2,3,none⟩=some (.slice none 0 0):=aZ.2.2.1.cell 3;have sf3:=aZ.2.2.1.frozen 3;have s4:wr.cell? ⟨w.heap.size+2,4,none⟩=some (.slice none 0 0):=aZ.2.2.1.cell 4;have sf4:=aZ.2.2.1.frozen 4;have s5:wr.cell? ⟨w.heap.size+2,5,none⟩=some (.slice none 0 0):=aZ.2.2.1.cell 5;have sf5:=aZ.2.2.1.frozen 5;have s6:wr.cell? ⟨w.heap.size+2,6,none⟩=some (.int .i64 0):=aZ.2.2.1.cell 6;have sf6:=aZ.2.2.1.frozen 6;have t6f:=aZ.2.2.2.1.frozen 6;have e5:wr.cell? ⟨w.heap.size+1,5,none⟩=some (.int .i64 t.aa):=aZ.2.1.cell 5
 have hend:∀ (we:World) (K:Int),((∃ u,we=wr.setCell ⟨w.heap.size+3,6,none⟩ u)∨∃ u u',we=(wr.setCell ⟨w.heap.size+3,6,none⟩ u).setCell ⟨w.heap.size+3,6,none⟩ u')→K=(if t.aa<0 then (t.source.length:Int)else t.aa) →
     FR (OH we (w.heap.size+1+1) (.bool f.start) (.bool f.fin) (.slice P1 p1 q1) (.slice P2 p2 q2) (.slice P3 p3 q3) (.slice Av k cv) (.int .i64 K)) B w.heap.size (eX LP f t) (.returned (.tuple #[.agg #[.bool f.start,.bool f.fin,.slice P1 p1 q1,.slice P2 p2 q2,.slice P3 p3 q3,.slice Av k cv,.int .i64 K],.bool true])) ∧
     Below w.heap.size w (OH we (w.heap.size+1+1) (.bool f.start) (.bool f.fin) (.slice P1 p1 q1) (.slice P2 p2 q2) (.slice P3 p3 q3) (.slice Av k cv) (.int .i64 K)):=by
   intro we K hwe hK
   have Xe:Below w.heap.size w we:=by
     rcases hwe with ⟨u,rfl⟩ | ⟨u,u',rfl⟩
     · exact lz.2.2.2.2.2.setCell (by simp) _
     · exact(lz.2.2.2.2.2.setCell (by simp) _).setCell (by simp) _
   have kw:∀ (X:Nat→Prop),(∀ b,X b→b≠w.heap.size+3)→ag wr X we X:=by
     intro X hX
     rcases hwe with ⟨u,rfl⟩ | ⟨u,u',rfl⟩
     · exact ag.setCell u (fun b hb=>hX b hb) (fun _ h _=>h)
     · exact(ag.setCell (X':=X) u (fun b hb=>hX b hb) (fun _ h _=>h)).trans (ag.setCell u' (fun b hb=>hX b hb) (fun _ h _=>h))
   have kk:ag wz (Fr B (w.heap.size+5)) (OH we (w.heap.size+1+1) (.bool f.start) (.bool f.fin) (.slice P1 p1 q1) (.slice P2 p2 q2) (.slice P3 p3 q3) (.slice Av k cv) (.int .i64 K)) (Fr B w.heap.size):=by
     refine(hkp.trans (kw _ (fun b hx=>by rcases hx.1 with h | h <;> omega))).trans ((Rr (fun b hx=>?_) _ _ _ _ _ _ _).trans (ag.refl (fun b hx=>?_)))
     · rcases hx.1 with h | h <;> omega
     · exact hx.1.imp id (fun h=>by omega)
   refine⟨⟨[.bool f.start,.bool f.fin,.slice P1 p1 q1,.slice P2 p2 q2,.slice P3 p3 q3,.slice Av k cv,.int .i64 K],rfl,?_,?_,fun rd hrd=>?_⟩,Cl Xe (by omega) _ _ _ _ _ _ _⟩
   · rw [su,LC.out,Ri.out,Uq.out];rfl
   · intro u hu
     simp only [List.mem_cons,List.not_mem_nil,or_false]at hu
     rcases hu with rfl | rfl | rfl | rfl | rfl | rfl | rfl <;> rfl
   · obtain⟨a,b,c,g1,g2,g3,rfl⟩:=KF hrd
     rw [LC.out]at g1
     rw [Ri.out]at g2
     rw [Uq.out]at g3
     cases g1
     cases g2
     cases g3
     refine⟨_,_,_,Av,k,cv,by rw [hK],Lz.out.keep kk,RU.out.keep kk,Yl.out.keep kk,?_,by unfold maxLen;omega⟩
     refine(di.cj (X:=fun b=>wz.heap.size≤b) hown (fun b hb=>(bG hown hb).1)).keep ((kw _ (fun b hx=>by omega)).trans ((Rr (fun b hx=>by omega) _ _ _ _ _ _ _).trans (ag.refl (fun b hx=>.inr (by omega)))))
 have E0:=Lib.hid hend;have LA:(t.source.length:Int)=k:=(by rw [Z8.out]);have HKL:=Lib.hid LA;clear hend LA lz aZ hown hkp;by_cases hc:t.aa<0
 ·have HK:=Lib.hid (show((k:Nat):Int)=(if t.aa<0 then (t.source.length:Int)else t.aa) by rw [if_pos hc,HKL.out]);go_wp2_with fail;obtain⟨hpost,eO⟩:=E0.out _ _ (.inr ⟨_,_,rfl⟩) HK.out;exact bodyPost_ret (by simp [results,Tryz.results90,go_sem,s0,s1,s2,s3,s4,s5,s6]) rfl ⟨hpost,eO⟩
 have HK:=Lib.hid (show t.aa=(if t.aa<0 then (t.source.length:Int)else t.aa) by rw [if_neg hc]);go_wp2_with fail;obtain⟨hpost,eO⟩:=E0.out _ _ (.inl ⟨_,rfl⟩) HK.out;exact bodyPost_ret (by simp [results,Tryz.results90,go_sem,s0,s1,s2,s3,s4,s5,s6]) rfl ⟨hpost,eO⟩
end Go.Proofs.YtapechjebkjidaaGreatDoor
