/- SetsRef + Env + SetsSyn + RuleRef + RuleSyn -/
import Derived.Test.YtblinekbpcdbfaaGreatDoorZv7
import Derived.Test.YtblinekbpcdbfaaGreatDoorZv12
import Derived.Lib.Strings
import Derived.Deep.DeepCutAuto
import Derived.Test.YtblinekbpcdbfaaGreatDoorZv10
import Derived.Test.YtblinekbpcdbfaaGreatDoorZv6
import Derived.Maps.OwnSet
import Derived.StringKeys
set_option maxHeartbeats 6400000
set_option maxRecDepth 100000
namespace Go.Proofs.YtblinekbpcdbfaaGreatDoor
open Go.RowKit
theorem Mm:(Tryz.prog.info? 22).map (fun i=>(i.zero,i.size,i.bytes))=some (some (.slice none 0 0),1,24):=by kernel_rfl
def N9 (B lo:Nat) (v:Value) (b:Nat):Prop:=Fr B lo b∧v.ownBlock≠some b
def lu (w:World) (B:Nat) (ll:List aa) (v:Value) (wx:World):Prop:=dy (nS wx (N9 B w.heap.size v)) 22 1 wx w.heap.size v ll∧Below w.heap.size w wx
section
variable {w wx w2 : World} {B : Nat} {ll : List aa} {v v' : Value}
theorem lu.nil (w:World) (B:Nat):lu w B [] (.slice none 0 0) w:=⟨dy.nil _ _,qqb⟩
theorem lu.alloc (h:lu w B ll v wx) (o:Obj):lu w B ll v (wx.alloc o) :=
  ⟨h.1.kept (fun _ _ h=>World.ownsRow.alloc h o) (fun _ _ h=>h.keep (ag.alloc o (fun _ h _=>h))),h.2.alloc h.2.size o⟩
theorem lu.below (h:lu w B ll v wx) (hb:Below wx.heap.size wx w2):lu w B ll v w2 :=
  ⟨h.1.kept (fun _ _ h=>dF h hb) (fun _ _ h=>h.keep (ag.below hb (fun _ h _=>h))),h.2.trans (hb.mono h.2.size)⟩
theorem vC {base sz n:Nat} {e:TypeId} {xs:List Value} (h:wx.ownsRow base e sz v n xs) {b:Nat} (hb:b<base∨wx.heap.size≤b):v.ownBlock≠some b:=fun e=>by
 have:=bk h e;omega
theorem lu.push {css:List (List Value)} {s:aa} {u:Value} {t:TypeId} (h1:css.length=ll.length) (h2:∀ (i:Nat) (a:aa) (cs:List Value),ll[i]? = some a→css[i]? = some cs→nS wx (N9 B w.heap.size v) a cs) (h3:∀ cs∈css,cs.length=1)
    (h4:wx.ownsRow w.heap.size 22 1 v ll.length css.flatten) (hb:Below w.heap.size w wx) (hu:jq wx (N9 B w.heap.size v) s u)
    (ha:aP w.heap.size 22 1 v (wx.alloc (.cells #[u] t)) (ll.length+1) (css.flatten++[u]) v' w2):lu w B (ll++[s]) v' w2:=by
 have hk:ag wx (N9 B w.heap.size v) w2 (N9 B w.heap.size v'):=by
  refine(ag.alloc (.cells #[u] t) (fun _ h _=>h)).trans (ag.app (X':=fun b=>N9 B w.heap.size v' b) ha (fun b hx=>hx.2) (fun b hx hl=>⟨hx.1,?_⟩));rcases ha.2.2 with e | e
  ·rw [e];exact hx.2
  rw [e];intro he;injection he with he;omega
 refine⟨dy.push h1 h2 h3 (fun _ _ h=>h.keep hk) ⟨u,rfl,hu.keep hk⟩ rfl ha,?_⟩;exact(hb.alloc hb.size (.cells #[u] t)).trans (ha.below (hb.alloc hb.size (.cells #[u] t)).size (World.ownsRow.alloc h4 _))
end
def Ln (w:World) (B lo:Nat) (r:Option (List aa)) (e:Ending):Prop :=
  match r with
  | some ll=>∃ u,e=.returned (.tuple #[u,.bool true])∧gO w (Fr B lo) ll u
  | none=>e=.returned (.tuple #[.slice none 0 0,.bool false])
theorem lu.post {w wx:World} {B:Nat} {ll:List aa} {v:Value} (h:lu w B ll v wx) (hl:ll.length≤maxLen):gO wx (Fr B w.heap.size) ll v:=by
 obtain⟨A,c,rfl,_⟩:=h.1.form;refine⟨A,_,c,rfl,dy.done h.1 (fun _ _ h=>h.keep (ag.refl (fun _ h=>h.1))) (fun b hb=>.inr ?_),hl⟩;obtain⟨css,_,_,_,h4⟩:=h.1;exact(bk h4 hb).1
def TC (w:World) (B:Nat) (l:List aG) (L:List aF) (n:Nat) (out i:Value) (wr:World):Prop :=
  ∃ (k:Nat) (ll:List aa),k≤n∧i=.int .i64 k∧bY l (L.take k)=some ll∧lu w B ll out wr
end Go.Proofs.YtblinekbpcdbfaaGreatDoor
namespace Go.Proofs.YtblinekbpcdbfaaGreatDoor
open Go.RowKit Go.Maps
def fC (w:World) (X:Nat→Prop) (mb n:Nat) (l:List aG):Prop :=
  ∃ D:DataW Value,w.ownsMap Tryz.prog 9 Raw mb n D∧IsMap D∧∀ s:ByteArray,match fK l s with
    | some set=>∃ u,D.atKey (eX s) ur=.held u∧has D (eX s)=true∧jq w X set u
    | none=>D.atKey (eX s) ur=ur∧has D (eX s)=false
theorem fC.keep {w w':World} {X X':Nat→Prop} {mb n:Nat} {l:List aG} (hk:ag w X w' X') (hm:w'.heap[mb]? = w.heap[mb]?) (h:fC w X mb n l):fC w' X' mb n l:=by
 obtain⟨D,⟨es,clock,h1,h2⟩,h3,h4⟩:=h;refine⟨D,⟨es,clock,hm.trans h1,h2⟩,h3,fun s=>?_⟩;have:=h4 s;cases hl:fK l s with
 | none=>rw [hl]at this;exact this
 | some set=>
  rw [hl]at this;obtain⟨u,g1,g2,g3⟩:=this;exact⟨u,g1,g2,g3.keep hk⟩
theorem fC.lt {w:World} {X:Nat→Prop} {mb n:Nat} {l:List aG} (h:fC w X mb n l):mb<w.heap.size:=by
 obtain⟨D,h1,_⟩:=h;exact h1.lt
theorem fC.made (w:World) (X:Nat→Prop):fC (w.alloc (.map #[] 0)) X w.heap.size 0 [] :=
  ⟨.map [],World.ownsMap_made _ _ _ _,isMap_empty,fun s=>⟨by simp [DataW.atKey],by simp [has]⟩⟩
theorem xb (l:List aG) (p:aG) (s:ByteArray):fK (l++[p]) s=match fK l s with
    | some x=>some x
    | none=>if p.kind=1∧p.name=s then some p.set else none:=by
 induction l with
 | nil=>simp [fK]
 | cons q l ih=>
  rw [List.cons_append,fK,fK];by_cases h:q.kind=1∧q.name=s
  ·rw [if_pos h,if_pos h]
  rw [if_neg h,if_neg h,ih]
theorem fC.put {w w':World} {X:Nat→Prop} {mb n:Nat} {l:List aG} {p:aG} {u:Value} {D:DataW Value} (hD:IsMap D)
    (h4:∀ s:ByteArray,match fK l s with
      | some set=>∃ u,D.atKey (eX s) ur=.held u∧has D (eX s)=true∧jq w X set u
      | none=>D.atKey (eX s) ur=ur∧has D (eX s)=false)
    (hp:p.kind=1) (hno:fK l p.name=none) (hu:jq w X p.set u) (hk:ag w X w' X)
    (hown:w'.ownsMap Tryz.prog 9 Raw mb n (D.put (eX p.name) (.held u))):fC w' X mb n (l++[p]):=by
 refine⟨_,hown,hD.put _ _,fun s=>?_⟩;rw [xb];by_cases hs:p.name=s
 ·subst hs;rw [hno];dsimp only;rw [if_pos ⟨hp,rfl⟩];exact⟨u,atKey_put_same hD (uO _) _ _,has_put_same hD (uO _) _,hu.keep hk⟩
 have hne:eX s≠eX p.name:=fun e=>hs (CI e).symm;have:=h4 s;cases hl:fK l s with
 | none=>
  rw [hl]at this;dsimp only;rw [if_neg (fun h=>hs h.2),atKey_put_other hne,has_put_other hne];exact this
 | some set=>
  rw [hl]at this;obtain⟨v,g1,g2,g3⟩:=this;dsimp only;exact⟨v,by rw [atKey_put_other hne];exact g1,by rw [has_put_other hne];exact g2,g3.keep hk⟩
theorem fC.other {w:World} {X:Nat→Prop} {mb n:Nat} {l:List aG} {p:aG} (h:fC w X mb n l) (hp:p.kind≠1):fC w X mb n (l++[p]):=by
 obtain⟨D,h1,h2,h3⟩:=h;refine⟨D,h1,h2,fun s=>?_⟩;have:=h3 s;rw [xb];cases hl:fK l s with
 | none=>rw [hl]at this;dsimp only;rw [if_neg (fun h=>hp h.1)];exact this
 | some set=>rw [hl]at this;exact this
theorem nu {w:World} {ops:Array Oper} {rest:List Oper} {o:Oper} {a:Act} {Q:Exit→Act→World→Prop} (hg:o.guard=none) (m x:Operand) (hop:o.op=Op.lookup 126 m x true)
    (mb n:Nat) (D:DataW Value) (hm:a.eval m=.map (some mb)) (hown:w.ownsMap Tryz.prog 9 Raw mb n D) (s:ByteArray) (hx:a.eval x=.string s) (hs:s.size≤maxLen) (u:Value) (b:Bool)
    (h1:D.atKey (eX s) ur=.held u) (h2:has D (eX s)=b) (hK:wpList Tryz.prog ops Q rest (a.put o.dst (.tuple #[u,.bool b])) w):wpList Tryz.prog ops Q (o::rest) a w :=
  wpList_lookup_own_ok w hg m x _ hop 9 22 ig Tryz.underlying126 Raw (OT w) ur [] rfl mb n D hm hown (.string s) (eX s) hx (jF hs) (fun v ps hv=>by
    rw [h1]at hv
    unfold Raw at hv
    injection hv with hv
    injection hv with hv
    injection hv with hv
    subst hv
    rw [h2]
    exact hK)
theorem oy (A:Option Addr) (n c B:Nat) (s:aa) (w:World) (h:Rd w B 2 A n (an s)) (hn:n≤1000) :
    Calls Tryz.prog 64 #[.slice A n c] w fun e w'=>(∃ u,e=.returned u∧jq w' (fun b=>w.heap.size≤b) s u)∧Below w.heap.size w w':=by
 obtain⟨i0,hi,hz0,oQ,tr⟩:=info_parts jk;have q22:∀ (w:World) (a:Option Addr) (n c n' c':Nat),(binOp .eql 22 (.slice a n c) (.slice none n' c')).run Tryz.prog w=.ok (.bool a.isNone) w:=fun w a n c n' c'=>Lib.run_eql_slice_nil w _ _ a n c n' c' Tryz.underlying22;have H:=qqh h;clear h;cases A with
 | none=>
  have hn0:n=0:=by
   rcases Nat.eq_zero_or_pos n with h0 | h0;exact h0;obtain⟨_,_,e,_⟩:=H.out.2 h0;cases e
  subst hn0;go_enter Tryz.func64,Tryz.ntmps64;go_wp2_with fail;go_ret;exact⟨⟨_,rfl,none,0,0,rfl,⟨H.out.1,fun h=>absurd h (Nat.lt_irrefl 0)⟩,Nat.zero_le _⟩,qqb⟩
 | some ad=>
  have HO:=qqh (sU w 134 2 w.heap.size w.heap.size rfl qql);have HB:=qqh ((Below.refl w.heap.size w).alloc qql (.cells #[] 134));have HR:=qqh (Rd.more (Rd.below (B:=min B w.heap.size) ⟨H.out.1,fun h=>by
   obtain⟨b,off,e,_,hc⟩:=H.out.2 h;obtain⟨u,hu⟩:∃ u,(an s)[0]? = some u:=⟨_,List.getElem?_eq_getElem (by have:=H.out.1;omega)⟩;have hl:=World.block_lt_of_cell? w _ (hc 0 u hu);exact⟨b,off,e,by dsimp only at hl;omega,hc⟩⟩ (HB.out.mono (Nat.min_le_right _ _))) qql)
  go_enter Tryz.func64,Tryz.ntmps64;go_wp2_with (at_builtin;refine ai _ rfl (.tmp 5) (.tmp 6) 22 rfl w.heap.size 134 i0 _ 2 8 Tryz.underlying22 hi hz0 oQ tr rfl (by decide) _ _ _ rfl HO.out _ (some ad) n c (an s) rfl HR.out (lO s) (by simp only [maxLen];omega) (by omega) (by simp) ?_);intro v' w' ak;have ho:=ak.own;obtain⟨A2,c2,rfl,_⟩:=aJ ho;have bL:=qqh (HB.out.trans (ak.below (by simp) HO.out));have HV:=qqh (show jq w' (fun b=>w.heap.size≤b) s (.slice A2 n c2) from⟨A2,n,c2,rfl,cV.cC ho (fun b hb=>(bk ho hb).1),by unfold maxLen;omega⟩);clear ak ho;go_wp2_with fail;go_ret;exact⟨⟨_,rfl,HV.out⟩,bL.out⟩
theorem oq {l:aa} (h:bA l=0):l.length≤200:=by
 unfold bA at h;by_cases h2:200<l.length
 ·rw [if_pos h2]at h;cases h
 omega
theorem Nr (mb nm:Nat) (LP:List aG) (A2:Option Addr) (n2 c2:Nat) (L:List aF) (w:World) (B:Nat) (hB:B≤w.heap.size) (hE:fC w (· < B) mb nm LP) (Lp:∀ s set,fK LP s=some set→set.length≤200) (hL:bO w B A2 n2 L) (hok:cj L=0) :
    Calls Tryz.prog 93 #[.map (some mb),.slice A2 n2 c2] w fun e w'=>Ln w' B w.heap.size (bY LP L) e∧Below w.heap.size w w':=by
 obtain⟨i0,hi,hz0,oQ,tr⟩:=info_parts Mm;obtain⟨h20,hall⟩:=DW hok;have acj:n2≤20:=(by rw [← kf.len hL];exact h20);have hmb:=hE.lt;have aW:=qqh (kf.len hL);have HL:=qqh hL;have HA:=qqh hall;have HE:=qqh hE;have Q7:=qqh Lp;clear hL hok h20 hall hE Lp;go_enter Tryz.func93,Tryz.ntmps93;go_wp2_with fail;go_loopw [6,13] (TC w B LP L n2) (fun _ i _=>n2 - (intOf i).toNat);(case atStart=>exact⟨0,[],Nat.zero_le _,rfl,rfl,lu.nil w B⟩);obtain⟨k,ll,hk,rfl,aZ,hst⟩:=hrel;have Yy:=Iz aZ;have agC:ll.length≤k:=(by rw [Yy];exact List.length_take_le _ _);clear Yy;have hz:=hst.2.size;by_cases hlt:k<n2
 ·obtain⟨a,ha⟩:∃ z,L[k]? = some z:=⟨_,List.getElem?_eq_getElem (by rw [aW.out];exact hlt)⟩;have hka:=Fi (HA.out a (List.mem_of_getElem? ha));obtain⟨b,off,A',n',c',rfl,ey,f0,f1,f2,f3,yR,hn',_,hnm⟩:=uU HL.out ha;have ko:b<w.heap.size:=(by omega);have d0:=(hst.2.cell (p:=⟨b,off+k*4,none⟩) ko).trans f0;have d1:=(hst.2.cell (p:=⟨b,off+k*4+1,none⟩) ko).trans f1;have d2:=(hst.2.cell (p:=⟨b,off+k*4+2,none⟩) ko).trans f2;have d3:=(hst.2.cell (p:=⟨b,off+k*4+3,none⟩) ko).trans f3;clear f0 f1 f2 f3;have Ux:=qqh yR;have iU:=qqh (lu.alloc hst (.cells #[.int .i64 a.kind,.int .i32 a.rune,.slice A' n' c',.string a.name] 171));have yz:=qqh (aj.new wr 171 #[.int .i64 a.kind,.int .i32 a.rune,.slice A' n' c',.string a.name]);have eU:=qqh aZ;have pP:=qqh ha;clear yR hn' aZ hst;rcases hka with ⟨hk1,hk2⟩ | ⟨hk1,hk2⟩ | ⟨hk1,hk2⟩
  ·have qD:=qqh (show ug LP a=some [(a.rune,a.rune)] by unfold ug;rw [if_pos hk1]);have q1:(a.kind == 1)=true:=(by rw [hk1];rfl);clear hk1 hk2;have Lz:=lu.alloc iU.out (.cells #[.int .i32 a.rune,.int .i32 a.rune] 134);have hux:=cV.new (w:=wr.alloc (.cells #[.int .i64 a.kind,.int .i32 a.rune,.slice A' n' c',.string a.name] 171)) (X:=N9 B w.heap.size u6) (n:=1) (sz:=2) 134 [.int .i32 a.rune,.int .i32 a.rune] rfl (by
    obtain⟨⟨css,g1,g2,g3,g4⟩,g5⟩:=iU.out;exact⟨.inr g5.size,vC g4 (.inr qql)⟩)
   rw [show(wr.alloc (.cells #[.int .i64 a.kind,.int .i32 a.rune,.slice A' n' c',.string a.name] 171)).heap.size=wr.heap.size+1 by simp]at hux;have HU:=qqh (show jq ((wr.alloc (.cells #[.int .i64 a.kind,.int .i32 a.rune,.slice A' n' c',.string a.name] 171)).alloc (.cells #[.int .i32 a.rune,.int .i32 a.rune] 134)) (N9 B w.heap.size u6) [(a.rune,a.rune)] (.slice (some ⟨wr.heap.size+1,0,none⟩) 1 1) from⟨_,_,_,rfl,hux,by decide⟩);have Rf:=qqh Lz;clear Lz hux;obtain⟨⟨css,g1,g2,g3,g4⟩,g5⟩:=Rf.out;have hN:=Rd.new ((wr.alloc (.cells #[.int .i64 a.kind,.int .i32 a.rune,.slice A' n' c',.string a.name] 171)).alloc (.cells #[.int .i32 a.rune,.int .i32 a.rune] 134)) 22 1 1 [.slice (some ⟨wr.heap.size+1,0,none⟩) 1 1] rfl;rw [show((wr.alloc (.cells #[.int .i64 a.kind,.int .i32 a.rune,.slice A' n' c',.string a.name] 171)).alloc (.cells #[.int .i32 a.rune,.int .i32 a.rune] 134)).heap.size=wr.heap.size+1+1 by simp]at hN;have HN:=qqh hN;have HO:=qqh (World.ownsRow.alloc g4 (.cells #[.slice (some ⟨wr.heap.size+1,0,none⟩) 1 1] 22));have HZ:=qqh ((g5.alloc g5.size (.cells #[.slice (some ⟨wr.heap.size+1,0,none⟩) 1 1] 22)).size);have G1:=qqh g1;have G2:=qqh g2;have G3:=qqh g3;have G4:=qqh g4;have G5:=qqh g5;clear g1 g2 g3 g4 g5 hN;go_wp2_with (at_builtin;refine ai _ rfl (.tmp 35) (.tmp 42) 136 rfl w.heap.size 22 i0 _ 1 24 Tryz.underlying136 hi hz0 oQ tr rfl (by decide) _ _ _ rfl HO.out _ (some ⟨wr.heap.size+1+1,0,none⟩) 1 1 [.slice (some ⟨wr.heap.size+1,0,none⟩) 1 1] rfl HN.out ?one1 (by simp only [maxLen];omega) (by omega) HZ.out ?_);(case one1=>intro x hx;simp at hx;subst hx;rfl);intro v9 w9 ak
   have fF:=qqh (lu.push G1.out G2.out G3.out G4.out G5.out HU.out ak);clear ak;go_wp2_with fail;exact⟨⟨k+1,ll++[_],by omega,by go_num,qy pP.out eU.out qD.out,fF.out⟩,by simp [intOf];omega⟩
  ·have qD:=qqh (show ug LP a=some a.set by unfold ug;rw [hk1,if_neg (by decide),if_pos rfl]);have q1:(a.kind == 1)=false:=(by rw [hk1];rfl);have q2:(a.kind == 2)=true:=(by rw [hk1];rfl);have Fk:=oq hk2;have hlen:=kM.len Ux.out;have hn2:n'≤1000:=(by omega);clear hk1 hk2 hlen Fk;go_wp2_with fail;refine(oy A' n' c' B a.set _ (Rd.below Ux.out (iU.out.2.mono hB)) hn2).mono ?_;rintro e wx ⟨⟨u,rfl,hu⟩,hb⟩;have Rf:=qqh (lu.below iU.out hb);have Py:=hu;obtain⟨A7,n7,c7,rfl,_⟩:=Py;have HU:=qqh (show jq wx (N9 B w.heap.size u6) a.set (.slice A7 n7 c7) from jq.keep (ag.refl (fun b hb=>by
    have g:=iU.out;obtain⟨⟨css,g1,g2,g3,g4⟩,g5⟩:=g;exact⟨.inr (Nat.le_trans g5.size hb),vC g4 (.inr hb)⟩)) hu)
   clear hu hb;obtain⟨⟨css,g1,g2,g3,g4⟩,g5⟩:=Rf.out;have HN:=qqh (Rd.new wx 22 1 1 [(.slice A7 n7 c7)] rfl);have HO:=qqh (World.ownsRow.alloc g4 (.cells #[(.slice A7 n7 c7)] 22));have HZ:=qqh (Nat.le_trans g5.size (show wx.heap.size≤(wx.alloc (.cells #[(.slice A7 n7 c7)] 22)).heap.size by simp));have G1:=qqh g1;have G2:=qqh g2;have G3:=qqh g3;have G4:=qqh g4;have G5:=qqh g5;clear g1 g2 g3 g4 g5;go_wp2_with (at_builtin;refine ai _ rfl (.tmp 46) (.tmp 50) 136 rfl w.heap.size 22 i0 _ 1 24 Tryz.underlying136 hi hz0 oQ tr rfl (by decide) _ _ _ rfl HO.out _ (some ⟨wx.heap.size,0,none⟩) 1 1 [(.slice A7 n7 c7)] rfl HN.out ?one2 (by simp only [maxLen];omega) (by omega) HZ.out ?_);(case one2=>intro x hx;simp at hx;subst hx;rfl);intro v9 w9 ak;have fF:=qqh (lu.push G1.out G2.out G3.out G4.out G5.out HU.out ak);clear ak;go_wp2_with fail;exact⟨⟨k+1,ll++[_],by omega,by go_num,qy pP.out eU.out qD.out,fF.out⟩,by simp [intOf];omega⟩
  have hsp:ug LP a=fK LP a.name:=(by unfold ug;rw [hk1,if_neg (by decide),if_neg (by decide)]);have q1:(a.kind == 1)=false:=(by rw [hk1];rfl);have q2:(a.kind == 2)=false:=(by rw [hk1];rfl);clear hk1 hk2;have T9:=fC.keep (X':=(· < B)) (ag.below iU.out.2 (fun _ h _=>h)) (iU.out.2.block mb hmb) HE.out;obtain⟨D,hD,_,lz⟩:=T9;have lz:=lz a.name;have HD:=qqh hD;clear hD;cases hlk:fK LP a.name with
  | none=>
   rw [hlk]at lz;have qD:=qqh (hsp.trans hlk);have Sa:=qqh lz.1;have SC:=qqh lz.2;clear hsp hlk lz;go_wp2_with (at_lookup;refine nu rfl (.tmp 20) (.tmp 22) rfl mb nm D rfl HD.out a.name rfl hnm (.slice none 0 0) false Sa.out SC.out ?_);go_ret2;rw [Gn pP.out qD.out];exact⟨rfl,iU.out.2⟩
  | some s=>
   rw [hlk]at lz;obtain⟨u,h1,h2,h3⟩:=lz;obtain⟨A6,n6,c6,rfl,hrd,_⟩:=h3;have qD:=qqh (hsp.trans hlk);have Sa:=qqh h1;have SC:=qqh h2;have Fk:=Q7.out a.name s hlk;have Gf:Rd (wr.alloc (.cells #[.int .i64 a.kind,.int .i32 a.rune,.slice A' n' c',.string a.name] 171)) B 2 A6 n6 (an s):=cV.rd hrd (fun _ h _=>h);have hlen:=kM.len Gf;have hn2:n6≤1000:=(by omega);have pJ:=qqh Gf;clear hsp hlk h1 h2 hrd Fk Gf hlen;go_wp2_with (at_lookup;refine nu rfl (.tmp 20) (.tmp 22) rfl mb nm D rfl HD.out a.name rfl hnm (.slice A6 n6 c6) true Sa.out SC.out ?_);refine(oy A6 n6 c6 B s _ pJ.out hn2).mono ?_;rintro e wx ⟨⟨u,rfl,hu⟩,hb⟩;have Rf:=qqh (lu.below iU.out hb);have Py:=hu;obtain⟨A7,n7,c7,rfl,_⟩:=Py;have HU:=qqh (show jq wx (N9 B w.heap.size u6) s (.slice A7 n7 c7) from jq.keep (ag.refl (fun b hb=>by
    have g:=iU.out;obtain⟨⟨css,g1,g2,g3,g4⟩,g5⟩:=g;exact⟨.inr (Nat.le_trans g5.size hb),vC g4 (.inr hb)⟩)) hu)
   clear hu hb;obtain⟨⟨css,g1,g2,g3,g4⟩,g5⟩:=Rf.out;have HN:=qqh (Rd.new wx 22 1 1 [(.slice A7 n7 c7)] rfl);have HO:=qqh (World.ownsRow.alloc g4 (.cells #[(.slice A7 n7 c7)] 22));have HZ:=qqh (Nat.le_trans g5.size (show wx.heap.size≤(wx.alloc (.cells #[(.slice A7 n7 c7)] 22)).heap.size by simp));have G1:=qqh g1;have G2:=qqh g2;have G3:=qqh g3;have G4:=qqh g4;have G5:=qqh g5;clear g1 g2 g3 g4 g5;go_wp2_with (at_builtin;refine ai _ rfl (.tmp 28) (.tmp 31) 136 rfl w.heap.size 22 i0 _ 1 24 Tryz.underlying136 hi hz0 oQ tr rfl (by decide) _ _ _ rfl HO.out _ (some ⟨wx.heap.size,0,none⟩) 1 1 [(.slice A7 n7 c7)] rfl HN.out ?one3 (by simp only [maxLen];omega) (by omega) HZ.out ?_);(case one3=>intro x hx;simp at hx;subst hx;rfl);intro v9 w9 ak;have fF:=qqh (lu.push G1.out G2.out G3.out G4.out G5.out HU.out ak);clear ak;go_wp2_with fail;exact⟨⟨k+1,ll++[_],by omega,by go_num,qy pP.out eU.out qD.out,fF.out⟩,by simp [intOf];omega⟩
 obtain rfl:k=n2:=(by omega);rw [List.take_of_length_le (by rw [aW.out];omega)]at aZ;have HG:=qqh aZ;have HS:=qqh hst;clear aZ hst;obtain⟨AO,cO,rfl,_⟩:=HS.out.1.form;go_wp2_with fail;go_ret2;rw [HG.out];exact⟨⟨_,rfl,lu.post HS.out (by unfold maxLen;omega)⟩,HS.out.2⟩
theorem NZ:(Tryz.prog.info? 21).map (fun i=>(i.zero,i.size,i.bytes))=some (some (.int .i32 0),1,4):=by kernel_rfl
theorem zZ {w:World} {B lo:Nat} {r:Option (List aa)} {e:Ending} (h:Ln w B lo r e) :
    ∃ A n c b,e=.returned (.tuple #[.slice A n c,.bool b])∧b=r.isSome∧∀ ll,r=some ll→gO w (Fr B lo) ll (.slice A n c):=by
 cases r with
 | none=>exact⟨none,0,0,false,h,rfl,fun _ h=>by cases h⟩
 | some ll=>
  obtain⟨u,rfl,hu⟩:=h;have Py:=hu;obtain⟨A,n,c,rfl,_⟩:=Py;exact⟨A,n,c,true,rfl,rfl,fun _ h=>by cases h;exact hu⟩
abbrev iR:Array Value:=#[.bool false,.bool false,.slice none 0 0,.slice none 0 0,.slice none 0 0,.slice none 0 0,.int .i64 0]
def zV (w:World) (uK uG:Array Value) (wx:World):Prop :=
  aj wx w.heap.size 84 uK∧aj wx (w.heap.size+1) 84 uG∧aj wx (w.heap.size+2) 138 iR∧Below w.heap.size w wx
theorem zV.made (w:World) (uK uG:Array Value):zV w uK uG (((w.alloc (.cells uK 84)).alloc (.cells uG 84)).alloc (.cells iR 138)):=by
 refine⟨aj.alloc (aj.alloc (aj.new _ _ _) _) _,?_,?_,((qqb.alloc qql _).alloc (by simp) _).alloc (by simp;omega) _⟩
 ·have:=aj.alloc (aj.new (w.alloc (.cells uK 84)) 84 uG) (.cells iR 138);simpa using this
 have:=aj.new ((w.alloc (.cells uK 84)).alloc (.cells uG 84)) 138 iR;simpa using this
theorem zV.below {w wx w2:World} {uK uG:Array Value} (h:zV w uK uG wx) (hb:Below wx.heap.size wx w2):zV w uK uG w2 :=
  ⟨aj.below h.1 hb h.1.lt,aj.below h.2.1 hb h.2.1.lt,aj.below h.2.2.1 hb h.2.2.1.lt,h.2.2.2.trans (hb.mono h.2.2.2.size)⟩
def Gi (w:World) (B lo:Nat) (r:Option aB) (e:Ending):Prop :=
  ∃ cs:List Value,cs.length=7∧e=.returned (.tuple #[.agg cs.toArray,.bool r.isSome])∧(∀ u∈cs,u.oneCell'=true)∧∀ rd,r=some rd→bC w (Fr B lo) rd cs
theorem N3 {L:List aF} {k:Nat} {a:aF} (h:L[k]? = some a):(L.take (k+1)).map (·.rune)=(L.take k).map (·.rune)++[a.rune]:=by
 rw [List.take_add_one,h];simp
theorem rA (l:List aG) (f t:bV):(eS l f t).isSome=((bY l f.before).isSome && (bY l f.source).isSome && (bY l f.after).isSome):=by
 unfold eS;cases bY l f.before <;> cases bY l f.source <;> cases bY l f.after <;> rfl
theorem JC {l:List aG} {f t:bV} {rd:aB} (h:eS l f t=some rd):∃ a b c,bY l f.before=some a∧bY l f.source=some b∧bY l f.after=some c ∧
    rd=⟨f.start,f.fin,a,b,c,t.source.map (·.rune),if t.af<0 then (t.source.length:Int)else t.af⟩:=by
 unfold eS at h;cases h1:bY l f.before with
 | none=>rw [h1]at h;cases h
 | some a=>
  cases h2:bY l f.source with
  | none=>rw [h1,h2]at h;cases h
  | some b=>
   cases h3:bY l f.after with
   | none=>rw [h1,h2,h3]at h;cases h
   | some c=>
    rw [h1,h2,h3]at h;cases h;exact⟨a,b,c,rfl,rfl,rfl,rfl⟩
abbrev La (w:World) (g:Nat) (u0 u1 u2 u3 u4 u5 u6:Value):World :=
  ((((((w.setCell ⟨g,0,none⟩ u0).setCell ⟨g,1,none⟩ u1).setCell ⟨g,2,none⟩ u2).setCell ⟨g,3,none⟩ u3).setCell ⟨g,4,none⟩ u4).setCell ⟨g,5,none⟩ u5).setCell ⟨g,6,none⟩ u6
theorem Q9 {w:World} {X:Nat→Prop} {g:Nat} (h:∀ b,X b→b≠g) (u0 u1 u2 u3 u4 u5 u6:Value):ag w X (La w g u0 u1 u2 u3 u4 u5 u6) X:=by
 have one:∀ (w:World) (i:Nat) (u:Value),ag w X (w.setCell ⟨g,i,none⟩ u) X:=fun w i u=>ag.setCell u (fun b hb=>h b hb) (fun _ h _=>h);exact((((((one _ 0 u0).trans (one _ 1 u1)).trans (one _ 2 u2)).trans (one _ 3 u3)).trans (one _ 4 u4)).trans (one _ 5 u5)).trans (one _ 6 u6)
theorem Be {w w0:World} {g B:Nat} (h:Below B w0 w) (hg:B≤g) (u0 u1 u2 u3 u4 u5 u6:Value):Below B w0 (La w g u0 u1 u2 u3 u4 u5 u6) :=
  ((((((h.setCell hg _).setCell hg _).setCell hg _).setCell hg _).setCell hg _).setCell hg _).setCell hg _
def jV (w:World) (uK uG Ow arr:Array Value) (wx:World):Prop :=
  aj wx w.heap.size 84 uK∧aj wx (w.heap.size+1) 84 uG∧aj wx (w.heap.size+2) 138 iR ∧
  aj wx (w.heap.size+3) 138 Ow∧aj wx (w.heap.size+4) 166 arr∧Below w.heap.size w wx
section
variable {w wx w2 : World} {uK uG Ow arr : Array Value}
theorem jV.below (h:jV w uK uG Ow arr wx) (hb:Below wx.heap.size wx w2):jV w uK uG Ow arr w2 :=
  ⟨aj.below h.1 hb h.1.lt,aj.below h.2.1 hb h.2.1.lt,aj.below h.2.2.1 hb h.2.2.1.lt,aj.below h.2.2.2.1 hb h.2.2.2.1.lt,aj.below h.2.2.2.2.1 hb h.2.2.2.2.1.lt,h.2.2.2.2.2.trans (hb.mono h.2.2.2.2.2.size)⟩
theorem jV.alloc (h:jV w uK uG Ow arr wx) (o:Obj):jV w uK uG Ow arr (wx.alloc o):=h.below (qqb.alloc qql o)
theorem jV.put (h:jV w uK uG Ow arr wx) (i:Nat) (u:Value):jV w uK uG (Ow.setIfInBounds i u) arr (wx.setCell ⟨w.heap.size+3,i,none⟩ u) :=
  ⟨au h.1 (by omega),au h.2.1 (by omega),au h.2.2.1 (by omega),h.2.2.2.1.put i u,au h.2.2.2.2.1 (by omega),h.2.2.2.2.2.setCell (by simp) _⟩
theorem jV.app {base sz n m:Nat} {e:TypeId} {v v':Value} {xs ys:List Value} (h:jV w uK uG Ow arr wx) (ho:wx.ownsRow base e sz v n xs) (h1 : 84 ≠ e) (h2 : 138 ≠ e) (h3 : 166 ≠ e) (hb:w.heap.size≤base) (ha:aP base e sz v wx m ys v' w2):jV w uK uG Ow arr w2 :=
  ⟨bW h.1 ho h1 ha,bW h.2.1 ho h1 ha,bW h.2.2.1 ho h2 ha,bW h.2.2.2.1 ho h2 ha,bW h.2.2.2.2.1 ho h3 ha,h.2.2.2.2.2.trans (ha.below h.2.2.2.2.2.size (mg ho hb))⟩
end
def Laid (w:World) (B lo:Nat) (r:Option (List aa)) (v:Value):Prop:=∃ A n c ll,v=.slice A n c∧r=some ll∧gO w (Fr B lo) ll v
theorem Laid.keep {w w':World} {B lo:Nat} {r:Option (List aa)} {v:Value} (hk:ag w (Fr B lo) w' (Fr B lo)) (h:Laid w B lo r v):Laid w' B lo r v:=by
 obtain⟨A,n,c,ll,e,h1,h2⟩:=h;exact⟨A,n,c,ll,e,h1,h2.keep hk⟩
def WA (w:World) (B:Nat) (uK uG arr:Array Value) (c0 c1:Value) (r1 r2 r3:Option (List aa)) (i:Value) (wr:World):Prop :=
  ∃ (k:Nat) (v1 v2 v3:Value),k≤3∧i=.int .i64 k∧jV w uK uG #[c0,c1,v1,v2,v3,.slice none 0 0,.int .i64 0] arr wr ∧
    (if k<1 then v1=.slice none 0 0 else Laid wr B (w.heap.size+5) r1 v1)∧(if k<2 then v2=.slice none 0 0 else Laid wr B (w.heap.size+5) r2 v2)∧(if k<3 then v3=.slice none 0 0 else Laid wr B (w.heap.size+5) r3 v3)
def WN (w w0:World) (B:Nat) (uK uG arr:Array Value) (c0 c1 c2 c3 c4:Value) (L:List aF) (n:Nat) (i:Value) (wr:World):Prop :=
  ∃ (k:Nat) (v:Value),k≤n∧i=.int .i64 k∧jV w uK uG #[c0,c1,c2,c3,c4,v,.int .i64 0] arr wr∧wr.ownsRow w0.heap.size 21 1 v k (runeCells ((L.take k).map (·.rune))) ∧
    ag w0 (Fr B (w.heap.size+5)) wr (fun b=>Fr B (w.heap.size+5) b∧b<w0.heap.size)∧w0.heap.size≤wr.heap.size
theorem AW {w:World} {B lo:Nat} {l:List aG} {f t:bV} {cs:List Value} (h:((bY l f.before).isSome && (bY l f.source).isSome && (bY l f.after).isSome)=false) (hc:cs.length=7) (h1:∀ u∈cs,u.oneCell'=true) :
    Gi w B lo (eS l f t) (.returned (.tuple #[.agg cs.toArray,.bool false])):=by
 have hn:=(rA l f t).trans h;refine⟨cs,hc,by rw [hn],h1,fun rd hr=>?_⟩;rw [hr]at hn;cases hn
theorem Cp (mb nm:Nat) (LP:List aG) (f t:bV) (L1 L2 L3 R1 R2 R3:Option Addr) (a1 a2 a3 x1 x2 x3 b1 b2 b3 y1 y2 y3:Nat) (w:World) (B:Nat) (hB:B≤w.heap.size) (hE:fC w (· < B) mb nm LP) (Lp:∀ s set,fK LP s=some set→set.length≤200)
    (l1:bO w B L1 a1 f.before) (l2:bO w B L2 a2 f.source) (l3:bO w B L3 a3 f.after) (k1:cj f.before=0) (k2:cj f.source=0) (k3:cj f.after=0) (r2:bO w B R2 b2 t.source) (j2:cj t.source=0) :
    Calls Tryz.prog 66 #[.map (some mb),.agg #[.bool f.start,.bool f.fin,.slice L1 a1 x1,.slice L2 a2 x2,.slice L3 a3 x3,.int .i64 f.af],.agg #[.bool t.start,.bool t.fin,.slice R1 b1 y1,.slice R2 b2 y2,.slice R3 b3 y3,.int .i64 t.af]] w
      fun e w'=>Gi w' B w.heap.size (eS LP f t) e∧Below w.heap.size w w':=by
 obtain⟨i0,hi,hz0,oQ,tr⟩:=info_parts NZ;obtain⟨h20,_⟩:=DW j2;have afM:b2≤20:=(by rw [← kf.len r2];exact h20);have V6:=qqh (kf.len r2);have dP:=qqh r2;have hs:=fun(w':World) (hb:Below w.heap.size w w') (A':Option Addr) (n' c':Nat) (L:List aF) (hL:bO w B A' n' L) (hok:cj L=0)=>Nr mb nm LP A' n' c' L w' B (Nat.le_trans hB hb.size) (fC.keep (ag.below hb (fun _ h _=>h)) (hb.block mb hE.lt) hE) Lp (bO.weak (gC (hb.mono hB) qql) hL) hok;have iU:=qqh (fun(w':World) (hb:Below w.heap.size w w')=>hs w' hb L1 a1 x1 f.before l1 k1);have jS:=qqh (fun(w':World) (hb:Below w.heap.size w w')=>hs w' hb L2 a2 x2 f.source l2 k2);have Ek:=qqh (fun(w':World) (hb:Below w.heap.size w w')=>hs w' hb L3 a3 x3 f.after l3 k3);have hx0:=zV.made w #[.bool f.start,.bool f.fin,.slice L1 a1 x1,.slice L2 a2 x2,.slice L3 a3 x3,.int .i64 f.af] #[.bool t.start,.bool t.fin,.slice R1 b1 y1,.slice R2 b2 y2,.slice R3 b3 y3,.int .i64 t.af];have hx1:jV w #[.bool f.start,.bool f.fin,.slice L1 a1 x1,.slice L2 a2 x2,.slice L3 a3 x3,.int .i64 f.af] #[.bool t.start,.bool t.fin,.slice R1 b1 y1,.slice R2 b2 y2,.slice R3 b3 y3,.int .i64 t.af] #[.bool f.start,.bool f.fin,.slice none 0 0,.slice none 0 0,.slice none 0 0,.slice none 0 0,.int .i64 0] #[.slice L1 a1 x1,.pointer (some ⟨w.heap.size+3,2,none⟩),.slice L2 a2 x2,.pointer (some ⟨w.heap.size+3,3,none⟩),.slice L3 a3 x3,.pointer (some ⟨w.heap.size+3,4,none⟩)] ((((((w.alloc (.cells #[.bool f.start,.bool f.fin,.slice L1 a1 x1,.slice L2 a2 x2,.slice L3 a3 x3,.int .i64 f.af] 84)).alloc (.cells #[.bool t.start,.bool t.fin,.slice R1 b1 y1,.slice R2 b2 y2,.slice R3 b3 y3,.int .i64 t.af] 84)).alloc (.cells iR 138))).alloc (.cells #[.bool f.start,.bool f.fin,.slice none 0 0,.slice none 0 0,.slice none 0 0,.slice none 0 0,.int .i64 0] 138)).alloc (.cells #[.slice L1 a1 x1,.pointer (some ⟨w.heap.size+3,2,none⟩),.slice L2 a2 x2,.pointer (some ⟨w.heap.size+3,3,none⟩),.slice L3 a3 x3,.pointer (some ⟨w.heap.size+3,4,none⟩)] 166)):=by
  obtain⟨g1,g2,g3,g4⟩:=hx0;refine⟨aj.alloc (aj.alloc g1 _) _,aj.alloc (aj.alloc g2 _) _,aj.alloc (aj.alloc g3 _) _,aj.alloc ?_ _,?_,(g4.alloc g4.size _).alloc (g4.alloc g4.size _).size _⟩
  ·have:=aj.new (((w.alloc (.cells #[.bool f.start,.bool f.fin,.slice L1 a1 x1,.slice L2 a2 x2,.slice L3 a3 x3,.int .i64 f.af] 84)).alloc (.cells #[.bool t.start,.bool t.fin,.slice R1 b1 y1,.slice R2 b2 y2,.slice R3 b3 y3,.int .i64 t.af] 84)).alloc (.cells iR 138)) 138 #[.bool f.start,.bool f.fin,.slice none 0 0,.slice none 0 0,.slice none 0 0,.slice none 0 0,.int .i64 0];simpa using this
  have:=aj.new ((((w.alloc (.cells #[.bool f.start,.bool f.fin,.slice L1 a1 x1,.slice L2 a2 x2,.slice L3 a3 x3,.int .i64 f.af] 84)).alloc (.cells #[.bool t.start,.bool t.fin,.slice R1 b1 y1,.slice R2 b2 y2,.slice R3 b3 y3,.int .i64 t.af] 84)).alloc (.cells iR 138)).alloc (.cells #[.bool f.start,.bool f.fin,.slice none 0 0,.slice none 0 0,.slice none 0 0,.slice none 0 0,.int .i64 0] 138)) 166 #[.slice L1 a1 x1,.pointer (some ⟨w.heap.size+3,2,none⟩),.slice L2 a2 x2,.pointer (some ⟨w.heap.size+3,3,none⟩),.slice L3 a3 x3,.pointer (some ⟨w.heap.size+3,4,none⟩)];simpa using this
 have EX:=qqh hx1;clear hs l1 l2 l3 r2 k1 k2 k3 j2 h20 hx0 hx1 hE Lp;go_enter Tryz.func66,Tryz.ntmps66;go_wp2_with fail;go_loopw [34] (WA w B #[.bool f.start,.bool f.fin,.slice L1 a1 x1,.slice L2 a2 x2,.slice L3 a3 x3,.int .i64 f.af] #[.bool t.start,.bool t.fin,.slice R1 b1 y1,.slice R2 b2 y2,.slice R3 b3 y3,.int .i64 t.af] #[.slice L1 a1 x1,.pointer (some ⟨w.heap.size+3,2,none⟩),.slice L2 a2 x2,.pointer (some ⟨w.heap.size+3,3,none⟩),.slice L3 a3 x3,.pointer (some ⟨w.heap.size+3,4,none⟩)] (.bool f.start) (.bool f.fin) (bY LP f.before) (bY LP f.source) (bY LP f.after)) (fun i _=>3 - (intOf i).toNat);(case atStart=>exact⟨0,_,_,_,by omega,rfl,EX.out,by simp,by simp,by simp⟩);obtain⟨k,v1,v2,v3,hk,rfl,lz,g1,g2,g3⟩:=hrel;by_cases hlt:k<3
 ·obtain rfl | rfl | rfl:k=0∨k=1∨k=2:=(by omega)
  ·obtain rfl:v1=.slice none 0 0:=(by simpa using g1);obtain rfl:v2=.slice none 0 0:=(by simpa using g2);obtain rfl:v3=.slice none 0 0:=(by simpa using g3);clear g1 g2 g3;have z0:wr.cell? ⟨w.heap.size+4,0,none⟩=some (.slice L1 a1 x1):=lz.2.2.2.2.1.cell 0;have z1:wr.cell? ⟨w.heap.size+4,1,none⟩=some (.pointer (some ⟨w.heap.size+3,2,none⟩)):=lz.2.2.2.2.1.cell 1;have uz:=qqh (jV.alloc lz (.cells #[.slice L1 a1 x1,.pointer (some ⟨w.heap.size+3,2,none⟩)] 166));have HK:=qqh (aj.new wr 166 #[.slice L1 a1 x1,.pointer (some ⟨w.heap.size+3,2,none⟩)]);clear lz;go_wp2_with fail;refine(iU.out _ uz.out.2.2.2.2.2).mono ?_;rintro e w2 ⟨he,aX⟩;obtain⟨A9,n9,c9,o9,rfl,lM,BP⟩:=zZ he;have aY:=jV.below uz.out aX;have hk2:=aj.below HK.out aX HK.out.lt;have t0:w2.cell? ⟨w.heap.size+3,0,none⟩=some (.bool f.start):=aY.2.2.2.1.cell 0;have t1:w2.cell? ⟨w.heap.size+3,1,none⟩=some (.bool f.fin):=aY.2.2.2.1.cell 1;have t2:w2.cell? ⟨w.heap.size+3,2,none⟩=some (.slice none 0 0):=aY.2.2.2.1.cell 2;have t3:w2.cell? ⟨w.heap.size+3,3,none⟩=some (.slice none 0 0):=aY.2.2.2.1.cell 3;have t4:w2.cell? ⟨w.heap.size+3,4,none⟩=some (.slice none 0 0):=aY.2.2.2.1.cell 4;have t5:w2.cell? ⟨w.heap.size+3,5,none⟩=some (.slice none 0 0):=aY.2.2.2.1.cell 5;have t6:w2.cell? ⟨w.heap.size+3,6,none⟩=some (.int .i64 0):=aY.2.2.2.1.cell 6;have s0:w2.cell? ⟨w.heap.size+2,0,none⟩=some (.bool false):=aY.2.2.1.cell 0;have Zu:=aY.2.2.1.frozen 0;have s1:w2.cell? ⟨w.heap.size+2,1,none⟩=some (.bool false):=aY.2.2.1.cell 1;have sf1:=aY.2.2.1.frozen 1;have s2:w2.cell? ⟨w.heap.size+2,2,none⟩=some (.slice none 0 0):=aY.2.2.1.cell 2;have Zp:=aY.2.2.1.frozen 2
   have s3:w2.cell? ⟨w.heap.size+2,3,none⟩=some (.slice none 0 0):=aY.2.2.1.cell 3;have sf3:=aY.2.2.1.frozen 3;have s4:w2.cell? ⟨w.heap.size+2,4,none⟩=some (.slice none 0 0):=aY.2.2.1.cell 4;have sf4:=aY.2.2.1.frozen 4;have s5:w2.cell? ⟨w.heap.size+2,5,none⟩=some (.slice none 0 0):=aY.2.2.1.cell 5;have Z8:=aY.2.2.1.frozen 5;have s6:w2.cell? ⟨w.heap.size+2,6,none⟩=some (.int .i64 0):=aY.2.2.1.cell 6;have sf6:=aY.2.2.1.frozen 6;have m1:w2.cell? ⟨wr.heap.size,1,none⟩=some (.pointer (some ⟨w.heap.size+3,2,none⟩)):=hk2.cell 1;have mf:=aY.2.2.2.1.frozen 2;have CF:=qqh aY;have bL:=qqh aX;have ir:=qqh lM;have Po:=qqh BP;have Tv:=aY.2.2.2.2.1.lt;clear he aY hk2 aX lM BP;cases o9
   ·go_wp2_with fail;exact bodyPost_ret (by simp [results,Tryz.results66,go_sem,s0,s1,s2,s3,s4,s5,s6]) rfl ⟨AW (cs:=[.bool f.start,.bool f.fin,.slice none 0 0,.slice none 0 0,.slice none 0 0,.slice none 0 0,.int .i64 0]) (by rw [← ir.out];simp) rfl (by intro u hu;simp only [List.mem_cons,List.not_mem_nil,or_false]at hu;rcases hu with rfl | rfl | rfl | rfl | rfl | rfl | rfl <;> rfl),Be CF.out.2.2.2.2.2 (by omega) _ _ _ _ _ _ _⟩
   go_wp2_with fail;obtain⟨Qx,DF⟩:=Option.isSome_iff_exists.1 ir.out.symm;have kk:ag w2 (Fr B (w.heap.size+5)) (w2.setCell ⟨w.heap.size+3,2,none⟩ (.slice A9 n9 c9)) (Fr B (w.heap.size+5)):=ag.setCell _ (fun b hb=>by rcases hb with h | h <;> dsimp only <;> omega) (fun _ h _=>h);refine⟨⟨1,.slice A9 n9 c9,.slice none 0 0,.slice none 0 0,by omega,by go_num,CF.out.put 2 (.slice A9 n9 c9),by rw [if_neg (by omega)];exact⟨_,_,_,Qx,rfl,DF,(Po.out Qx DF).keep ((ag.refl (X':=Fr B (w.heap.size+5)) (fun b hb=>hb.imp id (fun h=>Nat.le_trans (Nat.succ_le_of_lt uz.out.2.2.2.2.1.lt) h))).trans kk)⟩,by rw [if_pos (by omega)],by rw [if_pos (by omega)]⟩,by simp [intOf]⟩
  ·obtain⟨P1,p1,q1,ll1,rfl,mJ,KO⟩:=(show Laid wr B (w.heap.size+5) _ _ from by simpa using g1);obtain rfl:v2=.slice none 0 0:=(by simpa using g2);obtain rfl:v3=.slice none 0 0:=(by simpa using g3);clear g1 g2 g3;have z0:wr.cell? ⟨w.heap.size+4,2,none⟩=some (.slice L2 a2 x2):=lz.2.2.2.2.1.cell 2;have z1:wr.cell? ⟨w.heap.size+4,3,none⟩=some (.pointer (some ⟨w.heap.size+3,3,none⟩)):=lz.2.2.2.2.1.cell 3;have uz:=qqh (jV.alloc lz (.cells #[.slice L2 a2 x2,.pointer (some ⟨w.heap.size+3,3,none⟩)] 166));have HK:=qqh (aj.new wr 166 #[.slice L2 a2 x2,.pointer (some ⟨w.heap.size+3,3,none⟩)]);have KT:=qqh (KO.keep (ag.alloc (.cells #[.slice L2 a2 x2,.pointer (some ⟨w.heap.size+3,3,none⟩)] 166) (fun _ h _=>h)));have Ht:=qqh mJ;clear lz KO mJ;go_wp2_with fail;refine(jS.out _ uz.out.2.2.2.2.2).mono ?_;rintro e w2 ⟨he,aX⟩;obtain⟨A9,n9,c9,o9,rfl,lM,BP⟩:=zZ he;have aY:=jV.below uz.out aX;have hk2:=aj.below HK.out aX HK.out.lt;have t0:w2.cell? ⟨w.heap.size+3,0,none⟩=some (.bool f.start):=aY.2.2.2.1.cell 0;have t1:w2.cell? ⟨w.heap.size+3,1,none⟩=some (.bool f.fin):=aY.2.2.2.1.cell 1;have t2:w2.cell? ⟨w.heap.size+3,2,none⟩=some (.slice P1 p1 q1):=aY.2.2.2.1.cell 2;have t3:w2.cell? ⟨w.heap.size+3,3,none⟩=some (.slice none 0 0):=aY.2.2.2.1.cell 3;have t4:w2.cell? ⟨w.heap.size+3,4,none⟩=some (.slice none 0 0):=aY.2.2.2.1.cell 4;have t5:w2.cell? ⟨w.heap.size+3,5,none⟩=some (.slice none 0 0):=aY.2.2.2.1.cell 5;have t6:w2.cell? ⟨w.heap.size+3,6,none⟩=some (.int .i64 0):=aY.2.2.2.1.cell 6;have s0:w2.cell? ⟨w.heap.size+2,0,none⟩=some (.bool false):=aY.2.2.1.cell 0;have Zu:=aY.2.2.1.frozen 0
   have s1:w2.cell? ⟨w.heap.size+2,1,none⟩=some (.bool false):=aY.2.2.1.cell 1;have sf1:=aY.2.2.1.frozen 1;have s2:w2.cell? ⟨w.heap.size+2,2,none⟩=some (.slice none 0 0):=aY.2.2.1.cell 2;have Zp:=aY.2.2.1.frozen 2;have s3:w2.cell? ⟨w.heap.size+2,3,none⟩=some (.slice none 0 0):=aY.2.2.1.cell 3;have sf3:=aY.2.2.1.frozen 3;have s4:w2.cell? ⟨w.heap.size+2,4,none⟩=some (.slice none 0 0):=aY.2.2.1.cell 4;have sf4:=aY.2.2.1.frozen 4;have s5:w2.cell? ⟨w.heap.size+2,5,none⟩=some (.slice none 0 0):=aY.2.2.1.cell 5;have Z8:=aY.2.2.1.frozen 5;have s6:w2.cell? ⟨w.heap.size+2,6,none⟩=some (.int .i64 0):=aY.2.2.1.cell 6;have sf6:=aY.2.2.1.frozen 6;have m1:w2.cell? ⟨wr.heap.size,1,none⟩=some (.pointer (some ⟨w.heap.size+3,3,none⟩)):=hk2.cell 1;have mf:=aY.2.2.2.1.frozen 3;have CF:=qqh aY;have bL:=qqh aX;have ir:=qqh lM;have Po:=qqh BP;have Tv:=aY.2.2.2.2.1.lt;clear he aY hk2 aX lM BP;cases o9
   ·go_wp2_with fail;exact bodyPost_ret (by simp [results,Tryz.results66,go_sem,s0,s1,s2,s3,s4,s5,s6]) rfl ⟨AW (cs:=[.bool f.start,.bool f.fin,.slice P1 p1 q1,.slice none 0 0,.slice none 0 0,.slice none 0 0,.int .i64 0]) (by rw [← ir.out];simp) rfl (by intro u hu;simp only [List.mem_cons,List.not_mem_nil,or_false]at hu;rcases hu with rfl | rfl | rfl | rfl | rfl | rfl | rfl <;> rfl),Be CF.out.2.2.2.2.2 (by omega) _ _ _ _ _ _ _⟩
   go_wp2_with fail;obtain⟨Qx,DF⟩:=Option.isSome_iff_exists.1 ir.out.symm;have kk:ag w2 (Fr B (w.heap.size+5)) (w2.setCell ⟨w.heap.size+3,3,none⟩ (.slice A9 n9 c9)) (Fr B (w.heap.size+5)):=ag.setCell _ (fun b hb=>by rcases hb with h | h <;> dsimp only <;> omega) (fun _ h _=>h);refine⟨⟨2,.slice P1 p1 q1,.slice A9 n9 c9,.slice none 0 0,by omega,by go_num,CF.out.put 3 (.slice A9 n9 c9),by rw [if_neg (by omega)];exact⟨_,_,_,_,rfl,Ht.out,KT.out.keep ((ag.below bL.out (fun _ h _=>h)).trans kk)⟩,by rw [if_neg (by omega)];exact⟨_,_,_,Qx,rfl,DF,(Po.out Qx DF).keep ((ag.refl (X':=Fr B (w.heap.size+5)) (fun b hb=>hb.imp id (fun h=>Nat.le_trans (Nat.succ_le_of_lt uz.out.2.2.2.2.1.lt) h))).trans kk)⟩,by rw [if_pos (by omega)]⟩,by simp [intOf]⟩
  obtain⟨P1,p1,q1,ll1,rfl,mJ,KO⟩:=(show Laid wr B (w.heap.size+5) _ _ from by simpa using g1);obtain⟨P2,p2,q2,ll2,rfl,jc,yP⟩:=(show Laid wr B (w.heap.size+5) _ _ from by simpa using g2);obtain rfl:v3=.slice none 0 0:=(by simpa using g3);clear g1 g2 g3;have z0:wr.cell? ⟨w.heap.size+4,4,none⟩=some (.slice L3 a3 x3):=lz.2.2.2.2.1.cell 4;have z1:wr.cell? ⟨w.heap.size+4,5,none⟩=some (.pointer (some ⟨w.heap.size+3,4,none⟩)):=lz.2.2.2.2.1.cell 5;have uz:=qqh (jV.alloc lz (.cells #[.slice L3 a3 x3,.pointer (some ⟨w.heap.size+3,4,none⟩)] 166));have HK:=qqh (aj.new wr 166 #[.slice L3 a3 x3,.pointer (some ⟨w.heap.size+3,4,none⟩)]);have KT:=qqh (KO.keep (ag.alloc (.cells #[.slice L3 a3 x3,.pointer (some ⟨w.heap.size+3,4,none⟩)] 166) (fun _ h _=>h)));have Ht:=qqh mJ;have QA:=qqh (yP.keep (ag.alloc (.cells #[.slice L3 a3 x3,.pointer (some ⟨w.heap.size+3,4,none⟩)] 166) (fun _ h _=>h)));have Lu:=qqh jc;clear lz KO mJ yP jc;go_wp2_with fail;refine(Ek.out _ uz.out.2.2.2.2.2).mono ?_;rintro e w2 ⟨he,aX⟩;obtain⟨A9,n9,c9,o9,rfl,lM,BP⟩:=zZ he;have aY:=jV.below uz.out aX;have hk2:=aj.below HK.out aX HK.out.lt;have t0:w2.cell? ⟨w.heap.size+3,0,none⟩=some (.bool f.start):=aY.2.2.2.1.cell 0;have t1:w2.cell? ⟨w.heap.size+3,1,none⟩=some (.bool f.fin):=aY.2.2.2.1.cell 1;have t2:w2.cell? ⟨w.heap.size+3,2,none⟩=some (.slice P1 p1 q1):=aY.2.2.2.1.cell 2;have t3:w2.cell? ⟨w.heap.size+3,3,none⟩=some (.slice P2 p2 q2):=aY.2.2.2.1.cell 3;have t4:w2.cell? ⟨w.heap.size+3,4,none⟩=some (.slice none 0 0):=aY.2.2.2.1.cell 4
  have t5:w2.cell? ⟨w.heap.size+3,5,none⟩=some (.slice none 0 0):=aY.2.2.2.1.cell 5;have t6:w2.cell? ⟨w.heap.size+3,6,none⟩=some (.int .i64 0):=aY.2.2.2.1.cell 6;have s0:w2.cell? ⟨w.heap.size+2,0,none⟩=some (.bool false):=aY.2.2.1.cell 0;have Zu:=aY.2.2.1.frozen 0;have s1:w2.cell? ⟨w.heap.size+2,1,none⟩=some (.bool false):=aY.2.2.1.cell 1;have sf1:=aY.2.2.1.frozen 1;have s2:w2.cell? ⟨w.heap.size+2,2,none⟩=some (.slice none 0 0):=aY.2.2.1.cell 2;have Zp:=aY.2.2.1.frozen 2;have s3:w2.cell? ⟨w.heap.size+2,3,none⟩=some (.slice none 0 0):=aY.2.2.1.cell 3;have sf3:=aY.2.2.1.frozen 3;have s4:w2.cell? ⟨w.heap.size+2,4,none⟩=some (.slice none 0 0):=aY.2.2.1.cell 4;have sf4:=aY.2.2.1.frozen 4;have s5:w2.cell? ⟨w.heap.size+2,5,none⟩=some (.slice none 0 0):=aY.2.2.1.cell 5;have Z8:=aY.2.2.1.frozen 5;have s6:w2.cell? ⟨w.heap.size+2,6,none⟩=some (.int .i64 0):=aY.2.2.1.cell 6;have sf6:=aY.2.2.1.frozen 6;have m1:w2.cell? ⟨wr.heap.size,1,none⟩=some (.pointer (some ⟨w.heap.size+3,4,none⟩)):=hk2.cell 1;have mf:=aY.2.2.2.1.frozen 4;have CF:=qqh aY;have bL:=qqh aX;have ir:=qqh lM;have Po:=qqh BP;have Tv:=aY.2.2.2.2.1.lt;clear he aY hk2 aX lM BP;cases o9
  ·go_wp2_with fail;exact bodyPost_ret (by simp [results,Tryz.results66,go_sem,s0,s1,s2,s3,s4,s5,s6]) rfl ⟨AW (cs:=[.bool f.start,.bool f.fin,.slice P1 p1 q1,.slice P2 p2 q2,.slice none 0 0,.slice none 0 0,.int .i64 0]) (by rw [← ir.out];simp) rfl (by intro u hu;simp only [List.mem_cons,List.not_mem_nil,or_false]at hu;rcases hu with rfl | rfl | rfl | rfl | rfl | rfl | rfl <;> rfl),Be CF.out.2.2.2.2.2 (by omega) _ _ _ _ _ _ _⟩
  go_wp2_with fail;obtain⟨Qx,DF⟩:=Option.isSome_iff_exists.1 ir.out.symm;have kk:ag w2 (Fr B (w.heap.size+5)) (w2.setCell ⟨w.heap.size+3,4,none⟩ (.slice A9 n9 c9)) (Fr B (w.heap.size+5)):=ag.setCell _ (fun b hb=>by rcases hb with h | h <;> dsimp only <;> omega) (fun _ h _=>h);refine⟨⟨3,.slice P1 p1 q1,.slice P2 p2 q2,.slice A9 n9 c9,by omega,by go_num,CF.out.put 4 (.slice A9 n9 c9),by rw [if_neg (by omega)];exact⟨_,_,_,_,rfl,Ht.out,KT.out.keep ((ag.below bL.out (fun _ h _=>h)).trans kk)⟩,by rw [if_neg (by omega)];exact⟨_,_,_,_,rfl,Lu.out,QA.out.keep ((ag.below bL.out (fun _ h _=>h)).trans kk)⟩,by rw [if_neg (by omega)];exact⟨_,_,_,Qx,rfl,DF,(Po.out Qx DF).keep ((ag.refl (X':=Fr B (w.heap.size+5)) (fun b hb=>hb.imp id (fun h=>Nat.le_trans (Nat.succ_le_of_lt uz.out.2.2.2.2.1.lt) h))).trans kk)⟩⟩,by simp [intOf]⟩
 have QM:3≤k:=(by omega);rw [if_neg (by omega)]at g1;obtain⟨P1,p1,q1,ll1,rfl,mJ,KO⟩:=g1;rw [if_neg (by omega)]at g2;obtain⟨P2,p2,q2,ll2,rfl,jc,yP⟩:=g2;rw [if_neg (by omega)]at g3;obtain⟨P3,p3,q3,ll3,rfl,Tt,hv3⟩:=g3;generalize wr=wz at *;have e3:wz.cell? ⟨w.heap.size+1,3,none⟩=some (.slice R2 b2 y2):=lz.2.1.cell 3;have uz:=qqh lz;have KT:=qqh KO;have QA:=qqh yP;have X8:=qqh hv3;have Ht:=qqh mJ;have Lu:=qqh jc;have Ui:=qqh Tt;have hz:=lz.2.2.2.2.2.size;have Rj:=lz.2.2.2.2.1.lt;clear lz KO yP hv3 mJ jc Tt;go_wp2_with fail;go_loopw [56] (WN w wz B #[.bool f.start,.bool f.fin,.slice L1 a1 x1,.slice L2 a2 x2,.slice L3 a3 x3,.int .i64 f.af] #[.bool t.start,.bool t.fin,.slice R1 b1 y1,.slice R2 b2 y2,.slice R3 b3 y3,.int .i64 t.af] #[.slice L1 a1 x1,.pointer (some ⟨w.heap.size+3,2,none⟩),.slice L2 a2 x2,.pointer (some ⟨w.heap.size+3,3,none⟩),.slice L3 a3 x3,.pointer (some ⟨w.heap.size+3,4,none⟩)] (.bool f.start) (.bool f.fin) (.slice P1 p1 q1) (.slice P2 p2 q2) (.slice P3 p3 q3) t.source b2) (fun i _=>b2 - (intOf i).toNat);(case atStart=>exact⟨0,.slice none 0 0,Nat.zero_le _,rfl,uz.out,World.ownsRow_nil _ _ _ _,fun b hx hl=>⟨rfl,⟨hx,hl⟩,hl⟩,qql⟩);obtain⟨k,v,hk,rfl,lz,hown,hkp,hzr⟩:=hrel;by_cases hlt:k<b2
 ·obtain⟨a,ha⟩:∃ z,t.source[k]? = some z:=⟨_,List.getElem?_eq_getElem (by rw [V6.out];exact hlt)⟩;obtain⟨b,off,A',n',c',rfl,ey,f0,f1,f2,f3,_,_,_,_⟩:=uU dP.out ha;have V5:=lz.2.2.2.2.2;have ko:b<w.heap.size:=(by omega);have d0:=(V5.cell (p:=⟨b,off+k*4,none⟩) ko).trans f0;have d1:=(V5.cell (p:=⟨b,off+k*4+1,none⟩) ko).trans f1;have d2:=(V5.cell (p:=⟨b,off+k*4+2,none⟩) ko).trans f2;have d3:=(V5.cell (p:=⟨b,off+k*4+3,none⟩) ko).trans f3;clear f0 f1 f2 f3 V5;generalize hT:(t.source.take k).map (·.rune)=T at hown;have HTM:=qqh ((N3 ha).trans (by rw [hT]:_=T++[a.rune]));clear hT;obtain⟨Av,cv,rfl,_⟩:=aJ hown;have TI:=jV.alloc lz (.cells #[.int .i64 a.kind,.int .i32 a.rune,.slice A' n' c',.string a.name] 171);have hO1:=World.ownsRow.alloc hown (.cells #[.int .i64 a.kind,.int .i32 a.rune,.slice A' n' c',.string a.name] 171);have c5:(wr.alloc (.cells #[.int .i64 a.kind,.int .i32 a.rune,.slice A' n' c',.string a.name] 171)).cell? ⟨w.heap.size+3,5,none⟩=some (.slice Av k cv):=TI.2.2.2.1.cell 5;have HA2:=qqh (jV.alloc TI (.cells #[.int .i32 a.rune] 21));have nE:=qqh (World.ownsRow.alloc hO1 (.cells #[.int .i32 a.rune] 21));have oV:=qqh ((hkp.trans (ag.alloc (.cells #[.int .i64 a.kind,.int .i32 a.rune,.slice A' n' c',.string a.name] 171) (fun _ h _=>h))).trans (ag.alloc (.cells #[.int .i32 a.rune] 21) (fun _ h _=>h)));have hN:=Rd.new (wr.alloc (.cells #[.int .i64 a.kind,.int .i32 a.rune,.slice A' n' c',.string a.name] 171)) 21 1 1 [.int .i32 a.rune] rfl;rw [show(wr.alloc (.cells #[.int .i64 a.kind,.int .i32 a.rune,.slice A' n' c',.string a.name] 171)).heap.size=wr.heap.size+1 by simp]at hN;have HN:=qqh hN
  have Ei:=qqh (show ∀ u ∈ [Value.int .i32 a.rune],u.oneCell'=true by intro x hx;simp at hx;subst hx;rfl);have HZ:=qqh (show wz.heap.size≤((wr.alloc (.cells #[.int .i64 a.kind,.int .i32 a.rune,.slice A' n' c',.string a.name] 171)).alloc (.cells #[.int .i32 a.rune] 21)).heap.size by simp;omega);clear TI hO1 hN lz hown hkp ha;go_wp2_with (at_builtin;refine ai _ rfl (.tmp 61) (.tmp 64) 24 rfl wz.heap.size 21 i0 _ 1 4 Tryz.underlying24 hi hz0 oQ tr rfl (by decide) _ _ _ rfl nE.out _ (some ⟨wr.heap.size+1,0,none⟩) 1 1 [.int .i32 a.rune] rfl HN.out Ei.out (by simp only [maxLen];omega) (by omega) HZ.out ?_);intro v9 w9 ak;have YK:=jV.app HA2.out nE.out (by decide) (by decide) (by decide) hz ak;have lM:=ak.own;have Xy:=oV.out.trans (ag.app (X':=fun b=>Fr B (w.heap.size+5) b∧b<wz.heap.size) ak (fun b hx e=>by have:=(bk nE.out e).1;have:=hx.2;omega) (fun _ h _=>h));have Pn:wz.heap.size≤w9.heap.size:=Nat.le_trans HZ.out ak.2.1.size;rw [← wG,← HTM.out]at lM;obtain⟨A9,c9,rfl,_⟩:=aJ lM;have p5:w9.cell? ⟨w.heap.size+3,5,none⟩=some (.slice Av k cv):=YK.2.2.2.1.cell 5;have p5f:=YK.2.2.2.1.frozen 5;have HA3:=qqh YK;have ir:=qqh lM;have Xw:=qqh Xy;clear ak YK lM Xy;go_wp2_with fail;refine⟨⟨k+1,.slice A9 (k+1) c9,by omega,by go_num,HA3.out.put 5 (.slice A9 (k+1) c9),gn ir.out HA3.out.2.2.2.1 (by decide),Xw.out.trans (ag.setCell _ (fun b hx=>?_) (fun _ h _=>h)),by simpa using Pn⟩,by simp [intOf];omega⟩;have:=hx.1;dsimp only;rcases this with h | h <;> omega
 obtain rfl:k=b2:=(by omega);rw [List.take_of_length_le (by rw [V6.out];omega)]at hown;obtain⟨Av,cv,rfl,_⟩:=aJ hown;have aY:=lz;have t0:wr.cell? ⟨w.heap.size+3,0,none⟩=some (.bool f.start):=aY.2.2.2.1.cell 0;have t1:wr.cell? ⟨w.heap.size+3,1,none⟩=some (.bool f.fin):=aY.2.2.2.1.cell 1;have t2:wr.cell? ⟨w.heap.size+3,2,none⟩=some (.slice P1 p1 q1):=aY.2.2.2.1.cell 2;have t3:wr.cell? ⟨w.heap.size+3,3,none⟩=some (.slice P2 p2 q2):=aY.2.2.2.1.cell 3;have t4:wr.cell? ⟨w.heap.size+3,4,none⟩=some (.slice P3 p3 q3):=aY.2.2.2.1.cell 4;have t5:wr.cell? ⟨w.heap.size+3,5,none⟩=some (.slice Av k cv):=aY.2.2.2.1.cell 5;have t6:wr.cell? ⟨w.heap.size+3,6,none⟩=some (.int .i64 0):=aY.2.2.2.1.cell 6;have s0:wr.cell? ⟨w.heap.size+2,0,none⟩=some (.bool false):=aY.2.2.1.cell 0;have Zu:=aY.2.2.1.frozen 0;have s1:wr.cell? ⟨w.heap.size+2,1,none⟩=some (.bool false):=aY.2.2.1.cell 1;have sf1:=aY.2.2.1.frozen 1;have s2:wr.cell? ⟨w.heap.size+2,2,none⟩=some (.slice none 0 0):=aY.2.2.1.cell 2;have Zp:=aY.2.2.1.frozen 2;have s3:wr.cell? ⟨w.heap.size+2,3,none⟩=some (.slice none 0 0):=aY.2.2.1.cell 3;have sf3:=aY.2.2.1.frozen 3;have s4:wr.cell? ⟨w.heap.size+2,4,none⟩=some (.slice none 0 0):=aY.2.2.1.cell 4;have sf4:=aY.2.2.1.frozen 4;have s5:wr.cell? ⟨w.heap.size+2,5,none⟩=some (.slice none 0 0):=aY.2.2.1.cell 5;have Z8:=aY.2.2.1.frozen 5;have s6:wr.cell? ⟨w.heap.size+2,6,none⟩=some (.int .i64 0):=aY.2.2.1.cell 6;have sf6:=aY.2.2.1.frozen 6;have t6f:=aY.2.2.2.1.frozen 6;have e5:wr.cell? ⟨w.heap.size+1,5,none⟩=some (.int .i64 t.af):=aY.2.1.cell 5
 have hend:∀ (we:World) (K:Int),((∃ u,we=wr.setCell ⟨w.heap.size+3,6,none⟩ u)∨∃ u u',we=(wr.setCell ⟨w.heap.size+3,6,none⟩ u).setCell ⟨w.heap.size+3,6,none⟩ u')→K=(if t.af<0 then (t.source.length:Int)else t.af) →
     Gi (La we (w.heap.size+1+1) (.bool f.start) (.bool f.fin) (.slice P1 p1 q1) (.slice P2 p2 q2) (.slice P3 p3 q3) (.slice Av k cv) (.int .i64 K)) B w.heap.size (eS LP f t) (.returned (.tuple #[.agg #[.bool f.start,.bool f.fin,.slice P1 p1 q1,.slice P2 p2 q2,.slice P3 p3 q3,.slice Av k cv,.int .i64 K],.bool true])) ∧
     Below w.heap.size w (La we (w.heap.size+1+1) (.bool f.start) (.bool f.fin) (.slice P1 p1 q1) (.slice P2 p2 q2) (.slice P3 p3 q3) (.slice Av k cv) (.int .i64 K)):=by
   intro we K hwe hK
   have YD:Below w.heap.size w we:=by
     rcases hwe with ⟨u,rfl⟩ | ⟨u,u',rfl⟩
     · exact lz.2.2.2.2.2.setCell (by simp) _
     · exact(lz.2.2.2.2.2.setCell (by simp) _).setCell (by simp) _
   have kw:∀ (X:Nat→Prop),(∀ b,X b→b≠w.heap.size+3)→ag wr X we X:=by
     intro X hX
     rcases hwe with ⟨u,rfl⟩ | ⟨u,u',rfl⟩
     · exact ag.setCell u (fun b hb=>hX b hb) (fun _ h _=>h)
     · exact(ag.setCell (X':=X) u (fun b hb=>hX b hb) (fun _ h _=>h)).trans (ag.setCell u' (fun b hb=>hX b hb) (fun _ h _=>h))
   have kk:ag wz (Fr B (w.heap.size+5)) (La we (w.heap.size+1+1) (.bool f.start) (.bool f.fin) (.slice P1 p1 q1) (.slice P2 p2 q2) (.slice P3 p3 q3) (.slice Av k cv) (.int .i64 K)) (Fr B w.heap.size):=by
     refine(hkp.trans (kw _ (fun b hx=>by rcases hx.1 with h | h <;> omega))).trans ((Q9 (fun b hx=>?_) _ _ _ _ _ _ _).trans (ag.refl (fun b hx=>?_)))
     · rcases hx.1 with h | h <;> omega
     · exact hx.1.imp id (fun h=>by omega)
   refine⟨⟨[.bool f.start,.bool f.fin,.slice P1 p1 q1,.slice P2 p2 q2,.slice P3 p3 q3,.slice Av k cv,.int .i64 K],rfl,?_,?_,fun rd hrd=>?_⟩,Be YD (by omega) _ _ _ _ _ _ _⟩
   · rw [rA,Ht.out,Lu.out,Ui.out];rfl
   · intro u hu
     simp only [List.mem_cons,List.not_mem_nil,or_false]at hu
     rcases hu with rfl | rfl | rfl | rfl | rfl | rfl | rfl <;> rfl
   · obtain⟨a,b,c,g1,g2,g3,rfl⟩:=JC hrd
     rw [Ht.out]at g1
     rw [Lu.out]at g2
     rw [Ui.out]at g3
     cases g1
     cases g2
     cases g3
     refine⟨_,_,_,Av,k,cv,by rw [hK],KT.out.keep kk,QA.out.keep kk,X8.out.keep kk,?_,by unfold maxLen;omega⟩
     refine(cV.cC (X:=fun b=>wz.heap.size≤b) hown (fun b hb=>(bk hown hb).1)).keep ((kw _ (fun b hx=>by omega)).trans ((Q9 (fun b hx=>by omega) _ _ _ _ _ _ _).trans (ag.refl (fun b hx=>.inr (by omega)))))
 have sC:=qqh hend;have Oa:(t.source.length:Int)=k:=(by rw [V6.out]);have HKL:=qqh Oa;clear hend Oa lz aY hown hkp;by_cases hc:t.af<0
 ·have HK:=qqh (show((k:Nat):Int)=(if t.af<0 then (t.source.length:Int)else t.af) by rw [if_pos hc,HKL.out]);go_wp2_with fail;obtain⟨hpost,fq⟩:=sC.out _ _ (.inr ⟨_,_,rfl⟩) HK.out;exact bodyPost_ret (by simp [results,Tryz.results66,go_sem,s0,s1,s2,s3,s4,s5,s6]) rfl ⟨hpost,fq⟩
 have HK:=qqh (show t.af=(if t.af<0 then (t.source.length:Int)else t.af) by rw [if_neg hc]);go_wp2_with fail;obtain⟨hpost,fq⟩:=sC.out _ _ (.inl ⟨_,rfl⟩) HK.out;exact bodyPost_ret (by simp [results,Tryz.results66,go_sem,s0,s1,s2,s3,s4,s5,s6]) rfl ⟨hpost,fq⟩
end Go.Proofs.YtblinekbpcdbfaaGreatDoor
