/- SetsRef + Env + SetsSyn + RuleRef + RuleSyn -/
import Derived.Test.YtamkjeipdjbemaaGreatDoorZp6
import Derived.Test.YtamkjeipdjbemaaGreatDoorZp12
import Derived.Lib.Strings
import Derived.Deep.DeepCutAuto
import Derived.Test.YtamkjeipdjbemaaGreatDoorZp10
import Derived.Test.YtamkjeipdjbemaaGreatDoorZp5
import Derived.Maps.OwnSet
import Derived.StringKeys
set_option maxHeartbeats 6400000
set_option maxRecDepth 100000
namespace Go.Proofs.YtamkjeipdjbemaaGreatDoor
open Go.RowKit
theorem MK:(Tryz.prog.info? 26).map (fun i=>(i.zero,i.size,i.bytes))=some (some (.slice none 0 0),1,24):=by kernel_rfl
def Oc (B lo:Nat) (v:Value) (b:Nat):Prop:=Fr B lo b∧v.ownBlock≠some b
def lG (w:World) (B:Nat) (ll:List ag) (v:Value) (wx:World):Prop:=dD (iH wx (Oc B w.heap.size v)) 26 1 wx w.heap.size v ll∧Below w.heap.size w wx
section
variable {w wx w2 : World} {B : Nat} {ll : List ag} {v v' : Value}
theorem lG.nil (w:World) (B:Nat):lG w B [] (.slice none 0 0) w:=⟨dD.nil _ _,qqb⟩
theorem lG.alloc (h:lG w B ll v wx) (o:Obj):lG w B ll v (wx.alloc o) :=
  ⟨h.1.kept (fun _ _ h=>World.ownsRow.alloc h o) (fun _ _ h=>h.keep (aa.alloc o (fun _ h _=>h))),h.2.alloc h.2.size o⟩
theorem lG.below (h:lG w B ll v wx) (hb:Below wx.heap.size wx w2):lG w B ll v w2 :=
  ⟨h.1.kept (fun _ _ h=>bG h hb) (fun _ _ h=>h.keep (aa.below hb (fun _ h _=>h))),h.2.trans (hb.mono h.2.size)⟩
theorem xT {base sz n:Nat} {e:TypeId} {xs:List Value} (h:wx.ownsRow base e sz v n xs) {b:Nat} (hb:b<base∨wx.heap.size≤b):v.ownBlock≠some b:=fun e=>by
 have:=bt h e;omega
theorem lG.push {css:List (List Value)} {s:ag} {u:Value} {t:TypeId} (h1:css.length=ll.length) (h2:∀ (i:Nat) (a:ag) (cs:List Value),ll[i]? = some a→css[i]? = some cs→iH wx (Oc B w.heap.size v) a cs) (h3:∀ cs∈css,cs.length=1)
    (h4:wx.ownsRow w.heap.size 26 1 v ll.length css.flatten) (hb:Below w.heap.size w wx) (hu:jh wx (Oc B w.heap.size v) s u)
    (ha:bh w.heap.size 26 1 v (wx.alloc (.cells #[u] t)) (ll.length+1) (css.flatten++[u]) v' w2):lG w B (ll++[s]) v' w2:=by
 have hk:aa wx (Oc B w.heap.size v) w2 (Oc B w.heap.size v'):=by
  refine(aa.alloc (.cells #[u] t) (fun _ h _=>h)).trans (aa.app (X':=fun b=>Oc B w.heap.size v' b) ha (fun b hx=>hx.2) (fun b hx hl=>⟨hx.1,?_⟩));rcases ha.2.2 with e | e
  ·rw [e];exact hx.2
  rw [e];intro he;injection he with he;omega
 refine⟨dD.push h1 h2 h3 (fun _ _ h=>h.keep hk) ⟨u,rfl,hu.keep hk⟩ rfl ha,?_⟩;exact(hb.alloc hb.size (.cells #[u] t)).trans (ha.below (hb.alloc hb.size (.cells #[u] t)).size (World.ownsRow.alloc h4 _))
end
def Nn (w:World) (B lo:Nat) (r:Option (List ag)) (e:Ending):Prop :=
  match r with
  | some ll=>∃ u,e=.returned (.tuple #[u,.bool true])∧eH w (Fr B lo) ll u
  | none=>e=.returned (.tuple #[.slice none 0 0,.bool false])
theorem lG.post {w wx:World} {B:Nat} {ll:List ag} {v:Value} (h:lG w B ll v wx) (hl:ll.length≤maxLen):eH wx (Fr B w.heap.size) ll v:=by
 obtain⟨A,c,rfl,_⟩:=h.1.form;refine⟨A,_,c,rfl,dD.done h.1 (fun _ _ h=>h.keep (aa.refl (fun _ h=>h.1))) (fun b hb=>.inr ?_),hl⟩;obtain⟨css,_,_,_,h4⟩:=h.1;exact(bt h4 hb).1
def Sh (w:World) (B:Nat) (l:List aK) (L:List aI) (n:Nat) (out i:Value) (wr:World):Prop :=
  ∃ (k:Nat) (ll:List ag),k≤n∧i=.int .i64 k∧cJ l (L.take k)=some ll∧lG w B ll out wr
end Go.Proofs.YtamkjeipdjbemaaGreatDoor
namespace Go.Proofs.YtamkjeipdjbemaaGreatDoor
open Go.RowKit Go.Maps
def gv (w:World) (X:Nat→Prop) (mb n:Nat) (l:List aK):Prop :=
  ∃ D:DataW Value,w.ownsMap Tryz.prog 9 Raw mb n D∧IsMap D∧∀ s:ByteArray,match gA l s with
    | some set=>∃ u,D.atKey (fF s) uJ=.held u∧has D (fF s)=true∧jh w X set u
    | none=>D.atKey (fF s) uJ=uJ∧has D (fF s)=false
theorem gv.keep {w w':World} {X X':Nat→Prop} {mb n:Nat} {l:List aK} (hk:aa w X w' X') (hm:w'.heap[mb]? = w.heap[mb]?) (h:gv w X mb n l):gv w' X' mb n l:=by
 obtain⟨D,⟨es,clock,h1,h2⟩,h3,h4⟩:=h;refine⟨D,⟨es,clock,hm.trans h1,h2⟩,h3,fun s=>?_⟩;have:=h4 s;cases hl:gA l s with
 | none=>rw [hl]at this;exact this
 | some set=>
  rw [hl]at this;obtain⟨u,g1,g2,g3⟩:=this;exact⟨u,g1,g2,g3.keep hk⟩
theorem gv.lt {w:World} {X:Nat→Prop} {mb n:Nat} {l:List aK} (h:gv w X mb n l):mb<w.heap.size:=by
 obtain⟨D,h1,_⟩:=h;exact h1.lt
theorem gv.made (w:World) (X:Nat→Prop):gv (w.alloc (.map #[] 0)) X w.heap.size 0 [] :=
  ⟨.map [],World.ownsMap_made _ _ _ _,isMap_empty,fun s=>⟨by simp [DataW.atKey],by simp [has]⟩⟩
theorem vS (l:List aK) (p:aK) (s:ByteArray):gA (l++[p]) s=match gA l s with
    | some x=>some x
    | none=>if p.kind=1∧p.name=s then some p.set else none:=by
 induction l with
 | nil=>simp [gA]
 | cons q l ih=>
  rw [List.cons_append,gA,gA];by_cases h:q.kind=1∧q.name=s
  ·rw [if_pos h,if_pos h]
  rw [if_neg h,if_neg h,ih]
theorem gv.put {w w':World} {X:Nat→Prop} {mb n:Nat} {l:List aK} {p:aK} {u:Value} {D:DataW Value} (hD:IsMap D)
    (h4:∀ s:ByteArray,match gA l s with
      | some set=>∃ u,D.atKey (fF s) uJ=.held u∧has D (fF s)=true∧jh w X set u
      | none=>D.atKey (fF s) uJ=uJ∧has D (fF s)=false)
    (hp:p.kind=1) (hno:gA l p.name=none) (hu:jh w X p.set u) (hk:aa w X w' X)
    (hown:w'.ownsMap Tryz.prog 9 Raw mb n (D.put (fF p.name) (.held u))):gv w' X mb n (l++[p]):=by
 refine⟨_,hown,hD.put _ _,fun s=>?_⟩;rw [vS];by_cases hs:p.name=s
 ·subst hs;rw [hno];dsimp only;rw [if_pos ⟨hp,rfl⟩];exact⟨u,atKey_put_same hD (vH _) _ _,has_put_same hD (vH _) _,hu.keep hk⟩
 have hne:fF s≠fF p.name:=fun e=>hs (DP e).symm;have:=h4 s;cases hl:gA l s with
 | none=>
  rw [hl]at this;dsimp only;rw [if_neg (fun h=>hs h.2),atKey_put_other hne,has_put_other hne];exact this
 | some set=>
  rw [hl]at this;obtain⟨v,g1,g2,g3⟩:=this;dsimp only;exact⟨v,by rw [atKey_put_other hne];exact g1,by rw [has_put_other hne];exact g2,g3.keep hk⟩
theorem gv.other {w:World} {X:Nat→Prop} {mb n:Nat} {l:List aK} {p:aK} (h:gv w X mb n l) (hp:p.kind≠1):gv w X mb n (l++[p]):=by
 obtain⟨D,h1,h2,h3⟩:=h;refine⟨D,h1,h2,fun s=>?_⟩;have:=h3 s;rw [vS];cases hl:gA l s with
 | none=>rw [hl]at this;dsimp only;rw [if_neg (fun h=>hp h.1)];exact this
 | some set=>rw [hl]at this;exact this
theorem nG {w:World} {ops:Array Oper} {rest:List Oper} {o:Oper} {a:Act} {Q:Exit→Act→World→Prop} (hg:o.guard=none) (m x:Operand) (hop:o.op=Op.lookup 126 m x true)
    (mb n:Nat) (D:DataW Value) (hm:a.eval m=.map (some mb)) (hown:w.ownsMap Tryz.prog 9 Raw mb n D) (s:ByteArray) (hx:a.eval x=.string s) (hs:s.size≤maxLen) (u:Value) (b:Bool)
    (h1:D.atKey (fF s) uJ=.held u) (h2:has D (fF s)=b) (hK:wpList Tryz.prog ops Q rest (a.put o.dst (.tuple #[u,.bool b])) w):wpList Tryz.prog ops Q (o::rest) a w :=
  wpList_lookup_own_ok w hg m x _ hop 9 26 iS Tryz.underlying126 Raw (Qe w) uJ [] rfl mb n D hm hown (.string s) (fF s) hx (kf hs) (fun v ps hv=>by
    rw [h1]at hv
    unfold Raw at hv
    injection hv with hv
    injection hv with hv
    injection hv with hv
    subst hv
    rw [h2]
    exact hK)
theorem pn (A:Option Addr) (n c B:Nat) (s:ag) (w:World) (h:Rd w B 2 A n (au s)) (hn:n≤1000) :
    Calls Tryz.prog 72 #[.slice A n c] w fun e w'=>(∃ u,e=.returned u∧jh w' (fun b=>w.heap.size≤b) s u)∧Below w.heap.size w w':=by
 obtain⟨i0,hi,hz0,i6,kO⟩:=info_parts jY;have q22:∀ (w:World) (a:Option Addr) (n c n' c':Nat),(binOp .eql 26 (.slice a n c) (.slice none n' c')).run Tryz.prog w=.ok (.bool a.isNone) w:=fun w a n c n' c'=>Lib.run_eql_slice_nil w _ _ a n c n' c' Tryz.underlying26;have H:=qqh h;clear h;cases A with
 | none=>
  have hn0:n=0:=by
   rcases Nat.eq_zero_or_pos n with h0 | h0;exact h0;obtain⟨_,_,e,_⟩:=H.out.2 h0;cases e
  subst hn0;go_enter Tryz.func72,Tryz.ntmps72;go_wp2_with fail;go_ret;exact⟨⟨_,rfl,none,0,0,rfl,⟨H.out.1,fun h=>absurd h (Nat.lt_irrefl 0)⟩,Nat.zero_le _⟩,qqb⟩
 | some ad=>
  have HO:=qqh (bH w 95 2 w.heap.size w.heap.size rfl qql);have HB:=qqh ((Below.refl w.heap.size w).alloc qql (.cells #[] 95));have HR:=qqh (Rd.more (Rd.below (B:=min B w.heap.size) ⟨H.out.1,fun h=>by
   obtain⟨b,off,e,_,hc⟩:=H.out.2 h;obtain⟨u,hu⟩:∃ u,(au s)[0]? = some u:=⟨_,List.getElem?_eq_getElem (by have:=H.out.1;omega)⟩;have hl:=World.block_lt_of_cell? w _ (hc 0 u hu);exact⟨b,off,e,by dsimp only at hl;omega,hc⟩⟩ (HB.out.mono (Nat.min_le_right _ _))) qql)
  go_enter Tryz.func72,Tryz.ntmps72;go_wp2_with (at_builtin;refine aj _ rfl (.tmp 5) (.tmp 6) 26 rfl w.heap.size 95 i0 _ 2 8 Tryz.underlying26 hi hz0 i6 kO rfl (by decide) _ _ _ rfl HO.out _ (some ad) n c (au s) rfl HR.out (mc s) (by simp only [maxLen];omega) (by omega) (by simp) ?_);intro v' w' af;have ho:=af.own;obtain⟨A2,c2,rfl,_⟩:=av ho;have bf:=qqh (HB.out.trans (af.below (by simp) HO.out));have HV:=qqh (show jh w' (fun b=>w.heap.size≤b) s (.slice A2 n c2) from⟨A2,n,c2,rfl,cL.b8 ho (fun b hb=>(bt ho hb).1),by unfold maxLen;omega⟩);clear af ho;go_wp2_with fail;go_ret;exact⟨⟨_,rfl,HV.out⟩,bf.out⟩
theorem oN {l:ag} (h:bD l=0):l.length≤200:=by
 unfold bD at h;by_cases h2:200<l.length
 ·rw [if_pos h2]at h;cases h
 omega
theorem Na (mb nm:Nat) (LP:List aK) (A2:Option Addr) (n2 c2:Nat) (L:List aI) (w:World) (B:Nat) (hB:B≤w.heap.size) (hE:gv w (· < B) mb nm LP) (Mu:∀ s set,gA LP s=some set→set.length≤200) (hL:ck w B A2 n2 L) (hok:cP L=0) :
    Calls Tryz.prog 106 #[.map (some mb),.slice A2 n2 c2] w fun e w'=>Nn w' B w.heap.size (cJ LP L) e∧Below w.heap.size w w':=by
 obtain⟨i0,hi,hz0,i6,kO⟩:=info_parts MK;obtain⟨h20,hall⟩:=DN hok;have abA:n2≤20:=(by rw [← kL.len hL];exact h20);have hmb:=hE.lt;have aM:=qqh (kL.len hL);have HL:=qqh hL;have HA:=qqh hall;have HE:=qqh hE;have Fo:=qqh Mu;clear hL hok h20 hall hE Mu;go_enter Tryz.func106,Tryz.ntmps106;go_wp2_with fail;go_loopw [6,13] (Sh w B LP L n2) (fun _ i _=>n2 - (intOf i).toNat);(case atStart=>exact⟨0,[],Nat.zero_le _,rfl,rfl,lG.nil w B⟩);obtain⟨k,ll,hk,rfl,aN,hst⟩:=hrel;have hll:=J2 aN;have af5:ll.length≤k:=(by rw [hll];exact List.length_take_le _ _);clear hll;have hz:=hst.2.size;by_cases hlt:k<n2
 ·obtain⟨a,ha⟩:∃ z,L[k]? = some z:=⟨_,List.getElem?_eq_getElem (by rw [aM.out];exact hlt)⟩;have hka:=GS (HA.out a (List.mem_of_getElem? ha));obtain⟨b,off,A',n',c',rfl,cK,f0,f1,f2,f3,yH,hn',_,hnm⟩:=vw HL.out ha;have jU:b<w.heap.size:=(by omega);have d0:=(hst.2.cell (p:=⟨b,off+k*4,none⟩) jU).trans f0;have d1:=(hst.2.cell (p:=⟨b,off+k*4+1,none⟩) jU).trans f1;have d2:=(hst.2.cell (p:=⟨b,off+k*4+2,none⟩) jU).trans f2;have d3:=(hst.2.cell (p:=⟨b,off+k*4+3,none⟩) jU).trans f3;clear f0 f1 f2 f3;have UR:=qqh yH;have eN:=qqh (lG.alloc hst (.cells #[.int .i64 a.kind,.int .i32 a.rune,.slice A' n' c',.string a.name] 167));have ot:=qqh (an.new wr 167 #[.int .i64 a.kind,.int .i32 a.rune,.slice A' n' c',.string a.name]);have dh:=qqh aN;have pZ:=qqh ha;clear yH hn' aN hst;rcases hka with ⟨hk1,hk2⟩ | ⟨hk1,hk2⟩ | ⟨hk1,hk2⟩
  ·have pS:=qqh (show uR LP a=some [(a.rune,a.rune)] by unfold uR;rw [if_pos hk1]);have q1:(a.kind == 1)=true:=(by rw [hk1];rfl);clear hk1 hk2;have Qz:=lG.alloc eN.out (.cells #[.int .i32 a.rune,.int .i32 a.rune] 95);have hux:=cL.new (w:=wr.alloc (.cells #[.int .i64 a.kind,.int .i32 a.rune,.slice A' n' c',.string a.name] 167)) (X:=Oc B w.heap.size u6) (n:=1) (sz:=2) 95 [.int .i32 a.rune,.int .i32 a.rune] rfl (by
    obtain⟨⟨css,g1,g2,g3,g4⟩,g5⟩:=eN.out;exact⟨.inr g5.size,xT g4 (.inr qql)⟩)
   rw [show(wr.alloc (.cells #[.int .i64 a.kind,.int .i32 a.rune,.slice A' n' c',.string a.name] 167)).heap.size=wr.heap.size+1 by simp]at hux;have HU:=qqh (show jh ((wr.alloc (.cells #[.int .i64 a.kind,.int .i32 a.rune,.slice A' n' c',.string a.name] 167)).alloc (.cells #[.int .i32 a.rune,.int .i32 a.rune] 95)) (Oc B w.heap.size u6) [(a.rune,a.rune)] (.slice (some ⟨wr.heap.size+1,0,none⟩) 1 1) from⟨_,_,_,rfl,hux,by decide⟩);have Q8:=qqh Qz;clear Qz hux;obtain⟨⟨css,g1,g2,g3,g4⟩,g5⟩:=Q8.out;have hN:=Rd.new ((wr.alloc (.cells #[.int .i64 a.kind,.int .i32 a.rune,.slice A' n' c',.string a.name] 167)).alloc (.cells #[.int .i32 a.rune,.int .i32 a.rune] 95)) 26 1 1 [.slice (some ⟨wr.heap.size+1,0,none⟩) 1 1] rfl;rw [show((wr.alloc (.cells #[.int .i64 a.kind,.int .i32 a.rune,.slice A' n' c',.string a.name] 167)).alloc (.cells #[.int .i32 a.rune,.int .i32 a.rune] 95)).heap.size=wr.heap.size+1+1 by simp]at hN;have HN:=qqh hN;have HO:=qqh (World.ownsRow.alloc g4 (.cells #[.slice (some ⟨wr.heap.size+1,0,none⟩) 1 1] 26));have HZ:=qqh ((g5.alloc g5.size (.cells #[.slice (some ⟨wr.heap.size+1,0,none⟩) 1 1] 26)).size);have G1:=qqh g1;have G2:=qqh g2;have G3:=qqh g3;have G4:=qqh g4;have G5:=qqh g5;clear g1 g2 g3 g4 g5 hN;go_wp2_with (at_builtin;refine aj _ rfl (.tmp 35) (.tmp 42) 131 rfl w.heap.size 26 i0 _ 1 24 Tryz.underlying131 hi hz0 i6 kO rfl (by decide) _ _ _ rfl HO.out _ (some ⟨wr.heap.size+1+1,0,none⟩) 1 1 [.slice (some ⟨wr.heap.size+1,0,none⟩) 1 1] rfl HN.out ?one1 (by simp only [maxLen];omega) (by omega) HZ.out ?_);(case one1=>intro x hx;simp at hx;subst hx;rfl);intro v9 w9 af
   have cQ:=qqh (lG.push G1.out G2.out G3.out G4.out G5.out HU.out af);clear af;go_wp2_with fail;exact⟨⟨k+1,ll++[_],by omega,by go_num,qP pZ.out dh.out pS.out,cQ.out⟩,by simp [intOf];omega⟩
  ·have pS:=qqh (show uR LP a=some a.set by unfold uR;rw [hk1,if_neg (by decide),if_pos rfl]);have q1:(a.kind == 1)=false:=(by rw [hk1];rfl);have q2:(a.kind == 2)=true:=(by rw [hk1];rfl);have GN:=oN hk2;have hlen:=mA.len UR.out;have hn2:n'≤1000:=(by omega);clear hk1 hk2 hlen GN;go_wp2_with fail;refine(pn A' n' c' B a.set _ (Rd.below UR.out (eN.out.2.mono hB)) hn2).mono ?_;rintro e wx ⟨⟨u,rfl,hu⟩,hb⟩;have Q8:=qqh (lG.below eN.out hb);have ON:=hu;obtain⟨A7,n7,c7,rfl,_⟩:=ON;have HU:=qqh (show jh wx (Oc B w.heap.size u6) a.set (.slice A7 n7 c7) from jh.keep (aa.refl (fun b hb=>by
    have g:=eN.out;obtain⟨⟨css,g1,g2,g3,g4⟩,g5⟩:=g;exact⟨.inr (Nat.le_trans g5.size hb),xT g4 (.inr hb)⟩)) hu)
   clear hu hb;obtain⟨⟨css,g1,g2,g3,g4⟩,g5⟩:=Q8.out;have HN:=qqh (Rd.new wx 26 1 1 [(.slice A7 n7 c7)] rfl);have HO:=qqh (World.ownsRow.alloc g4 (.cells #[(.slice A7 n7 c7)] 26));have HZ:=qqh (Nat.le_trans g5.size (show wx.heap.size≤(wx.alloc (.cells #[(.slice A7 n7 c7)] 26)).heap.size by simp));have G1:=qqh g1;have G2:=qqh g2;have G3:=qqh g3;have G4:=qqh g4;have G5:=qqh g5;clear g1 g2 g3 g4 g5;go_wp2_with (at_builtin;refine aj _ rfl (.tmp 46) (.tmp 50) 131 rfl w.heap.size 26 i0 _ 1 24 Tryz.underlying131 hi hz0 i6 kO rfl (by decide) _ _ _ rfl HO.out _ (some ⟨wx.heap.size,0,none⟩) 1 1 [(.slice A7 n7 c7)] rfl HN.out ?one2 (by simp only [maxLen];omega) (by omega) HZ.out ?_);(case one2=>intro x hx;simp at hx;subst hx;rfl);intro v9 w9 af;have cQ:=qqh (lG.push G1.out G2.out G3.out G4.out G5.out HU.out af);clear af;go_wp2_with fail;exact⟨⟨k+1,ll++[_],by omega,by go_num,qP pZ.out dh.out pS.out,cQ.out⟩,by simp [intOf];omega⟩
  have hsp:uR LP a=gA LP a.name:=(by unfold uR;rw [hk1,if_neg (by decide),if_neg (by decide)]);have q1:(a.kind == 1)=false:=(by rw [hk1];rfl);have q2:(a.kind == 2)=false:=(by rw [hk1];rfl);clear hk1 hk2;have he1:=gv.keep (X':=(· < B)) (aa.below eN.out.2 (fun _ h _=>h)) (eN.out.2.block mb hmb) HE.out;obtain⟨D,hD,_,lE⟩:=he1;have lE:=lE a.name;have HD:=qqh hD;clear hD;cases hlk:gA LP a.name with
  | none=>
   rw [hlk]at lE;have pS:=qqh (hsp.trans hlk);have Qr:=qqh lE.1;have TO:=qqh lE.2;clear hsp hlk lE;go_wp2_with (at_lookup;refine nG rfl (.tmp 20) (.tmp 22) rfl mb nm D rfl HD.out a.name rfl hnm (.slice none 0 0) false Qr.out TO.out ?_);go_ret2;rw [FG pZ.out pS.out];exact⟨rfl,eN.out.2⟩
  | some s=>
   rw [hlk]at lE;obtain⟨u,h1,h2,h3⟩:=lE;obtain⟨A6,n6,c6,rfl,hrd,_⟩:=h3;have pS:=qqh (hsp.trans hlk);have Qr:=qqh h1;have TO:=qqh h2;have GN:=Fo.out a.name s hlk;have Gm:Rd (wr.alloc (.cells #[.int .i64 a.kind,.int .i32 a.rune,.slice A' n' c',.string a.name] 167)) B 2 A6 n6 (au s):=cL.rd hrd (fun _ h _=>h);have hlen:=mA.len Gm;have hn2:n6≤1000:=(by omega);have nP:=qqh Gm;clear hsp hlk h1 h2 hrd GN Gm hlen;go_wp2_with (at_lookup;refine nG rfl (.tmp 20) (.tmp 22) rfl mb nm D rfl HD.out a.name rfl hnm (.slice A6 n6 c6) true Qr.out TO.out ?_);refine(pn A6 n6 c6 B s _ nP.out hn2).mono ?_;rintro e wx ⟨⟨u,rfl,hu⟩,hb⟩;have Q8:=qqh (lG.below eN.out hb);have ON:=hu;obtain⟨A7,n7,c7,rfl,_⟩:=ON;have HU:=qqh (show jh wx (Oc B w.heap.size u6) s (.slice A7 n7 c7) from jh.keep (aa.refl (fun b hb=>by
    have g:=eN.out;obtain⟨⟨css,g1,g2,g3,g4⟩,g5⟩:=g;exact⟨.inr (Nat.le_trans g5.size hb),xT g4 (.inr hb)⟩)) hu)
   clear hu hb;obtain⟨⟨css,g1,g2,g3,g4⟩,g5⟩:=Q8.out;have HN:=qqh (Rd.new wx 26 1 1 [(.slice A7 n7 c7)] rfl);have HO:=qqh (World.ownsRow.alloc g4 (.cells #[(.slice A7 n7 c7)] 26));have HZ:=qqh (Nat.le_trans g5.size (show wx.heap.size≤(wx.alloc (.cells #[(.slice A7 n7 c7)] 26)).heap.size by simp));have G1:=qqh g1;have G2:=qqh g2;have G3:=qqh g3;have G4:=qqh g4;have G5:=qqh g5;clear g1 g2 g3 g4 g5;go_wp2_with (at_builtin;refine aj _ rfl (.tmp 28) (.tmp 31) 131 rfl w.heap.size 26 i0 _ 1 24 Tryz.underlying131 hi hz0 i6 kO rfl (by decide) _ _ _ rfl HO.out _ (some ⟨wx.heap.size,0,none⟩) 1 1 [(.slice A7 n7 c7)] rfl HN.out ?one3 (by simp only [maxLen];omega) (by omega) HZ.out ?_);(case one3=>intro x hx;simp at hx;subst hx;rfl);intro v9 w9 af;have cQ:=qqh (lG.push G1.out G2.out G3.out G4.out G5.out HU.out af);clear af;go_wp2_with fail;exact⟨⟨k+1,ll++[_],by omega,by go_num,qP pZ.out dh.out pS.out,cQ.out⟩,by simp [intOf];omega⟩
 obtain rfl:k=n2:=(by omega);rw [List.take_of_length_le (by rw [aM.out];omega)]at aN;have HG:=qqh aN;have HS:=qqh hst;clear aN hst;obtain⟨AO,cO,rfl,_⟩:=HS.out.1.form;go_wp2_with fail;go_ret2;rw [HG.out];exact⟨⟨_,rfl,lG.post HS.out (by unfold maxLen;omega)⟩,HS.out.2⟩
theorem L6:(Tryz.prog.info? 21).map (fun i=>(i.zero,i.size,i.bytes))=some (some (.int .i32 0),1,4):=by kernel_rfl
theorem BU {w:World} {B lo:Nat} {r:Option (List ag)} {e:Ending} (h:Nn w B lo r e) :
    ∃ A n c b,e=.returned (.tuple #[.slice A n c,.bool b])∧b=r.isSome∧∀ ll,r=some ll→eH w (Fr B lo) ll (.slice A n c):=by
 cases r with
 | none=>exact⟨none,0,0,false,h,rfl,fun _ h=>by cases h⟩
 | some ll=>
  obtain⟨u,rfl,hu⟩:=h;have ON:=hu;obtain⟨A,n,c,rfl,_⟩:=ON;exact⟨A,n,c,true,rfl,rfl,fun _ h=>by cases h;exact hu⟩
abbrev jk:Array Value:=#[.bool false,.bool false,.slice none 0 0,.slice none 0 0,.slice none 0 0,.slice none 0 0,.int .i64 0]
def NI (w:World) (zg yO:Array Value) (wx:World):Prop :=
  an wx w.heap.size 81 zg∧an wx (w.heap.size+1) 81 yO∧an wx (w.heap.size+2) 133 jk∧Below w.heap.size w wx
theorem NI.made (w:World) (zg yO:Array Value):NI w zg yO (((w.alloc (.cells zg 81)).alloc (.cells yO 81)).alloc (.cells jk 133)):=by
 refine⟨an.alloc (an.alloc (an.new _ _ _) _) _,?_,?_,((qqb.alloc qql _).alloc (by simp) _).alloc (by simp;omega) _⟩
 ·have:=an.alloc (an.new (w.alloc (.cells zg 81)) 81 yO) (.cells jk 133);simpa using this
 have:=an.new ((w.alloc (.cells zg 81)).alloc (.cells yO 81)) 133 jk;simpa using this
def Gk (w:World) (B lo:Nat) (r:Option az) (e:Ending):Prop :=
  ∃ cs:List Value,cs.length=7∧e=.returned (.tuple #[.agg cs.toArray,.bool r.isSome])∧(∀ u∈cs,u.oneCell'=true)∧∀ rd,r=some rd→bg w (Fr B lo) rd cs
theorem MC {L:List aI} {k:Nat} {a:aI} (h:L[k]? = some a):(L.take (k+1)).map (·.rune)=(L.take k).map (·.rune)++[a.rune]:=by
 rw [List.take_add_one,h];simp
theorem sJ (l:List aK) (f t:cG):(fA l f t).isSome=((cJ l f.before).isSome && (cJ l f.source).isSome && (cJ l f.after).isSome):=by
 unfold fA;cases cJ l f.before <;> cases cJ l f.source <;> cases cJ l f.after <;> rfl
theorem Ir {l:List aK} {f t:cG} {rd:az} (h:fA l f t=some rd):∃ a b c,cJ l f.before=some a∧cJ l f.source=some b∧cJ l f.after=some c ∧
    rd=⟨f.start,f.fin,a,b,c,t.source.map (·.rune),if t.ai<0 then (t.source.length:Int)else t.ai⟩:=by
 unfold fA at h;cases h1:cJ l f.before with
 | none=>rw [h1]at h;cases h
 | some a=>
  cases h2:cJ l f.source with
  | none=>rw [h1,h2]at h;cases h
  | some b=>
   cases h3:cJ l f.after with
   | none=>rw [h1,h2,h3]at h;cases h
   | some c=>
    rw [h1,h2,h3]at h;cases h;exact⟨a,b,c,rfl,rfl,rfl,rfl⟩
abbrev MR (w:World) (g:Nat) (u0 u1 u2 u3 u4 u5 u6:Value):World :=
  ((((((w.setCell ⟨g,0,none⟩ u0).setCell ⟨g,1,none⟩ u1).setCell ⟨g,2,none⟩ u2).setCell ⟨g,3,none⟩ u3).setCell ⟨g,4,none⟩ u4).setCell ⟨g,5,none⟩ u5).setCell ⟨g,6,none⟩ u6
theorem QS {w:World} {X:Nat→Prop} {g:Nat} (h:∀ b,X b→b≠g) (u0 u1 u2 u3 u4 u5 u6:Value):aa w X (MR w g u0 u1 u2 u3 u4 u5 u6) X:=by
 have one:∀ (w:World) (i:Nat) (u:Value),aa w X (w.setCell ⟨g,i,none⟩ u) X:=fun w i u=>aa.setCell u (fun b hb=>h b hb) (fun _ h _=>h);exact((((((one _ 0 u0).trans (one _ 1 u1)).trans (one _ 2 u2)).trans (one _ 3 u3)).trans (one _ 4 u4)).trans (one _ 5 u5)).trans (one _ 6 u6)
theorem AF {w w0:World} {g B:Nat} (h:Below B w0 w) (hg:B≤g) (u0 u1 u2 u3 u4 u5 u6:Value):Below B w0 (MR w g u0 u1 u2 u3 u4 u5 u6) :=
  ((((((h.setCell hg _).setCell hg _).setCell hg _).setCell hg _).setCell hg _).setCell hg _).setCell hg _
def kE (w:World) (zg yO OD arr:Array Value) (wx:World):Prop :=
  an wx w.heap.size 81 zg∧an wx (w.heap.size+1) 81 yO∧an wx (w.heap.size+2) 133 jk ∧
  an wx (w.heap.size+3) 133 OD∧an wx (w.heap.size+4) 162 arr∧Below w.heap.size w wx
section
variable {w wx w2 : World} {zg yO OD arr : Array Value}
theorem kE.below (h:kE w zg yO OD arr wx) (hb:Below wx.heap.size wx w2):kE w zg yO OD arr w2 :=
  ⟨an.below h.1 hb h.1.lt,an.below h.2.1 hb h.2.1.lt,an.below h.2.2.1 hb h.2.2.1.lt,an.below h.2.2.2.1 hb h.2.2.2.1.lt,an.below h.2.2.2.2.1 hb h.2.2.2.2.1.lt,h.2.2.2.2.2.trans (hb.mono h.2.2.2.2.2.size)⟩
theorem kE.alloc (h:kE w zg yO OD arr wx) (o:Obj):kE w zg yO OD arr (wx.alloc o):=h.below (qqb.alloc qql o)
theorem kE.put (h:kE w zg yO OD arr wx) (i:Nat) (u:Value):kE w zg yO (OD.setIfInBounds i u) arr (wx.setCell ⟨w.heap.size+3,i,none⟩ u) :=
  ⟨ay h.1 (by omega),ay h.2.1 (by omega),ay h.2.2.1 (by omega),h.2.2.2.1.put i u,ay h.2.2.2.2.1 (by omega),h.2.2.2.2.2.setCell (by simp) _⟩
theorem kE.app {base sz n m:Nat} {e:TypeId} {v v':Value} {xs ys:List Value} (h:kE w zg yO OD arr wx) (ho:wx.ownsRow base e sz v n xs) (h1 : 81 ≠ e) (h2 : 133 ≠ e) (h3 : 162 ≠ e) (hb:w.heap.size≤base) (ha:bh base e sz v wx m ys v' w2):kE w zg yO OD arr w2 :=
  ⟨aZ h.1 ho h1 ha,aZ h.2.1 ho h1 ha,aZ h.2.2.1 ho h2 ha,aZ h.2.2.2.1 ho h2 ha,aZ h.2.2.2.2.1 ho h3 ha,h.2.2.2.2.2.trans (ha.below h.2.2.2.2.2.size (mH ho hb))⟩
end
def Laid (w:World) (B lo:Nat) (r:Option (List ag)) (v:Value):Prop:=∃ A n c ll,v=.slice A n c∧r=some ll∧eH w (Fr B lo) ll v
theorem Laid.keep {w w':World} {B lo:Nat} {r:Option (List ag)} {v:Value} (hk:aa w (Fr B lo) w' (Fr B lo)) (h:Laid w B lo r v):Laid w' B lo r v:=by
 obtain⟨A,n,c,ll,e,h1,h2⟩:=h;exact⟨A,n,c,ll,e,h1,h2.keep hk⟩
def WA (w:World) (B:Nat) (zg yO arr:Array Value) (c0 c1:Value) (r1 r2 r3:Option (List ag)) (i:Value) (wr:World):Prop :=
  ∃ (k:Nat) (v1 v2 v3:Value),k≤3∧i=.int .i64 k∧kE w zg yO #[c0,c1,v1,v2,v3,.slice none 0 0,.int .i64 0] arr wr ∧
    (if k<1 then v1=.slice none 0 0 else Laid wr B (w.heap.size+5) r1 v1)∧(if k<2 then v2=.slice none 0 0 else Laid wr B (w.heap.size+5) r2 v2)∧(if k<3 then v3=.slice none 0 0 else Laid wr B (w.heap.size+5) r3 v3)
def Wf (w w0:World) (B:Nat) (zg yO arr:Array Value) (c0 c1 c2 c3 c4:Value) (L:List aI) (n:Nat) (i:Value) (wr:World):Prop :=
  ∃ (k:Nat) (v:Value),k≤n∧i=.int .i64 k∧kE w zg yO #[c0,c1,c2,c3,c4,v,.int .i64 0] arr wr∧wr.ownsRow w0.heap.size 21 1 v k (runeCells ((L.take k).map (·.rune))) ∧
    aa w0 (Fr B (w.heap.size+5)) wr (fun b=>Fr B (w.heap.size+5) b∧b<w0.heap.size)∧w0.heap.size≤wr.heap.size
theorem AY {w:World} {B lo:Nat} {l:List aK} {f t:cG} {cs:List Value} (h:((cJ l f.before).isSome && (cJ l f.source).isSome && (cJ l f.after).isSome)=false) (hc:cs.length=7) (h1:∀ u∈cs,u.oneCell'=true) :
    Gk w B lo (fA l f t) (.returned (.tuple #[.agg cs.toArray,.bool false])):=by
 have hn:=(sJ l f t).trans h;refine⟨cs,hc,by rw [hn],h1,fun rd hr=>?_⟩;rw [hr]at hn;cases hn
theorem Dm (mb nm:Nat) (LP:List aK) (f t:cG) (L1 L2 L3 R1 R2 R3:Option Addr) (a1 a2 a3 x1 x2 x3 b1 b2 b3 y1 y2 y3:Nat) (w:World) (B:Nat) (hB:B≤w.heap.size) (hE:gv w (· < B) mb nm LP) (Mu:∀ s set,gA LP s=some set→set.length≤200)
    (l1:ck w B L1 a1 f.before) (l2:ck w B L2 a2 f.source) (l3:ck w B L3 a3 f.after) (k1:cP f.before=0) (k2:cP f.source=0) (k3:cP f.after=0) (r2:ck w B R2 b2 t.source) (j2:cP t.source=0) :
    Calls Tryz.prog 74 #[.map (some mb),.agg #[.bool f.start,.bool f.fin,.slice L1 a1 x1,.slice L2 a2 x2,.slice L3 a3 x3,.int .i64 f.ai],.agg #[.bool t.start,.bool t.fin,.slice R1 b1 y1,.slice R2 b2 y2,.slice R3 b3 y3,.int .i64 t.ai]] w
      fun e w'=>Gk w' B w.heap.size (fA LP f t) e∧Below w.heap.size w w':=by
 obtain⟨i0,hi,hz0,i6,kO⟩:=info_parts L6;obtain⟨h20,_⟩:=DN j2;have ae':b2≤20:=(by rw [← kL.len r2];exact h20);have Rx:=qqh (kL.len r2);have iz:=qqh r2;have hs:=fun(w':World) (hb:Below w.heap.size w w') (A':Option Addr) (n' c':Nat) (L:List aI) (hL:ck w B A' n' L) (hok:cP L=0)=>Na mb nm LP A' n' c' L w' B (Nat.le_trans hB hb.size) (gv.keep (aa.below hb (fun _ h _=>h)) (hb.block mb hE.lt) hE) Mu (ck.weak (gI (hb.mono hB) qql) hL) hok;have eN:=qqh (fun(w':World) (hb:Below w.heap.size w w')=>hs w' hb L1 a1 x1 f.before l1 k1);have lC:=qqh (fun(w':World) (hb:Below w.heap.size w w')=>hs w' hb L2 a2 x2 f.source l2 k2);have KD:=qqh (fun(w':World) (hb:Below w.heap.size w w')=>hs w' hb L3 a3 x3 f.after l3 k3);have hx0:=NI.made w #[.bool f.start,.bool f.fin,.slice L1 a1 x1,.slice L2 a2 x2,.slice L3 a3 x3,.int .i64 f.ai] #[.bool t.start,.bool t.fin,.slice R1 b1 y1,.slice R2 b2 y2,.slice R3 b3 y3,.int .i64 t.ai];have hx1:kE w #[.bool f.start,.bool f.fin,.slice L1 a1 x1,.slice L2 a2 x2,.slice L3 a3 x3,.int .i64 f.ai] #[.bool t.start,.bool t.fin,.slice R1 b1 y1,.slice R2 b2 y2,.slice R3 b3 y3,.int .i64 t.ai] #[.bool f.start,.bool f.fin,.slice none 0 0,.slice none 0 0,.slice none 0 0,.slice none 0 0,.int .i64 0] #[.slice L1 a1 x1,.pointer (some ⟨w.heap.size+3,2,none⟩),.slice L2 a2 x2,.pointer (some ⟨w.heap.size+3,3,none⟩),.slice L3 a3 x3,.pointer (some ⟨w.heap.size+3,4,none⟩)] ((((((w.alloc (.cells #[.bool f.start,.bool f.fin,.slice L1 a1 x1,.slice L2 a2 x2,.slice L3 a3 x3,.int .i64 f.ai] 81)).alloc (.cells #[.bool t.start,.bool t.fin,.slice R1 b1 y1,.slice R2 b2 y2,.slice R3 b3 y3,.int .i64 t.ai] 81)).alloc (.cells jk 133))).alloc (.cells #[.bool f.start,.bool f.fin,.slice none 0 0,.slice none 0 0,.slice none 0 0,.slice none 0 0,.int .i64 0] 133)).alloc (.cells #[.slice L1 a1 x1,.pointer (some ⟨w.heap.size+3,2,none⟩),.slice L2 a2 x2,.pointer (some ⟨w.heap.size+3,3,none⟩),.slice L3 a3 x3,.pointer (some ⟨w.heap.size+3,4,none⟩)] 162)):=by
  obtain⟨g1,g2,g3,g4⟩:=hx0;refine⟨an.alloc (an.alloc g1 _) _,an.alloc (an.alloc g2 _) _,an.alloc (an.alloc g3 _) _,an.alloc ?_ _,?_,(g4.alloc g4.size _).alloc (g4.alloc g4.size _).size _⟩
  ·have:=an.new (((w.alloc (.cells #[.bool f.start,.bool f.fin,.slice L1 a1 x1,.slice L2 a2 x2,.slice L3 a3 x3,.int .i64 f.ai] 81)).alloc (.cells #[.bool t.start,.bool t.fin,.slice R1 b1 y1,.slice R2 b2 y2,.slice R3 b3 y3,.int .i64 t.ai] 81)).alloc (.cells jk 133)) 133 #[.bool f.start,.bool f.fin,.slice none 0 0,.slice none 0 0,.slice none 0 0,.slice none 0 0,.int .i64 0];simpa using this
  have:=an.new ((((w.alloc (.cells #[.bool f.start,.bool f.fin,.slice L1 a1 x1,.slice L2 a2 x2,.slice L3 a3 x3,.int .i64 f.ai] 81)).alloc (.cells #[.bool t.start,.bool t.fin,.slice R1 b1 y1,.slice R2 b2 y2,.slice R3 b3 y3,.int .i64 t.ai] 81)).alloc (.cells jk 133)).alloc (.cells #[.bool f.start,.bool f.fin,.slice none 0 0,.slice none 0 0,.slice none 0 0,.slice none 0 0,.int .i64 0] 133)) 162 #[.slice L1 a1 x1,.pointer (some ⟨w.heap.size+3,2,none⟩),.slice L2 a2 x2,.pointer (some ⟨w.heap.size+3,3,none⟩),.slice L3 a3 x3,.pointer (some ⟨w.heap.size+3,4,none⟩)];simpa using this
 have sL:=qqh hx1;clear hs l1 l2 l3 r2 k1 k2 k3 j2 h20 hx0 hx1 hE Mu;go_enter Tryz.func74,Tryz.ntmps74;go_wp2_with fail;go_loopw [34] (WA w B #[.bool f.start,.bool f.fin,.slice L1 a1 x1,.slice L2 a2 x2,.slice L3 a3 x3,.int .i64 f.ai] #[.bool t.start,.bool t.fin,.slice R1 b1 y1,.slice R2 b2 y2,.slice R3 b3 y3,.int .i64 t.ai] #[.slice L1 a1 x1,.pointer (some ⟨w.heap.size+3,2,none⟩),.slice L2 a2 x2,.pointer (some ⟨w.heap.size+3,3,none⟩),.slice L3 a3 x3,.pointer (some ⟨w.heap.size+3,4,none⟩)] (.bool f.start) (.bool f.fin) (cJ LP f.before) (cJ LP f.source) (cJ LP f.after)) (fun i _=>3 - (intOf i).toNat);(case atStart=>exact⟨0,_,_,_,by omega,rfl,sL.out,by simp,by simp,by simp⟩);obtain⟨k,v1,v2,v3,hk,rfl,lE,g1,g2,g3⟩:=hrel;by_cases hlt:k<3
 ·obtain rfl | rfl | rfl:k=0∨k=1∨k=2:=(by omega)
  ·obtain rfl:v1=.slice none 0 0:=(by simpa using g1);obtain rfl:v2=.slice none 0 0:=(by simpa using g2);obtain rfl:v3=.slice none 0 0:=(by simpa using g3);clear g1 g2 g3;have z0:wr.cell? ⟨w.heap.size+4,0,none⟩=some (.slice L1 a1 x1):=lE.2.2.2.2.1.cell 0;have z1:wr.cell? ⟨w.heap.size+4,1,none⟩=some (.pointer (some ⟨w.heap.size+3,2,none⟩)):=lE.2.2.2.2.1.cell 1;have uF:=qqh (kE.alloc lE (.cells #[.slice L1 a1 x1,.pointer (some ⟨w.heap.size+3,2,none⟩)] 162));have HK:=qqh (an.new wr 162 #[.slice L1 a1 x1,.pointer (some ⟨w.heap.size+3,2,none⟩)]);clear lE;go_wp2_with fail;refine(eN.out _ uF.out.2.2.2.2.2).mono ?_;rintro e w2 ⟨he,aX⟩;obtain⟨A9,n9,c9,o9,rfl,gl,Cr⟩:=BU he;have bE:=kE.below uF.out aX;have hk2:=an.below HK.out aX HK.out.lt;have t0:w2.cell? ⟨w.heap.size+3,0,none⟩=some (.bool f.start):=bE.2.2.2.1.cell 0;have t1:w2.cell? ⟨w.heap.size+3,1,none⟩=some (.bool f.fin):=bE.2.2.2.1.cell 1;have t2:w2.cell? ⟨w.heap.size+3,2,none⟩=some (.slice none 0 0):=bE.2.2.2.1.cell 2;have t3:w2.cell? ⟨w.heap.size+3,3,none⟩=some (.slice none 0 0):=bE.2.2.2.1.cell 3;have t4:w2.cell? ⟨w.heap.size+3,4,none⟩=some (.slice none 0 0):=bE.2.2.2.1.cell 4;have t5:w2.cell? ⟨w.heap.size+3,5,none⟩=some (.slice none 0 0):=bE.2.2.2.1.cell 5;have t6:w2.cell? ⟨w.heap.size+3,6,none⟩=some (.int .i64 0):=bE.2.2.2.1.cell 6;have s0:w2.cell? ⟨w.heap.size+2,0,none⟩=some (.bool false):=bE.2.2.1.cell 0;have sf0:=bE.2.2.1.frozen 0;have s1:w2.cell? ⟨w.heap.size+2,1,none⟩=some (.bool false):=bE.2.2.1.cell 1;have sf1:=bE.2.2.1.frozen 1;have s2:w2.cell? ⟨w.heap.size+2,2,none⟩=some (.slice none 0 0):=bE.2.2.1.cell 2;have sf2:=bE.2.2.1.frozen 2
   have s3:w2.cell? ⟨w.heap.size+2,3,none⟩=some (.slice none 0 0):=bE.2.2.1.cell 3;have ZJ:=bE.2.2.1.frozen 3;have s4:w2.cell? ⟨w.heap.size+2,4,none⟩=some (.slice none 0 0):=bE.2.2.1.cell 4;have sf4:=bE.2.2.1.frozen 4;have s5:w2.cell? ⟨w.heap.size+2,5,none⟩=some (.slice none 0 0):=bE.2.2.1.cell 5;have Zn:=bE.2.2.1.frozen 5;have s6:w2.cell? ⟨w.heap.size+2,6,none⟩=some (.int .i64 0):=bE.2.2.1.cell 6;have Zz:=bE.2.2.1.frozen 6;have m1:w2.cell? ⟨wr.heap.size,1,none⟩=some (.pointer (some ⟨w.heap.size+3,2,none⟩)):=hk2.cell 1;have mf:=bE.2.2.2.1.frozen 2;have DX:=qqh bE;have bf:=qqh aX;have fH:=qqh gl;have PY:=qqh Cr;have TM:=bE.2.2.2.2.1.lt;clear he bE hk2 aX gl Cr;cases o9
   ·go_wp2_with fail;exact bodyPost_ret (by simp [results,Tryz.results74,go_sem,s0,s1,s2,s3,s4,s5,s6]) rfl ⟨AY (cs:=[.bool f.start,.bool f.fin,.slice none 0 0,.slice none 0 0,.slice none 0 0,.slice none 0 0,.int .i64 0]) (by rw [← fH.out];simp) rfl (by intro u hu;simp only [List.mem_cons,List.not_mem_nil,or_false]at hu;rcases hu with rfl | rfl | rfl | rfl | rfl | rfl | rfl <;> rfl),AF DX.out.2.2.2.2.2 (by omega) _ _ _ _ _ _ _⟩
   go_wp2_with fail;obtain⟨Q2,Em⟩:=Option.isSome_iff_exists.1 fH.out.symm;have kk:aa w2 (Fr B (w.heap.size+5)) (w2.setCell ⟨w.heap.size+3,2,none⟩ (.slice A9 n9 c9)) (Fr B (w.heap.size+5)):=aa.setCell _ (fun b hb=>by rcases hb with h | h <;> dsimp only <;> omega) (fun _ h _=>h);refine⟨⟨1,.slice A9 n9 c9,.slice none 0 0,.slice none 0 0,by omega,by go_num,DX.out.put 2 (.slice A9 n9 c9),by rw [if_neg (by omega)];exact⟨_,_,_,Q2,rfl,Em,(PY.out Q2 Em).keep ((aa.refl (X':=Fr B (w.heap.size+5)) (fun b hb=>hb.imp id (fun h=>Nat.le_trans (Nat.succ_le_of_lt uF.out.2.2.2.2.1.lt) h))).trans kk)⟩,by rw [if_pos (by omega)],by rw [if_pos (by omega)]⟩,by simp [intOf]⟩
  ·obtain⟨P1,p1,q1,ll1,rfl,iJ,K7⟩:=(show Laid wr B (w.heap.size+5) _ _ from by simpa using g1);obtain rfl:v2=.slice none 0 0:=(by simpa using g2);obtain rfl:v3=.slice none 0 0:=(by simpa using g3);clear g1 g2 g3;have z0:wr.cell? ⟨w.heap.size+4,2,none⟩=some (.slice L2 a2 x2):=lE.2.2.2.2.1.cell 2;have z1:wr.cell? ⟨w.heap.size+4,3,none⟩=some (.pointer (some ⟨w.heap.size+3,3,none⟩)):=lE.2.2.2.2.1.cell 3;have uF:=qqh (kE.alloc lE (.cells #[.slice L2 a2 x2,.pointer (some ⟨w.heap.size+3,3,none⟩)] 162));have HK:=qqh (an.new wr 162 #[.slice L2 a2 x2,.pointer (some ⟨w.heap.size+3,3,none⟩)]);have K5:=qqh (K7.keep (aa.alloc (.cells #[.slice L2 a2 x2,.pointer (some ⟨w.heap.size+3,3,none⟩)] 162) (fun _ h _=>h)));have K0:=qqh iJ;clear lE K7 iJ;go_wp2_with fail;refine(lC.out _ uF.out.2.2.2.2.2).mono ?_;rintro e w2 ⟨he,aX⟩;obtain⟨A9,n9,c9,o9,rfl,gl,Cr⟩:=BU he;have bE:=kE.below uF.out aX;have hk2:=an.below HK.out aX HK.out.lt;have t0:w2.cell? ⟨w.heap.size+3,0,none⟩=some (.bool f.start):=bE.2.2.2.1.cell 0;have t1:w2.cell? ⟨w.heap.size+3,1,none⟩=some (.bool f.fin):=bE.2.2.2.1.cell 1;have t2:w2.cell? ⟨w.heap.size+3,2,none⟩=some (.slice P1 p1 q1):=bE.2.2.2.1.cell 2;have t3:w2.cell? ⟨w.heap.size+3,3,none⟩=some (.slice none 0 0):=bE.2.2.2.1.cell 3;have t4:w2.cell? ⟨w.heap.size+3,4,none⟩=some (.slice none 0 0):=bE.2.2.2.1.cell 4;have t5:w2.cell? ⟨w.heap.size+3,5,none⟩=some (.slice none 0 0):=bE.2.2.2.1.cell 5;have t6:w2.cell? ⟨w.heap.size+3,6,none⟩=some (.int .i64 0):=bE.2.2.2.1.cell 6;have s0:w2.cell? ⟨w.heap.size+2,0,none⟩=some (.bool false):=bE.2.2.1.cell 0;have sf0:=bE.2.2.1.frozen 0
   have s1:w2.cell? ⟨w.heap.size+2,1,none⟩=some (.bool false):=bE.2.2.1.cell 1;have sf1:=bE.2.2.1.frozen 1;have s2:w2.cell? ⟨w.heap.size+2,2,none⟩=some (.slice none 0 0):=bE.2.2.1.cell 2;have sf2:=bE.2.2.1.frozen 2;have s3:w2.cell? ⟨w.heap.size+2,3,none⟩=some (.slice none 0 0):=bE.2.2.1.cell 3;have ZJ:=bE.2.2.1.frozen 3;have s4:w2.cell? ⟨w.heap.size+2,4,none⟩=some (.slice none 0 0):=bE.2.2.1.cell 4;have sf4:=bE.2.2.1.frozen 4;have s5:w2.cell? ⟨w.heap.size+2,5,none⟩=some (.slice none 0 0):=bE.2.2.1.cell 5;have Zn:=bE.2.2.1.frozen 5;have s6:w2.cell? ⟨w.heap.size+2,6,none⟩=some (.int .i64 0):=bE.2.2.1.cell 6;have Zz:=bE.2.2.1.frozen 6;have m1:w2.cell? ⟨wr.heap.size,1,none⟩=some (.pointer (some ⟨w.heap.size+3,3,none⟩)):=hk2.cell 1;have mf:=bE.2.2.2.1.frozen 3;have DX:=qqh bE;have bf:=qqh aX;have fH:=qqh gl;have PY:=qqh Cr;have TM:=bE.2.2.2.2.1.lt;clear he bE hk2 aX gl Cr;cases o9
   ·go_wp2_with fail;exact bodyPost_ret (by simp [results,Tryz.results74,go_sem,s0,s1,s2,s3,s4,s5,s6]) rfl ⟨AY (cs:=[.bool f.start,.bool f.fin,.slice P1 p1 q1,.slice none 0 0,.slice none 0 0,.slice none 0 0,.int .i64 0]) (by rw [← fH.out];simp) rfl (by intro u hu;simp only [List.mem_cons,List.not_mem_nil,or_false]at hu;rcases hu with rfl | rfl | rfl | rfl | rfl | rfl | rfl <;> rfl),AF DX.out.2.2.2.2.2 (by omega) _ _ _ _ _ _ _⟩
   go_wp2_with fail;obtain⟨Q2,Em⟩:=Option.isSome_iff_exists.1 fH.out.symm;have kk:aa w2 (Fr B (w.heap.size+5)) (w2.setCell ⟨w.heap.size+3,3,none⟩ (.slice A9 n9 c9)) (Fr B (w.heap.size+5)):=aa.setCell _ (fun b hb=>by rcases hb with h | h <;> dsimp only <;> omega) (fun _ h _=>h);refine⟨⟨2,.slice P1 p1 q1,.slice A9 n9 c9,.slice none 0 0,by omega,by go_num,DX.out.put 3 (.slice A9 n9 c9),by rw [if_neg (by omega)];exact⟨_,_,_,_,rfl,K0.out,K5.out.keep ((aa.below bf.out (fun _ h _=>h)).trans kk)⟩,by rw [if_neg (by omega)];exact⟨_,_,_,Q2,rfl,Em,(PY.out Q2 Em).keep ((aa.refl (X':=Fr B (w.heap.size+5)) (fun b hb=>hb.imp id (fun h=>Nat.le_trans (Nat.succ_le_of_lt uF.out.2.2.2.2.1.lt) h))).trans kk)⟩,by rw [if_pos (by omega)]⟩,by simp [intOf]⟩
  obtain⟨P1,p1,q1,ll1,rfl,iJ,K7⟩:=(show Laid wr B (w.heap.size+5) _ _ from by simpa using g1);obtain⟨P2,p2,q2,ll2,rfl,gh,rK⟩:=(show Laid wr B (w.heap.size+5) _ _ from by simpa using g2);obtain rfl:v3=.slice none 0 0:=(by simpa using g3);clear g1 g2 g3;have z0:wr.cell? ⟨w.heap.size+4,4,none⟩=some (.slice L3 a3 x3):=lE.2.2.2.2.1.cell 4;have z1:wr.cell? ⟨w.heap.size+4,5,none⟩=some (.pointer (some ⟨w.heap.size+3,4,none⟩)):=lE.2.2.2.2.1.cell 5;have uF:=qqh (kE.alloc lE (.cells #[.slice L3 a3 x3,.pointer (some ⟨w.heap.size+3,4,none⟩)] 162));have HK:=qqh (an.new wr 162 #[.slice L3 a3 x3,.pointer (some ⟨w.heap.size+3,4,none⟩)]);have K5:=qqh (K7.keep (aa.alloc (.cells #[.slice L3 a3 x3,.pointer (some ⟨w.heap.size+3,4,none⟩)] 162) (fun _ h _=>h)));have K0:=qqh iJ;have Rj:=qqh (rK.keep (aa.alloc (.cells #[.slice L3 a3 x3,.pointer (some ⟨w.heap.size+3,4,none⟩)] 162) (fun _ h _=>h)));have Q5:=qqh gh;clear lE K7 iJ rK gh;go_wp2_with fail;refine(KD.out _ uF.out.2.2.2.2.2).mono ?_;rintro e w2 ⟨he,aX⟩;obtain⟨A9,n9,c9,o9,rfl,gl,Cr⟩:=BU he;have bE:=kE.below uF.out aX;have hk2:=an.below HK.out aX HK.out.lt;have t0:w2.cell? ⟨w.heap.size+3,0,none⟩=some (.bool f.start):=bE.2.2.2.1.cell 0;have t1:w2.cell? ⟨w.heap.size+3,1,none⟩=some (.bool f.fin):=bE.2.2.2.1.cell 1;have t2:w2.cell? ⟨w.heap.size+3,2,none⟩=some (.slice P1 p1 q1):=bE.2.2.2.1.cell 2;have t3:w2.cell? ⟨w.heap.size+3,3,none⟩=some (.slice P2 p2 q2):=bE.2.2.2.1.cell 3;have t4:w2.cell? ⟨w.heap.size+3,4,none⟩=some (.slice none 0 0):=bE.2.2.2.1.cell 4
  have t5:w2.cell? ⟨w.heap.size+3,5,none⟩=some (.slice none 0 0):=bE.2.2.2.1.cell 5;have t6:w2.cell? ⟨w.heap.size+3,6,none⟩=some (.int .i64 0):=bE.2.2.2.1.cell 6;have s0:w2.cell? ⟨w.heap.size+2,0,none⟩=some (.bool false):=bE.2.2.1.cell 0;have sf0:=bE.2.2.1.frozen 0;have s1:w2.cell? ⟨w.heap.size+2,1,none⟩=some (.bool false):=bE.2.2.1.cell 1;have sf1:=bE.2.2.1.frozen 1;have s2:w2.cell? ⟨w.heap.size+2,2,none⟩=some (.slice none 0 0):=bE.2.2.1.cell 2;have sf2:=bE.2.2.1.frozen 2;have s3:w2.cell? ⟨w.heap.size+2,3,none⟩=some (.slice none 0 0):=bE.2.2.1.cell 3;have ZJ:=bE.2.2.1.frozen 3;have s4:w2.cell? ⟨w.heap.size+2,4,none⟩=some (.slice none 0 0):=bE.2.2.1.cell 4;have sf4:=bE.2.2.1.frozen 4;have s5:w2.cell? ⟨w.heap.size+2,5,none⟩=some (.slice none 0 0):=bE.2.2.1.cell 5;have Zn:=bE.2.2.1.frozen 5;have s6:w2.cell? ⟨w.heap.size+2,6,none⟩=some (.int .i64 0):=bE.2.2.1.cell 6;have Zz:=bE.2.2.1.frozen 6;have m1:w2.cell? ⟨wr.heap.size,1,none⟩=some (.pointer (some ⟨w.heap.size+3,4,none⟩)):=hk2.cell 1;have mf:=bE.2.2.2.1.frozen 4;have DX:=qqh bE;have bf:=qqh aX;have fH:=qqh gl;have PY:=qqh Cr;have TM:=bE.2.2.2.2.1.lt;clear he bE hk2 aX gl Cr;cases o9
  ·go_wp2_with fail;exact bodyPost_ret (by simp [results,Tryz.results74,go_sem,s0,s1,s2,s3,s4,s5,s6]) rfl ⟨AY (cs:=[.bool f.start,.bool f.fin,.slice P1 p1 q1,.slice P2 p2 q2,.slice none 0 0,.slice none 0 0,.int .i64 0]) (by rw [← fH.out];simp) rfl (by intro u hu;simp only [List.mem_cons,List.not_mem_nil,or_false]at hu;rcases hu with rfl | rfl | rfl | rfl | rfl | rfl | rfl <;> rfl),AF DX.out.2.2.2.2.2 (by omega) _ _ _ _ _ _ _⟩
  go_wp2_with fail;obtain⟨Q2,Em⟩:=Option.isSome_iff_exists.1 fH.out.symm;have kk:aa w2 (Fr B (w.heap.size+5)) (w2.setCell ⟨w.heap.size+3,4,none⟩ (.slice A9 n9 c9)) (Fr B (w.heap.size+5)):=aa.setCell _ (fun b hb=>by rcases hb with h | h <;> dsimp only <;> omega) (fun _ h _=>h);refine⟨⟨3,.slice P1 p1 q1,.slice P2 p2 q2,.slice A9 n9 c9,by omega,by go_num,DX.out.put 4 (.slice A9 n9 c9),by rw [if_neg (by omega)];exact⟨_,_,_,_,rfl,K0.out,K5.out.keep ((aa.below bf.out (fun _ h _=>h)).trans kk)⟩,by rw [if_neg (by omega)];exact⟨_,_,_,_,rfl,Q5.out,Rj.out.keep ((aa.below bf.out (fun _ h _=>h)).trans kk)⟩,by rw [if_neg (by omega)];exact⟨_,_,_,Q2,rfl,Em,(PY.out Q2 Em).keep ((aa.refl (X':=Fr B (w.heap.size+5)) (fun b hb=>hb.imp id (fun h=>Nat.le_trans (Nat.succ_le_of_lt uF.out.2.2.2.2.1.lt) h))).trans kk)⟩⟩,by simp [intOf]⟩
 have K6:3≤k:=(by omega);rw [if_neg (by omega)]at g1;obtain⟨P1,p1,q1,ll1,rfl,iJ,K7⟩:=g1;rw [if_neg (by omega)]at g2;obtain⟨P2,p2,q2,ll2,rfl,gh,rK⟩:=g2;rw [if_neg (by omega)]at g3;obtain⟨P3,p3,q3,ll3,rfl,nC,hv3⟩:=g3;generalize wr=wz at *;have e3:wz.cell? ⟨w.heap.size+1,3,none⟩=some (.slice R2 b2 y2):=lE.2.1.cell 3;have uF:=qqh lE;have K5:=qqh K7;have Rj:=qqh rK;have YB:=qqh hv3;have K0:=qqh iJ;have Q5:=qqh gh;have yY:=qqh nC;have hz:=lE.2.2.2.2.2.size;have Qm:=lE.2.2.2.2.1.lt;clear lE K7 rK hv3 iJ gh nC;go_wp2_with fail;go_loopw [56] (Wf w wz B #[.bool f.start,.bool f.fin,.slice L1 a1 x1,.slice L2 a2 x2,.slice L3 a3 x3,.int .i64 f.ai] #[.bool t.start,.bool t.fin,.slice R1 b1 y1,.slice R2 b2 y2,.slice R3 b3 y3,.int .i64 t.ai] #[.slice L1 a1 x1,.pointer (some ⟨w.heap.size+3,2,none⟩),.slice L2 a2 x2,.pointer (some ⟨w.heap.size+3,3,none⟩),.slice L3 a3 x3,.pointer (some ⟨w.heap.size+3,4,none⟩)] (.bool f.start) (.bool f.fin) (.slice P1 p1 q1) (.slice P2 p2 q2) (.slice P3 p3 q3) t.source b2) (fun i _=>b2 - (intOf i).toNat);(case atStart=>exact⟨0,.slice none 0 0,Nat.zero_le _,rfl,uF.out,World.ownsRow_nil _ _ _ _,fun b hx hl=>⟨rfl,⟨hx,hl⟩,hl⟩,qql⟩);obtain⟨k,v,hk,rfl,lE,hown,hkp,hzr⟩:=hrel;by_cases hlt:k<b2
 ·obtain⟨a,ha⟩:∃ z,t.source[k]? = some z:=⟨_,List.getElem?_eq_getElem (by rw [Rx.out];exact hlt)⟩;obtain⟨b,off,A',n',c',rfl,cK,f0,f1,f2,f3,_,_,_,_⟩:=vw iz.out ha;have Qg:=lE.2.2.2.2.2;have jU:b<w.heap.size:=(by omega);have d0:=(Qg.cell (p:=⟨b,off+k*4,none⟩) jU).trans f0;have d1:=(Qg.cell (p:=⟨b,off+k*4+1,none⟩) jU).trans f1;have d2:=(Qg.cell (p:=⟨b,off+k*4+2,none⟩) jU).trans f2;have d3:=(Qg.cell (p:=⟨b,off+k*4+3,none⟩) jU).trans f3;clear f0 f1 f2 f3 Qg;generalize hT:(t.source.take k).map (·.rune)=T at hown;have HTM:=qqh ((MC ha).trans (by rw [hT]:_=T++[a.rune]));clear hT;obtain⟨Av,cv,rfl,_⟩:=av hown;have Rz:=kE.alloc lE (.cells #[.int .i64 a.kind,.int .i32 a.rune,.slice A' n' c',.string a.name] 167);have hO1:=World.ownsRow.alloc hown (.cells #[.int .i64 a.kind,.int .i32 a.rune,.slice A' n' c',.string a.name] 167);have c5:(wr.alloc (.cells #[.int .i64 a.kind,.int .i32 a.rune,.slice A' n' c',.string a.name] 167)).cell? ⟨w.heap.size+3,5,none⟩=some (.slice Av k cv):=Rz.2.2.2.1.cell 5;have HA2:=qqh (kE.alloc Rz (.cells #[.int .i32 a.rune] 21));have rC:=qqh (World.ownsRow.alloc hO1 (.cells #[.int .i32 a.rune] 21));have pK:=qqh ((hkp.trans (aa.alloc (.cells #[.int .i64 a.kind,.int .i32 a.rune,.slice A' n' c',.string a.name] 167) (fun _ h _=>h))).trans (aa.alloc (.cells #[.int .i32 a.rune] 21) (fun _ h _=>h)));have hN:=Rd.new (wr.alloc (.cells #[.int .i64 a.kind,.int .i32 a.rune,.slice A' n' c',.string a.name] 167)) 21 1 1 [.int .i32 a.rune] rfl;rw [show(wr.alloc (.cells #[.int .i64 a.kind,.int .i32 a.rune,.slice A' n' c',.string a.name] 167)).heap.size=wr.heap.size+1 by simp]at hN;have HN:=qqh hN
  have mS:=qqh (show ∀ u ∈ [Value.int .i32 a.rune],u.oneCell'=true by intro x hx;simp at hx;subst hx;rfl);have HZ:=qqh (show wz.heap.size≤((wr.alloc (.cells #[.int .i64 a.kind,.int .i32 a.rune,.slice A' n' c',.string a.name] 167)).alloc (.cells #[.int .i32 a.rune] 21)).heap.size by simp;omega);clear Rz hO1 hN lE hown hkp ha;go_wp2_with (at_builtin;refine aj _ rfl (.tmp 61) (.tmp 64) 22 rfl wz.heap.size 21 i0 _ 1 4 Tryz.underlying22 hi hz0 i6 kO rfl (by decide) _ _ _ rfl rC.out _ (some ⟨wr.heap.size+1,0,none⟩) 1 1 [.int .i32 a.rune] rfl HN.out mS.out (by simp only [maxLen];omega) (by omega) HZ.out ?_);intro v9 w9 af;have Yv:=kE.app HA2.out rC.out (by decide) (by decide) (by decide) hz af;have gl:=af.own;have Ww:=pK.out.trans (aa.app (X':=fun b=>Fr B (w.heap.size+5) b∧b<wz.heap.size) af (fun b hx e=>by have:=(bt rC.out e).1;have:=hx.2;omega) (fun _ h _=>h));have N7:wz.heap.size≤w9.heap.size:=Nat.le_trans HZ.out af.2.1.size;rw [← xX,← HTM.out]at gl;obtain⟨A9,c9,rfl,_⟩:=av gl;have p5:w9.cell? ⟨w.heap.size+3,5,none⟩=some (.slice Av k cv):=Yv.2.2.2.1.cell 5;have p5f:=Yv.2.2.2.1.frozen 5;have HA3:=qqh Yv;have fH:=qqh gl;have Wd:=qqh Ww;clear af Yv gl Ww;go_wp2_with fail;refine⟨⟨k+1,.slice A9 (k+1) c9,by omega,by go_num,HA3.out.put 5 (.slice A9 (k+1) c9),bV fH.out HA3.out.2.2.2.1 (by decide),Wd.out.trans (aa.setCell _ (fun b hx=>?_) (fun _ h _=>h)),by simpa using N7⟩,by simp [intOf];omega⟩;have:=hx.1;dsimp only;rcases this with h | h <;> omega
 obtain rfl:k=b2:=(by omega);rw [List.take_of_length_le (by rw [Rx.out];omega)]at hown;obtain⟨Av,cv,rfl,_⟩:=av hown;have bE:=lE;have t0:wr.cell? ⟨w.heap.size+3,0,none⟩=some (.bool f.start):=bE.2.2.2.1.cell 0;have t1:wr.cell? ⟨w.heap.size+3,1,none⟩=some (.bool f.fin):=bE.2.2.2.1.cell 1;have t2:wr.cell? ⟨w.heap.size+3,2,none⟩=some (.slice P1 p1 q1):=bE.2.2.2.1.cell 2;have t3:wr.cell? ⟨w.heap.size+3,3,none⟩=some (.slice P2 p2 q2):=bE.2.2.2.1.cell 3;have t4:wr.cell? ⟨w.heap.size+3,4,none⟩=some (.slice P3 p3 q3):=bE.2.2.2.1.cell 4;have t5:wr.cell? ⟨w.heap.size+3,5,none⟩=some (.slice Av k cv):=bE.2.2.2.1.cell 5;have t6:wr.cell? ⟨w.heap.size+3,6,none⟩=some (.int .i64 0):=bE.2.2.2.1.cell 6;have s0:wr.cell? ⟨w.heap.size+2,0,none⟩=some (.bool false):=bE.2.2.1.cell 0;have sf0:=bE.2.2.1.frozen 0;have s1:wr.cell? ⟨w.heap.size+2,1,none⟩=some (.bool false):=bE.2.2.1.cell 1;have sf1:=bE.2.2.1.frozen 1;have s2:wr.cell? ⟨w.heap.size+2,2,none⟩=some (.slice none 0 0):=bE.2.2.1.cell 2;have sf2:=bE.2.2.1.frozen 2;have s3:wr.cell? ⟨w.heap.size+2,3,none⟩=some (.slice none 0 0):=bE.2.2.1.cell 3;have ZJ:=bE.2.2.1.frozen 3;have s4:wr.cell? ⟨w.heap.size+2,4,none⟩=some (.slice none 0 0):=bE.2.2.1.cell 4;have sf4:=bE.2.2.1.frozen 4;have s5:wr.cell? ⟨w.heap.size+2,5,none⟩=some (.slice none 0 0):=bE.2.2.1.cell 5;have Zn:=bE.2.2.1.frozen 5;have s6:wr.cell? ⟨w.heap.size+2,6,none⟩=some (.int .i64 0):=bE.2.2.1.cell 6;have Zz:=bE.2.2.1.frozen 6;have t6f:=bE.2.2.2.1.frozen 6;have e5:wr.cell? ⟨w.heap.size+1,5,none⟩=some (.int .i64 t.ai):=bE.2.1.cell 5
 have hend:∀ (we:World) (K:Int),((∃ u,we=wr.setCell ⟨w.heap.size+3,6,none⟩ u)∨∃ u u',we=(wr.setCell ⟨w.heap.size+3,6,none⟩ u).setCell ⟨w.heap.size+3,6,none⟩ u')→K=(if t.ai<0 then (t.source.length:Int)else t.ai) →
     Gk (MR we (w.heap.size+1+1) (.bool f.start) (.bool f.fin) (.slice P1 p1 q1) (.slice P2 p2 q2) (.slice P3 p3 q3) (.slice Av k cv) (.int .i64 K)) B w.heap.size (fA LP f t) (.returned (.tuple #[.agg #[.bool f.start,.bool f.fin,.slice P1 p1 q1,.slice P2 p2 q2,.slice P3 p3 q3,.slice Av k cv,.int .i64 K],.bool true])) ∧
     Below w.heap.size w (MR we (w.heap.size+1+1) (.bool f.start) (.bool f.fin) (.slice P1 p1 q1) (.slice P2 p2 q2) (.slice P3 p3 q3) (.slice Av k cv) (.int .i64 K)):=by
   intro we K hwe hK
   have TH:Below w.heap.size w we:=by
     rcases hwe with ⟨u,rfl⟩ | ⟨u,u',rfl⟩
     · exact lE.2.2.2.2.2.setCell (by simp) _
     · exact(lE.2.2.2.2.2.setCell (by simp) _).setCell (by simp) _
   have kw:∀ (X:Nat→Prop),(∀ b,X b→b≠w.heap.size+3)→aa wr X we X:=by
     intro X hX
     rcases hwe with ⟨u,rfl⟩ | ⟨u,u',rfl⟩
     · exact aa.setCell u (fun b hb=>hX b hb) (fun _ h _=>h)
     · exact(aa.setCell (X':=X) u (fun b hb=>hX b hb) (fun _ h _=>h)).trans (aa.setCell u' (fun b hb=>hX b hb) (fun _ h _=>h))
   have kk:aa wz (Fr B (w.heap.size+5)) (MR we (w.heap.size+1+1) (.bool f.start) (.bool f.fin) (.slice P1 p1 q1) (.slice P2 p2 q2) (.slice P3 p3 q3) (.slice Av k cv) (.int .i64 K)) (Fr B w.heap.size):=by
     refine(hkp.trans (kw _ (fun b hx=>by rcases hx.1 with h | h <;> omega))).trans ((QS (fun b hx=>?_) _ _ _ _ _ _ _).trans (aa.refl (fun b hx=>?_)))
     · rcases hx.1 with h | h <;> omega
     · exact hx.1.imp id (fun h=>by omega)
   refine⟨⟨[.bool f.start,.bool f.fin,.slice P1 p1 q1,.slice P2 p2 q2,.slice P3 p3 q3,.slice Av k cv,.int .i64 K],rfl,?_,?_,fun rd hrd=>?_⟩,AF TH (by omega) _ _ _ _ _ _ _⟩
   · rw [sJ,K0.out,Q5.out,yY.out];rfl
   · intro u hu
     simp only [List.mem_cons,List.not_mem_nil,or_false]at hu
     rcases hu with rfl | rfl | rfl | rfl | rfl | rfl | rfl <;> rfl
   · obtain⟨a,b,c,g1,g2,g3,rfl⟩:=Ir hrd
     rw [K0.out]at g1
     rw [Q5.out]at g2
     rw [yY.out]at g3
     cases g1
     cases g2
     cases g3
     refine⟨_,_,_,Av,k,cv,by rw [hK],K5.out.keep kk,Rj.out.keep kk,YB.out.keep kk,?_,by unfold maxLen;omega⟩
     refine(cL.b8 (X:=fun b=>wz.heap.size≤b) hown (fun b hb=>(bt hown hb).1)).keep ((kw _ (fun b hx=>by omega)).trans ((QS (fun b hx=>by omega) _ _ _ _ _ _ _).trans (aa.refl (fun b hx=>.inr (by omega)))))
 have EF:=qqh hend;have Cl:(t.source.length:Int)=k:=(by rw [Rx.out]);have Y4:=qqh Cl;clear hend Cl lE bE hown hkp;by_cases hc:t.ai<0
 ·have HK:=qqh (show((k:Nat):Int)=(if t.ai<0 then (t.source.length:Int)else t.ai) by rw [if_pos hc,Y4.out]);go_wp2_with fail;obtain⟨hpost,eP⟩:=EF.out _ _ (.inr ⟨_,_,rfl⟩) HK.out;exact bodyPost_ret (by simp [results,Tryz.results74,go_sem,s0,s1,s2,s3,s4,s5,s6]) rfl ⟨hpost,eP⟩
 have HK:=qqh (show t.ai=(if t.ai<0 then (t.source.length:Int)else t.ai) by rw [if_neg hc]);go_wp2_with fail;obtain⟨hpost,eP⟩:=EF.out _ _ (.inl ⟨_,rfl⟩) HK.out;exact bodyPost_ret (by simp [results,Tryz.results74,go_sem,s0,s1,s2,s3,s4,s5,s6]) rfl ⟨hpost,eP⟩
end Go.Proofs.YtamkjeipdjbemaaGreatDoor
