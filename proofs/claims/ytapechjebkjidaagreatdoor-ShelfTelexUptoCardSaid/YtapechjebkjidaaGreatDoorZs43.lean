/- SynRead + RulesNum + RulesRight + RdPartFr + RdPartA + RdPartB -/
import Derived.Test.YtapechjebkjidaaGreatDoorZs41
import Derived.Test.YtapechjebkjidaaGreatDoorZs35
import Derived.Test.YtapechjebkjidaaGreatDoorZs5
import Derived.Test.YtapechjebkjidaaGreatDoorZs13
import Derived.Test.YtapechjebkjidaaGreatDoorZs19
import Derived.Test.YtapechjebkjidaaGreatDoorZs42
import Derived.Test.YtapechjebkjidaaGreatDoorZs11
import Derived.Test.YtapechjebkjidaaGreatDoorZs23
set_option maxHeartbeats 12800000
set_option maxRecDepth 100000
namespace Go.Proofs.YtapechjebkjidaaGreatDoor
open Go.RowKit
theorem Cu {w:World} {R F m:Nat} {v:Value} {x p:Int} {tR tF:TypeId} (hR:ak w R tR #[v]) (hF:ak w F tF #[.int .i64 x,.int .i64 p]) (hne:R≠F) :
    ak ((((w.drewN m).setCell ⟨R,0,none⟩ v).setCell ⟨F,0,none⟩ (.int .i64 x)).setCell ⟨F,1,none⟩ (.int .i64 p)) R tR #[v]∧ak ((((w.drewN m).setCell ⟨R,0,none⟩ v).setCell ⟨F,0,none⟩ (.int .i64 x)).setCell ⟨F,1,none⟩ (.int .i64 p)) F tF #[.int .i64 x,.int .i64 p] ∧
      ∀ B,B≤R→B≤F→B≤w.heap.size→Below B w ((((w.drewN m).setCell ⟨R,0,none⟩ v).setCell ⟨F,0,none⟩ (.int .i64 x)).setCell ⟨F,1,none⟩ (.int .i64 p)) ∧
        ag w (fun b=>b≠R∧b≠F) ((((w.drewN m).setCell ⟨R,0,none⟩ v).setCell ⟨F,0,none⟩ (.int .i64 x)).setCell ⟨F,1,none⟩ (.int .i64 p)) (fun b=>b≠R∧b≠F):=by
 have h1:ak ((w.drewN m).setCell ⟨R,0,none⟩ v) R tR #[v]:=(hR.drewN m).put 0 v;have b1:=bM.set (w.drewN m) R 0 v;have g1:ak ((w.drewN m).setCell ⟨R,0,none⟩ v) F tF #[.int .i64 x,.int .i64 p]:=(b1.2.2.2.2 F (hF.drewN m).lt (Ne.symm hne)).trans (hF.drewN m);have b2:=bM.set ((w.drewN m).setCell ⟨R,0,none⟩ v) F 0 (.int .i64 x);have g2:ak (((w.drewN m).setCell ⟨R,0,none⟩ v).setCell ⟨F,0,none⟩ (.int .i64 x)) F tF #[.int .i64 x,.int .i64 p]:=g1.put 0 _;have h2:ak (((w.drewN m).setCell ⟨R,0,none⟩ v).setCell ⟨F,0,none⟩ (.int .i64 x)) R tR #[v]:=(b2.2.2.2.2 R h1.lt hne).trans h1;have b3:=bM.set (((w.drewN m).setCell ⟨R,0,none⟩ v).setCell ⟨F,0,none⟩ (.int .i64 x)) F 1 (.int .i64 p);refine⟨(b3.2.2.2.2 R h2.lt hne).trans h2,g2.put 1 _,fun B hR hF hw=>⟨?_,?_⟩⟩;exact((below_drewN (Below.refl B w) m).trans (b1.to (show B≤(w.drewN m).heap.size from hw) hR)).trans ((b2.to (Nat.le_trans hw b1.1) hF).trans (b3.to (Nat.le_trans (Nat.le_trans hw b1.1) b2.1) hF));exact(((ag.below (below_drewN (Below.refl _ w) m) (fun b h _=>h)).trans (b1.keeps (X':=fun b=>b≠R∧b≠F) (fun b h=>h.1) (fun b h _=>h))).trans (b2.keeps (X':=fun b=>b≠R∧b≠F) (fun b h=>h.2) (fun b h _=>h))).trans (b3.keeps (fun b h=>h.2) (fun b h _=>h))
def gF {α:Type} (r:kf α):Prop:=∀ e p,r=.error (e,p)→e≠0
theorem gV {L:List Int} {i:Nat} {r:Int} {e:Int} {p:Nat} (h:aU L i r=.error (e,p)):e≠0:=by
 unfold aU at h;split at h
 ·cases h
 injection h with h;injection h with h1 h2;omega
theorem Mq (L:List Int) (i:Nat):gF (kO L i):=by
 intro e p h;unfold kO at h;cases h1:aU L (i+1) 123 with
 | error x=>obtain⟨x1,x2⟩:=x;rw [h1]at h;simp only at h;injection h with h;injection h with h3 h4;subst h3;exact gV h1
 | ok a=>
  rw [h1]at h;simp only at h;split at h
  ·injection h with h;injection h with h1 h2;omega
  cases h2:aU L (aA eV L a) 125 with
  | error x=>obtain⟨x1,x2⟩:=x;rw [h2]at h;simp only at h;injection h with h;injection h with h3 h4;subst h3;exact gV h2
  | ok k=>
   rw [h2]at h;simp only at h;split at h
   ·injection h with h;injection h with h1 h2;omega
   cases h
theorem uq (L:List Int) (i:Nat):gF (cX L i):=by
 intro e p h;unfold cX at h;(repeat' (split at h));(any_goals (cases h;done));(any_goals (injection h with h;injection h with h1 h2;omega));exact Mq _ _ _ _ h
theorem KP (L:List Int) (i:Nat):gF (jz L i):=by
 intro e p h;unfold jz at h;cases h1:cX L i with
 | error x=>obtain⟨x1,x2⟩:=x;rw [h1]at h;simp only at h;injection h with h;injection h with h3 h4;subst h3;exact uq _ _ _ _ h1
 | ok q=>
  obtain⟨a,j⟩:=q;rw [h1]at h;simp only at h;split at h
  ·cases h2:cX L (j+1)with
   | error x=>obtain⟨x1,x2⟩:=x;rw [h2]at h;simp only at h;injection h with h;injection h with h3 h4;subst h3;exact uq _ _ _ _ h2
   | ok q=>
    obtain⟨b,k⟩:=q;rw [h2]at h;simp only at h;split at h
    ·injection h with h;injection h with h1 h2;omega
    cases h
  cases h
theorem GW (L:List Int) (i:Nat):gF (eS L i):=by
 intro e p h;unfold eS at h;split at h
 ·injection h with h;injection h with h1 h2;omega
 split at h
 ·rename_i h1;cases h;exact gV h1
 split at h
 ·rename_i h1;cases h;exact gV h1
 cases h
theorem Ka {inner:Nat→kf af} (hi:∀ i,gF (inner i)) (L:List Int) (i:Nat):gF (dw inner L i):=by
 intro e p h;unfold dw at h;split at h;exact GW _ _ _ _ h;split at h;exact hi _ _ _ h;split at h;exact hi _ _ _ h;split at h
 ·rename_i h1;cases h;exact KP _ _ _ _ h1
 cases h
theorem Gm {inner:Nat→kf af} (hi:∀ i,gF (inner i)) (L:List Int):∀ f i s,gF (dV inner L f i s):=by
 intro f;induction f with
 | zero=>intro i s e p h;unfold dV at h;injection h with h;injection h with h1 h2;omega
 | succ f ih=>
  intro i s e p h;rw [dV]at h;split at h
  ·cases h
  split at h
  ·rename_i h1;cases h;exact Ka hi _ _ _ _ h1
  split at h
  ·rename_i h1;injection h with h;injection h with h2 h3;subst h2;exact h1
  exact ih _ _ _ _ h
theorem xD (L:List Int):∀ n i,gF (bD L n i):=by
 intro n;induction n with
 | zero=>intro i e p h;unfold bD at h;injection h with h;injection h with h1 h2;split at h1 <;> omega
 | succ n ih=>
  intro i e p h;rw [bD]at h;split at h
  ·rename_i h1;cases h;exact gV h1
  split at h
  ·rename_i h1;cases h;exact Gm ih _ _ _ _ _ _ h1
  split at h
  ·split at h
   ·rename_i h1;injection h with h;injection h with h2 h3;subst h2;exact h1
   cases h
  cases h
theorem zX (L:List Int) (i:Nat):gF (gG L i):=by
 intro e p h;unfold gG at h;split at h
 ·cases h
 injection h with h;injection h with h1 h2;omega
theorem Em (L:List Int) (i:Nat):gF (gv L i):=by
 intro e p h;unfold gv at h;split at h
 ·cases h
 injection h with h;injection h with h1 h2;omega
theorem KT (L:List Int) (a:Nat) (out:List aG) (cur:Int) (e:Int) (p:Nat) (h:cA L a out cur=.error (e,p)):e≠0:=by
 unfold cA at h;split at h
 ·split at h
  ·injection h with h;injection h with h1 h2;omega
  cases h
 split at h
 ·split at h
  ·rename_i h1;injection h with h;subst h;exact xD L 20 a _ _ h1
  cases h
 split at h
 ·split at h
  ·rename_i h1;injection h with h;subst h;exact zX L _ _ _ h1
  cases h
 split at h
 ·split at h
  ·rename_i h1;injection h with h;subst h;exact Em L _ _ _ h1
  cases h
 split at h
 ·split at h
  ·rename_i h1;injection h with h;subst h;exact uq L _ _ _ h1
  split at h
  ·cases h
  injection h with h;injection h with h1 h2;omega
 cases h
theorem q7 (L:List Int):∀ f i out cur,gF (cK L f i out cur):=by
 intro f;induction f with
 | zero=>intro i out cur e p h;rw [cK]at h;injection h with h;injection h with h1 h2;omega
 | succ f ih=>
  intro i out cur e p h;rw [cK]at h;split at h
  ·rename_i h1;injection h with h;subst h;exact KT L _ _ _ _ _ h1
  ·cases h
  split at h
  ·injection h with h;injection h with h1 h2;omega
  exact ih _ _ _ _ _ h
theorem Ji (L:List Int) (st:Bool) (a:Nat):gF (dQ L st a):=by
 intro e p h;unfold dQ at h;split at h
 ·rename_i h1;injection h with h;subst h;exact q7 L _ _ _ _ _ _ h1
 split at h
 ·split at h
  ·injection h with h;injection h with h1 h2;omega
  split at h
  ·rename_i h1;injection h with h;subst h;exact q7 L _ _ _ _ _ _ h1
  cases h
 split at h
 ·injection h with h;injection h with h1 h2;omega
 cases h
theorem K7 (L:List Int) (a:Nat):gF (eu L a):=by
 intro e p h;unfold eu at h;split at h
 ·split at h
  ·rename_i h1;injection h with h;subst h;exact q7 L _ _ _ _ _ _ h1
  split at h
  ·injection h with h;injection h with h1 h2;omega
  split at h <;> cases h
 cases h
theorem Au (L:List Int) (i:Nat):gF (dJ L i):=by
 intro e p h;unfold dJ at h;split at h
 ·rename_i h1;injection h with h;subst h;exact Ji L _ _ _ _ h1
 split at h
 ·rename_i h1;injection h with h;subst h;exact K7 L _ _ _ h1
 cases h
theorem FM (L:List Int) (i:Nat):gF (eU L i):=by
 intro e p h;unfold eU at h;split at h
 ·cases h
 split at h
 ·cases h
 split at h
 ·rename_i h1;injection h with h;subst h;exact gV h1
 cases h
theorem JK (L:List Int) (i:Nat):gF (j4 L i):=by
 intro e p h;unfold j4 at h;split at h
 ·unfold jx at h;split at h
  ·rename_i h1;injection h with h;subst h;exact gV h1
  split at h
  ·split at h
   ·rename_i h1;injection h with h;subst h;exact xD L 20 _ _ _ h1
   cases h
  split at h
  ·cases h
  injection h with h;injection h with h1 h2;omega
 split at h
 ·unfold pS at h;split at h
  ·rename_i h1;injection h with h;subst h;exact zX L _ _ _ h1
  split at h
  ·rename_i h1;injection h with h;subst h;exact gV h1
  split at h
  ·rename_i h1;injection h with h;subst h;exact xD L 20 _ _ _ h1
  cases h
 unfold jM at h;split at h
 ·rename_i h1;injection h with h;subst h;exact Au L _ _ _ h1
 split at h
 ·rename_i h1;injection h with h;subst h;exact FM L _ _ _ h1
 split at h
 ·rename_i h1;injection h with h;subst h;exact Au L _ _ _ h1
 split at h
 ·rename_i h1;injection h with h;injection h with h2 h3;subst h2;exact h1
 cases h
theorem Jt (L:List Int):∀ f i l (e:Int) (p:Nat),iK L f i l=.error (e,p)→e≠0:=by
 intro f;induction f with
 | zero=>intro i l e p h;rw [iK]at h;injection h with h;injection h with h1 h2;omega
 | succ f ih=>
  intro i l e p h;rw [iK]at h;split at h
  ·cases h
  split at h
  ·injection h with h;injection h with h1 h2;omega
  split at h
  ·rename_i h1;injection h with h;subst h;exact JK L _ _ _ h1
  split at h
  ·rename_i h1;injection h with h;subst h;exact gV h1
  exact ih _ _ _ _ h
theorem C6 {L:List Int} (h:16000<L.length):ia L=([],(4,0)):=by unfold ia;rw [if_pos h]
theorem Ig {L:List Int} {e:Int} {p:Nat} (h:¬ 16000<L.length) (h2:iK L (L.length+1) 0 [] = .error (e,p)):ia L=([],(e,(p:Int))):=by unfold ia;rw [if_neg h,h2]
theorem Kr {L:List Int} {l:List aI} (h:¬ 16000<L.length) (h2:iK L (L.length+1) 0 [] = .ok l):ia L=(l,(0,0)):=by unfold ia;rw [if_neg h,h2]
def Fu (a:aG):Prop:=Wo a=a∧(a.kind=1∨a.kind=2∨a.kind=3)∧a.name.size≤20
theorem Ju {L:List Int} {a:Nat} {out o:List aG} {cur c:Int} {j:Nat} (h:cA L a out cur=.ok (some ((o,c),j))) (ho:∀ x∈out,Fu x):∀ x∈o,Fu x:=by
 have push:∀ (l:List aG),(∀ x∈l,Fu x)→∀ x∈out++l,Fu x:=by
  intro l hl x hx;rcases List.mem_append.1 hx with hx | hx;exact ho x hx;exact hl x hx
 have rune:∀ x,Fu (mH x):=fun x=>⟨rfl,.inl rfl,Nat.zero_le _⟩;unfold cA at h;split at h
 ·split at h
  ·cases h
  injection h with h;injection h with h;injection h with h1 h2;injection h1 with h1 h3;subst h1;exact ho
 split at h
 ·split at h
  ·cases h
  injection h with h;injection h with h;injection h with h1 h2;injection h1 with h1 h3;subst h1;exact push _ (fun x hx=>by rw [List.mem_singleton.1 hx];exact⟨rfl,.inr (.inl rfl),Nat.zero_le _⟩)
 split at h
 ·split at h
  ·cases h
  rename_i hn;injection h with h;injection h with h;injection h with h1 h2;injection h1 with h1 h3;subst h1;exact push _ (fun x hx=>by rw [List.mem_singleton.1 hx];exact⟨rfl,.inr (.inr rfl),Jo (mU hn).2.1⟩)
 split at h
 ·split at h
  ·cases h
  rename_i hq;injection h with h;injection h with h;injection h with h1 h2;injection h1 with h1 h3;subst h1;unfold gv at hq;split at hq
  ·injection hq with hq;injection hq with hq I5;subst hq;refine push _ (fun x hx=>?_);obtain⟨y,_,rfl⟩:=List.mem_map.1 hx;exact rune y
  cases hq
 split at h
 ·split at h
  ·cases h
  split at h
  ·injection h with h;injection h with h;injection h with h1 h2;injection h1 with h1 h3;subst h1;exact push _ (fun x hx=>by rw [List.mem_singleton.1 hx];exact rune _)
  cases h
 injection h with h;cases h
theorem Ez {L:List Int}:∀ (f i:Nat) (out:List aG) (cur:Int) (v:List aG × Int) (j:Nat),(∀ x∈out,Fu x)→cK L f i out cur=.ok (v,j)→∀ x∈v.1,Fu x:=by
 intro f;induction f with
 | zero=>intro i out cur v j _ h;rw [cK]at h;cases h
 | succ f ih=>
  intro i out cur v j ho h;rw [cK]at h;cases he:cA L (az L i) out cur with
  | error e=>rw [he]at h;cases h
  | ok q=>
   rw [he]at h;cases q with
   | none=>simp only at h;injection h with h;injection h with h1 h2;subst h1;exact ho
   | some q=>
    obtain⟨⟨o,c⟩,k⟩:=q;simp only at h;split at h
    ·cases h
    exact ih _ _ _ _ _ (Ju he ho) h
theorem jG {L:List Int} {i:Nat} {v:List aG × Int} {j:Nat} (h:cH L i=.ok (v,j)):∀ x∈v.1,Fu x:=Ez _ _ _ _ _ _ (by simp) h
def SdG (s:cn):Prop:=(∀ x∈s.before,Fu x)∧(∀ x∈s.source,Fu x)∧∀ x∈s.after,Fu x
theorem Ge {L:List Int} {i:Nat} {v:cn} {j:Nat} (h:dJ L i=.ok (v,j)):SdG v:=by
 have nil:∀ x∈([]:List aG),Fu x:=(by simp);unfold dJ at h;cases hh:dQ L (decide (pk L (az L i)=94)) (if pk L (az L i)=94 then az L i+1 else az L i)with
 | error e=>rw [hh]at h;cases h
 | ok q=>
  obtain⟨⟨b,s,c⟩,j1⟩:=q;rw [hh]at h;simp only at h;have h1:(∀ x∈b,Fu x)∧∀ x∈s,Fu x:=by
   unfold dQ at hh;cases hi:cH L (if pk L (az L i)=94 then az L i+1 else az L i)with
   | error e=>rw [hi]at hh;cases hh
   | ok q=>
    obtain⟨⟨l,c1⟩,j2⟩:=q;rw [hi]at hh;simp only at hh;split at hh
    ·split at hh
     ·cases hh
     cases hi2:cH L (j2+1)with
     | error e=>rw [hi2]at hh;cases hh
     | ok q=>
      obtain⟨⟨l2,c2⟩,j3⟩:=q;rw [hi2]at hh;simp only at hh;injection hh with hh;injection hh with hh Yz;injection hh with X9 T';injection T' with XC WG;subst X9 XC;exact⟨jG hi,jG hi2⟩
    split at hh
    ·cases hh
    injection hh with hh;injection hh with hh Yz;injection hh with X9 T';injection T' with XC WG;subst X9 XC;exact⟨nil,jG hi⟩
  cases ht:eu L j1 with
  | error e=>rw [ht]at h;cases h
  | ok q=>
   obtain⟨⟨a,fin⟩,k⟩:=q;have h2:∀ x∈a,Fu x:=by
    unfold eu at ht;split at ht
    ·cases hi:cH L (j1+1)with
     | error e=>rw [hi]at ht;cases ht
     | ok q=>
      obtain⟨⟨l,c1⟩,j2⟩:=q;rw [hi]at ht;simp only at ht;split at ht
      ·cases ht
      split at ht
      ·injection ht with ht;injection ht with ht1 ht2;injection ht1 with VH ht4;subst VH;exact jG hi
      injection ht with ht;injection ht with ht1 ht2;injection ht1 with VH ht4;subst VH;exact jG hi
    injection ht with ht;injection ht with ht1 ht2;injection ht1 with VH ht4;subst VH;exact nil
   rw [ht]at h;simp only at h;injection h with h;injection h with h3 h4;subst h3;exact⟨h1.1,h1.2,h2⟩
def fO (a:List (List Int)) (b:List Word):Prop:=a.map bytesOf=b∧∀ w∈a,w.all aK=true
theorem fO.nil:fO [] []:=⟨rfl,by simp⟩
theorem fO.app {a c:List (List Int)} {b d:List Word} (h:fO a b) (h2:fO c d):fO (a++c) (b++d):=by
 refine⟨by rw [List.map_append,h.1,h2.1],fun w hw=>?_⟩;rcases List.mem_append.1 hw with hw | hw;exact h.2 w hw;exact h2.2 w hw
theorem fO.one {w:List Int} {x:Word} (h:bytesOf w=x) (hr:w.all aK=true):fO [w] [x]:=⟨by rw [List.map_singleton,h],fun y hy=>by rw [List.mem_singleton.1 hy];exact hr⟩
theorem fO.cons {w:List Int} {x:Word} {a:List (List Int)} {b:List Word} (h:bytesOf w=x) (hr:w.all aK=true) (h2:fO a b):fO (w::a) (x::b):=fO.app (fO.one h hr) h2
theorem fO.none {a:List (List Int)} {b:List Word} (h:fO a b):a = []↔b = []:=by rw [← h.1];simp
theorem cU.toX {w:World} {X:Nat→Prop} {u:Value} {l:List aG} (h:cU w X u l) (hg:∀ a∈l,Fu a):∃ A n c,u=.slice A n c∧i5 w X A n l∧n≤maxLen:=by
 obtain⟨A,n,c,rfl,⟨css,h1,h2,h3,h4,h5⟩,_,hn⟩:=h;refine⟨A,n,c,rfl,⟨css,h1,h2,fun i a cs ha hc=>?_,h4,h5⟩,by unfold maxLen;omega⟩;obtain⟨A',n',c',e,g1,g2,g3⟩:=h3 i a cs ha hc;obtain⟨_,k1,k2⟩:=hg a (List.mem_of_getElem? ha);exact⟨A',n',c',e,g1,g3,by unfold kP;omega,by unfold maxLen;omega⟩
theorem ML {L:List Int} {i:Nat} {v:cn} {j:Nat} (h:dJ L i=.ok (v,j)) : -1≤v.aa∧v.aa≤20:=by
 have one:∀ {i:Nat} {l:List aG} {c:Int} {j:Nat},cH L i=.ok ((l,c),j) → -1≤c∧c≤20:=fun h=>qL _ _ _ _ (Nat.zero_le _) (by decide) (by decide) h;unfold dJ at h;cases hh:dQ L (decide (pk L (az L i)=94)) (if pk L (az L i)=94 then az L i+1 else az L i)with
 | error e=>rw [hh]at h;cases h
 | ok q=>
  obtain⟨⟨b,s,c⟩,j1⟩:=q;rw [hh]at h;simp only at h;have h1 : -1≤c∧c≤20:=by
   unfold dQ at hh;cases hi:cH L (if pk L (az L i)=94 then az L i+1 else az L i)with
   | error e=>rw [hi]at hh;cases hh
   | ok q=>
    obtain⟨⟨l,c1⟩,j2⟩:=q;rw [hi]at hh;simp only at hh;split at hh
    ·split at hh
     ·cases hh
     cases hi2:cH L (j2+1)with
     | error e=>rw [hi2]at hh;cases hh
     | ok q=>
      obtain⟨⟨l2,c2⟩,j3⟩:=q;rw [hi2]at hh;simp only at hh;injection hh with hh;injection hh with hh Yz;injection hh with X9 T';injection T' with XC WG;subst WG;exact one hi2
    split at hh
    ·cases hh
    injection hh with hh;injection hh with hh Yz;injection hh with X9 T';injection T' with XC WG;subst WG;exact one hi
  cases ht:eu L j1 with
  | error e=>rw [ht]at h;cases h
  | ok q=>
   obtain⟨⟨a,fin⟩,k⟩:=q;rw [ht]at h;simp only at h;injection h with h;injection h with h3 h4;subst h3;exact h1
def S1 (w:World) (C:Nat) (A:Option Addr) (n c:Nat) (L:List Int) (r:kf cn) (e:Ending) (w':World):Prop :=
  match r with
  | .ok (d,j)=>(∃ A1 n1 c1 A2 n2 c2 A3 n3 c3,e=.returned (.agg #[.bool d.start,.bool d.fin,.slice A1 n1 c1,.slice A2 n2 c2,.slice A3 n3 c3,.int .i64 d.aa])∧sg w' (fun b=>w.heap.size≤b∧b≠C) d [.bool d.start,.bool d.fin,.slice A1 n1 c1,.slice A2 n2 c2,.slice A3 n3 c3,.int .i64 d.aa])∧ax w' C A n c L j∧bM w C w'
  | .error (x,p)=>e=aV x p∧bM w C w'
theorem Lb (w:World) (C:Nat) (A:Option Addr) (n c:Nat) (L:List Int) (i:Nat) (h:ax w C A n c L i) (hL:gL L) (hn:n≤100000) :
    Calls Tryz.prog 82 #[.pointer (some ⟨C,0,none⟩)] w (S1 w C A n c L (dJ L i)):=by
 refine(QB w C A n c L i h hL hn).mono ?_;intro e w' hp;cases hr:dJ L i with
 | error e0=>rw [hr]at hp;exact hp
 | ok q=>
  obtain⟨d,j⟩:=q;rw [hr]at hp;obtain⟨⟨u1,u2,u3,he,h1,h2,h3⟩,hc,hb⟩:=hp;obtain⟨g1,g2,g3⟩:=Ge hr;have hk:ag w' (fun b=>w.heap.size+2≤b∧b≠C) w' (fun b=>w.heap.size≤b∧b≠C):=ag.refl (fun b hb=>⟨by have:=hb.1;omega,hb.2⟩);obtain⟨A1,n1,c1,rfl,x1,m1⟩:=(h1.keep hk).toX g1;obtain⟨A2,n2,c2,rfl,x2,m2⟩:=(h2.keep hk).toX g2;obtain⟨A3,n3,c3,rfl,x3,m3⟩:=(h3.keep hk).toX g3;have XF:=ML hr;exact⟨⟨A1,n1,c1,A2,n2,c2,A3,n3,c3,he,A1,n1,c1,A2,n2,c2,A3,n3,c3,rfl,x1,x2,x3,m1,m2,m3,by unfold kP;omega⟩,hc,hb⟩
structure pQ (w:World) (C:Nat) (A:Option Addr) (n c:Nat) (L:List Int) (wr:World) (j:Nat):Prop where
  cur:iL w.heap.size wr C A n c L j
  but:bM w C wr
  res:ak wr w.heap.size 97 #[.int .i64 0,.string ⟨#[]⟩,.slice none 0 0,.int .i64 0,.bool false,.bool false,.slice none 0 0,.slice none 0 0,.slice none 0 0,.int .i64 0,.bool false,.bool false,.slice none 0 0,.slice none 0 0,.slice none 0 0,.int .i64 0]
section
variable {w wr w' : World} {C : Nat} {A : Option Addr} {n c : Nat} {L : List Int} {j j' : Nat}
theorem pQ.step (h:pQ w C A n c L wr j) (hc:ax w' C A n c L j') (hb:bM wr C w'):pQ w C A n c L w' j':=by
 have hC:=h.cur.lt;exact⟨h.cur.but hc hb,h.but.trans hb,(hb.2.2.2.2 _ h.res.lt (by omega)).trans h.res⟩
theorem pQ.below (h:pQ w C A n c L wr j) (hb:Below wr.heap.size wr w'):pQ w C A n c L w' j:=by
 have aL:=hb.mono h.but.1;exact⟨h.cur.below aL,fy h.but aL,h.res.below hb h.res.lt⟩
theorem pQ.put (h:pQ w C A n c L wr j) {P:Nat} (hP:w.heap.size<P) (k:Nat) (u:Value):pQ w C A n c L (wr.setCell ⟨P,k,none⟩ u) j:=by
 have hb:=(bM.set wr P k u);have aL:=hb.to (B:=w.heap.size) h.but.1 (Nat.le_of_lt hP);exact⟨h.cur.below aL,fy h.but aL,(hb.2.2.2.2 _ h.res.lt (by omega)).trans h.res⟩
end
theorem xF (w:World) (C:Nat) (A:Option Addr) (n c:Nat) (L:List Int) (i:Nat) (h:ax w C A n c L i):pQ w C A n c L (w.alloc (.cells #[.int .i64 0,.string ⟨#[]⟩,.slice none 0 0,.int .i64 0,.bool false,.bool false,.slice none 0 0,.slice none 0 0,.slice none 0 0,.int .i64 0,.bool false,.bool false,.slice none 0 0,.slice none 0 0,.slice none 0 0,.int .i64 0] 97)) i:=by
 have hb:Below w.heap.size w (w.alloc (.cells #[.int .i64 0,.string ⟨#[]⟩,.slice none 0 0,.int .i64 0,.bool false,.bool false,.slice none 0 0,.slice none 0 0,.slice none 0 0,.int .i64 0,.bool false,.bool false,.slice none 0 0,.slice none 0 0,.slice none 0 0,.int .i64 0] 97)):=(Below.refl _ _).alloc (Nat.le_refl _) _;exact⟨(iL.start h).below hb,bM.below C hb,ak.new _ _ _⟩
def wI (w:World) (C b:Nat):Prop:=w.heap.size<b∧b≠C
theorem mO {w w':World} {C P:Nat} {t:TypeId} {cs:Array Value} (h:ak w P t cs) (hb:bM w C w') (hP:P≠C):ak w' P t cs:=(hb.2.2.2.2 _ h.lt hP).trans h
def ue (w:World) (C:Nat) (A:Option Addr) (n c:Nat) (L:List Int) (r:kf aI) (e:Ending) (w':World):Prop :=
  match r with
  | .ok (d,j)=>(∃ cs:List Value,e=.returned (.agg cs.toArray)∧eF w' (wI w C) d cs)∧ax w' C A n c L j∧bM w C w'
  | .error (x,p)=>e=aV x p∧bM w C w'
theorem wg {w wr:World} {C:Nat} {A:Option Addr} {n c:Nat} {L:List Int} {j:Nat} {d:aI} {vs:List Value} (h:pQ w C A n c L wr j) (hp:eF wr (wI w C) d vs) :
    vs.toArray.all (·.oneCell')=true∧ax (wr.setRow w.heap.size vs.toArray) C A n c L j∧bM w C (wr.setRow w.heap.size vs.toArray) ∧
    ak (wr.setRow w.heap.size vs.toArray) w.heap.size 97 vs.toArray∧eF (wr.setRow w.heap.size vs.toArray) (wI w C) d vs:=by
 have hb:=(IY wr w.heap.size vs.toArray).to (B:=w.heap.size) h.but.1 (Nat.le_refl _);have hk:ag wr (wI w C) (wr.setRow w.heap.size vs.toArray) (wI w C):=(IY wr w.heap.size vs.toArray).keeps (fun b hb=>by have:=hb.1;omega) (fun _ h _=>h);exact⟨by rw [Array.all_eq_true_iff_forall_mem];intro u hu;exact hp.one.2 u (by simpa using hu),(h.cur.below hb).cur,fy h.but hb,Qa h.res,hp.keep hk⟩
theorem jT:(Tryz.prog.info? 97).map (·.size)=some 16:=by kernel_rfl
theorem jF:∃ fs,Tryz.prog.underlying 97 = some (.struct fs):=⟨_,Tryz.underlying97⟩
theorem xA (L:List Int) (a:Nat):(ic L a).size≤4*L.length:=by
 unfold ic;have h1:=runesBytes_size_le (aO L a (aX L a));have h2:(aO L a (aX L a)).length≤L.length:=(by unfold aO;rw [List.length_take,List.length_drop];omega);omega
theorem J4 {L:List Int} {i:Nat} {e:Int × Nat} (h:aU L (i+1) 58=.error e):jx L i=.error e:=by unfold jx;rw [h]
theorem Bb {L:List Int} {i j a:Nat} {e:Int × Nat} (h:aU L (i+1) 58=.ok j) (ha:az L j=a) (lg:pk L a=91) (hs:bD L 20 a=.error e):jx L i=.error e:=by unfold jx;rw [h];simp only;rw [ha,if_pos lg,hs]
theorem Dr {L:List Int} {i j a k:Nat} {s:af} (h:aU L (i+1) 58=.ok j) (ha:az L j=a) (lg:pk L a=91) (hs:bD L 20 a=.ok (s,k)):jx L i=.ok (⟨3,eG,s,0,dH,dH⟩,k):=by unfold jx;rw [h];simp only;rw [ha,if_pos lg,hs]
theorem Jy {L:List Int} {i j a:Nat} (h:aU L (i+1) 58=.ok j) (ha:az L j=a) (lg:pk L a≠91):jx L i=(if jZ (ic L a)=true then .ok (⟨4,ic L a,[],0,dH,dH⟩,aX L a)else .error (7,a)):=by unfold jx;rw [h];simp only;rw [ha,if_neg lg]
theorem BK (w:World) (C:Nat) (A:Option Addr) (n c:Nat) (L:List Int) (i:Nat) (h:ax w C A n c L i) (hL:gL L) (hn:n≤100000) (xC:pk L i=58) :
    Calls Tryz.prog 59 #[.pointer (some ⟨C,0,none⟩)] w (ue w C A n c L (jx L i)):=by
 have hl:=h.len;have HL:=Lib.hid hL;have iA:=Lib.hid (fun(W:World) (m:Nat) (h:ax W C A n c L m)=>cM W C A n c L m h);have rq:=Lib.hid (fun(W:World) (m:Nat) (h:ax W C A n c L m)=>jA W C A n c L m h);have KW:=Lib.hid (fun(W:World) (m:Nat) (r:Int) (h:ax W C A n c L m) (hr:r ≠ -1)=>fE W C A n c L m r h hr);have fW:=Lib.hid (fun(W:World) (m:Nat) (h:ax W C A n c L m)=>vW 20 1 W C A n c L m rfl (by decide) h hL hn);have TO:=Lib.hid (fun(W:World) (m:Nat) (h:ax W C A n c L m) (h0:0<n)=>rK W C A n c L m h h0);have hi:=h.le;have td:=Lib.hid (xF w C A n c L i h);obtain⟨R,hR⟩:∃ R,jx L i=R:=⟨_,rfl⟩;rw [hR];have HR:=Lib.hid hR;clear h hL hR;go_enter Tryz.func59,Tryz.ntmps59;go_wp2_with fail;refine(iA.out _ i td.out.cur.cur).mono ?_;rintro e w1 ⟨rfl,hc1,aT⟩;have iJ:=Lib.hid (td.out.step hc1 aT);clear hc1 aT;have hlt:i<n:=(by rw [← hl];exact bw (by omega));rw [xC];obtain⟨d1,d2,d3,d4⟩:=iJ.out.cur.cur.step hlt;have gz:=Lib.hid (iJ.out.step d3 d4);have Wt:IntKind.i64.wrap ((i:Int)+1)=(i:Int)+1:=wrap_small _ (by omega) (by omega);have IC:=Lib.hid (KW.out _ (i+1) 58 gz.out.cur.cur (by decide));clear d3 d4;cases hnd:aU L (i+1) 58 with
 | error e0=>
  obtain⟨y,p⟩:=e0;have eW:=Lib.hid (show R=.error (y,p) from HR.out.symm.trans (J4 hnd));rw [hnd]at IC;clear hnd;go_wp2_with fail;refine IC.out.mono ?_;rintro e w9 ⟨he,cV⟩;unfold aV at he;subst he;have fN:=Lib.hid (gz.out.but.trans cV);clear cV;go_wp2_with fail;rw [eW.out];exact⟨rfl,rfl,fN.out⟩
 | ok j=>
  have Et:=Lib.hid hnd;rw [hnd]at IC;clear hnd;obtain⟨a,ha⟩:∃ a,az L j=a:=⟨_,rfl⟩;have HA:=Lib.hid ha;clear ha;go_wp2_with fail;refine IC.out.mono ?_;rintro e w3 ⟨rfl,lD,bQ⟩;have eE:=Lib.hid (gz.out.step lD bQ);clear lD bQ d1 d2;go_wp2_with fail;refine(rq.out _ j eE.out.cur.cur).mono ?_;rintro e w4 ⟨rfl,mo,hb4⟩;rw [HA.out]at mo;have iF:=Lib.hid (eE.out.step mo hb4);clear mo hb4;go_wp2_with fail;refine(iA.out _ a iF.out.cur.cur).mono ?_;rintro e w5 ⟨rfl,mg,eH⟩;have ja:=Lib.hid (iF.out.step mg eH);clear mg eH;by_cases lg:pk L a=91
  ·have zv:=Lib.hid (fW.out _ a ja.out.cur.cur);cases hst:bD L 20 a with
   | error e0=>
    obtain⟨y,p⟩:=e0;have eW:=Lib.hid (show R=.error (y,p) from HR.out.symm.trans (Bb Et.out HA.out lg hst));rw [hst]at zv;rw [lg];clear hst lg;go_wp2_with fail;refine zv.out.mono ?_;rintro e w9 ⟨he,cV⟩;unfold aV at he;subst he;have fN:=Lib.hid (ja.out.but.trans cV);clear cV;go_wp2_with fail;rw [eW.out];exact⟨rfl,rfl,fN.out⟩
   | ok q=>
    obtain⟨s,k⟩:=q;have eW:=Lib.hid (show R=.ok (⟨3,eG,s,0,dH,dH⟩,k) from HR.out.symm.trans (Dr Et.out HA.out lg hst));have hss:=(oL HL.out.ok 20 _ _ _ hst).2.size;rw [hst]at zv;rw [lg];clear hst lg;go_wp2_with fail;refine zv.out.mono ?_;rintro e w6 ⟨⟨B,m,d,rfl,hr,hd⟩,CU,fH⟩;have US:=ja.out.step CU fH;have hm:m≤maxLen:=(by have h1:=hr.1;rw [bB]at h1;unfold maxLen;omega);have qn:=Lib.hid (show di w6 (wI w C) 2 B m (aj s) from hr.lift (fun b (h:w5.heap.size≤b)=>⟨by have:=ja.out.res.lt;omega,by have:=ja.out.cur.lt;have:=ja.out.but.1;omega⟩));have uf:=Lib.hid US;have zA:=Lib.hid (show eF w6 (wI w C) ⟨3,eG,s,0,dH,dH⟩ [.int .i64 3,.string ⟨#[]⟩,.slice B m d,.int .i64 0,.bool false,.bool false,.slice none 0 0,.slice none 0 0,.slice none 0 0,.int .i64 0,.bool false,.bool false,.slice none 0 0,.slice none 0 0,.slice none 0 0,.int .i64 0] from⟨B,m,d,[.bool false,.bool false,.slice none 0 0,.slice none 0 0,.slice none 0 0,.int .i64 0],[.bool false,.bool false,.slice none 0 0,.slice none 0 0,.slice none 0 0,.int .i64 0],rfl,qn.out,hm,kE,kE,show kP 3 from⟨by decide,by decide⟩,show kP 0 from⟨by decide,by decide⟩,Nat.zero_le _⟩);clear hr hd CU fH US;obtain⟨hone,e1,e2,xq,e4⟩:=wg uf.out zA.out;have yM:=Lib.hid e1;have ym:=Lib.hid e2;have My:=Lib.hid e4;have rZ:=Lib.hid hone;have Tl:=Lib.hid xq;have DH:=Lib.hid (pQ.res uf.out);clear e1 e2 e4 xq hone
    go_wp2_with (refine wpList_store_row (c:=#[.int .i64 0,.string ⟨#[]⟩,.slice none 0 0,.int .i64 0,.bool false,.bool false,.slice none 0 0,.slice none 0 0,.slice none 0 0,.int .i64 0,.bool false,.bool false,.slice none 0 0,.slice none 0 0,.slice none 0 0,.int .i64 0]) (vs:=#[.int .i64 3,.string ⟨#[]⟩,.slice B m d,.int .i64 0,.bool false,.bool false,.slice none 0 0,.slice none 0 0,.slice none 0 0,.int .i64 0,.bool false,.bool false,.slice none 0 0,.slice none 0 0,.slice none 0 0,.int .i64 0]) rfl rfl jT rfl rZ.out rfl rfl DH.out ?_);(try simp only [Act.put]);refine bodyPost_ret (v:=.agg #[.int .i64 3,.string ⟨#[]⟩,.slice B m d,.int .i64 0,.bool false,.bool false,.slice none 0 0,.slice none 0 0,.slice none 0 0,.int .i64 0,.bool false,.bool false,.slice none 0 0,.slice none 0 0,.slice none 0 0,.int .i64 0]) (lN Tryz.results59 rfl jF jT Tl.out) rfl ?_;rw [eW.out];exact⟨⟨_,rfl,My.out⟩,yM.out,ym.out⟩
  have q91:(pk L a == 91)=false:=(by rw [beq_eq_false_iff_ne];exact lg);have c1:=ja.out.cur.cur.blk.cell 1;obtain⟨T,hT⟩:∃ T,ic L a=T:=⟨_,rfl⟩;have HT:=Lib.hid hT;have oS:=Lib.hid (show R=(if jZ T=true then .ok (⟨4,T,[],0,dH,dH⟩,aX L a)else .error (7,a)) by rw [← HR.out,Jy Et.out HA.out lg,hT]);clear hT;go_wp2_with fail;refine(TO.out _ a ja.out.cur.cur (by omega)).mono ?_;rintro e w6 ⟨rfl,CU,fH⟩;rw [HT.out];have uf:=Lib.hid (ja.out.step CU fH);have hts:T.size≤maxLen:=by
   rw [← HT.out];have:=xA L a;have:=uf.out.cur.cur.le;unfold maxLen;omega
  clear CU fH c1;go_upto_region 9 with fail;have hP:=uf.out.res.lt;have mB:=ak.new w6 97 #[.int .i64 4,.string T,.slice none 0 0,.int .i64 0,.bool false,.bool false,.slice none 0 0,.slice none 0 0,.slice none 0 0,.int .i64 0,.bool false,.bool false,.slice none 0 0,.slice none 0 0,.slice none 0 0,.int .i64 0];have kC:Below w6.heap.size w6 (w6.alloc (.cells #[.int .i64 4,.string T,.slice none 0 0,.int .i64 0,.bool false,.bool false,.slice none 0 0,.slice none 0 0,.slice none 0 0,.int .i64 0,.bool false,.bool false,.slice none 0 0,.slice none 0 0,.slice none 0 0,.int .i64 0] 97)):=(Below.refl _ _).alloc (Nat.le_refl _) _;have Vg:=uf.out.below kC;have VP:w6.heap.size<(w6.alloc (.cells #[.int .i64 4,.string T,.slice none 0 0,.int .i64 0,.bool false,.bool false,.slice none 0 0,.slice none 0 0,.slice none 0 0,.int .i64 0,.bool false,.bool false,.slice none 0 0,.slice none 0 0,.slice none 0 0,.int .i64 0] 97)).heap.size:=(by simp);generalize (w6.alloc (.cells #[.int .i64 4,.string T,.slice none 0 0,.int .i64 0,.bool false,.bool false,.slice none 0 0,.slice none 0 0,.slice none 0 0,.int .i64 0,.bool false,.bool false,.slice none 0 0,.slice none 0 0,.slice none 0 0,.int .i64 0] 97))=w7 at *;have vk:=Lib.hid Vg;have HBK:=Lib.hid mB;have c1:w7.cell? ⟨w6.heap.size,1,none⟩=some (.string T):=mB.cell 1;clear kC Vg mB;obtain⟨B9,Un⟩:∃ B9,jZ T=B9:=⟨_,rfl⟩;have fN:=Lib.hid Un;rw [Un]at oS;clear Un;go_cut [51] (fun v wx=>v=.bool (!B9)∧Below w7.heap.size w7 wx);case first=>
   go_region_with (first | (go_at_call 65;refine(iZ _).mono ?_;rintro e w' ⟨rfl,rfl⟩) | (go_at_call 64;refine(rQ _ T _ fN.out _ (Dy (ak.new _ _ _))).mono ?_;rintro e w' ⟨rfl,rfl⟩))
   all_goals
     go_wp2_with fail
     go_meet
     exact⟨rfl,below_drewN ((Below.refl _ _).alloc (Nat.le_refl _) _) _⟩
  obtain⟨rfl,hbc⟩:=hcut;have yL:=Lib.hid (vk.out.below hbc);have Ti:=HBK.out.below hbc VP;have Cp:=Lib.hid Ti;cases B9 with
  | false=>
   have eW:=Lib.hid (show R=.error (7,a) from oS.out);clear hbc c1 Ti;go_wp2_with fail;refine(b8 7 a _).mono ?_;rintro e w9 ⟨rfl,rfl⟩;go_wp2_with fail;rw [eW.out];exact⟨rfl,rfl,yL.out.but⟩
  | true=>
   have eW:=Lib.hid (show R=.ok (⟨4,T,[],0,dH,dH⟩,aX L a) from oS.out);have YW:=yL.out;have zA:=Lib.hid (show eF wc (wI w C) ⟨4,T,[],0,dH,dH⟩ [.int .i64 4,.string T,.slice none 0 0,.int .i64 0,.bool false,.bool false,.slice none 0 0,.slice none 0 0,.slice none 0 0,.int .i64 0,.bool false,.bool false,.slice none 0 0,.slice none 0 0,.slice none 0 0,.int .i64 0] from⟨none,0,0,[.bool false,.bool false,.slice none 0 0,.slice none 0 0,.slice none 0 0,.int .i64 0],[.bool false,.bool false,.slice none 0 0,.slice none 0 0,.slice none 0 0,.int .i64 0],rfl,di.nil 2,Nat.zero_le _,kE,kE,show kP 4 from⟨by decide,by decide⟩,show kP 0 from⟨by decide,by decide⟩,hts⟩);clear hbc YW c1;obtain⟨hone,e1,e2,xq,e4⟩:=wg yL.out zA.out;have yM:=Lib.hid e1;have ym:=Lib.hid e2;have My:=Lib.hid e4;have rZ:=Lib.hid hone;have Tl:=Lib.hid xq;have DH:=Lib.hid (pQ.res yL.out);have Vu:=Lib.hid Ti;clear e1 e2 e4 xq hone;go_wp2_with (first | (refine wpList_load_row (cs:=#[.int .i64 4,.string T,.slice none 0 0,.int .i64 0,.bool false,.bool false,.slice none 0 0,.slice none 0 0,.slice none 0 0,.int .i64 0,.bool false,.bool false,.slice none 0 0,.slice none 0 0,.slice none 0 0,.int .i64 0]) rfl rfl jF jT rfl Vu.out ?_) | (refine wpList_store_row (c:=#[.int .i64 0,.string ⟨#[]⟩,.slice none 0 0,.int .i64 0,.bool false,.bool false,.slice none 0 0,.slice none 0 0,.slice none 0 0,.int .i64 0,.bool false,.bool false,.slice none 0 0,.slice none 0 0,.slice none 0 0,.int .i64 0]) (vs:=#[.int .i64 4,.string T,.slice none 0 0,.int .i64 0,.bool false,.bool false,.slice none 0 0,.slice none 0 0,.slice none 0 0,.int .i64 0,.bool false,.bool false,.slice none 0 0,.slice none 0 0,.slice none 0 0,.int .i64 0]) rfl rfl jT rfl rZ.out rfl rfl DH.out ?_));(try simp only [Act.put])
   refine bodyPost_ret (v:=.agg #[.int .i64 4,.string T,.slice none 0 0,.int .i64 0,.bool false,.bool false,.slice none 0 0,.slice none 0 0,.slice none 0 0,.int .i64 0,.bool false,.bool false,.slice none 0 0,.slice none 0 0,.slice none 0 0,.int .i64 0]) (lN Tryz.results59 rfl jF jT Tl.out) rfl ?_;rw [eW.out];exact⟨⟨_,rfl,My.out⟩,yM.out,ym.out⟩
theorem CJ {L:List Int} {i:Nat} {e:Int × Nat} (h:gG L (i+1)=.error e):pS L i=.error e:=by unfold pS;rw [h]
theorem Cx {L:List Int} {i j:Nat} {s:ByteArray} {e:Int × Nat} (h:gG L (i+1)=.ok (s,j)) (h2:aU L (az L j) 61=.error e):pS L i=.error e:=by unfold pS;rw [h];simp only;rw [h2]
theorem Dw {L:List Int} {i j k:Nat} {s:ByteArray} {e:Int × Nat} (h:gG L (i+1)=.ok (s,j)) (h2:aU L (az L j) 61=.ok k) (h3:bD L 20 (az L k)=.error e):pS L i=.error e:=by unfold pS;rw [h];simp only;rw [h2];simp only;rw [h3]
theorem To {L:List Int} {i j k m:Nat} {s:ByteArray} {t:af} (h:gG L (i+1)=.ok (s,j)) (h2:aU L (az L j) 61=.ok k) (h3:bD L 20 (az L k)=.ok (t,m)):pS L i=.ok (⟨1,s,t,0,dH,dH⟩,m):=by unfold pS;rw [h];simp only;rw [h2];simp only;rw [h3]
theorem Ee (w:World) (C:Nat) (A:Option Addr) (n c:Nat) (L:List Int) (i:Nat) (h:ax w C A n c L i) (hL:gL L) (hn:n≤100000) (lA:pk L i=36) (hv:MI L i=true) :
    Calls Tryz.prog 59 #[.pointer (some ⟨C,0,none⟩)] w (ue w C A n c L (pS L i)):=by
 have hl:=h.len;have HL:=Lib.hid hL;have iA:=Lib.hid (fun(W:World) (m:Nat) (h:ax W C A n c L m)=>cM W C A n c L m h);have rq:=Lib.hid (fun(W:World) (m:Nat) (h:ax W C A n c L m)=>jA W C A n c L m h);have KW:=Lib.hid (fun(W:World) (m:Nat) (r:Int) (h:ax W C A n c L m) (hr:r ≠ -1)=>fE W C A n c L m r h hr);have fW:=Lib.hid (fun(W:World) (m:Nat) (h:ax W C A n c L m)=>vW 20 1 W C A n c L m rfl (by decide) h hL hn);have TO:=Lib.hid (fun(W:World) (m:Nat) (h:ax W C A n c L m) (h0:0<n)=>rK W C A n c L m h h0);have hi:=h.le;have td:=Lib.hid (xF w C A n c L i h);obtain⟨R,hR⟩:∃ R,pS L i=R:=⟨_,rfl⟩;rw [hR];have HR:=Lib.hid hR;clear h hL hR;go_enter Tryz.func59,Tryz.ntmps59;go_wp2_with fail;refine(iA.out _ i td.out.cur.cur).mono ?_;rintro e w1 ⟨rfl,hc1,aT⟩;have iJ:=Lib.hid (td.out.step hc1 aT);clear hc1 aT;have hlt:i<n:=(by rw [← hl];exact bw (by omega));have ZV:=Lib.hid (fun(W:World) (h:ax W C A n c L i)=>show Calls Tryz.prog 80 #[.pointer (some ⟨C,0,none⟩)] W fun e w'=>e=.returned (.bool true)∧Below W.heap.size W w' by have:=uU W C A n c L i h hlt;rwa [hv]at this);rw [lA]
 go_upto_if 63 with (first
   | (go_at_call 58;refine(iA.out _ i iJ.out.cur.cur).mono ?_;rintro e w2 ⟨rfl,hc2,aL⟩;rw [lA])
   | (go_at_call 80;refine(ZV.out _ (by assumption)).mono ?_;rintro e w3 ⟨rfl,bQ⟩))
 have eE:=Lib.hid ((iJ.out.step hc2 aL).below bQ);clear hc2 aL bQ;obtain⟨d1,d2,d3,d4⟩:=eE.out.cur.cur.step hlt;have iF:=Lib.hid (eE.out.step d3 d4);have Wt:IntKind.i64.wrap ((i:Int)+1)=(i:Int)+1:=wrap_small _ (by omega) (by omega);have F7:=Lib.hid (Iw _ C A n c L (i+1) iF.out.cur.cur (by omega));clear d3 d4;cases hnm:gG L (i+1)with
 | error e0=>
  obtain⟨y,p⟩:=e0;have eW:=Lib.hid (show R=.error (y,p) from HR.out.symm.trans (CJ hnm));rw [hnm]at F7;clear hnm;go_wp2_with fail;refine F7.out.mono ?_;rintro e w9 ⟨he,cV⟩;unfold aV at he;subst he;have fN:=Lib.hid (iF.out.but.trans cV);clear cV;go_wp2_with fail;rw [eW.out];exact⟨rfl,rfl,fN.out⟩
 | ok q=>
  obtain⟨T,j⟩:=q;have Et:=Lib.hid hnm;have hts:T.size≤maxLen:=by
   have h1:=(mU hnm).2.2.1;have h2:=xA L (i+1);have h3:=iF.out.cur.cur.le;rw [← h1]at h2;unfold maxLen;omega
  rw [hnm]at F7;clear hnm;obtain⟨a,ha⟩:∃ a,az L j=a:=⟨_,rfl⟩;have HA:=Lib.hid ha;clear ha;go_wp2_with fail;refine F7.out.mono ?_;rintro e w5 ⟨rfl,mg,eH⟩;have ja:=Lib.hid (iF.out.step mg eH);clear mg eH d1 d2;have hP:=ja.out.res.lt;have SN:w5.heap.size≠C:=(by have:=ja.out.cur.lt;have:=ja.out.but.1;omega);have mB:=ak.new w5 97 #[.int .i64 1,.string T,.slice none 0 0,.int .i64 0,.bool false,.bool false,.slice none 0 0,.slice none 0 0,.slice none 0 0,.int .i64 0,.bool false,.bool false,.slice none 0 0,.slice none 0 0,.slice none 0 0,.int .i64 0];have kC:Below w5.heap.size w5 (w5.alloc (.cells #[.int .i64 1,.string T,.slice none 0 0,.int .i64 0,.bool false,.bool false,.slice none 0 0,.slice none 0 0,.slice none 0 0,.int .i64 0,.bool false,.bool false,.slice none 0 0,.slice none 0 0,.slice none 0 0,.int .i64 0] 97)):=(Below.refl _ _).alloc (Nat.le_refl _) _;have uf:=Lib.hid (ja.out.below kC);have HBK:=Lib.hid mB;clear kC mB;go_wp2_with fail;refine(rq.out _ j uf.out.cur.cur).mono ?_;rintro e w7 ⟨rfl,sJ,iB⟩;rw [HA.out]at sJ;have vk:=Lib.hid (uf.out.step sJ iB);have abE:=Lib.hid (mO HBK.out iB SN);clear sJ iB;have PA:=Lib.hid (KW.out _ a 61 vk.out.cur.cur (by decide));cases hnd:aU L a 61 with
  | error e0=>
   obtain⟨y,p⟩:=e0;have eW:=Lib.hid (show R=.error (y,p) from HR.out.symm.trans (Cx Et.out (by rw [HA.out];exact hnd)));rw [hnd]at PA;clear hnd;go_wp2_with fail;refine PA.out.mono ?_;rintro e w9 ⟨he,cV⟩;unfold aV at he;subst he;have fN:=Lib.hid (vk.out.but.trans cV);clear cV;go_wp2_with fail;rw [eW.out];exact⟨rfl,rfl,fN.out⟩
  | ok k=>
   have XR:=Lib.hid (show aU L (az L j) 61=.ok k by rw [HA.out];exact hnd);rw [hnd]at PA;clear hnd;obtain⟨b,hb⟩:∃ b,az L k=b:=⟨_,rfl⟩;have HB:=Lib.hid hb;clear hb;go_wp2_with fail;refine PA.out.mono ?_;rintro e w8 ⟨rfl,Ip,gZ⟩;have yL:=Lib.hid (vk.out.step Ip gZ);have Cp:=Lib.hid (mO abE.out gZ SN);clear Ip gZ;go_wp2_with fail;refine(rq.out _ k yL.out.cur.cur).mono ?_;rintro e w9 ⟨rfl,M4,cV⟩;rw [HB.out]at M4;have pI:=Lib.hid (yL.out.step M4 cV);have Po:=Lib.hid (mO Cp.out cV SN);clear M4 cV;have zv:=Lib.hid (fW.out _ b pI.out.cur.cur);cases hst:bD L 20 b with
   | error e0=>
    obtain⟨y,p⟩:=e0;have eW:=Lib.hid (show R=.error (y,p) from HR.out.symm.trans (Dw Et.out XR.out (by rw [HB.out];exact hst)));rw [hst]at zv;clear hst;go_wp2_with fail;refine zv.out.mono ?_;rintro e wz ⟨he,hbz⟩;unfold aV at he;subst he;have HBZ:=Lib.hid (pI.out.but.trans hbz);clear hbz;go_wp2_with fail;rw [eW.out];exact⟨rfl,rfl,HBZ.out⟩
   | ok q=>
    obtain⟨s,m0⟩:=q;have eW:=Lib.hid (show R=.ok (⟨1,T,s,0,dH,dH⟩,m0) from HR.out.symm.trans (To Et.out XR.out (by rw [HB.out];exact hst)));have hss:=(oL HL.out.ok 20 _ _ _ hst).2.size;rw [hst]at zv;clear hst;go_wp2_with fail;refine zv.out.mono ?_;rintro e RN ⟨⟨B,m,d,rfl,hr,hd⟩,XS,Ua⟩;have VL:=pI.out.step XS Ua;have Ph:=mO Po.out Ua SN;have hm:m≤maxLen:=(by have h1:=hr.1;rw [bB]at h1;unfold maxLen;omega);have E9:=Po.out.lt;have x2:=Ph.cell 2;have z2:=Ph.frozen 2;have Jp:=Lib.hid (VL.put hP 2 (.slice B m d));have Rw:=Lib.hid (show ak (RN.setCell ⟨w5.heap.size,2,none⟩ (.slice B m d)) w5.heap.size 97 #[.int .i64 1,.string T,.slice B m d,.int .i64 0,.bool false,.bool false,.slice none 0 0,.slice none 0 0,.slice none 0 0,.int .i64 0,.bool false,.bool false,.slice none 0 0,.slice none 0 0,.slice none 0 0,.int .i64 0] from Ph.put 2 _);have hrd:di RN (fun b=>wI w C b∧b≠w5.heap.size) 2 B m (aj s):=hr.lift (fun b (h:w9.heap.size≤b)=>⟨⟨by have:=pI.out.res.lt;omega,by have:=pI.out.cur.lt;have:=pI.out.but.1;omega⟩,by omega⟩);have qn:=Lib.hid (hrd.keep (ag.setCell (p:=⟨w5.heap.size,2,none⟩) (X':=wI w C) (.slice B m d) (fun b hb=>hb.2) (fun b hb _=>hb.1)))
    have zA:=Lib.hid (show eF (RN.setCell ⟨w5.heap.size,2,none⟩ (.slice B m d)) (wI w C) ⟨1,T,s,0,dH,dH⟩ [.int .i64 1,.string T,.slice B m d,.int .i64 0,.bool false,.bool false,.slice none 0 0,.slice none 0 0,.slice none 0 0,.int .i64 0,.bool false,.bool false,.slice none 0 0,.slice none 0 0,.slice none 0 0,.int .i64 0] from⟨B,m,d,[.bool false,.bool false,.slice none 0 0,.slice none 0 0,.slice none 0 0,.int .i64 0],[.bool false,.bool false,.slice none 0 0,.slice none 0 0,.slice none 0 0,.int .i64 0],rfl,qn.out,hm,kE,kE,show kP 1 from⟨by decide,by decide⟩,show kP 0 from⟨by decide,by decide⟩,hts⟩);clear hr hd XS Ua VL Ph hrd;go_upto_region 19 with fail;have Xb:=Jp.out;have YR:=Rw.out;have Y8:=zA.out;clear Jp Rw zA qn x2 z2;generalize RN.setCell ⟨w5.heap.size,2,none⟩ (.slice B m d)=w11 at *;obtain⟨hone,e1,e2,xq,e4⟩:=wg Xb Y8;have yM:=Lib.hid e1;have ym:=Lib.hid e2;have My:=Lib.hid e4;have rZ:=Lib.hid hone;have Tl:=Lib.hid xq;have DH:=Lib.hid (pQ.res Xb);have Vu:=Lib.hid YR;clear e1 e2 e4 xq hone
    go_wp2_with (first | (refine wpList_load_row (cs:=#[.int .i64 1,.string T,.slice B m d,.int .i64 0,.bool false,.bool false,.slice none 0 0,.slice none 0 0,.slice none 0 0,.int .i64 0,.bool false,.bool false,.slice none 0 0,.slice none 0 0,.slice none 0 0,.int .i64 0]) rfl rfl jF jT rfl Vu.out ?_) | (refine wpList_store_row (c:=#[.int .i64 0,.string ⟨#[]⟩,.slice none 0 0,.int .i64 0,.bool false,.bool false,.slice none 0 0,.slice none 0 0,.slice none 0 0,.int .i64 0,.bool false,.bool false,.slice none 0 0,.slice none 0 0,.slice none 0 0,.int .i64 0]) (vs:=#[.int .i64 1,.string T,.slice B m d,.int .i64 0,.bool false,.bool false,.slice none 0 0,.slice none 0 0,.slice none 0 0,.int .i64 0,.bool false,.bool false,.slice none 0 0,.slice none 0 0,.slice none 0 0,.int .i64 0]) rfl rfl jT rfl rZ.out rfl rfl DH.out ?_));(try simp only [Act.put]);refine bodyPost_ret (v:=.agg #[.int .i64 1,.string T,.slice B m d,.int .i64 0,.bool false,.bool false,.slice none 0 0,.slice none 0 0,.slice none 0 0,.int .i64 0,.bool false,.bool false,.slice none 0 0,.slice none 0 0,.slice none 0 0,.int .i64 0]) (lN Tryz.results59 rfl jF jT Tl.out) rfl ?_;rw [eW.out];exact⟨⟨_,rfl,My.out⟩,yM.out,ym.out⟩
end Go.Proofs.YtapechjebkjidaaGreatDoor
