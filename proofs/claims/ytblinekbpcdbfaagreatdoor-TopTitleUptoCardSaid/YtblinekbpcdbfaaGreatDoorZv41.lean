/- SynRead + RulesNum + RulesRight + RdPartFr + RdPartA + RdPartB -/
import Derived.Test.YtblinekbpcdbfaaGreatDoorZv39
import Derived.Test.YtblinekbpcdbfaaGreatDoorZv33
import Derived.Test.YtblinekbpcdbfaaGreatDoorZv7
import Derived.Test.YtblinekbpcdbfaaGreatDoorZv13
import Derived.Test.YtblinekbpcdbfaaGreatDoorZv23
import Derived.Test.YtblinekbpcdbfaaGreatDoorZv40
import Derived.Test.YtblinekbpcdbfaaGreatDoorZv12
import Derived.Test.YtblinekbpcdbfaaGreatDoorZv22
set_option maxHeartbeats 12800000
set_option maxRecDepth 100000
namespace Go.Proofs.YtblinekbpcdbfaaGreatDoor
open Go.RowKit
theorem Bz {w:World} {R F m:Nat} {v:Value} {x p:Int} {tR tF:TypeId} (hR:aj w R tR #[v]) (hF:aj w F tF #[.int .i64 x,.int .i64 p]) (hne:R≠F) :
    aj ((((w.drewN m).setCell ⟨R,0,none⟩ v).setCell ⟨F,0,none⟩ (.int .i64 x)).setCell ⟨F,1,none⟩ (.int .i64 p)) R tR #[v]∧aj ((((w.drewN m).setCell ⟨R,0,none⟩ v).setCell ⟨F,0,none⟩ (.int .i64 x)).setCell ⟨F,1,none⟩ (.int .i64 p)) F tF #[.int .i64 x,.int .i64 p] ∧
      ∀ B,B≤R→B≤F→B≤w.heap.size→Below B w ((((w.drewN m).setCell ⟨R,0,none⟩ v).setCell ⟨F,0,none⟩ (.int .i64 x)).setCell ⟨F,1,none⟩ (.int .i64 p)) ∧
        ag w (fun b=>b≠R∧b≠F) ((((w.drewN m).setCell ⟨R,0,none⟩ v).setCell ⟨F,0,none⟩ (.int .i64 x)).setCell ⟨F,1,none⟩ (.int .i64 p)) (fun b=>b≠R∧b≠F):=by
 have h1:aj ((w.drewN m).setCell ⟨R,0,none⟩ v) R tR #[v]:=(hR.drewN m).put 0 v;have b1:=bF.set (w.drewN m) R 0 v;have g1:aj ((w.drewN m).setCell ⟨R,0,none⟩ v) F tF #[.int .i64 x,.int .i64 p]:=(b1.2.2.2.2 F (hF.drewN m).lt (Ne.symm hne)).trans (hF.drewN m);have b2:=bF.set ((w.drewN m).setCell ⟨R,0,none⟩ v) F 0 (.int .i64 x);have g2:aj (((w.drewN m).setCell ⟨R,0,none⟩ v).setCell ⟨F,0,none⟩ (.int .i64 x)) F tF #[.int .i64 x,.int .i64 p]:=g1.put 0 _;have h2:aj (((w.drewN m).setCell ⟨R,0,none⟩ v).setCell ⟨F,0,none⟩ (.int .i64 x)) R tR #[v]:=(b2.2.2.2.2 R h1.lt hne).trans h1;have b3:=bF.set (((w.drewN m).setCell ⟨R,0,none⟩ v).setCell ⟨F,0,none⟩ (.int .i64 x)) F 1 (.int .i64 p);refine⟨(b3.2.2.2.2 R h2.lt hne).trans h2,g2.put 1 _,fun B hR hF hw=>⟨?_,?_⟩⟩;exact((below_drewN (Below.refl B w) m).trans (b1.to (show B≤(w.drewN m).heap.size from hw) hR)).trans ((b2.to (Nat.le_trans hw b1.1) hF).trans (b3.to (Nat.le_trans (Nat.le_trans hw b1.1) b2.1) hF));exact(((ag.below (below_drewN (Below.refl _ w) m) (fun b h _=>h)).trans (b1.keeps (X':=fun b=>b≠R∧b≠F) (fun b h=>h.1) (fun b h _=>h))).trans (b2.keeps (X':=fun b=>b≠R∧b≠F) (fun b h=>h.2) (fun b h _=>h))).trans (b3.keeps (fun b h=>h.2) (fun b h _=>h))
def gy {α:Type} (r:jY α):Prop:=∀ e p,r=.error (e,p)→e≠0
theorem gL {L:List Int} {i:Nat} {r:Int} {e:Int} {p:Nat} (h:aQ L i r=.error (e,p)):e≠0:=by
 unfold aQ at h;split at h
 ·cases h
 injection h with h;injection h with h1 h2;omega
theorem LB (L:List Int) (i:Nat):gy (kU L i):=by
 intro e p h;unfold kU at h;cases h1:aQ L (i+1) 123 with
 | error x=>obtain⟨x1,x2⟩:=x;rw [h1]at h;simp only at h;injection h with h;injection h with h3 h4;subst h3;exact gL h1
 | ok a=>
  rw [h1]at h;simp only at h;split at h
  ·injection h with h;injection h with h1 h2;omega
  cases h2:aQ L (az eV L a) 125 with
  | error x=>obtain⟨x1,x2⟩:=x;rw [h2]at h;simp only at h;injection h with h;injection h with h3 h4;subst h3;exact gL h2
  | ok k=>
   rw [h2]at h;simp only at h;split at h
   ·injection h with h;injection h with h1 h2;omega
   cases h
theorem sI (L:List Int) (i:Nat):gy (cL L i):=by
 intro e p h;unfold cL at h;(repeat' (split at h));(any_goals (cases h;done));(any_goals (injection h with h;injection h with h1 h2;omega));exact LB _ _ _ _ h
theorem JZ (L:List Int) (i:Nat):gy (js L i):=by
 intro e p h;unfold js at h;cases h1:cL L i with
 | error x=>obtain⟨x1,x2⟩:=x;rw [h1]at h;simp only at h;injection h with h;injection h with h3 h4;subst h3;exact sI _ _ _ _ h1
 | ok q=>
  obtain⟨a,j⟩:=q;rw [h1]at h;simp only at h;split at h
  ·cases h2:cL L (j+1)with
   | error x=>obtain⟨x1,x2⟩:=x;rw [h2]at h;simp only at h;injection h with h;injection h with h3 h4;subst h3;exact sI _ _ _ _ h2
   | ok q=>
    obtain⟨b,k⟩:=q;rw [h2]at h;simp only at h;split at h
    ·injection h with h;injection h with h1 h2;omega
    cases h
  cases h
theorem ET (L:List Int) (i:Nat):gy (eN L i):=by
 intro e p h;unfold eN at h;split at h
 ·injection h with h;injection h with h1 h2;omega
 split at h
 ·rename_i h1;cases h;exact gL h1
 split at h
 ·rename_i h1;cases h;exact gL h1
 cases h
theorem Ie {inner:Nat→jY aa} (hi:∀ i,gy (inner i)) (L:List Int) (i:Nat):gy (dc inner L i):=by
 intro e p h;unfold dc at h;split at h;exact ET _ _ _ _ h;split at h;exact hi _ _ _ h;split at h;exact hi _ _ _ h;split at h
 ·rename_i h1;cases h;exact JZ _ _ _ _ h1
 cases h
theorem Ge {inner:Nat→jY aa} (hi:∀ i,gy (inner i)) (L:List Int):∀ f i s,gy (dM inner L f i s):=by
 intro f;induction f with
 | zero=>intro i s e p h;unfold dM at h;injection h with h;injection h with h1 h2;omega
 | succ f ih=>
  intro i s e p h;rw [dM]at h;split at h
  ·cases h
  split at h
  ·rename_i h1;cases h;exact Ie hi _ _ _ _ h1
  split at h
  ·rename_i h1;injection h with h;injection h with h2 h3;subst h2;exact h1
  exact ih _ _ _ _ h
theorem vu (L:List Int):∀ n i,gy (bw L n i):=by
 intro n;induction n with
 | zero=>intro i e p h;unfold bw at h;injection h with h;injection h with h1 h2;split at h1 <;> omega
 | succ n ih=>
  intro i e p h;rw [bw]at h;split at h
  ·rename_i h1;cases h;exact gL h1
  split at h
  ·rename_i h1;cases h;exact Ge ih _ _ _ _ _ _ h1
  split at h
  ·split at h
   ·rename_i h1;injection h with h;injection h with h2 h3;subst h2;exact h1
   cases h
  cases h
theorem zN (L:List Int) (i:Nat):gy (gh L i):=by
 intro e p h;unfold gh at h;split at h
 ·cases h
 injection h with h;injection h with h1 h2;omega
theorem DO (L:List Int) (i:Nat):gy (fV L i):=by
 intro e p h;unfold fV at h;split at h
 ·cases h
 injection h with h;injection h with h1 h2;omega
theorem II (L:List Int) (a:Nat) (out:List aF) (cur:Int) (e:Int) (p:Nat) (h:bZ L a out cur=.error (e,p)):e≠0:=by
 unfold bZ at h;split at h
 ·split at h
  ·injection h with h;injection h with h1 h2;omega
  cases h
 split at h
 ·split at h
  ·rename_i h1;injection h with h;subst h;exact vu L 20 a _ _ h1
  cases h
 split at h
 ·split at h
  ·rename_i h1;injection h with h;subst h;exact zN L _ _ _ h1
  cases h
 split at h
 ·split at h
  ·rename_i h1;injection h with h;subst h;exact DO L _ _ _ h1
  cases h
 split at h
 ·split at h
  ·rename_i h1;injection h with h;subst h;exact sI L _ _ _ h1
  split at h
  ·cases h
  injection h with h;injection h with h1 h2;omega
 cases h
theorem qz (L:List Int):∀ f i out cur,gy (cB L f i out cur):=by
 intro f;induction f with
 | zero=>intro i out cur e p h;rw [cB]at h;injection h with h;injection h with h1 h2;omega
 | succ f ih=>
  intro i out cur e p h;rw [cB]at h;split at h
  ·rename_i h1;injection h with h;subst h;exact II L _ _ _ _ _ h1
  ·cases h
  split at h
  ·injection h with h;injection h with h1 h2;omega
  exact ih _ _ _ _ _ h
theorem J3 (L:List Int) (st:Bool) (a:Nat):gy (dD L st a):=by
 intro e p h;unfold dD at h;split at h
 ·rename_i h1;injection h with h;subst h;exact qz L _ _ _ _ _ _ h1
 split at h
 ·split at h
  ·injection h with h;injection h with h1 h2;omega
  split at h
  ·rename_i h1;injection h with h;subst h;exact qz L _ _ _ _ _ _ h1
  cases h
 split at h
 ·injection h with h;injection h with h1 h2;omega
 cases h
theorem JR (L:List Int) (a:Nat):gy (ef L a):=by
 intro e p h;unfold ef at h;split at h
 ·split at h
  ·rename_i h1;injection h with h;subst h;exact qz L _ _ _ _ _ _ h1
  split at h
  ·injection h with h;injection h with h1 h2;omega
  split at h <;> cases h
 cases h
theorem zA (L:List Int) (i:Nat):gy (dw L i):=by
 intro e p h;unfold dw at h;split at h
 ·rename_i h1;injection h with h;subst h;exact J3 L _ _ _ _ h1
 split at h
 ·rename_i h1;injection h with h;subst h;exact JR L _ _ _ h1
 cases h
theorem F7 (L:List Int) (i:Nat):gy (eJ L i):=by
 intro e p h;unfold eJ at h;split at h
 ·cases h
 split at h
 ·cases h
 split at h
 ·rename_i h1;injection h with h;subst h;exact gL h1
 cases h
theorem JN (L:List Int) (i:Nat):gy (jQ L i):=by
 intro e p h;unfold jQ at h;split at h
 ·unfold jA at h;split at h
  ·rename_i h1;injection h with h;subst h;exact gL h1
  split at h
  ·split at h
   ·rename_i h1;injection h with h;subst h;exact vu L 20 _ _ _ h1
   cases h
  split at h
  ·cases h
  injection h with h;injection h with h1 h2;omega
 split at h
 ·unfold oZ at h;split at h
  ·rename_i h1;injection h with h;subst h;exact zN L _ _ _ h1
  split at h
  ·rename_i h1;injection h with h;subst h;exact gL h1
  split at h
  ·rename_i h1;injection h with h;subst h;exact vu L 20 _ _ _ h1
  cases h
 unfold jv at h;split at h
 ·rename_i h1;injection h with h;subst h;exact zA L _ _ _ h1
 split at h
 ·rename_i h1;injection h with h;subst h;exact F7 L _ _ _ h1
 split at h
 ·rename_i h1;injection h with h;subst h;exact zA L _ _ _ h1
 split at h
 ·rename_i h1;injection h with h;injection h with h2 h3;subst h2;exact h1
 cases h
theorem IE (L:List Int):∀ f i l (e:Int) (p:Nat),iA L f i l=.error (e,p)→e≠0:=by
 intro f;induction f with
 | zero=>intro i l e p h;rw [iA]at h;injection h with h;injection h with h1 h2;omega
 | succ f ih=>
  intro i l e p h;rw [iA]at h;split at h
  ·cases h
  split at h
  ·injection h with h;injection h with h1 h2;omega
  split at h
  ·rename_i h1;injection h with h;subst h;exact JN L _ _ _ h1
  split at h
  ·rename_i h1;injection h with h;subst h;exact gL h1
  exact ih _ _ _ _ h
theorem DL {L:List Int} (h:16000<L.length):jJ L=([],(4,0)):=by unfold jJ;rw [if_pos h]
theorem EU {L:List Int} {e:Int} {p:Nat} (h:¬ 16000<L.length) (h2:iA L (L.length+1) 0 [] = .error (e,p)):jJ L=([],(e,(p:Int))):=by unfold jJ;rw [if_neg h,h2]
theorem Ii {L:List Int} {l:List aG} (h:¬ 16000<L.length) (h2:iA L (L.length+1) 0 [] = .ok l):jJ L=(l,(0,0)):=by unfold jJ;rw [if_neg h,h2]
def Es (a:aF):Prop:=UQ a=a∧(a.kind=1∨a.kind=2∨a.kind=3)∧a.name.size≤20
theorem IW {L:List Int} {a:Nat} {out o:List aF} {cur c:Int} {j:Nat} (h:bZ L a out cur=.ok (some ((o,c),j))) (ho:∀ x∈out,Es x):∀ x∈o,Es x:=by
 have push:∀ (l:List aF),(∀ x∈l,Es x)→∀ x∈out++l,Es x:=by
  intro l hl x hx;rcases List.mem_append.1 hx with hx | hx;exact ho x hx;exact hl x hx
 have rune:∀ x,Es (mc x):=fun x=>⟨rfl,.inl rfl,Nat.zero_le _⟩;unfold bZ at h;split at h
 ·split at h
  ·cases h
  injection h with h;injection h with h;injection h with h1 h2;injection h1 with h1 h3;subst h1;exact ho
 split at h
 ·split at h
  ·cases h
  injection h with h;injection h with h;injection h with h1 h2;injection h1 with h1 h3;subst h1;exact push _ (fun x hx=>by rw [List.mem_singleton.1 hx];exact⟨rfl,.inr (.inl rfl),Nat.zero_le _⟩)
 split at h
 ·split at h
  ·cases h
  rename_i hn;injection h with h;injection h with h;injection h with h1 h2;injection h1 with h1 h3;subst h1;exact push _ (fun x hx=>by rw [List.mem_singleton.1 hx];exact⟨rfl,.inr (.inr rfl),Jj (mE hn).2.1⟩)
 split at h
 ·split at h
  ·cases h
  rename_i hq;injection h with h;injection h with h;injection h with h1 h2;injection h1 with h1 h3;subst h1;unfold fV at hq;split at hq
  ·injection hq with hq;injection hq with hq ON;subst hq;refine push _ (fun x hx=>?_);obtain⟨y,_,rfl⟩:=List.mem_map.1 hx;exact rune y
  cases hq
 split at h
 ·split at h
  ·cases h
  split at h
  ·injection h with h;injection h with h;injection h with h1 h2;injection h1 with h1 h3;subst h1;exact push _ (fun x hx=>by rw [List.mem_singleton.1 hx];exact rune _)
  cases h
 injection h with h;cases h
theorem Ee {L:List Int}:∀ (f i:Nat) (out:List aF) (cur:Int) (v:List aF × Int) (j:Nat),(∀ x∈out,Es x)→cB L f i out cur=.ok (v,j)→∀ x∈v.1,Es x:=by
 intro f;induction f with
 | zero=>intro i out cur v j _ h;rw [cB]at h;cases h
 | succ f ih=>
  intro i out cur v j ho h;rw [cB]at h;cases he:bZ L (ax L i) out cur with
  | error e=>rw [he]at h;cases h
  | ok q=>
   rw [he]at h;cases q with
   | none=>simp only at h;injection h with h;injection h with h1 h2;subst h1;exact ho
   | some q=>
    obtain⟨⟨o,c⟩,k⟩:=q;simp only at h;split at h
    ·cases h
    exact ih _ _ _ _ _ (IW he ho) h
theorem jo {L:List Int} {i:Nat} {v:List aF × Int} {j:Nat} (h:cy L i=.ok (v,j)):∀ x∈v.1,Es x:=Ee _ _ _ _ _ _ (by simp) h
def SdG (s:bV):Prop:=(∀ x∈s.before,Es x)∧(∀ x∈s.source,Es x)∧∀ x∈s.after,Es x
theorem Fz {L:List Int} {i:Nat} {v:bV} {j:Nat} (h:dw L i=.ok (v,j)):SdG v:=by
 have nil:∀ x∈([]:List aF),Es x:=(by simp);unfold dw at h;cases hh:dD L (decide (pk L (ax L i)=94)) (if pk L (ax L i)=94 then ax L i+1 else ax L i)with
 | error e=>rw [hh]at h;cases h
 | ok q=>
  obtain⟨⟨b,s,c⟩,j1⟩:=q;rw [hh]at h;simp only at h;have h1:(∀ x∈b,Es x)∧∀ x∈s,Es x:=by
   unfold dD at hh;cases hi:cy L (if pk L (ax L i)=94 then ax L i+1 else ax L i)with
   | error e=>rw [hi]at hh;cases hh
   | ok q=>
    obtain⟨⟨l,c1⟩,j2⟩:=q;rw [hi]at hh;simp only at hh;split at hh
    ·split at hh
     ·cases hh
     cases hi2:cy L (j2+1)with
     | error e=>rw [hi2]at hh;cases hh
     | ok q=>
      obtain⟨⟨l2,c2⟩,j3⟩:=q;rw [hi2]at hh;simp only at hh;injection hh with hh;injection hh with hh YI;injection hh with Ru Tp;injection Tp with XR Vs;subst Ru XR;exact⟨jo hi,jo hi2⟩
    split at hh
    ·cases hh
    injection hh with hh;injection hh with hh YI;injection hh with Ru Tp;injection Tp with XR Vs;subst Ru XR;exact⟨nil,jo hi⟩
  cases ht:ef L j1 with
  | error e=>rw [ht]at h;cases h
  | ok q=>
   obtain⟨⟨a,fin⟩,k⟩:=q;have h2:∀ x∈a,Es x:=by
    unfold ef at ht;split at ht
    ·cases hi:cy L (j1+1)with
     | error e=>rw [hi]at ht;cases ht
     | ok q=>
      obtain⟨⟨l,c1⟩,j2⟩:=q;rw [hi]at ht;simp only at ht;split at ht
      ·cases ht
      split at ht
      ·injection ht with ht;injection ht with ht1 ht2;injection ht1 with Vx ht4;subst Vx;exact jo hi
      injection ht with ht;injection ht with ht1 ht2;injection ht1 with Vx ht4;subst Vx;exact jo hi
    injection ht with ht;injection ht with ht1 ht2;injection ht1 with Vx ht4;subst Vx;exact nil
   rw [ht]at h;simp only at h;injection h with h;injection h with h3 h4;subst h3;exact⟨h1.1,h1.2,h2⟩
def Gw (a:List (List Int)) (b:List Word):Prop:=a.map bytesOf=b∧∀ w∈a,w.all bE=true
theorem Gw.none {a:List (List Int)} {b:List Word} (h:Gw a b):a = []↔b = []:=by rw [← h.1];simp
theorem cJ.toX {w:World} {X:Nat→Prop} {u:Value} {l:List aF} (h:cJ w X u l) (hg:∀ a∈l,Es a):∃ A n c,u=.slice A n c∧iN w X A n l∧n≤maxLen:=by
 obtain⟨A,n,c,rfl,⟨css,h1,h2,h3,h4,h5⟩,_,hn⟩:=h;refine⟨A,n,c,rfl,⟨css,h1,h2,fun i a cs ha hc=>?_,h4,h5⟩,by unfold maxLen;omega⟩;obtain⟨A',n',c',e,g1,g2,g3⟩:=h3 i a cs ha hc;obtain⟨_,k1,k2⟩:=hg a (List.mem_of_getElem? ha);exact⟨A',n',c',e,g1,g3,by unfold kG;omega,by unfold maxLen;omega⟩
theorem MJ {L:List Int} {i:Nat} {v:bV} {j:Nat} (h:dw L i=.ok (v,j)) : -1≤v.af∧v.af≤20:=by
 have one:∀ {i:Nat} {l:List aF} {c:Int} {j:Nat},cy L i=.ok ((l,c),j) → -1≤c∧c≤20:=fun h=>pY _ _ _ _ (Nat.zero_le _) (by decide) (by decide) h;unfold dw at h;cases hh:dD L (decide (pk L (ax L i)=94)) (if pk L (ax L i)=94 then ax L i+1 else ax L i)with
 | error e=>rw [hh]at h;cases h
 | ok q=>
  obtain⟨⟨b,s,c⟩,j1⟩:=q;rw [hh]at h;simp only at h;have h1 : -1≤c∧c≤20:=by
   unfold dD at hh;cases hi:cy L (if pk L (ax L i)=94 then ax L i+1 else ax L i)with
   | error e=>rw [hi]at hh;cases hh
   | ok q=>
    obtain⟨⟨l,c1⟩,j2⟩:=q;rw [hi]at hh;simp only at hh;split at hh
    ·split at hh
     ·cases hh
     cases hi2:cy L (j2+1)with
     | error e=>rw [hi2]at hh;cases hh
     | ok q=>
      obtain⟨⟨l2,c2⟩,j3⟩:=q;rw [hi2]at hh;simp only at hh;injection hh with hh;injection hh with hh YI;injection hh with Ru Tp;injection Tp with XR Vs;subst Vs;exact one hi2
    split at hh
    ·cases hh
    injection hh with hh;injection hh with hh YI;injection hh with Ru Tp;injection Tp with XR Vs;subst Vs;exact one hi
  cases ht:ef L j1 with
  | error e=>rw [ht]at h;cases h
  | ok q=>
   obtain⟨⟨a,fin⟩,k⟩:=q;rw [ht]at h;simp only at h;injection h with h;injection h with h3 h4;subst h3;exact h1
def SD (w:World) (C:Nat) (A:Option Addr) (n c:Nat) (L:List Int) (r:jY bV) (e:Ending) (w':World):Prop :=
  match r with
  | .ok (d,j)=>(∃ A1 n1 c1 A2 n2 c2 A3 n3 c3,e=.returned (.agg #[.bool d.start,.bool d.fin,.slice A1 n1 c1,.slice A2 n2 c2,.slice A3 n3 c3,.int .i64 d.af])∧rN w' (fun b=>w.heap.size≤b∧b≠C) d [.bool d.start,.bool d.fin,.slice A1 n1 c1,.slice A2 n2 c2,.slice A3 n3 c3,.int .i64 d.af])∧av w' C A n c L j∧bF w C w'
  | .error (x,p)=>e=aS x p∧bF w C w'
theorem JU (w:World) (C:Nat) (A:Option Addr) (n c:Nat) (L:List Int) (i:Nat) (h:av w C A n c L i) (hL:fZ L) (hn:n≤100000) :
    Calls Tryz.prog 58 #[.pointer (some ⟨C,0,none⟩)] w (SD w C A n c L (dw L i)):=by
 refine(Qt w C A n c L i h hL hn).mono ?_;intro e w' hp;cases hr:dw L i with
 | error e0=>rw [hr]at hp;exact hp
 | ok q=>
  obtain⟨d,j⟩:=q;rw [hr]at hp;obtain⟨⟨u1,u2,u3,he,h1,h2,h3⟩,hc,hb⟩:=hp;obtain⟨g1,g2,g3⟩:=Fz hr;have hk:ag w' (fun b=>w.heap.size+2≤b∧b≠C) w' (fun b=>w.heap.size≤b∧b≠C):=ag.refl (fun b hb=>⟨by have:=hb.1;omega,hb.2⟩);obtain⟨A1,n1,c1,rfl,x1,m1⟩:=(h1.keep hk).toX g1;obtain⟨A2,n2,c2,rfl,x2,m2⟩:=(h2.keep hk).toX g2;obtain⟨A3,n3,c3,rfl,x3,m3⟩:=(h3.keep hk).toX g3;have U4:=MJ hr;exact⟨⟨A1,n1,c1,A2,n2,c2,A3,n3,c3,he,A1,n1,c1,A2,n2,c2,A3,n3,c3,rfl,x1,x2,x3,m1,m2,m3,by unfold kG;omega⟩,hc,hb⟩
structure pg (w:World) (C:Nat) (A:Option Addr) (n c:Nat) (L:List Int) (wr:World) (j:Nat):Prop where
  cur:iC w.heap.size wr C A n c L j
  but:bF w C wr
  res:aj wr w.heap.size 86 #[.int .i64 0,.string ⟨#[]⟩,.slice none 0 0,.int .i64 0,.bool false,.bool false,.slice none 0 0,.slice none 0 0,.slice none 0 0,.int .i64 0,.bool false,.bool false,.slice none 0 0,.slice none 0 0,.slice none 0 0,.int .i64 0]
section
variable {w wr w' : World} {C : Nat} {A : Option Addr} {n c : Nat} {L : List Int} {j j' : Nat}
theorem pg.step (h:pg w C A n c L wr j) (hc:av w' C A n c L j') (hb:bF wr C w'):pg w C A n c L w' j':=by
 have hC:=h.cur.lt;exact⟨h.cur.but hc hb,h.but.trans hb,(hb.2.2.2.2 _ h.res.lt (by omega)).trans h.res⟩
theorem pg.below (h:pg w C A n c L wr j) (hb:Below wr.heap.size wr w'):pg w C A n c L w' j:=by
 have aX:=hb.mono h.but.1;exact⟨h.cur.below aX,fe h.but aX,h.res.below hb h.res.lt⟩
theorem pg.put (h:pg w C A n c L wr j) {P:Nat} (hP:w.heap.size<P) (k:Nat) (u:Value):pg w C A n c L (wr.setCell ⟨P,k,none⟩ u) j:=by
 have hb:=(bF.set wr P k u);have aX:=hb.to (B:=w.heap.size) h.but.1 (Nat.le_of_lt hP);exact⟨h.cur.below aX,fe h.but aX,(hb.2.2.2.2 _ h.res.lt (by omega)).trans h.res⟩
end
theorem wL (w:World) (C:Nat) (A:Option Addr) (n c:Nat) (L:List Int) (i:Nat) (h:av w C A n c L i):pg w C A n c L (w.alloc (.cells #[.int .i64 0,.string ⟨#[]⟩,.slice none 0 0,.int .i64 0,.bool false,.bool false,.slice none 0 0,.slice none 0 0,.slice none 0 0,.int .i64 0,.bool false,.bool false,.slice none 0 0,.slice none 0 0,.slice none 0 0,.int .i64 0] 86)) i:=by
 have hb:Below w.heap.size w (w.alloc (.cells #[.int .i64 0,.string ⟨#[]⟩,.slice none 0 0,.int .i64 0,.bool false,.bool false,.slice none 0 0,.slice none 0 0,.slice none 0 0,.int .i64 0,.bool false,.bool false,.slice none 0 0,.slice none 0 0,.slice none 0 0,.int .i64 0] 86)):=qqb.alloc qql _;exact⟨(iC.start h).below hb,bF.below C hb,aj.new _ _ _⟩
def uW (w:World) (C b:Nat):Prop:=w.heap.size<b∧b≠C
theorem mq {w w':World} {C P:Nat} {t:TypeId} {cs:Array Value} (h:aj w P t cs) (hb:bF w C w') (hP:P≠C):aj w' P t cs:=(hb.2.2.2.2 _ h.lt hP).trans h
def sV (w:World) (C:Nat) (A:Option Addr) (n c:Nat) (L:List Int) (r:jY aG) (e:Ending) (w':World):Prop :=
  match r with
  | .ok (d,j)=>(∃ cs:List Value,e=.returned (.agg cs.toArray)∧eu w' (uW w C) d cs)∧av w' C A n c L j∧bF w C w'
  | .error (x,p)=>e=aS x p∧bF w C w'
theorem uQ {w wr:World} {C:Nat} {A:Option Addr} {n c:Nat} {L:List Int} {j:Nat} {d:aG} {vs:List Value} (h:pg w C A n c L wr j) (hp:eu wr (uW w C) d vs) :
    vs.toArray.all (·.oneCell')=true∧av (wr.setRow w.heap.size vs.toArray) C A n c L j∧bF w C (wr.setRow w.heap.size vs.toArray) ∧
    aj (wr.setRow w.heap.size vs.toArray) w.heap.size 86 vs.toArray∧eu (wr.setRow w.heap.size vs.toArray) (uW w C) d vs:=by
 have hb:=(GU wr w.heap.size vs.toArray).to (B:=w.heap.size) h.but.1 qql;have hk:ag wr (uW w C) (wr.setRow w.heap.size vs.toArray) (uW w C):=(GU wr w.heap.size vs.toArray).keeps (fun b hb=>by have:=hb.1;omega) (fun _ h _=>h);exact⟨by rw [Array.all_eq_true_iff_forall_mem];intro u hu;exact hp.one.2 u (by simpa using hu),(h.cur.below hb).cur,fe h.but hb,P4 h.res,hp.keep hk⟩
theorem jM:(Tryz.prog.info? 86).map (·.size)=some 16:=by kernel_rfl
theorem jm:∃ fs,Tryz.prog.underlying 86 = some (.struct fs):=⟨_,Tryz.underlying86⟩
theorem vG (L:List Int) (a:Nat):(gW L a).size≤4*L.length:=by
 unfold gW;have h1:=runesBytes_size_le (aM L a (aV L a));have h2:(aM L a (aV L a)).length≤L.length:=(by unfold aM;rw [List.length_take,List.length_drop];omega);omega
theorem JA {L:List Int} {i:Nat} {e:Int × Nat} (h:aQ L (i+1) 58=.error e):jA L i=.error e:=by unfold jA;rw [h]
theorem BJ {L:List Int} {i j a:Nat} {e:Int × Nat} (h:aQ L (i+1) 58=.ok j) (ha:ax L j=a) (kX:pk L a=91) (hs:bw L 20 a=.error e):jA L i=.error e:=by unfold jA;rw [h];simp only;rw [ha,if_pos kX,hs]
theorem DT {L:List Int} {i j a k:Nat} {s:aa} (h:aQ L (i+1) 58=.ok j) (ha:ax L j=a) (kX:pk L a=91) (hs:bw L 20 a=.ok (s,k)):jA L i=.ok (⟨3,eD,s,0,dz,dz⟩,k):=by unfold jA;rw [h];simp only;rw [ha,if_pos kX,hs]
theorem Jw {L:List Int} {i j a:Nat} (h:aQ L (i+1) 58=.ok j) (ha:ax L j=a) (kX:pk L a≠91):jA L i=(if jR (gW L a)=true then .ok (⟨4,gW L a,[],0,dz,dz⟩,aV L a)else .error (7,a)):=by unfold jA;rw [h];simp only;rw [ha,if_neg kX]
theorem Bt (w:World) (C:Nat) (A:Option Addr) (n c:Nat) (L:List Int) (i:Nat) (h:av w C A n c L i) (hL:fZ L) (hn:n≤100000) (wZ:pk L i=58) :
    Calls Tryz.prog 32 #[.pointer (some ⟨C,0,none⟩)] w (sV w C A n c L (jA L i)):=by
 have hl:=h.len;have HL:=qqh hL;have ie:=qqh (fun(W:World) (m:Nat) (h:av W C A n c L m)=>cG W C A n c L m h);have qD:=qqh (fun(W:World) (m:Nat) (h:av W C A n c L m)=>ju W C A n c L m h);have Ja:=qqh (fun(W:World) (m:Nat) (r:Int) (h:av W C A n c L m) (hr:r ≠ -1)=>fc W C A n c L m r h hr);have fF:=qqh (fun(W:World) (m:Nat) (h:av W C A n c L m)=>u7 20 1 W C A n c L m rfl (by decide) h hL hn);have RC:=qqh (fun(W:World) (m:Nat) (h:av W C A n c L m) (h0:0<n)=>qQ W C A n c L m h h0);have hi:=h.le;have rT:=qqh (wL w C A n c L i h);obtain⟨R,hR⟩:∃ R,jA L i=R:=⟨_,rfl⟩;rw [hR];have HR:=qqh hR;clear h hL hR;go_enter Tryz.func32,Tryz.ntmps32;go_wp2_with fail;refine(ie.out _ i rT.out.cur.cur).mono ?_;rintro e w1 ⟨rfl,hc1,aT⟩;have fY:=qqh (rT.out.step hc1 aT);clear hc1 aT;have hlt:i<n:=(by rw [← hl];exact bl (by omega));rw [wZ];obtain⟨d1,d2,d3,d4⟩:=fY.out.cur.cur.step hlt;have fo:=qqh (fY.out.step d3 d4);have XT:IntKind.i64.wrap ((i:Int)+1)=(i:Int)+1:=wrap_small _ (by omega) (by omega);have F9:=qqh (Ja.out _ (i+1) 58 fo.out.cur.cur (by decide));clear d3 d4;cases hnd:aQ L (i+1) 58 with
 | error e0=>
  obtain⟨y,p⟩:=e0;have eP:=qqh (show R=.error (y,p) from HR.out.symm.trans (JA hnd));rw [hnd]at F9;clear hnd;go_wp2_with fail;refine F9.out.mono ?_;rintro e w9 ⟨he,cN⟩;unfold aS at he;subst he;have eF:=qqh (fo.out.but.trans cN);clear cN;go_wp2_with fail;rw [eP.out];exact⟨rfl,rfl,eF.out⟩
 | ok j=>
  have C7:=qqh hnd;rw [hnd]at F9;clear hnd;obtain⟨a,ha⟩:∃ a,ax L j=a:=⟨_,rfl⟩;have HA:=qqh ha;clear ha;go_wp2_with fail;refine F9.out.mono ?_;rintro e w3 ⟨rfl,lA,bP⟩;have eI:=qqh (fo.out.step lA bP);clear lA bP d1 d2;go_wp2_with fail;refine(qD.out _ j eI.out.cur.cur).mono ?_;rintro e w4 ⟨rfl,lW,hb4⟩;rw [HA.out]at lW;have iz:=qqh (eI.out.step lW hb4);clear lW hb4;go_wp2_with fail;refine(ie.out _ a iz.out.cur.cur).mono ?_;rintro e w5 ⟨rfl,lQ,dN⟩;have kj:=qqh (iz.out.step lQ dN);clear lQ dN;by_cases kX:pk L a=91
  ·have uB:=qqh (fF.out _ a kj.out.cur.cur);cases hst:bw L 20 a with
   | error e0=>
    obtain⟨y,p⟩:=e0;have eP:=qqh (show R=.error (y,p) from HR.out.symm.trans (BJ C7.out HA.out kX hst));rw [hst]at uB;rw [kX];clear hst kX;go_wp2_with fail;refine uB.out.mono ?_;rintro e w9 ⟨he,cN⟩;unfold aS at he;subst he;have eF:=qqh (kj.out.but.trans cN);clear cN;go_wp2_with fail;rw [eP.out];exact⟨rfl,rfl,eF.out⟩
   | ok q=>
    obtain⟨s,k⟩:=q;have eP:=qqh (show R=.ok (⟨3,eD,s,0,dz,dz⟩,k) from HR.out.symm.trans (DT C7.out HA.out kX hst));have hss:=(ov HL.out.ok 20 _ _ _ hst).2.size;rw [hst]at uB;rw [kX];clear hst kX;go_wp2_with fail;refine uB.out.mono ?_;rintro e w6 ⟨⟨B,m,d,rfl,hr,hd⟩,CT,eG⟩;have Xh:=kj.out.step CT eG;have hm:m≤maxLen:=(by have h1:=hr.1;rw [bt]at h1;unfold maxLen;omega);have pJ:=qqh (show cV w6 (uW w C) 2 B m (an s) from hr.lift (fun b (h:w5.heap.size≤b)=>⟨by have:=kj.out.res.lt;omega,by have:=kj.out.cur.lt;have:=kj.out.but.1;omega⟩));have sD:=qqh Xh;have yu:=qqh (show eu w6 (uW w C) ⟨3,eD,s,0,dz,dz⟩ [.int .i64 3,.string ⟨#[]⟩,.slice B m d,.int .i64 0,.bool false,.bool false,.slice none 0 0,.slice none 0 0,.slice none 0 0,.int .i64 0,.bool false,.bool false,.slice none 0 0,.slice none 0 0,.slice none 0 0,.int .i64 0] from⟨B,m,d,[.bool false,.bool false,.slice none 0 0,.slice none 0 0,.slice none 0 0,.int .i64 0],[.bool false,.bool false,.slice none 0 0,.slice none 0 0,.slice none 0 0,.int .i64 0],rfl,pJ.out,hm,kg,kg,show kG 3 from⟨by decide,by decide⟩,show kG 0 from⟨by decide,by decide⟩,Nat.zero_le _⟩);clear hr hd CT eG Xh;obtain⟨hone,e1,e2,vE,e4⟩:=uQ sD.out yu.out;have xW:=qqh e1;have wF:=qqh e2;have ND:=qqh e4;have pT:=qqh hone;have RW:=qqh vE;have Dm:=qqh (pg.res sD.out);clear e1 e2 e4 vE hone
    go_wp2_with (refine wpList_store_row (c:=#[.int .i64 0,.string ⟨#[]⟩,.slice none 0 0,.int .i64 0,.bool false,.bool false,.slice none 0 0,.slice none 0 0,.slice none 0 0,.int .i64 0,.bool false,.bool false,.slice none 0 0,.slice none 0 0,.slice none 0 0,.int .i64 0]) (vs:=#[.int .i64 3,.string ⟨#[]⟩,.slice B m d,.int .i64 0,.bool false,.bool false,.slice none 0 0,.slice none 0 0,.slice none 0 0,.int .i64 0,.bool false,.bool false,.slice none 0 0,.slice none 0 0,.slice none 0 0,.int .i64 0]) rfl rfl jM rfl pT.out rfl rfl Dm.out ?_);(try simp only [Act.put]);refine bodyPost_ret (v:=.agg #[.int .i64 3,.string ⟨#[]⟩,.slice B m d,.int .i64 0,.bool false,.bool false,.slice none 0 0,.slice none 0 0,.slice none 0 0,.int .i64 0,.bool false,.bool false,.slice none 0 0,.slice none 0 0,.slice none 0 0,.int .i64 0]) (lK Tryz.results32 rfl jm jM RW.out) rfl ?_;rw [eP.out];exact⟨⟨_,rfl,ND.out⟩,xW.out,wF.out⟩
  have q91:(pk L a == 91)=false:=(by rw [beq_eq_false_iff_ne];exact kX);have c1:=kj.out.cur.cur.blk.cell 1;obtain⟨T,hT⟩:∃ T,gW L a=T:=⟨_,rfl⟩;have HT:=qqh hT;have oF:=qqh (show R=(if jR T=true then .ok (⟨4,T,[],0,dz,dz⟩,aV L a)else .error (7,a)) by rw [← HR.out,Jw C7.out HA.out kX,hT]);clear hT;go_wp2_with fail;refine(RC.out _ a kj.out.cur.cur (by omega)).mono ?_;rintro e w6 ⟨rfl,CT,eG⟩;rw [HT.out];have sD:=qqh (kj.out.step CT eG);have hts:T.size≤maxLen:=by
   rw [← HT.out];have:=vG L a;have:=sD.out.cur.cur.le;unfold maxLen;omega
  clear CT eG c1;go_upto_region 9 with fail;have hP:=sD.out.res.lt;have uk:=aj.new w6 86 #[.int .i64 4,.string T,.slice none 0 0,.int .i64 0,.bool false,.bool false,.slice none 0 0,.slice none 0 0,.slice none 0 0,.int .i64 0,.bool false,.bool false,.slice none 0 0,.slice none 0 0,.slice none 0 0,.int .i64 0];have ko:Below w6.heap.size w6 (w6.alloc (.cells #[.int .i64 4,.string T,.slice none 0 0,.int .i64 0,.bool false,.bool false,.slice none 0 0,.slice none 0 0,.slice none 0 0,.int .i64 0,.bool false,.bool false,.slice none 0 0,.slice none 0 0,.slice none 0 0,.int .i64 0] 86)):=qqb.alloc qql _;have XQ:=sD.out.below ko;have V3:w6.heap.size<(w6.alloc (.cells #[.int .i64 4,.string T,.slice none 0 0,.int .i64 0,.bool false,.bool false,.slice none 0 0,.slice none 0 0,.slice none 0 0,.int .i64 0,.bool false,.bool false,.slice none 0 0,.slice none 0 0,.slice none 0 0,.int .i64 0] 86)).heap.size:=(by simp);generalize (w6.alloc (.cells #[.int .i64 4,.string T,.slice none 0 0,.int .i64 0,.bool false,.bool false,.slice none 0 0,.slice none 0 0,.slice none 0 0,.int .i64 0,.bool false,.bool false,.slice none 0 0,.slice none 0 0,.slice none 0 0,.int .i64 0] 86))=w7 at *;have ux:=qqh XQ;have HBK:=qqh uk;have c1:w7.cell? ⟨w6.heap.size,1,none⟩=some (.string T):=uk.cell 1;clear ko XQ uk;obtain⟨B9,Uc⟩:∃ B9,jR T=B9:=⟨_,rfl⟩;have eF:=qqh Uc;rw [Uc]at oF;clear Uc;go_cut [51] (fun v wx=>v=.bool (!B9)∧Below w7.heap.size w7 wx);case first=>
   go_region_with (first | (go_at_call 55;refine(iK _).mono ?_;rintro e w' ⟨rfl,rfl⟩) | (go_at_call 54;refine(rD _ T _ eF.out _ (DP (aj.new _ _ _))).mono ?_;rintro e w' ⟨rfl,rfl⟩))
   all_goals
     go_wp2_with fail
     go_meet
     exact⟨rfl,below_drewN (qqb.alloc qql _) _⟩
  obtain⟨rfl,hbc⟩:=hcut;have ya:=qqh (ux.out.below hbc);have Sm:=HBK.out.below hbc V3;have Aw:=qqh Sm;cases B9 with
  | false=>
   have eP:=qqh (show R=.error (7,a) from oF.out);clear hbc c1 Sm;go_wp2_with fail;refine(bT 7 a _).mono ?_;rintro e w9 ⟨rfl,rfl⟩;go_wp2_with fail;rw [eP.out];exact⟨rfl,rfl,ya.out.but⟩
  | true=>
   have eP:=qqh (show R=.ok (⟨4,T,[],0,dz,dz⟩,aV L a) from oF.out);have Yh:=ya.out;have yu:=qqh (show eu wc (uW w C) ⟨4,T,[],0,dz,dz⟩ [.int .i64 4,.string T,.slice none 0 0,.int .i64 0,.bool false,.bool false,.slice none 0 0,.slice none 0 0,.slice none 0 0,.int .i64 0,.bool false,.bool false,.slice none 0 0,.slice none 0 0,.slice none 0 0,.int .i64 0] from⟨none,0,0,[.bool false,.bool false,.slice none 0 0,.slice none 0 0,.slice none 0 0,.int .i64 0],[.bool false,.bool false,.slice none 0 0,.slice none 0 0,.slice none 0 0,.int .i64 0],rfl,cV.nil 2,Nat.zero_le _,kg,kg,show kG 4 from⟨by decide,by decide⟩,show kG 0 from⟨by decide,by decide⟩,hts⟩);clear hbc Yh c1;obtain⟨hone,e1,e2,vE,e4⟩:=uQ ya.out yu.out;have xW:=qqh e1;have wF:=qqh e2;have ND:=qqh e4;have pT:=qqh hone;have RW:=qqh vE;have Dm:=qqh (pg.res ya.out);have UL:=qqh Sm;clear e1 e2 e4 vE hone;go_wp2_with (first | (refine wpList_load_row (cs:=#[.int .i64 4,.string T,.slice none 0 0,.int .i64 0,.bool false,.bool false,.slice none 0 0,.slice none 0 0,.slice none 0 0,.int .i64 0,.bool false,.bool false,.slice none 0 0,.slice none 0 0,.slice none 0 0,.int .i64 0]) rfl rfl jm jM rfl UL.out ?_) | (refine wpList_store_row (c:=#[.int .i64 0,.string ⟨#[]⟩,.slice none 0 0,.int .i64 0,.bool false,.bool false,.slice none 0 0,.slice none 0 0,.slice none 0 0,.int .i64 0,.bool false,.bool false,.slice none 0 0,.slice none 0 0,.slice none 0 0,.int .i64 0]) (vs:=#[.int .i64 4,.string T,.slice none 0 0,.int .i64 0,.bool false,.bool false,.slice none 0 0,.slice none 0 0,.slice none 0 0,.int .i64 0,.bool false,.bool false,.slice none 0 0,.slice none 0 0,.slice none 0 0,.int .i64 0]) rfl rfl jM rfl pT.out rfl rfl Dm.out ?_));(try simp only [Act.put])
   refine bodyPost_ret (v:=.agg #[.int .i64 4,.string T,.slice none 0 0,.int .i64 0,.bool false,.bool false,.slice none 0 0,.slice none 0 0,.slice none 0 0,.int .i64 0,.bool false,.bool false,.slice none 0 0,.slice none 0 0,.slice none 0 0,.int .i64 0]) (lK Tryz.results32 rfl jm jM RW.out) rfl ?_;rw [eP.out];exact⟨⟨_,rfl,ND.out⟩,xW.out,wF.out⟩
theorem AK {L:List Int} {i:Nat} {e:Int × Nat} (h:gh L (i+1)=.error e):oZ L i=.error e:=by unfold oZ;rw [h]
theorem AI {L:List Int} {i j:Nat} {s:ByteArray} {e:Int × Nat} (h:gh L (i+1)=.ok (s,j)) (h2:aQ L (ax L j) 61=.error e):oZ L i=.error e:=by unfold oZ;rw [h];simp only;rw [h2]
theorem Db {L:List Int} {i j k:Nat} {s:ByteArray} {e:Int × Nat} (h:gh L (i+1)=.ok (s,j)) (h2:aQ L (ax L j) 61=.ok k) (h3:bw L 20 (ax L k)=.error e):oZ L i=.error e:=by unfold oZ;rw [h];simp only;rw [h2];simp only;rw [h3]
theorem SZ {L:List Int} {i j k m:Nat} {s:ByteArray} {t:aa} (h:gh L (i+1)=.ok (s,j)) (h2:aQ L (ax L j) 61=.ok k) (h3:bw L 20 (ax L k)=.ok (t,m)):oZ L i=.ok (⟨1,s,t,0,dz,dz⟩,m):=by unfold oZ;rw [h];simp only;rw [h2];simp only;rw [h3]
theorem CJ (w:World) (C:Nat) (A:Option Addr) (n c:Nat) (L:List Int) (i:Nat) (h:av w C A n c L i) (hL:fZ L) (hn:n≤100000) (lg:pk L i=36) (hv:K4 L i=true) :
    Calls Tryz.prog 32 #[.pointer (some ⟨C,0,none⟩)] w (sV w C A n c L (oZ L i)):=by
 have hl:=h.len;have HL:=qqh hL;have ie:=qqh (fun(W:World) (m:Nat) (h:av W C A n c L m)=>cG W C A n c L m h);have qD:=qqh (fun(W:World) (m:Nat) (h:av W C A n c L m)=>ju W C A n c L m h);have Ja:=qqh (fun(W:World) (m:Nat) (r:Int) (h:av W C A n c L m) (hr:r ≠ -1)=>fc W C A n c L m r h hr);have fF:=qqh (fun(W:World) (m:Nat) (h:av W C A n c L m)=>u7 20 1 W C A n c L m rfl (by decide) h hL hn);have RC:=qqh (fun(W:World) (m:Nat) (h:av W C A n c L m) (h0:0<n)=>qQ W C A n c L m h h0);have hi:=h.le;have rT:=qqh (wL w C A n c L i h);obtain⟨R,hR⟩:∃ R,oZ L i=R:=⟨_,rfl⟩;rw [hR];have HR:=qqh hR;clear h hL hR;go_enter Tryz.func32,Tryz.ntmps32;go_wp2_with fail;refine(ie.out _ i rT.out.cur.cur).mono ?_;rintro e w1 ⟨rfl,hc1,aT⟩;have fY:=qqh (rT.out.step hc1 aT);clear hc1 aT;have hlt:i<n:=(by rw [← hl];exact bl (by omega));have HVR:=qqh (fun(W:World) (h:av W C A n c L i)=>show Calls Tryz.prog 56 #[.pointer (some ⟨C,0,none⟩)] W fun e w'=>e=.returned (.bool true)∧Below W.heap.size W w' by have:=tQ W C A n c L i h hlt;rwa [hv]at this);rw [lg]
 go_upto_if 63 with (first
   | (go_at_call 31;refine(ie.out _ i fY.out.cur.cur).mono ?_;rintro e w2 ⟨rfl,hc2,aX⟩;rw [lg])
   | (go_at_call 56;refine(HVR.out _ (by assumption)).mono ?_;rintro e w3 ⟨rfl,bP⟩))
 have eI:=qqh ((fY.out.step hc2 aX).below bP);clear hc2 aX bP;obtain⟨d1,d2,d3,d4⟩:=eI.out.cur.cur.step hlt;have iz:=qqh (eI.out.step d3 d4);have XT:IntKind.i64.wrap ((i:Int)+1)=(i:Int)+1:=wrap_small _ (by omega) (by omega);have FI:=qqh (GM _ C A n c L (i+1) iz.out.cur.cur (by omega));clear d3 d4;cases hnm:gh L (i+1)with
 | error e0=>
  obtain⟨y,p⟩:=e0;have eP:=qqh (show R=.error (y,p) from HR.out.symm.trans (AK hnm));rw [hnm]at FI;clear hnm;go_wp2_with fail;refine FI.out.mono ?_;rintro e w9 ⟨he,cN⟩;unfold aS at he;subst he;have eF:=qqh (iz.out.but.trans cN);clear cN;go_wp2_with fail;rw [eP.out];exact⟨rfl,rfl,eF.out⟩
 | ok q=>
  obtain⟨T,j⟩:=q;have C7:=qqh hnm;have hts:T.size≤maxLen:=by
   have h1:=(mE hnm).2.2.1;have h2:=vG L (i+1);have h3:=iz.out.cur.cur.le;rw [← h1]at h2;unfold maxLen;omega
  rw [hnm]at FI;clear hnm;obtain⟨a,ha⟩:∃ a,ax L j=a:=⟨_,rfl⟩;have HA:=qqh ha;clear ha;go_wp2_with fail;refine FI.out.mono ?_;rintro e w5 ⟨rfl,lQ,dN⟩;have kj:=qqh (iz.out.step lQ dN);clear lQ dN d1 d2;have hP:=kj.out.res.lt;have Tj:w5.heap.size≠C:=(by have:=kj.out.cur.lt;have:=kj.out.but.1;omega);have uk:=aj.new w5 86 #[.int .i64 1,.string T,.slice none 0 0,.int .i64 0,.bool false,.bool false,.slice none 0 0,.slice none 0 0,.slice none 0 0,.int .i64 0,.bool false,.bool false,.slice none 0 0,.slice none 0 0,.slice none 0 0,.int .i64 0];have ko:Below w5.heap.size w5 (w5.alloc (.cells #[.int .i64 1,.string T,.slice none 0 0,.int .i64 0,.bool false,.bool false,.slice none 0 0,.slice none 0 0,.slice none 0 0,.int .i64 0,.bool false,.bool false,.slice none 0 0,.slice none 0 0,.slice none 0 0,.int .i64 0] 86)):=qqb.alloc qql _;have sD:=qqh (kj.out.below ko);have HBK:=qqh uk;clear ko uk;go_wp2_with fail;refine(qD.out _ j sD.out.cur.cur).mono ?_;rintro e w7 ⟨rfl,qW,fG⟩;rw [HA.out]at qW;have ux:=qqh (sD.out.step qW fG);have abC:=qqh (mq HBK.out fG Tj);clear qW fG;have Qw:=qqh (Ja.out _ a 61 ux.out.cur.cur (by decide));cases hnd:aQ L a 61 with
  | error e0=>
   obtain⟨y,p⟩:=e0;have eP:=qqh (show R=.error (y,p) from HR.out.symm.trans (AI C7.out (by rw [HA.out];exact hnd)));rw [hnd]at Qw;clear hnd;go_wp2_with fail;refine Qw.out.mono ?_;rintro e w9 ⟨he,cN⟩;unfold aS at he;subst he;have eF:=qqh (ux.out.but.trans cN);clear cN;go_wp2_with fail;rw [eP.out];exact⟨rfl,rfl,eF.out⟩
  | ok k=>
   have U9:=qqh (show aQ L (ax L j) 61=.ok k by rw [HA.out];exact hnd);rw [hnd]at Qw;clear hnd;obtain⟨b,hb⟩:∃ b,ax L k=b:=⟨_,rfl⟩;have HB:=qqh hb;clear hb;go_wp2_with fail;refine Qw.out.mono ?_;rintro e w8 ⟨rfl,GG,gP⟩;have ya:=qqh (ux.out.step GG gP);have Aw:=qqh (mq abC.out gP Tj);clear GG gP;go_wp2_with fail;refine(qD.out _ k ya.out.cur.cur).mono ?_;rintro e w9 ⟨rfl,MS,cN⟩;rw [HB.out]at MS;have oE:=qqh (ya.out.step MS cN);have Qj:=qqh (mq Aw.out cN Tj);clear MS cN;have uB:=qqh (fF.out _ b oE.out.cur.cur);cases hst:bw L 20 b with
   | error e0=>
    obtain⟨y,p⟩:=e0;have eP:=qqh (show R=.error (y,p) from HR.out.symm.trans (Db C7.out U9.out (by rw [HB.out];exact hst)));rw [hst]at uB;clear hst;go_wp2_with fail;refine uB.out.mono ?_;rintro e wz ⟨he,hbz⟩;unfold aS at he;subst he;have HBZ:=qqh (oE.out.but.trans hbz);clear hbz;go_wp2_with fail;rw [eP.out];exact⟨rfl,rfl,HBZ.out⟩
   | ok q=>
    obtain⟨s,m0⟩:=q;have eP:=qqh (show R=.ok (⟨1,T,s,0,dz,dz⟩,m0) from HR.out.symm.trans (SZ C7.out U9.out (by rw [HB.out];exact hst)));have hss:=(ov HL.out.ok 20 _ _ _ hst).2.size;rw [hst]at uB;clear hst;go_wp2_with fail;refine uB.out.mono ?_;rintro e Ro ⟨⟨B,m,d,rfl,hr,hd⟩,Wz,SV⟩;have UB:=oE.out.step Wz SV;have P5:=mq Qj.out SV Tj;have hm:m≤maxLen:=(by have h1:=hr.1;rw [bt]at h1;unfold maxLen;omega);have BW:=Qj.out.lt;have x2:=P5.cell 2;have z2:=P5.frozen 2;have Jr:=qqh (UB.put hP 2 (.slice B m d));have QC:=qqh (show aj (Ro.setCell ⟨w5.heap.size,2,none⟩ (.slice B m d)) w5.heap.size 86 #[.int .i64 1,.string T,.slice B m d,.int .i64 0,.bool false,.bool false,.slice none 0 0,.slice none 0 0,.slice none 0 0,.int .i64 0,.bool false,.bool false,.slice none 0 0,.slice none 0 0,.slice none 0 0,.int .i64 0] from P5.put 2 _);have hrd:cV Ro (fun b=>uW w C b∧b≠w5.heap.size) 2 B m (an s):=hr.lift (fun b (h:w9.heap.size≤b)=>⟨⟨by have:=oE.out.res.lt;omega,by have:=oE.out.cur.lt;have:=oE.out.but.1;omega⟩,by omega⟩);have pJ:=qqh (hrd.keep (ag.setCell (p:=⟨w5.heap.size,2,none⟩) (X':=uW w C) (.slice B m d) (fun b hb=>hb.2) (fun b hb _=>hb.1)))
    have yu:=qqh (show eu (Ro.setCell ⟨w5.heap.size,2,none⟩ (.slice B m d)) (uW w C) ⟨1,T,s,0,dz,dz⟩ [.int .i64 1,.string T,.slice B m d,.int .i64 0,.bool false,.bool false,.slice none 0 0,.slice none 0 0,.slice none 0 0,.int .i64 0,.bool false,.bool false,.slice none 0 0,.slice none 0 0,.slice none 0 0,.int .i64 0] from⟨B,m,d,[.bool false,.bool false,.slice none 0 0,.slice none 0 0,.slice none 0 0,.int .i64 0],[.bool false,.bool false,.slice none 0 0,.slice none 0 0,.slice none 0 0,.int .i64 0],rfl,pJ.out,hm,kg,kg,show kG 1 from⟨by decide,by decide⟩,show kG 0 from⟨by decide,by decide⟩,hts⟩);clear hr hd Wz SV UB P5 hrd;go_upto_region 19 with fail;have Wa:=Jr.out;have Ym:=QC.out;have YF:=yu.out;clear Jr QC yu pJ x2 z2;generalize Ro.setCell ⟨w5.heap.size,2,none⟩ (.slice B m d)=w11 at *;obtain⟨hone,e1,e2,vE,e4⟩:=uQ Wa YF;have xW:=qqh e1;have wF:=qqh e2;have ND:=qqh e4;have pT:=qqh hone;have RW:=qqh vE;have Dm:=qqh (pg.res Wa);have UL:=qqh Ym;clear e1 e2 e4 vE hone
    go_wp2_with (first | (refine wpList_load_row (cs:=#[.int .i64 1,.string T,.slice B m d,.int .i64 0,.bool false,.bool false,.slice none 0 0,.slice none 0 0,.slice none 0 0,.int .i64 0,.bool false,.bool false,.slice none 0 0,.slice none 0 0,.slice none 0 0,.int .i64 0]) rfl rfl jm jM rfl UL.out ?_) | (refine wpList_store_row (c:=#[.int .i64 0,.string ⟨#[]⟩,.slice none 0 0,.int .i64 0,.bool false,.bool false,.slice none 0 0,.slice none 0 0,.slice none 0 0,.int .i64 0,.bool false,.bool false,.slice none 0 0,.slice none 0 0,.slice none 0 0,.int .i64 0]) (vs:=#[.int .i64 1,.string T,.slice B m d,.int .i64 0,.bool false,.bool false,.slice none 0 0,.slice none 0 0,.slice none 0 0,.int .i64 0,.bool false,.bool false,.slice none 0 0,.slice none 0 0,.slice none 0 0,.int .i64 0]) rfl rfl jM rfl pT.out rfl rfl Dm.out ?_));(try simp only [Act.put]);refine bodyPost_ret (v:=.agg #[.int .i64 1,.string T,.slice B m d,.int .i64 0,.bool false,.bool false,.slice none 0 0,.slice none 0 0,.slice none 0 0,.int .i64 0,.bool false,.bool false,.slice none 0 0,.slice none 0 0,.slice none 0 0,.int .i64 0]) (lK Tryz.results32 rfl jm jM RW.out) rfl ?_;rw [eP.out];exact⟨⟨_,rfl,ND.out⟩,xW.out,wF.out⟩
end Go.Proofs.YtblinekbpcdbfaaGreatDoor
