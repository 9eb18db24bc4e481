/- SynRead + RulesNum + RulesRight + RdPartFr + RdPartA + RdPartB -/
import Derived.Test.YtkggjgeihhialaaGreatDoorZu39
import Derived.Test.YtkggjgeihhialaaGreatDoorZu33
import Derived.Test.YtkggjgeihhialaaGreatDoorZu6
import Derived.Test.YtkggjgeihhialaaGreatDoorZu13
import Derived.Test.YtkggjgeihhialaaGreatDoorZu26
import Derived.Test.YtkggjgeihhialaaGreatDoorZu40
import Derived.Test.YtkggjgeihhialaaGreatDoorZu11
import Derived.Test.YtkggjgeihhialaaGreatDoorZu21
set_option maxHeartbeats 12800000
set_option maxRecDepth 100000
namespace Go.Proofs.YtkggjgeihhialaaGreatDoor
open Go.RowKit
theorem BD {w:World} {R F m:Nat} {v:Value} {x p:Int} {tR tF:TypeId} (hR:aj w R tR #[v]) (hF:aj w F tF #[.int .i64 x,.int .i64 p]) (hne:R≠F) :
    aj ((((w.drewN m).setCell ⟨R,0,none⟩ v).setCell ⟨F,0,none⟩ (.int .i64 x)).setCell ⟨F,1,none⟩ (.int .i64 p)) R tR #[v]∧aj ((((w.drewN m).setCell ⟨R,0,none⟩ v).setCell ⟨F,0,none⟩ (.int .i64 x)).setCell ⟨F,1,none⟩ (.int .i64 p)) F tF #[.int .i64 x,.int .i64 p] ∧
      ∀ B,B≤R→B≤F→B≤w.heap.size→Below B w ((((w.drewN m).setCell ⟨R,0,none⟩ v).setCell ⟨F,0,none⟩ (.int .i64 x)).setCell ⟨F,1,none⟩ (.int .i64 p)) ∧
        aa w (fun b=>b≠R∧b≠F) ((((w.drewN m).setCell ⟨R,0,none⟩ v).setCell ⟨F,0,none⟩ (.int .i64 x)).setCell ⟨F,1,none⟩ (.int .i64 p)) (fun b=>b≠R∧b≠F):=by
 have h1:aj ((w.drewN m).setCell ⟨R,0,none⟩ v) R tR #[v]:=(hR.drewN m).put 0 v;have b1:=bN.set (w.drewN m) R 0 v;have g1:aj ((w.drewN m).setCell ⟨R,0,none⟩ v) F tF #[.int .i64 x,.int .i64 p]:=(b1.2.2.2.2 F (hF.drewN m).lt (Ne.symm hne)).trans (hF.drewN m);have b2:=bN.set ((w.drewN m).setCell ⟨R,0,none⟩ v) F 0 (.int .i64 x);have g2:aj (((w.drewN m).setCell ⟨R,0,none⟩ v).setCell ⟨F,0,none⟩ (.int .i64 x)) F tF #[.int .i64 x,.int .i64 p]:=g1.put 0 _;have h2:aj (((w.drewN m).setCell ⟨R,0,none⟩ v).setCell ⟨F,0,none⟩ (.int .i64 x)) R tR #[v]:=(b2.2.2.2.2 R h1.lt hne).trans h1;have b3:=bN.set (((w.drewN m).setCell ⟨R,0,none⟩ v).setCell ⟨F,0,none⟩ (.int .i64 x)) F 1 (.int .i64 p);refine⟨(b3.2.2.2.2 R h2.lt hne).trans h2,g2.put 1 _,fun B hR hF hw=>⟨?_,?_⟩⟩;exact((below_drewN (Below.refl B w) m).trans (b1.to (show B≤(w.drewN m).heap.size from hw) hR)).trans ((b2.to (Nat.le_trans hw b1.1) hF).trans (b3.to (Nat.le_trans (Nat.le_trans hw b1.1) b2.1) hF));exact(((aa.below (below_drewN (Below.refl _ w) m) (fun b h _=>h)).trans (b1.keeps (X':=fun b=>b≠R∧b≠F) (fun b h=>h.1) (fun b h _=>h))).trans (b2.keeps (X':=fun b=>b≠R∧b≠F) (fun b h=>h.2) (fun b h _=>h))).trans (b3.keeps (fun b h=>h.2) (fun b h _=>h))
def gu {α:Type} (r:jS α):Prop:=∀ e p,r=.error (e,p)→e≠0
theorem gF {L:List Int} {i:Nat} {r:Int} {e:Int} {p:Nat} (h:aT L i r=.error (e,p)):e≠0:=by
 unfold aT at h;split at h
 ·cases h
 injection h with h;injection h with h1 h2;omega
theorem MK (L:List Int) (i:Nat):gu (kJ L i):=by
 intro e p h;unfold kJ at h;cases h1:aT L (i+1) 123 with
 | error x=>obtain⟨x1,x2⟩:=x;rw [h1]at h;simp only at h;injection h with h;injection h with h3 h4;subst h3;exact gF h1
 | ok a=>
  rw [h1]at h;simp only at h;split at h
  ·injection h with h;injection h with h1 h2;omega
  cases h2:aT L (aB eT L a) 125 with
  | error x=>obtain⟨x1,x2⟩:=x;rw [h2]at h;simp only at h;injection h with h;injection h with h3 h4;subst h3;exact gF h2
  | ok k=>
   rw [h2]at h;simp only at h;split at h
   ·injection h with h;injection h with h1 h2;omega
   cases h
theorem rX (L:List Int) (i:Nat):gu (dc L i):=by
 intro e p h;unfold dc at h;(repeat' (split at h));(any_goals (cases h;done));(any_goals (injection h with h;injection h with h1 h2;omega));exact MK _ _ _ _ h
theorem Hl (L:List Int) (i:Nat):gu (jd L i):=by
 intro e p h;unfold jd at h;cases h1:dc L i with
 | error x=>obtain⟨x1,x2⟩:=x;rw [h1]at h;simp only at h;injection h with h;injection h with h3 h4;subst h3;exact rX _ _ _ _ h1
 | ok q=>
  obtain⟨a,j⟩:=q;rw [h1]at h;simp only at h;split at h
  ·cases h2:dc L (j+1)with
   | error x=>obtain⟨x1,x2⟩:=x;rw [h2]at h;simp only at h;injection h with h;injection h with h3 h4;subst h3;exact rX _ _ _ _ h2
   | ok q=>
    obtain⟨b,k⟩:=q;rw [h2]at h;simp only at h;split at h
    ·injection h with h;injection h with h1 h2;omega
    cases h
  cases h
theorem EH (L:List Int) (i:Nat):gu (eJ L i):=by
 intro e p h;unfold eJ at h;split at h
 ·injection h with h;injection h with h1 h2;omega
 split at h
 ·rename_i h1;cases h;exact gF h1
 split at h
 ·rename_i h1;cases h;exact gF h1
 cases h
theorem Ho {inner:Nat→jS af} (hi:∀ i,gu (inner i)) (L:List Int) (i:Nat):gu (dB inner L i):=by
 intro e p h;unfold dB at h;split at h;exact EH _ _ _ _ h;split at h;exact hi _ _ _ h;split at h;exact hi _ _ _ h;split at h
 ·rename_i h1;cases h;exact Hl _ _ _ _ h1
 cases h
theorem ET {inner:Nat→jS af} (hi:∀ i,gu (inner i)) (L:List Int):∀ f i s,gu (dQ inner L f i s):=by
 intro f;induction f with
 | zero=>intro i s e p h;unfold dQ at h;injection h with h;injection h with h1 h2;omega
 | succ f ih=>
  intro i s e p h;rw [dQ]at h;split at h
  ·cases h
  split at h
  ·rename_i h1;cases h;exact Ho hi _ _ _ _ h1
  split at h
  ·rename_i h1;injection h with h;injection h with h2 h3;subst h2;exact h1
  exact ih _ _ _ _ h
theorem xk (L:List Int):∀ n i,gu (bH L n i):=by
 intro n;induction n with
 | zero=>intro i e p h;unfold bH at h;injection h with h;injection h with h1 h2;split at h1 <;> omega
 | succ n ih=>
  intro i e p h;rw [bH]at h;split at h
  ·rename_i h1;cases h;exact gF h1
  split at h
  ·rename_i h1;cases h;exact ET ih _ _ _ _ _ _ h1
  split at h
  ·split at h
   ·rename_i h1;injection h with h;injection h with h2 h3;subst h2;exact h1
   cases h
  cases h
theorem zE (L:List Int) (i:Nat):gu (gn L i):=by
 intro e p h;unfold gn at h;split at h
 ·cases h
 injection h with h;injection h with h1 h2;omega
theorem C0 (L:List Int) (i:Nat):gu (fV L i):=by
 intro e p h;unfold fV at h;split at h
 ·cases h
 injection h with h;injection h with h1 h2;omega
theorem Hq (L:List Int) (a:Nat) (out:List aG) (cur:Int) (e:Int) (p:Nat) (h:cy L a out cur=.error (e,p)):e≠0:=by
 unfold cy at h;split at h
 ·split at h
  ·injection h with h;injection h with h1 h2;omega
  cases h
 split at h
 ·split at h
  ·rename_i h1;injection h with h;subst h;exact xk L 20 a _ _ h1
  cases h
 split at h
 ·split at h
  ·rename_i h1;injection h with h;subst h;exact zE L _ _ _ h1
  cases h
 split at h
 ·split at h
  ·rename_i h1;injection h with h;subst h;exact C0 L _ _ _ h1
  cases h
 split at h
 ·split at h
  ·rename_i h1;injection h with h;subst h;exact rX L _ _ _ h1
  split at h
  ·cases h
  injection h with h;injection h with h1 h2;omega
 cases h
theorem pF (L:List Int):∀ f i out cur,gu (cM L f i out cur):=by
 intro f;induction f with
 | zero=>intro i out cur e p h;rw [cM]at h;injection h with h;injection h with h1 h2;omega
 | succ f ih=>
  intro i out cur e p h;rw [cM]at h;split at h
  ·rename_i h1;injection h with h;subst h;exact Hq L _ _ _ _ _ h1
  ·cases h
  split at h
  ·injection h with h;injection h with h1 h2;omega
  exact ih _ _ _ _ _ h
theorem JQ (L:List Int) (st:Bool) (a:Nat):gu (dN L st a):=by
 intro e p h;unfold dN at h;split at h
 ·rename_i h1;injection h with h;subst h;exact pF L _ _ _ _ _ _ h1
 split at h
 ·split at h
  ·injection h with h;injection h with h1 h2;omega
  split at h
  ·rename_i h1;injection h with h;subst h;exact pF L _ _ _ _ _ _ h1
  cases h
 split at h
 ·injection h with h;injection h with h1 h2;omega
 cases h
theorem IX (L:List Int) (a:Nat):gu (ej L a):=by
 intro e p h;unfold ej at h;split at h
 ·split at h
  ·rename_i h1;injection h with h;subst h;exact pF L _ _ _ _ _ _ h1
  split at h
  ·injection h with h;injection h with h1 h2;omega
  split at h <;> cases h
 cases h
theorem zG (L:List Int) (i:Nat):gu (dM L i):=by
 intro e p h;unfold dM at h;split at h
 ·rename_i h1;injection h with h;subst h;exact JQ L _ _ _ _ h1
 split at h
 ·rename_i h1;injection h with h;subst h;exact IX L _ _ _ h1
 cases h
theorem Fw (L:List Int) (i:Nat):gu (eK L i):=by
 intro e p h;unfold eK at h;split at h
 ·cases h
 split at h
 ·cases h
 split at h
 ·rename_i h1;injection h with h;subst h;exact gF h1
 cases h
theorem Ji (L:List Int) (i:Nat):gu (iR L i):=by
 intro e p h;unfold iR at h;split at h
 ·unfold iW at h;split at h
  ·rename_i h1;injection h with h;subst h;exact gF h1
  split at h
  ·split at h
   ·rename_i h1;injection h with h;subst h;exact xk L 20 _ _ _ h1
   cases h
  split at h
  ·cases h
  injection h with h;injection h with h1 h2;omega
 split at h
 ·unfold nH at h;split at h
  ·rename_i h1;injection h with h;subst h;exact zE L _ _ _ h1
  split at h
  ·rename_i h1;injection h with h;subst h;exact gF h1
  split at h
  ·rename_i h1;injection h with h;subst h;exact xk L 20 _ _ _ h1
  cases h
 unfold iQ at h;split at h
 ·rename_i h1;injection h with h;subst h;exact zG L _ _ _ h1
 split at h
 ·rename_i h1;injection h with h;subst h;exact Fw L _ _ _ h1
 split at h
 ·rename_i h1;injection h with h;subst h;exact zG L _ _ _ h1
 split at h
 ·rename_i h1;injection h with h;injection h with h2 h3;subst h2;exact h1
 cases h
theorem Hx (L:List Int):∀ f i l (e:Int) (p:Nat),fZ L f i l=.error (e,p)→e≠0:=by
 intro f;induction f with
 | zero=>intro i l e p h;rw [fZ]at h;injection h with h;injection h with h1 h2;omega
 | succ f ih=>
  intro i l e p h;rw [fZ]at h;split at h
  ·cases h
  split at h
  ·injection h with h;injection h with h1 h2;omega
  split at h
  ·rename_i h1;injection h with h;subst h;exact Ji L _ _ _ h1
  split at h
  ·rename_i h1;injection h with h;subst h;exact gF h1
  exact ih _ _ _ _ h
theorem tS {L:List Int} (h:16000<L.length):gW L=([],(4,0)):=by unfold gW;rw [if_pos h]
theorem xq {L:List Int} {e:Int} {p:Nat} (h:¬ 16000<L.length) (h2:fZ L (L.length+1) 0 [] = .error (e,p)):gW L=([],(e,(p:Int))):=by unfold gW;rw [if_neg h,h2]
theorem zj {L:List Int} {l:List aH} (h:¬ 16000<L.length) (h2:fZ L (L.length+1) 0 [] = .ok l):gW L=(l,(0,0)):=by unfold gW;rw [if_neg h,h2]
def Db (a:aG):Prop:=CC a=a∧(a.kind=1∨a.kind=2∨a.kind=3)∧a.name.size≤20
theorem J0 {L:List Int} {a:Nat} {out o:List aG} {cur c:Int} {j:Nat} (h:cy L a out cur=.ok (some ((o,c),j))) (ho:∀ x∈out,Db x):∀ x∈o,Db x:=by
 have push:∀ (l:List aG),(∀ x∈l,Db x)→∀ x∈out++l,Db x:=by
  intro l hl x hx;rcases List.mem_append.1 hx with hx | hx;exact ho x hx;exact hl x hx
 have rune:∀ x,Db (lW x):=fun x=>⟨rfl,.inl rfl,Nat.zero_le _⟩;unfold cy at h;split at h
 ·split at h
  ·cases h
  injection h with h;injection h with h;injection h with h1 h2;injection h1 with h1 h3;subst h1;exact ho
 split at h
 ·split at h
  ·cases h
  injection h with h;injection h with h;injection h with h1 h2;injection h1 with h1 h3;subst h1;exact push _ (fun x hx=>by rw [List.mem_singleton.1 hx];exact⟨rfl,.inr (.inl rfl),Nat.zero_le _⟩)
 split at h
 ·split at h
  ·cases h
  rename_i hn;injection h with h;injection h with h;injection h with h1 h2;injection h1 with h1 h3;subst h1;exact push _ (fun x hx=>by rw [List.mem_singleton.1 hx];exact⟨rfl,.inr (.inr rfl),Ih (kR hn).2.1⟩)
 split at h
 ·split at h
  ·cases h
  rename_i hq;injection h with h;injection h with h;injection h with h1 h2;injection h1 with h1 h3;subst h1;unfold fV at hq;split at hq
  ·injection hq with hq;injection hq with hq G0;subst hq;refine push _ (fun x hx=>?_);obtain⟨y,_,rfl⟩:=List.mem_map.1 hx;exact rune y
  cases hq
 split at h
 ·split at h
  ·cases h
  split at h
  ·injection h with h;injection h with h;injection h with h1 h2;injection h1 with h1 h3;subst h1;exact push _ (fun x hx=>by rw [List.mem_singleton.1 hx];exact rune _)
  cases h
 injection h with h;cases h
theorem B6 {L:List Int}:∀ (f i:Nat) (out:List aG) (cur:Int) (v:List aG × Int) (j:Nat),(∀ x∈out,Db x)→cM L f i out cur=.ok (v,j)→∀ x∈v.1,Db x:=by
 intro f;induction f with
 | zero=>intro i out cur v j _ h;rw [cM]at h;cases h
 | succ f ih=>
  intro i out cur v j ho h;rw [cM]at h;cases he:cy L (az L i) out cur with
  | error e=>rw [he]at h;cases h
  | ok q=>
   rw [he]at h;cases q with
   | none=>simp only at h;injection h with h;injection h with h1 h2;subst h1;exact ho
   | some q=>
    obtain⟨⟨o,c⟩,k⟩:=q;simp only at h;split at h
    ·cases h
    exact ih _ _ _ _ _ (J0 he ho) h
theorem jo {L:List Int} {i:Nat} {v:List aG × Int} {j:Nat} (h:cI L i=.ok (v,j)):∀ x∈v.1,Db x:=B6 _ _ _ _ _ _ (by simp) h
def TA (s:bW):Prop:=(∀ x∈s.before,Db x)∧(∀ x∈s.source,Db x)∧∀ x∈s.after,Db x
theorem wG {l:List aG} (h:∀ x∈l,Db x):l.map CC=l:=by
 induction l with
 | nil=>rfl
 | cons a l ih=>rw [List.map_cons,(h a List.mem_cons_self).1,ih (fun x hx=>h x (List.mem_cons_of_mem _ hx))]
theorem TA.bare {s:bW} (h:TA s):GG s=s:=by
 unfold GG;rw [wG h.1,wG h.2.1,wG h.2.2]
theorem qb {L:List Int} {i:Nat} {v:bW} {j:Nat} (h:dM L i=.ok (v,j)):TA v:=by
 have nil:∀ x∈([]:List aG),Db x:=(by simp);unfold dM at h;cases hh:dN L (decide (pk L (az L i)=94)) (if pk L (az L i)=94 then az L i+1 else az L i)with
 | error e=>rw [hh]at h;cases h
 | ok q=>
  obtain⟨⟨b,s,c⟩,j1⟩:=q;rw [hh]at h;simp only at h;have h1:(∀ x∈b,Db x)∧∀ x∈s,Db x:=by
   unfold dN at hh;cases hi:cI L (if pk L (az L i)=94 then az L i+1 else az L i)with
   | error e=>rw [hi]at hh;cases hh
   | ok q=>
    obtain⟨⟨l,c1⟩,j2⟩:=q;rw [hi]at hh;simp only at hh;split at hh
    ·split at hh
     ·cases hh
     cases hi2:cI L (j2+1)with
     | error e=>rw [hi2]at hh;cases hh
     | ok q=>
      obtain⟨⟨l2,c2⟩,j3⟩:=q;rw [hi2]at hh;simp only at hh;injection hh with hh;injection hh with hh Yg;injection hh with XP Tg;injection Tg with T6 Xi;subst XP T6;exact⟨jo hi,jo hi2⟩
    split at hh
    ·cases hh
    injection hh with hh;injection hh with hh Yg;injection hh with XP Tg;injection Tg with T6 Xi;subst XP T6;exact⟨nil,jo hi⟩
  cases ht:ej L j1 with
  | error e=>rw [ht]at h;cases h
  | ok q=>
   obtain⟨⟨a,fin⟩,k⟩:=q;have h2:∀ x∈a,Db x:=by
    unfold ej at ht;split at ht
    ·cases hi:cI L (j1+1)with
     | error e=>rw [hi]at ht;cases ht
     | ok q=>
      obtain⟨⟨l,c1⟩,j2⟩:=q;rw [hi]at ht;simp only at ht;split at ht
      ·cases ht
      split at ht
      ·injection ht with ht;injection ht with ht1 ht2;injection ht1 with Ot Tj;subst Ot;exact jo hi
      injection ht with ht;injection ht with ht1 ht2;injection ht1 with Ot Tj;subst Ot;exact jo hi
    injection ht with ht;injection ht with ht1 ht2;injection ht1 with Ot Tj;subst Ot;exact nil
   rw [ht]at h;simp only at h;injection h with h;injection h with h3 h4;subst h3;exact⟨h1.1,h1.2,h2⟩
def YO (p:aH):Prop:=fN p=0∧QC p=p∧TA p.left∧TA p.right
theorem iu:TA cX:=⟨by simp [cX],by simp [cX],by simp [cX]⟩
theorem Ga {L:List Int} (hL:cA L) {i:Nat} {v:aH} {j:Nat} (h:iR L i=.ok (v,j)):YO v:=by
 unfold iR at h;split at h
 ·unfold iW at h;split at h
  ·cases h
  split at h
  ·split at h
   ·cases h
   rename_i hs;injection h with h;injection h with h1 h2;subst h1;exact⟨gP (lE hL 20 _ _ _ hs).2,rfl,iu,iu⟩
  split at h
  ·rename_i hb;injection h with h;injection h with h1 h2;subst h1;refine⟨?_,rfl,iu,iu⟩;unfold fN;rw [if_neg (show ¬((4:Int)=1) by decide),if_neg (show ¬((4:Int)=3) by decide),if_pos rfl,if_pos hb]
  cases h
 split at h
 ·unfold nH at h;split at h
  ·cases h
  rename_i hn;split at h
  ·cases h
  split at h
  ·cases h
  rename_i hs;injection h with h;injection h with h1 h2;subst h1;refine⟨?_,rfl,iu,iu⟩;unfold fN;rw [if_pos rfl,if_pos (kR hn).2.1];exact gP (lE hL 20 _ _ _ hs).2
 unfold iQ at h;split at h
 ·cases h
 rename_i hl;split at h
 ·cases h
 split at h
 ·cases h
 rename_i hr;split at h
 ·cases h
 rename_i hw;injection h with h;injection h with h1 h2;subst h1;have g1:=qb hl;have g2:=qb hr;refine⟨Decidable.of_not_not hw,?_,g1,g2⟩;unfold QC;simp only [g1.bare,g2.bare];rfl
theorem Fs {L:List Int} (hL:cA L):∀ (f i:Nat) (l r:List aH),fZ L f i l=.ok r→l.length≤200→(∀ p∈l,YO p)→(∀ p∈r,YO p)∧r.length≤200:=by
 intro f;induction f with
 | zero=>intro i l r h;rw [fZ]at h;cases h
 | succ f ih=>
  intro i l r h hn hl;rw [fZ]at h;split at h
  ·injection h with h;subst h;exact⟨hl,hn⟩
  split at h
  ·cases h
  split at h
  ·cases h
  rename_i hp;split at h
  ·cases h
  refine ih _ _ _ h (by rw [List.length_append,List.length_singleton];omega) (fun p hp2=>?_);rcases List.mem_append.1 hp2 with hp2 | hp2;exact hl p hp2;rw [List.mem_singleton.1 hp2];exact Ga hL hp
theorem Ak {L:List Int} (hL:cA L):(∀ p∈(gW L).1,YO p)∧(gW L).1.length≤200:=by
 by_cases h1:16000<L.length
 ·rw [tS h1];exact⟨by simp,Nat.zero_le _⟩
 cases h2:fZ L (L.length+1) 0 []with
 | error e=>
  obtain⟨e,p⟩:=e;rw [xq h1 h2];exact⟨by simp,Nat.zero_le _⟩
 | ok l=>
  rw [zj h1 h2];exact Fs hL _ _ _ _ h2 (Nat.zero_le _) (by simp)
def G7 (a:List (List Int)) (b:List Word):Prop:=a.map bytesOf=b∧∀ w∈a,w.all b7=true
theorem G7.none {a:List (List Int)} {b:List Word} (h:G7 a b):a = []↔b = []:=by rw [← h.1];simp
theorem cY.toX {w:World} {X:Nat→Prop} {u:Value} {l:List aG} (h:cY w X u l) (hg:∀ a∈l,Db a):∃ A n c,u=.slice A n c∧iK w X A n l∧n≤maxLen:=by
 obtain⟨A,n,c,rfl,⟨css,h1,h2,h3,h4,h5⟩,_,hn⟩:=h;refine⟨A,n,c,rfl,⟨css,h1,h2,fun i a cs ha hc=>?_,h4,h5⟩,by unfold maxLen;omega⟩;obtain⟨A',n',c',e,g1,g2,g3⟩:=h3 i a cs ha hc;obtain⟨_,k1,k2⟩:=hg a (List.mem_of_getElem? ha);exact⟨A',n',c',e,g1,g3,by unfold kG;omega,by unfold maxLen;omega⟩
theorem Mr {L:List Int} {i:Nat} {v:bW} {j:Nat} (h:dM L i=.ok (v,j)) : -1≤v.ag∧v.ag≤20:=by
 have one:∀ {i:Nat} {l:List aG} {c:Int} {j:Nat},cI L i=.ok ((l,c),j) → -1≤c∧c≤20:=fun h=>qh _ _ _ _ (Nat.zero_le _) (by decide) (by decide) h;unfold dM at h;cases hh:dN L (decide (pk L (az L i)=94)) (if pk L (az L i)=94 then az L i+1 else az L i)with
 | error e=>rw [hh]at h;cases h
 | ok q=>
  obtain⟨⟨b,s,c⟩,j1⟩:=q;rw [hh]at h;simp only at h;have h1 : -1≤c∧c≤20:=by
   unfold dN at hh;cases hi:cI L (if pk L (az L i)=94 then az L i+1 else az L i)with
   | error e=>rw [hi]at hh;cases hh
   | ok q=>
    obtain⟨⟨l,c1⟩,j2⟩:=q;rw [hi]at hh;simp only at hh;split at hh
    ·split at hh
     ·cases hh
     cases hi2:cI L (j2+1)with
     | error e=>rw [hi2]at hh;cases hh
     | ok q=>
      obtain⟨⟨l2,c2⟩,j3⟩:=q;rw [hi2]at hh;simp only at hh;injection hh with hh;injection hh with hh Yg;injection hh with XP Tg;injection Tg with T6 Xi;subst Xi;exact one hi2
    split at hh
    ·cases hh
    injection hh with hh;injection hh with hh Yg;injection hh with XP Tg;injection Tg with T6 Xi;subst Xi;exact one hi
  cases ht:ej L j1 with
  | error e=>rw [ht]at h;cases h
  | ok q=>
   obtain⟨⟨a,fin⟩,k⟩:=q;rw [ht]at h;simp only at h;injection h with h;injection h with h3 h4;subst h3;exact h1
def Q7 (w:World) (C:Nat) (A:Option Addr) (n c:Nat) (L:List Int) (r:jS bW) (e:Ending) (w':World):Prop :=
  match r with
  | .ok (d,j)=>(∃ A1 n1 c1 A2 n2 c2 A3 n3 c3,e=.returned (.agg #[.bool d.start,.bool d.fin,.slice A1 n1 c1,.slice A2 n2 c2,.slice A3 n3 c3,.int .i64 d.ag])∧qI w' (fun b=>w.heap.size≤b∧b≠C) d [.bool d.start,.bool d.fin,.slice A1 n1 c1,.slice A2 n2 c2,.slice A3 n3 c3,.int .i64 d.ag])∧ax w' C A n c L j∧bN w C w'
  | .error (x,p)=>e=aZ x p∧bN w C w'
theorem Ie (w:World) (C:Nat) (A:Option Addr) (n c:Nat) (L:List Int) (i:Nat) (h:ax w C A n c L i) (hL:fU L) (hn:n≤100000) :
    Calls Tryz.prog 72 #[.pointer (some ⟨C,0,none⟩)] w (Q7 w C A n c L (dM L i)):=by
 refine(OI w C A n c L i h hL hn).mono ?_;intro e w' hp;cases hr:dM L i with
 | error e0=>rw [hr]at hp;exact hp
 | ok q=>
  obtain⟨d,j⟩:=q;rw [hr]at hp;obtain⟨⟨u1,u2,u3,he,h1,h2,h3⟩,hc,hb⟩:=hp;obtain⟨g1,g2,g3⟩:=qb hr;have hk:aa w' (fun b=>w.heap.size+2≤b∧b≠C) w' (fun b=>w.heap.size≤b∧b≠C):=aa.refl (fun b hb=>⟨by have:=hb.1;omega,hb.2⟩);obtain⟨A1,n1,c1,rfl,x1,m1⟩:=(h1.keep hk).toX g1;obtain⟨A2,n2,c2,rfl,x2,m2⟩:=(h2.keep hk).toX g2;obtain⟨A3,n3,c3,rfl,x3,m3⟩:=(h3.keep hk).toX g3;have AQ:=Mr hr;exact⟨⟨A1,n1,c1,A2,n2,c2,A3,n3,c3,he,A1,n1,c1,A2,n2,c2,A3,n3,c3,rfl,x1,x2,x3,m1,m2,m3,by unfold kG;omega⟩,hc,hb⟩
structure oD (w:World) (C:Nat) (A:Option Addr) (n c:Nat) (L:List Int) (wr:World) (j:Nat):Prop where
  cur:ie w.heap.size wr C A n c L j
  but:bN w C wr
  res:aj wr w.heap.size 103 #[.int .i64 0,.string ⟨#[]⟩,.slice none 0 0,.int .i64 0,.bool false,.bool false,.slice none 0 0,.slice none 0 0,.slice none 0 0,.int .i64 0,.bool false,.bool false,.slice none 0 0,.slice none 0 0,.slice none 0 0,.int .i64 0]
section
variable {w wr w' : World} {C : Nat} {A : Option Addr} {n c : Nat} {L : List Int} {j j' : Nat}
theorem oD.step (h:oD w C A n c L wr j) (hc:ax w' C A n c L j') (hb:bN wr C w'):oD w C A n c L w' j':=by
 have hC:=h.cur.lt;exact⟨h.cur.but hc hb,h.but.trans hb,(hb.2.2.2.2 _ h.res.lt (by omega)).trans h.res⟩
theorem oD.below (h:oD w C A n c L wr j) (hb:Below wr.heap.size wr w'):oD w C A n c L w' j:=by
 have aU:=hb.mono h.but.1;exact⟨h.cur.below aU,eX h.but aU,h.res.below hb h.res.lt⟩
theorem oD.put (h:oD w C A n c L wr j) {P:Nat} (hP:w.heap.size<P) (k:Nat) (u:Value):oD w C A n c L (wr.setCell ⟨P,k,none⟩ u) j:=by
 have hb:=(bN.set wr P k u);have aU:=hb.to (B:=w.heap.size) h.but.1 (Nat.le_of_lt hP);exact⟨h.cur.below aU,eX h.but aU,(hb.2.2.2.2 _ h.res.lt (by omega)).trans h.res⟩
end
theorem vv (w:World) (C:Nat) (A:Option Addr) (n c:Nat) (L:List Int) (i:Nat) (h:ax w C A n c L i):oD w C A n c L (w.alloc (.cells #[.int .i64 0,.string ⟨#[]⟩,.slice none 0 0,.int .i64 0,.bool false,.bool false,.slice none 0 0,.slice none 0 0,.slice none 0 0,.int .i64 0,.bool false,.bool false,.slice none 0 0,.slice none 0 0,.slice none 0 0,.int .i64 0] 103)) i:=by
 have hb:Below w.heap.size w (w.alloc (.cells #[.int .i64 0,.string ⟨#[]⟩,.slice none 0 0,.int .i64 0,.bool false,.bool false,.slice none 0 0,.slice none 0 0,.slice none 0 0,.int .i64 0,.bool false,.bool false,.slice none 0 0,.slice none 0 0,.slice none 0 0,.int .i64 0] 103)):=(Below.refl _ _).alloc (Nat.le_refl _) _;exact⟨(ie.start h).below hb,bN.below C hb,aj.new _ _ _⟩
def uI (w:World) (C b:Nat):Prop:=w.heap.size<b∧b≠C
theorem mg {w w':World} {C P:Nat} {t:TypeId} {cs:Array Value} (h:aj w P t cs) (hb:bN w C w') (hP:P≠C):aj w' P t cs:=(hb.2.2.2.2 _ h.lt hP).trans h
def sK (w:World) (C:Nat) (A:Option Addr) (n c:Nat) (L:List Int) (r:jS aH) (e:Ending) (w':World):Prop :=
  match r with
  | .ok (d,j)=>(∃ cs:List Value,e=.returned (.agg cs.toArray)∧eC w' (uI w C) d cs)∧ax w' C A n c L j∧bN w C w'
  | .error (x,p)=>e=aZ x p∧bN w C w'
theorem uL {w wr:World} {C:Nat} {A:Option Addr} {n c:Nat} {L:List Int} {j:Nat} {d:aH} {vs:List Value} (h:oD w C A n c L wr j) (hp:eC wr (uI w C) d vs) :
    vs.toArray.all (·.oneCell')=true∧ax (wr.setRow w.heap.size vs.toArray) C A n c L j∧bN w C (wr.setRow w.heap.size vs.toArray) ∧
    aj (wr.setRow w.heap.size vs.toArray) w.heap.size 103 vs.toArray∧eC (wr.setRow w.heap.size vs.toArray) (uI w C) d vs:=by
 have hb:=(GK wr w.heap.size vs.toArray).to (B:=w.heap.size) h.but.1 (Nat.le_refl _);have hk:aa wr (uI w C) (wr.setRow w.heap.size vs.toArray) (uI w C):=(GK wr w.heap.size vs.toArray).keeps (fun b hb=>by have:=hb.1;omega) (fun _ h _=>h);exact⟨by rw [Array.all_eq_true_iff_forall_mem];intro u hu;exact hp.one.2 u (by simpa using hu),(h.cur.below hb).cur,eX h.but hb,Pv h.res,hp.keep hk⟩
theorem jE:(Tryz.prog.info? 103).map (·.size)=some 16:=by kernel_rfl
theorem js:∃ fs,Tryz.prog.underlying 103 = some (.struct fs):=⟨_,Tryz.underlying103⟩
theorem vZ (L:List Int) (a:Nat):(gN L a).size≤4*L.length:=by
 unfold gN;have h1:=runesBytes_size_le (aN L a (bk L a));have h2:(aN L a (bk L a)).length≤L.length:=(by unfold aN;rw [List.length_take,List.length_drop];omega);omega
theorem I2 {L:List Int} {i:Nat} {e:Int × Nat} (h:aT L (i+1) 58=.error e):iW L i=.error e:=by unfold iW;rw [h]
theorem AM {L:List Int} {i j a:Nat} {e:Int × Nat} (h:aT L (i+1) 58=.ok j) (ha:az L j=a) (ko:pk L a=91) (hs:bH L 20 a=.error e):iW L i=.error e:=by unfold iW;rw [h];simp only;rw [ha,if_pos ko,hs]
theorem C5 {L:List Int} {i j a k:Nat} {s:af} (h:aT L (i+1) 58=.ok j) (ha:az L j=a) (ko:pk L a=91) (hs:bH L 20 a=.ok (s,k)):iW L i=.ok (⟨3,eE,s,0,cX,cX⟩,k):=by unfold iW;rw [h];simp only;rw [ha,if_pos ko,hs]
theorem JI {L:List Int} {i j a:Nat} (h:aT L (i+1) 58=.ok j) (ha:az L j=a) (ko:pk L a≠91):iW L i=(if jL (gN L a)=true then .ok (⟨4,gN L a,[],0,cX,cX⟩,bk L a)else .error (7,a)):=by unfold iW;rw [h];simp only;rw [ha,if_neg ko]
theorem Bc (w:World) (C:Nat) (A:Option Addr) (n c:Nat) (L:List Int) (i:Nat) (h:ax w C A n c L i) (hL:fU L) (hn:n≤100000) (wI:pk L i=58) :
    Calls Tryz.prog 42 #[.pointer (some ⟨C,0,none⟩)] w (sK w C A n c L (iW L i)):=by
 have hl:=h.len;have HL:=qqh hL;have gS:=qqh (fun(W:World) (m:Nat) (h:ax W C A n c L m)=>cT W C A n c L m h);have qq:=qqh (fun(W:World) (m:Nat) (h:ax W C A n c L m)=>ju W C A n c L m h);have Hg:=qqh (fun(W:World) (m:Nat) (r:Int) (h:ax W C A n c L m) (hr:r ≠ -1)=>fk W C A n c L m r h hr);have fD:=qqh (fun(W:World) (m:Nat) (h:ax W C A n c L m)=>uN 20 1 W C A n c L m rfl (by decide) h hL hn);have Rm:=qqh (fun(W:World) (m:Nat) (h:ax W C A n c L m) (h0:0<n)=>rm W C A n c L m h h0);have hi:=h.le;have rN:=qqh (vv w C A n c L i h);obtain⟨R,hR⟩:∃ R,iW L i=R:=⟨_,rfl⟩;rw [hR];have HR:=qqh hR;clear h hL hR;go_enter Tryz.func42,Tryz.ntmps42;go_wp2_with fail;refine(gS.out _ i rN.out.cur.cur).mono ?_;rintro e w1 ⟨rfl,hc1,aR⟩;have fX:=qqh (rN.out.step hc1 aR);clear hc1 aR;have hlt:i<n:=(by rw [← hl];exact bE (by omega));rw [wI];obtain⟨d1,d2,d3,d4⟩:=fX.out.cur.cur.step hlt;have eZ:=qqh (fX.out.step d3 d4);have WH:IntKind.i64.wrap ((i:Int)+1)=(i:Int)+1:=wrap_small _ (by omega) (by omega);have AT:=qqh (Hg.out _ (i+1) 58 eZ.out.cur.cur (by decide));clear d3 d4;cases hnd:aT L (i+1) 58 with
 | error e0=>
  obtain⟨y,p⟩:=e0;have eN:=qqh (show R=.error (y,p) from HR.out.symm.trans (I2 hnd));rw [hnd]at AT;clear hnd;go_wp2_with fail;refine AT.out.mono ?_;rintro e w9 ⟨he,bY⟩;unfold aZ at he;subst he;have eG:=qqh (eZ.out.but.trans bY);clear bY;go_wp2_with fail;rw [eN.out];exact⟨rfl,rfl,eG.out⟩
 | ok j=>
  have uW:=qqh hnd;rw [hnd]at AT;clear hnd;obtain⟨a,ha⟩:∃ a,az L j=a:=⟨_,rfl⟩;have HA:=qqh ha;clear ha;go_wp2_with fail;refine AT.out.mono ?_;rintro e w3 ⟨rfl,lG,bL⟩;have eD:=qqh (eZ.out.step lG bL);clear lG bL d1 d2;go_wp2_with fail;refine(qq.out _ j eD.out.cur.cur).mono ?_;rintro e w4 ⟨rfl,lS,hb4⟩;rw [HA.out]at lS;have gZ:=qqh (eD.out.step lS hb4);clear lS hb4;go_wp2_with fail;refine(gS.out _ a gZ.out.cur.cur).mono ?_;rintro e w5 ⟨rfl,lH,dJ⟩;have j5:=qqh (gZ.out.step lH dJ);clear lH dJ;by_cases ko:pk L a=91
  ·have yH:=qqh (fD.out _ a j5.out.cur.cur);cases hst:bH L 20 a with
   | error e0=>
    obtain⟨y,p⟩:=e0;have eN:=qqh (show R=.error (y,p) from HR.out.symm.trans (AM uW.out HA.out ko hst));rw [hst]at yH;rw [ko];clear hst ko;go_wp2_with fail;refine yH.out.mono ?_;rintro e w9 ⟨he,bY⟩;unfold aZ at he;subst he;have eG:=qqh (j5.out.but.trans bY);clear bY;go_wp2_with fail;rw [eN.out];exact⟨rfl,rfl,eG.out⟩
   | ok q=>
    obtain⟨s,k⟩:=q;have eN:=qqh (show R=.ok (⟨3,eE,s,0,cX,cX⟩,k) from HR.out.symm.trans (C5 uW.out HA.out ko hst));have hss:=(lE HL.out.ok 20 _ _ _ hst).2.size;rw [hst]at yH;rw [ko];clear hst ko;go_wp2_with fail;refine yH.out.mono ?_;rintro e w6 ⟨⟨B,m,d,rfl,hr,hd⟩,Cu,dV⟩;have Wg:=j5.out.step Cu dV;have hm:m≤maxLen:=(by have h1:=hr.1;rw [bB]at h1;unfold maxLen;omega);have kT:=qqh (show cE w6 (uI w C) 2 B m (an s) from hr.lift (fun b (h:w5.heap.size≤b)=>⟨by have:=j5.out.res.lt;omega,by have:=j5.out.cur.lt;have:=j5.out.but.1;omega⟩));have sB:=qqh Wg;have yD:=qqh (show eC w6 (uI w C) ⟨3,eE,s,0,cX,cX⟩ [.int .i64 3,.string ⟨#[]⟩,.slice B m d,.int .i64 0,.bool false,.bool false,.slice none 0 0,.slice none 0 0,.slice none 0 0,.int .i64 0,.bool false,.bool false,.slice none 0 0,.slice none 0 0,.slice none 0 0,.int .i64 0] from⟨B,m,d,[.bool false,.bool false,.slice none 0 0,.slice none 0 0,.slice none 0 0,.int .i64 0],[.bool false,.bool false,.slice none 0 0,.slice none 0 0,.slice none 0 0,.int .i64 0],rfl,kT.out,hm,j9,j9,show kG 3 from⟨by decide,by decide⟩,show kG 0 from⟨by decide,by decide⟩,Nat.zero_le _⟩);clear hr hd Cu dV Wg;obtain⟨hone,e1,e2,vI,e4⟩:=uL sB.out yD.out;have xG:=qqh e1;have wo:=qqh e2;have Lw:=qqh e4;have qY:=qqh hone;have Ra:=qqh vI;have CE:=qqh (oD.res sB.out);clear e1 e2 e4 vI hone
    go_wp2_with (refine wpList_store_row (c:=#[.int .i64 0,.string ⟨#[]⟩,.slice none 0 0,.int .i64 0,.bool false,.bool false,.slice none 0 0,.slice none 0 0,.slice none 0 0,.int .i64 0,.bool false,.bool false,.slice none 0 0,.slice none 0 0,.slice none 0 0,.int .i64 0]) (vs:=#[.int .i64 3,.string ⟨#[]⟩,.slice B m d,.int .i64 0,.bool false,.bool false,.slice none 0 0,.slice none 0 0,.slice none 0 0,.int .i64 0,.bool false,.bool false,.slice none 0 0,.slice none 0 0,.slice none 0 0,.int .i64 0]) rfl rfl jE rfl qY.out rfl rfl CE.out ?_);(try simp only [Act.put]);refine bodyPost_ret (v:=.agg #[.int .i64 3,.string ⟨#[]⟩,.slice B m d,.int .i64 0,.bool false,.bool false,.slice none 0 0,.slice none 0 0,.slice none 0 0,.int .i64 0,.bool false,.bool false,.slice none 0 0,.slice none 0 0,.slice none 0 0,.int .i64 0]) (kY Tryz.results42 rfl js jE Ra.out) rfl ?_;rw [eN.out];exact⟨⟨_,rfl,Lw.out⟩,xG.out,wo.out⟩
  have q91:(pk L a == 91)=false:=(by rw [beq_eq_false_iff_ne];exact ko);have c1:=j5.out.cur.cur.blk.cell 1;obtain⟨T,hT⟩:∃ T,gN L a=T:=⟨_,rfl⟩;have HT:=qqh hT;have j4:=qqh (show R=(if jL T=true then .ok (⟨4,T,[],0,cX,cX⟩,bk L a)else .error (7,a)) by rw [← HR.out,JI uW.out HA.out ko,hT]);clear hT;go_wp2_with fail;refine(Rm.out _ a j5.out.cur.cur (by omega)).mono ?_;rintro e w6 ⟨rfl,Cu,dV⟩;rw [HT.out];have sB:=qqh (j5.out.step Cu dV);have hts:T.size≤maxLen:=by
   rw [← HT.out];have:=vZ L a;have:=sB.out.cur.cur.le;unfold maxLen;omega
  clear Cu dV c1;go_upto_region 9 with fail;have hP:=sB.out.res.lt;have ue:=aj.new w6 103 #[.int .i64 4,.string T,.slice none 0 0,.int .i64 0,.bool false,.bool false,.slice none 0 0,.slice none 0 0,.slice none 0 0,.int .i64 0,.bool false,.bool false,.slice none 0 0,.slice none 0 0,.slice none 0 0,.int .i64 0];have j6:Below w6.heap.size w6 (w6.alloc (.cells #[.int .i64 4,.string T,.slice none 0 0,.int .i64 0,.bool false,.bool false,.slice none 0 0,.slice none 0 0,.slice none 0 0,.int .i64 0,.bool false,.bool false,.slice none 0 0,.slice none 0 0,.slice none 0 0,.int .i64 0] 103)):=(Below.refl _ _).alloc (Nat.le_refl _) _;have WI:=sB.out.below j6;have Xl:w6.heap.size<(w6.alloc (.cells #[.int .i64 4,.string T,.slice none 0 0,.int .i64 0,.bool false,.bool false,.slice none 0 0,.slice none 0 0,.slice none 0 0,.int .i64 0,.bool false,.bool false,.slice none 0 0,.slice none 0 0,.slice none 0 0,.int .i64 0] 103)).heap.size:=(by simp);generalize (w6.alloc (.cells #[.int .i64 4,.string T,.slice none 0 0,.int .i64 0,.bool false,.bool false,.slice none 0 0,.slice none 0 0,.slice none 0 0,.int .i64 0,.bool false,.bool false,.slice none 0 0,.slice none 0 0,.slice none 0 0,.int .i64 0] 103))=w7 at *;have oQ:=qqh WI;have Cn:=qqh ue;have c1:w7.cell? ⟨w6.heap.size,1,none⟩=some (.string T):=ue.cell 1;clear j6 WI ue;obtain⟨B9,Tq⟩:∃ B9,jL T=B9:=⟨_,rfl⟩;have eG:=qqh Tq;rw [Tq]at j4;clear Tq;go_cut [51] (fun v wx=>v=.bool (!B9)∧Below w7.heap.size w7 wx);case first=>
   go_region_with (first | (go_at_call 47;refine(iy _).mono ?_;rintro e w' ⟨rfl,rfl⟩) | (go_at_call 46;refine(qQ _ T _ eG.out _ (Cp (aj.new _ _ _))).mono ?_;rintro e w' ⟨rfl,rfl⟩))
   all_goals
     go_wp2_with fail
     go_meet
     exact⟨rfl,below_drewN ((Below.refl _ _).alloc (Nat.le_refl _) _) _⟩
  obtain⟨rfl,hbc⟩:=hcut;have xF:=qqh (oQ.out.below hbc);have Ry:=Cn.out.below hbc Xl;have Bh:=qqh Ry;cases B9 with
  | false=>
   have eN:=qqh (show R=.error (7,a) from j4.out);clear hbc c1 Ry;go_wp2_with fail;refine(bZ 7 a _).mono ?_;rintro e w9 ⟨rfl,rfl⟩;go_wp2_with fail;rw [eN.out];exact⟨rfl,rfl,xF.out.but⟩
  | true=>
   have eN:=qqh (show R=.ok (⟨4,T,[],0,cX,cX⟩,bk L a) from j4.out);have YR:=xF.out;have yD:=qqh (show eC wc (uI w C) ⟨4,T,[],0,cX,cX⟩ [.int .i64 4,.string T,.slice none 0 0,.int .i64 0,.bool false,.bool false,.slice none 0 0,.slice none 0 0,.slice none 0 0,.int .i64 0,.bool false,.bool false,.slice none 0 0,.slice none 0 0,.slice none 0 0,.int .i64 0] from⟨none,0,0,[.bool false,.bool false,.slice none 0 0,.slice none 0 0,.slice none 0 0,.int .i64 0],[.bool false,.bool false,.slice none 0 0,.slice none 0 0,.slice none 0 0,.int .i64 0],rfl,cE.nil 2,Nat.zero_le _,j9,j9,show kG 4 from⟨by decide,by decide⟩,show kG 0 from⟨by decide,by decide⟩,hts⟩);clear hbc YR c1;obtain⟨hone,e1,e2,vI,e4⟩:=uL xF.out yD.out;have xG:=qqh e1;have wo:=qqh e2;have Lw:=qqh e4;have qY:=qqh hone;have Ra:=qqh vI;have CE:=qqh (oD.res xF.out);have UY:=qqh Ry;clear e1 e2 e4 vI hone;go_wp2_with (first | (refine wpList_load_row (cs:=#[.int .i64 4,.string T,.slice none 0 0,.int .i64 0,.bool false,.bool false,.slice none 0 0,.slice none 0 0,.slice none 0 0,.int .i64 0,.bool false,.bool false,.slice none 0 0,.slice none 0 0,.slice none 0 0,.int .i64 0]) rfl rfl js jE rfl UY.out ?_) | (refine wpList_store_row (c:=#[.int .i64 0,.string ⟨#[]⟩,.slice none 0 0,.int .i64 0,.bool false,.bool false,.slice none 0 0,.slice none 0 0,.slice none 0 0,.int .i64 0,.bool false,.bool false,.slice none 0 0,.slice none 0 0,.slice none 0 0,.int .i64 0]) (vs:=#[.int .i64 4,.string T,.slice none 0 0,.int .i64 0,.bool false,.bool false,.slice none 0 0,.slice none 0 0,.slice none 0 0,.int .i64 0,.bool false,.bool false,.slice none 0 0,.slice none 0 0,.slice none 0 0,.int .i64 0]) rfl rfl jE rfl qY.out rfl rfl CE.out ?_));(try simp only [Act.put])
   refine bodyPost_ret (v:=.agg #[.int .i64 4,.string T,.slice none 0 0,.int .i64 0,.bool false,.bool false,.slice none 0 0,.slice none 0 0,.slice none 0 0,.int .i64 0,.bool false,.bool false,.slice none 0 0,.slice none 0 0,.slice none 0 0,.int .i64 0]) (kY Tryz.results42 rfl js jE Ra.out) rfl ?_;rw [eN.out];exact⟨⟨_,rfl,Lw.out⟩,xG.out,wo.out⟩
theorem AJ {L:List Int} {i:Nat} {e:Int × Nat} (h:gn L (i+1)=.error e):nH L i=.error e:=by unfold nH;rw [h]
theorem AD {L:List Int} {i j:Nat} {s:ByteArray} {e:Int × Nat} (h:gn L (i+1)=.ok (s,j)) (h2:aT L (az L j) 61=.error e):nH L i=.error e:=by unfold nH;rw [h];simp only;rw [h2]
theorem BO {L:List Int} {i j k:Nat} {s:ByteArray} {e:Int × Nat} (h:gn L (i+1)=.ok (s,j)) (h2:aT L (az L j) 61=.ok k) (h3:bH L 20 (az L k)=.error e):nH L i=.error e:=by unfold nH;rw [h];simp only;rw [h2];simp only;rw [h3]
theorem Td {L:List Int} {i j k m:Nat} {s:ByteArray} {t:af} (h:gn L (i+1)=.ok (s,j)) (h2:aT L (az L j) 61=.ok k) (h3:bH L 20 (az L k)=.ok (t,m)):nH L i=.ok (⟨1,s,t,0,cX,cX⟩,m):=by unfold nH;rw [h];simp only;rw [h2];simp only;rw [h3]
theorem Di (w:World) (C:Nat) (A:Option Addr) (n c:Nat) (L:List Int) (i:Nat) (h:ax w C A n c L i) (hL:fU L) (hn:n≤100000) (kW:pk L i=36) (hv:M3 L i=true) :
    Calls Tryz.prog 42 #[.pointer (some ⟨C,0,none⟩)] w (sK w C A n c L (nH L i)):=by
 have hl:=h.len;have HL:=qqh hL;have gS:=qqh (fun(W:World) (m:Nat) (h:ax W C A n c L m)=>cT W C A n c L m h);have qq:=qqh (fun(W:World) (m:Nat) (h:ax W C A n c L m)=>ju W C A n c L m h);have Hg:=qqh (fun(W:World) (m:Nat) (r:Int) (h:ax W C A n c L m) (hr:r ≠ -1)=>fk W C A n c L m r h hr);have fD:=qqh (fun(W:World) (m:Nat) (h:ax W C A n c L m)=>uN 20 1 W C A n c L m rfl (by decide) h hL hn);have Rm:=qqh (fun(W:World) (m:Nat) (h:ax W C A n c L m) (h0:0<n)=>rm W C A n c L m h h0);have hi:=h.le;have rN:=qqh (vv w C A n c L i h);obtain⟨R,hR⟩:∃ R,nH L i=R:=⟨_,rfl⟩;rw [hR];have HR:=qqh hR;clear h hL hR;go_enter Tryz.func42,Tryz.ntmps42;go_wp2_with fail;refine(gS.out _ i rN.out.cur.cur).mono ?_;rintro e w1 ⟨rfl,hc1,aR⟩;have fX:=qqh (rN.out.step hc1 aR);clear hc1 aR;have hlt:i<n:=(by rw [← hl];exact bE (by omega));have HVR:=qqh (fun(W:World) (h:ax W C A n c L i)=>show Calls Tryz.prog 70 #[.pointer (some ⟨C,0,none⟩)] W fun e w'=>e=.returned (.bool true)∧Below W.heap.size W w' by have:=tG W C A n c L i h hlt;rwa [hv]at this);rw [kW]
 go_upto_if 63 with (first
   | (go_at_call 41;refine(gS.out _ i fX.out.cur.cur).mono ?_;rintro e w2 ⟨rfl,hc2,aU⟩;rw [kW])
   | (go_at_call 70;refine(HVR.out _ (by assumption)).mono ?_;rintro e w3 ⟨rfl,bL⟩))
 have eD:=qqh ((fX.out.step hc2 aU).below bL);clear hc2 aU bL;obtain⟨d1,d2,d3,d4⟩:=eD.out.cur.cur.step hlt;have gZ:=qqh (eD.out.step d3 d4);have WH:IntKind.i64.wrap ((i:Int)+1)=(i:Int)+1:=wrap_small _ (by omega) (by omega);have F8:=qqh (GA _ C A n c L (i+1) gZ.out.cur.cur (by omega));clear d3 d4;cases hnm:gn L (i+1)with
 | error e0=>
  obtain⟨y,p⟩:=e0;have eN:=qqh (show R=.error (y,p) from HR.out.symm.trans (AJ hnm));rw [hnm]at F8;clear hnm;go_wp2_with fail;refine F8.out.mono ?_;rintro e w9 ⟨he,bY⟩;unfold aZ at he;subst he;have eG:=qqh (gZ.out.but.trans bY);clear bY;go_wp2_with fail;rw [eN.out];exact⟨rfl,rfl,eG.out⟩
 | ok q=>
  obtain⟨T,j⟩:=q;have uW:=qqh hnm;have hts:T.size≤maxLen:=by
   have h1:=(kR hnm).2.2.1;have h2:=vZ L (i+1);have h3:=gZ.out.cur.cur.le;rw [← h1]at h2;unfold maxLen;omega
  rw [hnm]at F8;clear hnm;obtain⟨a,ha⟩:∃ a,az L j=a:=⟨_,rfl⟩;have HA:=qqh ha;clear ha;go_wp2_with fail;refine F8.out.mono ?_;rintro e w5 ⟨rfl,lH,dJ⟩;have j5:=qqh (gZ.out.step lH dJ);clear lH dJ d1 d2;have hP:=j5.out.res.lt;have Se:w5.heap.size≠C:=(by have:=j5.out.cur.lt;have:=j5.out.but.1;omega);have ue:=aj.new w5 103 #[.int .i64 1,.string T,.slice none 0 0,.int .i64 0,.bool false,.bool false,.slice none 0 0,.slice none 0 0,.slice none 0 0,.int .i64 0,.bool false,.bool false,.slice none 0 0,.slice none 0 0,.slice none 0 0,.int .i64 0];have j6:Below w5.heap.size w5 (w5.alloc (.cells #[.int .i64 1,.string T,.slice none 0 0,.int .i64 0,.bool false,.bool false,.slice none 0 0,.slice none 0 0,.slice none 0 0,.int .i64 0,.bool false,.bool false,.slice none 0 0,.slice none 0 0,.slice none 0 0,.int .i64 0] 103)):=(Below.refl _ _).alloc (Nat.le_refl _) _;have sB:=qqh (j5.out.below j6);have Cn:=qqh ue;clear j6 ue;go_wp2_with fail;refine(qq.out _ j sB.out.cur.cur).mono ?_;rintro e w7 ⟨rfl,qK,gG⟩;rw [HA.out]at qK;have oQ:=qqh (sB.out.step qK gG);have abU:=qqh (mg Cn.out gG Se);clear qK gG;have Ev:=qqh (Hg.out _ a 61 oQ.out.cur.cur (by decide));cases hnd:aT L a 61 with
  | error e0=>
   obtain⟨y,p⟩:=e0;have eN:=qqh (show R=.error (y,p) from HR.out.symm.trans (AD uW.out (by rw [HA.out];exact hnd)));rw [hnd]at Ev;clear hnd;go_wp2_with fail;refine Ev.out.mono ?_;rintro e w9 ⟨he,bY⟩;unfold aZ at he;subst he;have eG:=qqh (oQ.out.but.trans bY);clear bY;go_wp2_with fail;rw [eN.out];exact⟨rfl,rfl,eG.out⟩
  | ok k=>
   have XK:=qqh (show aT L (az L j) 61=.ok k by rw [HA.out];exact hnd);rw [hnd]at Ev;clear hnd;obtain⟨b,hb⟩:∃ b,az L k=b:=⟨_,rfl⟩;have HB:=qqh hb;clear hb;go_wp2_with fail;refine Ev.out.mono ?_;rintro e w8 ⟨rfl,GI,fI⟩;have xF:=qqh (oQ.out.step GI fI);have Bh:=qqh (mg abU.out fI Se);clear GI fI;go_wp2_with fail;refine(qq.out _ k xF.out.cur.cur).mono ?_;rintro e w9 ⟨rfl,FC,bY⟩;rw [HB.out]at FC;have nj:=qqh (xF.out.step FC bY);have Pw:=qqh (mg Bh.out bY Se);clear FC bY;have yH:=qqh (fD.out _ b nj.out.cur.cur);cases hst:bH L 20 b with
   | error e0=>
    obtain⟨y,p⟩:=e0;have eN:=qqh (show R=.error (y,p) from HR.out.symm.trans (BO uW.out XK.out (by rw [HB.out];exact hst)));rw [hst]at yH;clear hst;go_wp2_with fail;refine yH.out.mono ?_;rintro e wz ⟨he,hbz⟩;unfold aZ at he;subst he;have UJ:=qqh (nj.out.but.trans hbz);clear hbz;go_wp2_with fail;rw [eN.out];exact⟨rfl,rfl,UJ.out⟩
   | ok q=>
    obtain⟨s,m0⟩:=q;have eN:=qqh (show R=.ok (⟨1,T,s,0,cX,cX⟩,m0) from HR.out.symm.trans (Td uW.out XK.out (by rw [HB.out];exact hst)));have hss:=(lE HL.out.ok 20 _ _ _ hst).2.size;rw [hst]at yH;clear hst;go_wp2_with fail;refine yH.out.mono ?_;rintro e Kn ⟨⟨B,m,d,rfl,hr,hd⟩,Wk,Du⟩;have Xk:=nj.out.step Wk Du;have OP:=mg Pw.out Du Se;have hm:m≤maxLen:=(by have h1:=hr.1;rw [bB]at h1;unfold maxLen;omega);have Cj:=Pw.out.lt;have x2:=OP.cell 2;have z2:=OP.frozen 2;have Jn:=qqh (Xk.put hP 2 (.slice B m d));have QB:=qqh (show aj (Kn.setCell ⟨w5.heap.size,2,none⟩ (.slice B m d)) w5.heap.size 103 #[.int .i64 1,.string T,.slice B m d,.int .i64 0,.bool false,.bool false,.slice none 0 0,.slice none 0 0,.slice none 0 0,.int .i64 0,.bool false,.bool false,.slice none 0 0,.slice none 0 0,.slice none 0 0,.int .i64 0] from OP.put 2 _);have hrd:cE Kn (fun b=>uI w C b∧b≠w5.heap.size) 2 B m (an s):=hr.lift (fun b (h:w9.heap.size≤b)=>⟨⟨by have:=nj.out.res.lt;omega,by have:=nj.out.cur.lt;have:=nj.out.but.1;omega⟩,by omega⟩);have kT:=qqh (hrd.keep (aa.setCell (p:=⟨w5.heap.size,2,none⟩) (X':=uI w C) (.slice B m d) (fun b hb=>hb.2) (fun b hb _=>hb.1)))
    have yD:=qqh (show eC (Kn.setCell ⟨w5.heap.size,2,none⟩ (.slice B m d)) (uI w C) ⟨1,T,s,0,cX,cX⟩ [.int .i64 1,.string T,.slice B m d,.int .i64 0,.bool false,.bool false,.slice none 0 0,.slice none 0 0,.slice none 0 0,.int .i64 0,.bool false,.bool false,.slice none 0 0,.slice none 0 0,.slice none 0 0,.int .i64 0] from⟨B,m,d,[.bool false,.bool false,.slice none 0 0,.slice none 0 0,.slice none 0 0,.int .i64 0],[.bool false,.bool false,.slice none 0 0,.slice none 0 0,.slice none 0 0,.int .i64 0],rfl,kT.out,hm,j9,j9,show kG 1 from⟨by decide,by decide⟩,show kG 0 from⟨by decide,by decide⟩,hts⟩);clear hr hd Wk Du Xk OP hrd;go_upto_region 19 with fail;have Wz:=Jn.out;have X6:=QB.out;have Ye:=yD.out;clear Jn QB yD kT x2 z2;generalize Kn.setCell ⟨w5.heap.size,2,none⟩ (.slice B m d)=w11 at *;obtain⟨hone,e1,e2,vI,e4⟩:=uL Wz Ye;have xG:=qqh e1;have wo:=qqh e2;have Lw:=qqh e4;have qY:=qqh hone;have Ra:=qqh vI;have CE:=qqh (oD.res Wz);have UY:=qqh X6;clear e1 e2 e4 vI hone
    go_wp2_with (first | (refine wpList_load_row (cs:=#[.int .i64 1,.string T,.slice B m d,.int .i64 0,.bool false,.bool false,.slice none 0 0,.slice none 0 0,.slice none 0 0,.int .i64 0,.bool false,.bool false,.slice none 0 0,.slice none 0 0,.slice none 0 0,.int .i64 0]) rfl rfl js jE rfl UY.out ?_) | (refine wpList_store_row (c:=#[.int .i64 0,.string ⟨#[]⟩,.slice none 0 0,.int .i64 0,.bool false,.bool false,.slice none 0 0,.slice none 0 0,.slice none 0 0,.int .i64 0,.bool false,.bool false,.slice none 0 0,.slice none 0 0,.slice none 0 0,.int .i64 0]) (vs:=#[.int .i64 1,.string T,.slice B m d,.int .i64 0,.bool false,.bool false,.slice none 0 0,.slice none 0 0,.slice none 0 0,.int .i64 0,.bool false,.bool false,.slice none 0 0,.slice none 0 0,.slice none 0 0,.int .i64 0]) rfl rfl jE rfl qY.out rfl rfl CE.out ?_));(try simp only [Act.put]);refine bodyPost_ret (v:=.agg #[.int .i64 1,.string T,.slice B m d,.int .i64 0,.bool false,.bool false,.slice none 0 0,.slice none 0 0,.slice none 0 0,.int .i64 0,.bool false,.bool false,.slice none 0 0,.slice none 0 0,.slice none 0 0,.int .i64 0]) (kY Tryz.results42 rfl js jE Ra.out) rfl ?_;rw [eN.out];exact⟨⟨_,rfl,Lw.out⟩,xG.out,wo.out⟩
end Go.Proofs.YtkggjgeihhialaaGreatDoor
