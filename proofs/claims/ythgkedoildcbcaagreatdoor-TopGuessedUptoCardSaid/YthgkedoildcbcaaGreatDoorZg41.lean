/- SynRead + RulesNum + RulesRight + RdPartFr + RdPartA + RdPartB -/
import Derived.Test.YthgkedoildcbcaaGreatDoorZg39
import Derived.Test.YthgkedoildcbcaaGreatDoorZg33
import Derived.Test.YthgkedoildcbcaaGreatDoorZg6
import Derived.Test.YthgkedoildcbcaaGreatDoorZg13
import Derived.Test.YthgkedoildcbcaaGreatDoorZg18
import Derived.Test.YthgkedoildcbcaaGreatDoorZg40
import Derived.Test.YthgkedoildcbcaaGreatDoorZg11
import Derived.Test.YthgkedoildcbcaaGreatDoorZg22
set_option maxHeartbeats 12800000
set_option maxRecDepth 100000
namespace Go.Proofs.YthgkedoildcbcaaGreatDoor
open Go.RowKit
theorem zi {w:World} {R F m:Nat} {v:Value} {x p:Int} {tR tF:TypeId} (hR:ai w R tR #[v]) (hF:ai w F tF #[.int .i64 x,.int .i64 p]) (hne:R≠F) :
    ai ((((w.drewN m).setCell ⟨R,0,none⟩ v).setCell ⟨F,0,none⟩ (.int .i64 x)).setCell ⟨F,1,none⟩ (.int .i64 p)) R tR #[v]∧ai ((((w.drewN m).setCell ⟨R,0,none⟩ v).setCell ⟨F,0,none⟩ (.int .i64 x)).setCell ⟨F,1,none⟩ (.int .i64 p)) F tF #[.int .i64 x,.int .i64 p] ∧
      ∀ B,B≤R→B≤F→B≤w.heap.size→Below B w ((((w.drewN m).setCell ⟨R,0,none⟩ v).setCell ⟨F,0,none⟩ (.int .i64 x)).setCell ⟨F,1,none⟩ (.int .i64 p)) ∧
        aa w (fun b=>b≠R∧b≠F) ((((w.drewN m).setCell ⟨R,0,none⟩ v).setCell ⟨F,0,none⟩ (.int .i64 x)).setCell ⟨F,1,none⟩ (.int .i64 p)) (fun b=>b≠R∧b≠F):=by
 have h1:ai ((w.drewN m).setCell ⟨R,0,none⟩ v) R tR #[v]:=(hR.drewN m).put 0 v;have b1:=bJ.set (w.drewN m) R 0 v;have g1:ai ((w.drewN m).setCell ⟨R,0,none⟩ v) F tF #[.int .i64 x,.int .i64 p]:=(b1.2.2.2.2 F (hF.drewN m).lt (Ne.symm hne)).trans (hF.drewN m);have b2:=bJ.set ((w.drewN m).setCell ⟨R,0,none⟩ v) F 0 (.int .i64 x);have g2:ai (((w.drewN m).setCell ⟨R,0,none⟩ v).setCell ⟨F,0,none⟩ (.int .i64 x)) F tF #[.int .i64 x,.int .i64 p]:=g1.put 0 _;have h2:ai (((w.drewN m).setCell ⟨R,0,none⟩ v).setCell ⟨F,0,none⟩ (.int .i64 x)) R tR #[v]:=(b2.2.2.2.2 R h1.lt hne).trans h1;have b3:=bJ.set (((w.drewN m).setCell ⟨R,0,none⟩ v).setCell ⟨F,0,none⟩ (.int .i64 x)) F 1 (.int .i64 p);refine⟨(b3.2.2.2.2 R h2.lt hne).trans h2,g2.put 1 _,fun B hR hF hw=>⟨?_,?_⟩⟩;exact((below_drewN (Below.refl B w) m).trans (b1.to (show B≤(w.drewN m).heap.size from hw) hR)).trans ((b2.to (Nat.le_trans hw b1.1) hF).trans (b3.to (Nat.le_trans (Nat.le_trans hw b1.1) b2.1) hF));exact(((aa.below (below_drewN (Below.refl _ w) m) (fun b h _=>h)).trans (b1.keeps (X':=fun b=>b≠R∧b≠F) (fun b h=>h.1) (fun b h _=>h))).trans (b2.keeps (X':=fun b=>b≠R∧b≠F) (fun b h=>h.2) (fun b h _=>h))).trans (b3.keeps (fun b h=>h.2) (fun b h _=>h))
def gh {α:Type} (r:jN α):Prop:=∀ e p,r=.error (e,p)→e≠0
theorem gD {L:List Int} {i:Nat} {r:Int} {e:Int} {p:Nat} (h:aQ L i r=.error (e,p)):e≠0:=by
 unfold aQ at h;split at h
 ·cases h
 injection h with h;injection h with h1 h2;omega
theorem Lk (L:List Int) (i:Nat):gh (ki L i):=by
 intro e p h;unfold ki at h;cases h1:aQ L (i+1) 123 with
 | error x=>obtain⟨x1,x2⟩:=x;rw [h1]at h;simp only at h;injection h with h;injection h with h3 h4;subst h3;exact gD h1
 | ok a=>
  rw [h1]at h;simp only at h;split at h
  ·injection h with h;injection h with h1 h2;omega
  cases h2:aQ L (aB eJ L a) 125 with
  | error x=>obtain⟨x1,x2⟩:=x;rw [h2]at h;simp only at h;injection h with h;injection h with h3 h4;subst h3;exact gD h2
  | ok k=>
   rw [h2]at h;simp only at h;split at h
   ·injection h with h;injection h with h1 h2;omega
   cases h
theorem si (L:List Int) (i:Nat):gh (cQ L i):=by
 intro e p h;unfold cQ at h;(repeat' (split at h));(any_goals (cases h;done));(any_goals (injection h with h;injection h with h1 h2;omega));exact Lk _ _ _ _ h
theorem Iv (L:List Int) (i:Nat):gh (i6 L i):=by
 intro e p h;unfold i6 at h;cases h1:cQ L i with
 | error x=>obtain⟨x1,x2⟩:=x;rw [h1]at h;simp only at h;injection h with h;injection h with h3 h4;subst h3;exact si _ _ _ _ h1
 | ok q=>
  obtain⟨a,j⟩:=q;rw [h1]at h;simp only at h;split at h
  ·cases h2:cQ L (j+1)with
   | error x=>obtain⟨x1,x2⟩:=x;rw [h2]at h;simp only at h;injection h with h;injection h with h3 h4;subst h3;exact si _ _ _ _ h2
   | ok q=>
    obtain⟨b,k⟩:=q;rw [h2]at h;simp only at h;split at h
    ·injection h with h;injection h with h1 h2;omega
    cases h
  cases h
theorem Eg (L:List Int) (i:Nat):gh (eE L i):=by
 intro e p h;unfold eE at h;split at h
 ·injection h with h;injection h with h1 h2;omega
 split at h
 ·rename_i h1;cases h;exact gD h1
 split at h
 ·rename_i h1;cases h;exact gD h1
 cases h
theorem Ii {inner:Nat→jN af} (hi:∀ i,gh (inner i)) (L:List Int) (i:Nat):gh (dh inner L i):=by
 intro e p h;unfold dh at h;split at h;exact Eg _ _ _ _ h;split at h;exact hi _ _ _ h;split at h;exact hi _ _ _ h;split at h
 ·rename_i h1;cases h;exact Iv _ _ _ _ h1
 cases h
theorem DZ {inner:Nat→jN af} (hi:∀ i,gh (inner i)) (L:List Int):∀ f i s,gh (dL inner L f i s):=by
 intro f;induction f with
 | zero=>intro i s e p h;unfold dL at h;injection h with h;injection h with h1 h2;omega
 | succ f ih=>
  intro i s e p h;rw [dL]at h;split at h
  ·cases h
  split at h
  ·rename_i h1;cases h;exact Ii hi _ _ _ _ h1
  split at h
  ·rename_i h1;injection h with h;injection h with h2 h3;subst h2;exact h1
  exact ih _ _ _ _ h
theorem uA (L:List Int):∀ n i,gh (bE L n i):=by
 intro n;induction n with
 | zero=>intro i e p h;unfold bE at h;injection h with h;injection h with h1 h2;split at h1 <;> omega
 | succ n ih=>
  intro i e p h;rw [bE]at h;split at h
  ·rename_i h1;cases h;exact gD h1
  split at h
  ·rename_i h1;cases h;exact DZ ih _ _ _ _ _ _ h1
  split at h
  ·split at h
   ·rename_i h1;injection h with h;injection h with h2 h3;subst h2;exact h1
   cases h
  cases h
theorem zc (L:List Int) (i:Nat):gh (fX L i):=by
 intro e p h;unfold fX at h;split at h
 ·cases h
 injection h with h;injection h with h1 h2;omega
theorem Bn (L:List Int) (i:Nat):gh (fV L i):=by
 intro e p h;unfold fV at h;split at h
 ·cases h
 injection h with h;injection h with h1 h2;omega
theorem GK (L:List Int) (a:Nat) (out:List aG) (cur:Int) (e:Int) (p:Nat) (h:bY L a out cur=.error (e,p)):e≠0:=by
 unfold bY at h;split at h
 ·split at h
  ·injection h with h;injection h with h1 h2;omega
  cases h
 split at h
 ·split at h
  ·rename_i h1;injection h with h;subst h;exact uA L 20 a _ _ h1
  cases h
 split at h
 ·split at h
  ·rename_i h1;injection h with h;subst h;exact zc L _ _ _ h1
  cases h
 split at h
 ·split at h
  ·rename_i h1;injection h with h;subst h;exact Bn L _ _ _ h1
  cases h
 split at h
 ·split at h
  ·rename_i h1;injection h with h;subst h;exact si L _ _ _ h1
  split at h
  ·cases h
  injection h with h;injection h with h1 h2;omega
 cases h
theorem oY (L:List Int):∀ f i out cur,gh (cF L f i out cur):=by
 intro f;induction f with
 | zero=>intro i out cur e p h;rw [cF]at h;injection h with h;injection h with h1 h2;omega
 | succ f ih=>
  intro i out cur e p h;rw [cF]at h;split at h
  ·rename_i h1;injection h with h;subst h;exact GK L _ _ _ _ _ h1
  ·cases h
  split at h
  ·injection h with h;injection h with h1 h2;omega
  exact ih _ _ _ _ _ h
theorem Jb (L:List Int) (st:Bool) (a:Nat):gh (dG L st a):=by
 intro e p h;unfold dG at h;split at h
 ·rename_i h1;injection h with h;subst h;exact oY L _ _ _ _ _ _ h1
 split at h
 ·split at h
  ·injection h with h;injection h with h1 h2;omega
  split at h
  ·rename_i h1;injection h with h;subst h;exact oY L _ _ _ _ _ _ h1
  cases h
 split at h
 ·injection h with h;injection h with h1 h2;omega
 cases h
theorem Gu (L:List Int) (a:Nat):gh (dX L a):=by
 intro e p h;unfold dX at h;split at h
 ·split at h
  ·rename_i h1;injection h with h;subst h;exact oY L _ _ _ _ _ _ h1
  split at h
  ·injection h with h;injection h with h1 h2;omega
  split at h <;> cases h
 cases h
theorem yq (L:List Int) (i:Nat):gh (dB L i):=by
 intro e p h;unfold dB at h;split at h
 ·rename_i h1;injection h with h;subst h;exact Jb L _ _ _ _ h1
 split at h
 ·rename_i h1;injection h with h;subst h;exact Gu L _ _ _ h1
 cases h
theorem E8 (L:List Int) (i:Nat):gh (eG L i):=by
 intro e p h;unfold eG at h;split at h
 ·cases h
 split at h
 ·cases h
 split at h
 ·rename_i h1;injection h with h;subst h;exact gD h1
 cases h
theorem Ih (L:List Int) (i:Nat):gh (iQ L i):=by
 intro e p h;unfold iQ at h;split at h
 ·unfold iP at h;split at h
  ·rename_i h1;injection h with h;subst h;exact gD h1
  split at h
  ·split at h
   ·rename_i h1;injection h with h;subst h;exact uA L 20 _ _ _ h1
   cases h
  split at h
  ·cases h
  injection h with h;injection h with h1 h2;omega
 split at h
 ·unfold mY at h;split at h
  ·rename_i h1;injection h with h;subst h;exact zc L _ _ _ h1
  split at h
  ·rename_i h1;injection h with h;subst h;exact gD h1
  split at h
  ·rename_i h1;injection h with h;subst h;exact uA L 20 _ _ _ h1
  cases h
 unfold iK at h;split at h
 ·rename_i h1;injection h with h;subst h;exact yq L _ _ _ h1
 split at h
 ·rename_i h1;injection h with h;subst h;exact E8 L _ _ _ h1
 split at h
 ·rename_i h1;injection h with h;subst h;exact yq L _ _ _ h1
 split at h
 ·rename_i h1;injection h with h;injection h with h2 h3;subst h2;exact h1
 cases h
theorem Gw (L:List Int):∀ f i l (e:Int) (p:Nat),fS L f i l=.error (e,p)→e≠0:=by
 intro f;induction f with
 | zero=>intro i l e p h;rw [fS]at h;injection h with h;injection h with h1 h2;omega
 | succ f ih=>
  intro i l e p h;rw [fS]at h;split at h
  ·cases h
  split at h
  ·injection h with h;injection h with h1 h2;omega
  split at h
  ·rename_i h1;injection h with h;subst h;exact Ih L _ _ _ h1
  split at h
  ·rename_i h1;injection h with h;subst h;exact gD h1
  exact ih _ _ _ _ h
theorem sD {L:List Int} (h:16000<L.length):gU L=([],(4,0)):=by unfold gU;rw [if_pos h]
theorem wD {L:List Int} {e:Int} {p:Nat} (h:¬ 16000<L.length) (h2:fS L (L.length+1) 0 [] = .error (e,p)):gU L=([],(e,(p:Int))):=by unfold gU;rw [if_neg h,h2]
theorem yO {L:List Int} {l:List aH} (h:¬ 16000<L.length) (h2:fS L (L.length+1) 0 [] = .ok l):gU L=(l,(0,0)):=by unfold gU;rw [if_neg h,h2]
def Dc (a:aG):Prop:=BC a=a∧(a.kind=1∨a.kind=2∨a.kind=3)∧a.name.size≤20
theorem Gx {L:List Int} {a:Nat} {out o:List aG} {cur c:Int} {j:Nat} (h:bY L a out cur=.ok (some ((o,c),j))) (ho:∀ x∈out,Dc x):∀ x∈o,Dc x:=by
 have push:∀ (l:List aG),(∀ x∈l,Dc x)→∀ x∈out++l,Dc x:=by
  intro l hl x hx;rcases List.mem_append.1 hx with hx | hx;exact ho x hx;exact hl x hx
 have rune:∀ x,Dc (lH x):=fun x=>⟨rfl,.inl rfl,Nat.zero_le _⟩;unfold bY at h;split at h
 ·split at h
  ·cases h
  injection h with h;injection h with h;injection h with h1 h2;injection h1 with h1 h3;subst h1;exact ho
 split at h
 ·split at h
  ·cases h
  injection h with h;injection h with h;injection h with h1 h2;injection h1 with h1 h3;subst h1;exact push _ (fun x hx=>by rw [List.mem_singleton.1 hx];exact⟨rfl,.inr (.inl rfl),Nat.zero_le _⟩)
 split at h
 ·split at h
  ·cases h
  rename_i hn;injection h with h;injection h with h;injection h with h1 h2;injection h1 with h1 h3;subst h1;exact push _ (fun x hx=>by rw [List.mem_singleton.1 hx];exact⟨rfl,.inr (.inr rfl),Ho (j9 hn).2.1⟩)
 split at h
 ·split at h
  ·cases h
  rename_i hq;injection h with h;injection h with h;injection h with h1 h2;injection h1 with h1 h3;subst h1;unfold fV at hq;split at hq
  ·injection hq with hq;injection hq with hq F9;subst hq;refine push _ (fun x hx=>?_);obtain⟨y,_,rfl⟩:=List.mem_map.1 hx;exact rune y
  cases hq
 split at h
 ·split at h
  ·cases h
  split at h
  ·injection h with h;injection h with h;injection h with h1 h2;injection h1 with h1 h3;subst h1;exact push _ (fun x hx=>by rw [List.mem_singleton.1 hx];exact rune _)
  cases h
 injection h with h;cases h
theorem CB {L:List Int}:∀ (f i:Nat) (out:List aG) (cur:Int) (v:List aG × Int) (j:Nat),(∀ x∈out,Dc x)→cF L f i out cur=.ok (v,j)→∀ x∈v.1,Dc x:=by
 intro f;induction f with
 | zero=>intro i out cur v j _ h;rw [cF]at h;cases h
 | succ f ih=>
  intro i out cur v j ho h;rw [cF]at h;cases he:bY L (ay L i) out cur with
  | error e=>rw [he]at h;cases h
  | ok q=>
   rw [he]at h;cases q with
   | none=>simp only at h;injection h with h;injection h with h1 h2;subst h1;exact ho
   | some q=>
    obtain⟨⟨o,c⟩,k⟩:=q;simp only at h;split at h
    ·cases h
    exact ih _ _ _ _ _ (Gx he ho) h
theorem je {L:List Int} {i:Nat} {v:List aG × Int} {j:Nat} (h:cn L i=.ok (v,j)):∀ x∈v.1,Dc x:=CB _ _ _ _ _ _ (by simp) h
def Sk (s:bQ):Prop:=(∀ x∈s.before,Dc x)∧(∀ x∈s.source,Dc x)∧∀ x∈s.after,Dc x
theorem uU {l:List aG} (h:∀ x∈l,Dc x):l.map BC=l:=by
 induction l with
 | nil=>rfl
 | cons a l ih=>rw [List.map_cons,(h a List.mem_cons_self).1,ih (fun x hx=>h x (List.mem_cons_of_mem _ hx))]
theorem Sk.bare {s:bQ} (h:Sk s):FN s=s:=by
 unfold FN;rw [uU h.1,uU h.2.1,uU h.2.2]
theorem pg {L:List Int} {i:Nat} {v:bQ} {j:Nat} (h:dB L i=.ok (v,j)):Sk v:=by
 have nil:∀ x∈([]:List aG),Dc x:=(by simp);unfold dB at h;cases hh:dG L (decide (pk L (ay L i)=94)) (if pk L (ay L i)=94 then ay L i+1 else ay L i)with
 | error e=>rw [hh]at h;cases h
 | ok q=>
  obtain⟨⟨b,s,c⟩,j1⟩:=q;rw [hh]at h;simp only at h;have h1:(∀ x∈b,Dc x)∧∀ x∈s,Dc x:=by
   unfold dG at hh;cases hi:cn L (if pk L (ay L i)=94 then ay L i+1 else ay L i)with
   | error e=>rw [hi]at hh;cases hh
   | ok q=>
    obtain⟨⟨l,c1⟩,j2⟩:=q;rw [hi]at hh;simp only at hh;split at hh
    ·split at hh
     ·cases hh
     cases hi2:cn L (j2+1)with
     | error e=>rw [hi2]at hh;cases hh
     | ok q=>
      obtain⟨⟨l2,c2⟩,j3⟩:=q;rw [hi2]at hh;simp only at hh;injection hh with hh;injection hh with hh Xf;injection hh with Ml NL;injection NL with Ti PB;subst Ml Ti;exact⟨je hi,je hi2⟩
    split at hh
    ·cases hh
    injection hh with hh;injection hh with hh Xf;injection hh with Ml NL;injection NL with Ti PB;subst Ml Ti;exact⟨nil,je hi⟩
  cases ht:dX L j1 with
  | error e=>rw [ht]at h;cases h
  | ok q=>
   obtain⟨⟨a,fin⟩,k⟩:=q;have h2:∀ x∈a,Dc x:=by
    unfold dX at ht;split at ht
    ·cases hi:cn L (j1+1)with
     | error e=>rw [hi]at ht;cases ht
     | ok q=>
      obtain⟨⟨l,c1⟩,j2⟩:=q;rw [hi]at ht;simp only at ht;split at ht
      ·cases ht
      split at ht
      ·injection ht with ht;injection ht with ht1 ht2;injection ht1 with VG YD;subst VG;exact je hi
      injection ht with ht;injection ht with ht1 ht2;injection ht1 with VG YD;subst VG;exact je hi
    injection ht with ht;injection ht with ht1 ht2;injection ht1 with VG YD;subst VG;exact nil
   rw [ht]at h;simp only at h;injection h with h;injection h with h3 h4;subst h3;exact⟨h1.1,h1.2,h2⟩
def WC (p:aH):Prop:=fG p=0∧OU p=p∧Sk p.left∧Sk p.right
theorem gZ:Sk cM:=⟨by simp [cM],by simp [cM],by simp [cM]⟩
theorem ED {L:List Int} (hL:b8 L) {i:Nat} {v:aH} {j:Nat} (h:iQ L i=.ok (v,j)):WC v:=by
 unfold iQ at h;split at h
 ·unfold iP at h;split at h
  ·cases h
  split at h
  ·split at h
   ·cases h
   rename_i hs;injection h with h;injection h with h1 h2;subst h1;exact⟨gH (kR hL 20 _ _ _ hs).2,rfl,gZ,gZ⟩
  split at h
  ·rename_i hb;injection h with h;injection h with h1 h2;subst h1;refine⟨?_,rfl,gZ,gZ⟩;unfold fG;rw [if_neg (show ¬((4:Int)=1) by decide),if_neg (show ¬((4:Int)=3) by decide),if_pos rfl,if_pos hb]
  cases h
 split at h
 ·unfold mY at h;split at h
  ·cases h
  rename_i hn;split at h
  ·cases h
  split at h
  ·cases h
  rename_i hs;injection h with h;injection h with h1 h2;subst h1;refine⟨?_,rfl,gZ,gZ⟩;unfold fG;rw [if_pos rfl,if_pos (j9 hn).2.1];exact gH (kR hL 20 _ _ _ hs).2
 unfold iK at h;split at h
 ·cases h
 rename_i hl;split at h
 ·cases h
 split at h
 ·cases h
 rename_i hr;split at h
 ·cases h
 rename_i hw;injection h with h;injection h with h1 h2;subst h1;have g1:=pg hl;have g2:=pg hr;refine⟨Decidable.of_not_not hw,?_,g1,g2⟩;unfold OU;simp only [g1.bare,g2.bare];rfl
theorem E7 {L:List Int} (hL:b8 L):∀ (f i:Nat) (l r:List aH),fS L f i l=.ok r→l.length≤200→(∀ p∈l,WC p)→(∀ p∈r,WC p)∧r.length≤200:=by
 intro f;induction f with
 | zero=>intro i l r h;rw [fS]at h;cases h
 | succ f ih=>
  intro i l r h hn hl;rw [fS]at h;split at h
  ·injection h with h;subst h;exact⟨hl,hn⟩
  split at h
  ·cases h
  split at h
  ·cases h
  rename_i hp;split at h
  ·cases h
  refine ih _ _ _ h (by rw [List.length_append,List.length_singleton];omega) (fun p hp2=>?_);rcases List.mem_append.1 hp2 with hp2 | hp2;exact hl p hp2;rw [List.mem_singleton.1 hp2];exact ED hL hp
theorem zK {L:List Int} (hL:b8 L):(∀ p∈(gU L).1,WC p)∧(gU L).1.length≤200:=by
 by_cases h1:16000<L.length
 ·rw [sD h1];exact⟨by simp,Nat.zero_le _⟩
 cases h2:fS L (L.length+1) 0 []with
 | error e=>
  obtain⟨e,p⟩:=e;rw [wD h1 h2];exact⟨by simp,Nat.zero_le _⟩
 | ok l=>
  rw [yO h1 h2];exact E7 hL _ _ _ _ h2 (Nat.zero_le _) (by simp)
def F7 (a:List (List Int)) (b:List Word):Prop:=a.map bytesOf=b∧∀ w∈a,w.all bT=true
theorem F7.none {a:List (List Int)} {b:List Word} (h:F7 a b):a = []↔b = []:=by rw [← h.1];simp
theorem cN.Y1 {w:World} {X:Nat→Prop} {u:Value} {l:List aG} (h:cN w X u l) (hg:∀ a∈l,Dc a):∃ A n c,u=.slice A n c∧iE w X A n l∧n≤maxLen:=by
 obtain⟨A,n,c,rfl,⟨css,h1,h2,h3,h4,h5⟩,_,hn⟩:=h;refine⟨A,n,c,rfl,⟨css,h1,h2,fun i a cs ha hc=>?_,h4,h5⟩,by unfold maxLen;omega⟩;obtain⟨A',n',c',e,g1,g2,g3⟩:=h3 i a cs ha hc;obtain⟨_,k1,k2⟩:=hg a (List.mem_of_getElem? ha);exact⟨A',n',c',e,g1,g3,by unfold jY;omega,by unfold maxLen;omega⟩
theorem KP {L:List Int} {i:Nat} {v:bQ} {j:Nat} (h:dB L i=.ok (v,j)) : -1≤v.ag∧v.ag≤20:=by
 have one:∀ {i:Nat} {l:List aG} {c:Int} {j:Nat},cn L i=.ok ((l,c),j) → -1≤c∧c≤20:=fun h=>oZ _ _ _ _ (Nat.zero_le _) (by decide) (by decide) h;unfold dB at h;cases hh:dG L (decide (pk L (ay L i)=94)) (if pk L (ay L i)=94 then ay L i+1 else ay L i)with
 | error e=>rw [hh]at h;cases h
 | ok q=>
  obtain⟨⟨b,s,c⟩,j1⟩:=q;rw [hh]at h;simp only at h;have h1 : -1≤c∧c≤20:=by
   unfold dG at hh;cases hi:cn L (if pk L (ay L i)=94 then ay L i+1 else ay L i)with
   | error e=>rw [hi]at hh;cases hh
   | ok q=>
    obtain⟨⟨l,c1⟩,j2⟩:=q;rw [hi]at hh;simp only at hh;split at hh
    ·split at hh
     ·cases hh
     cases hi2:cn L (j2+1)with
     | error e=>rw [hi2]at hh;cases hh
     | ok q=>
      obtain⟨⟨l2,c2⟩,j3⟩:=q;rw [hi2]at hh;simp only at hh;injection hh with hh;injection hh with hh Xf;injection hh with Ml NL;injection NL with Ti PB;subst PB;exact one hi2
    split at hh
    ·cases hh
    injection hh with hh;injection hh with hh Xf;injection hh with Ml NL;injection NL with Ti PB;subst PB;exact one hi
  cases ht:dX L j1 with
  | error e=>rw [ht]at h;cases h
  | ok q=>
   obtain⟨⟨a,fin⟩,k⟩:=q;rw [ht]at h;simp only at h;injection h with h;injection h with h3 h4;subst h3;exact h1
def Rz (w:World) (C:Nat) (A:Option Addr) (n c:Nat) (L:List Int) (r:jN bQ) (e:Ending) (w':World):Prop :=
  match r with
  | .ok (d,j)=>(∃ A1 n1 c1 A2 n2 c2 A3 n3 c3,e=.returned (.agg #[.bool d.start,.bool d.fin,.slice A1 n1 c1,.slice A2 n2 c2,.slice A3 n3 c3,.int .i64 d.ag])∧qp w' (fun b=>w.heap.size≤b∧b≠C) d [.bool d.start,.bool d.fin,.slice A1 n1 c1,.slice A2 n2 c2,.slice A3 n3 c3,.int .i64 d.ag])∧av w' C A n c L j∧bJ w C w'
  | .error (x,p)=>e=aS x p∧bJ w C w'
theorem G8 (w:World) (C:Nat) (A:Option Addr) (n c:Nat) (L:List Int) (i:Nat) (h:av w C A n c L i) (hL:fP L) (hn:n≤100000) :
    Calls Tryz.prog 60 #[.pointer (some ⟨C,0,none⟩)] w (Rz w C A n c L (dB L i)):=by
 refine(Oj w C A n c L i h hL hn).mono ?_;intro e w' hp;cases hr:dB L i with
 | error e0=>rw [hr]at hp;exact hp
 | ok q=>
  obtain⟨d,j⟩:=q;rw [hr]at hp;obtain⟨⟨u1,u2,u3,he,h1,h2,h3⟩,hc,hb⟩:=hp;obtain⟨g1,g2,g3⟩:=pg hr;have hk:aa w' (fun b=>w.heap.size+2≤b∧b≠C) w' (fun b=>w.heap.size≤b∧b≠C):=aa.refl (fun b hb=>⟨by have:=hb.1;omega,hb.2⟩);obtain⟨A1,n1,c1,rfl,x1,m1⟩:=(h1.keep hk).Y1 g1;obtain⟨A2,n2,c2,rfl,x2,m2⟩:=(h2.keep hk).Y1 g2;obtain⟨A3,n3,c3,rfl,x3,m3⟩:=(h3.keep hk).Y1 g3;have Iz:=KP hr;exact⟨⟨A1,n1,c1,A2,n2,c2,A3,n3,c3,he,A1,n1,c1,A2,n2,c2,A3,n3,c3,rfl,x1,x2,x3,m1,m2,m3,by unfold jY;omega⟩,hc,hb⟩
structure oo (w:World) (C:Nat) (A:Option Addr) (n c:Nat) (L:List Int) (wr:World) (j:Nat):Prop where
  cur:hJ w.heap.size wr C A n c L j
  but:bJ w C wr
  res:ai wr w.heap.size 97 #[.int .i64 0,.string ⟨#[]⟩,.slice none 0 0,.int .i64 0,.bool false,.bool false,.slice none 0 0,.slice none 0 0,.slice none 0 0,.int .i64 0,.bool false,.bool false,.slice none 0 0,.slice none 0 0,.slice none 0 0,.int .i64 0]
section
variable {w wr w' : World} {C : Nat} {A : Option Addr} {n c : Nat} {L : List Int} {j j' : Nat}
theorem oo.step (h:oo w C A n c L wr j) (hc:av w' C A n c L j') (hb:bJ wr C w'):oo w C A n c L w' j':=by
 have hC:=h.cur.lt;exact⟨h.cur.but hc hb,h.but.trans hb,(hb.2.2.2.2 _ h.res.lt (by omega)).trans h.res⟩
theorem oo.below (h:oo w C A n c L wr j) (hb:Below wr.heap.size wr w'):oo w C A n c L w' j:=by
 have aR:=hb.mono h.but.1;exact⟨h.cur.below aR,eW h.but aR,h.res.below hb h.res.lt⟩
theorem oo.put (h:oo w C A n c L wr j) {P:Nat} (hP:w.heap.size<P) (k:Nat) (u:Value):oo w C A n c L (wr.setCell ⟨P,k,none⟩ u) j:=by
 have hb:=(bJ.set wr P k u);have aR:=hb.to (B:=w.heap.size) h.but.1 (Nat.le_of_lt hP);exact⟨h.cur.below aR,eW h.but aR,(hb.2.2.2.2 _ h.res.lt (by omega)).trans h.res⟩
end
theorem vX (w:World) (C:Nat) (A:Option Addr) (n c:Nat) (L:List Int) (i:Nat) (h:av w C A n c L i):oo w C A n c L (w.alloc (.cells #[.int .i64 0,.string ⟨#[]⟩,.slice none 0 0,.int .i64 0,.bool false,.bool false,.slice none 0 0,.slice none 0 0,.slice none 0 0,.int .i64 0,.bool false,.bool false,.slice none 0 0,.slice none 0 0,.slice none 0 0,.int .i64 0] 97)) i:=by
 have hb:Below w.heap.size w (w.alloc (.cells #[.int .i64 0,.string ⟨#[]⟩,.slice none 0 0,.int .i64 0,.bool false,.bool false,.slice none 0 0,.slice none 0 0,.slice none 0 0,.int .i64 0,.bool false,.bool false,.slice none 0 0,.slice none 0 0,.slice none 0 0,.int .i64 0] 97)):=(Below.refl _ _).alloc (Nat.le_refl _) _;exact⟨(hJ.start h).below hb,bJ.below C hb,ai.new _ _ _⟩
def ur (w:World) (C b:Nat):Prop:=w.heap.size<b∧b≠C
theorem lS {w w':World} {C P:Nat} {t:TypeId} {cs:Array Value} (h:ai w P t cs) (hb:bJ w C w') (hP:P≠C):ai w' P t cs:=(hb.2.2.2.2 _ h.lt hP).trans h
def rQ (w:World) (C:Nat) (A:Option Addr) (n c:Nat) (L:List Int) (r:jN aH) (e:Ending) (w':World):Prop :=
  match r with
  | .ok (d,j)=>(∃ cs:List Value,e=.returned (.agg cs.toArray)∧ej w' (ur w C) d cs)∧av w' C A n c L j∧bJ w C w'
  | .error (x,p)=>e=aS x p∧bJ w C w'
theorem tU {w wr:World} {C:Nat} {A:Option Addr} {n c:Nat} {L:List Int} {j:Nat} {d:aH} {vs:List Value} (h:oo w C A n c L wr j) (hp:ej wr (ur w C) d vs) :
    vs.toArray.all (·.oneCell')=true∧av (wr.setRow w.heap.size vs.toArray) C A n c L j∧bJ w C (wr.setRow w.heap.size vs.toArray) ∧
    ai (wr.setRow w.heap.size vs.toArray) w.heap.size 97 vs.toArray∧ej (wr.setRow w.heap.size vs.toArray) (ur w C) d vs:=by
 have hb:=(Gd wr w.heap.size vs.toArray).to (B:=w.heap.size) h.but.1 (Nat.le_refl _);have hk:aa wr (ur w C) (wr.setRow w.heap.size vs.toArray) (ur w C):=(Gd wr w.heap.size vs.toArray).keeps (fun b hb=>by have:=hb.1;omega) (fun _ h _=>h);exact⟨by rw [Array.all_eq_true_iff_forall_mem];intro u hu;exact hp.one.2 u (by simpa using hu),(h.cur.below hb).cur,eW h.but hb,Ny h.res,hp.keep hk⟩
theorem jt:(Tryz.prog.info? 97).map (·.size)=some 16:=by kernel_rfl
theorem iX:∃ fs,Tryz.prog.underlying 97 = some (.struct fs):=⟨_,Tryz.underlying97⟩
theorem uW (L:List Int) (a:Nat):(gL L a).size≤4*L.length:=by
 unfold gL;have h1:=runesBytes_size_le (aM L a (aZ L a));have h2:(aM L a (aZ L a)).length≤L.length:=(by unfold aM;rw [List.length_take,List.length_drop];omega);omega
theorem G6 {L:List Int} {i:Nat} {e:Int × Nat} (h:aQ L (i+1) 58=.error e):iP L i=.error e:=by unfold iP;rw [h]
theorem zw {L:List Int} {i j a:Nat} {e:Int × Nat} (h:aQ L (i+1) 58=.ok j) (ha:ay L j=a) (jZ:pk L a=91) (hs:bE L 20 a=.error e):iP L i=.error e:=by unfold iP;rw [h];simp only;rw [ha,if_pos jZ,hs]
theorem BO {L:List Int} {i j a k:Nat} {s:af} (h:aQ L (i+1) 58=.ok j) (ha:ay L j=a) (jZ:pk L a=91) (hs:bE L 20 a=.ok (s,k)):iP L i=.ok (⟨3,eu,s,0,cM,cM⟩,k):=by unfold iP;rw [h];simp only;rw [ha,if_pos jZ,hs]
theorem I2 {L:List Int} {i j a:Nat} (h:aQ L (i+1) 58=.ok j) (ha:ay L j=a) (jZ:pk L a≠91):iP L i=(if jD (gL L a)=true then .ok (⟨4,gL L a,[],0,cM,cM⟩,aZ L a)else .error (7,a)):=by unfold iP;rw [h];simp only;rw [ha,if_neg jZ]
theorem zH (w:World) (C:Nat) (A:Option Addr) (n c:Nat) (L:List Int) (i:Nat) (h:av w C A n c L i) (hL:fP L) (hn:n≤100000) (vG:pk L i=58) :
    Calls Tryz.prog 35 #[.pointer (some ⟨C,0,none⟩)] w (rQ w C A n c L (iP L i)):=by
 have hl:=h.len;have HL:=qqh hL;have gP:=qqh (fun(W:World) (m:Nat) (h:av W C A n c L m)=>cK W C A n c L m h);have pW:=qqh (fun(W:World) (m:Nat) (h:av W C A n c L m)=>i5 W C A n c L m h);have I8:=qqh (fun(W:World) (m:Nat) (r:Int) (h:av W C A n c L m) (hr:r ≠ -1)=>eS W C A n c L m r h hr);have ff:=qqh (fun(W:World) (m:Nat) (h:av W C A n c L m)=>tW 20 1 W C A n c L m rfl (by decide) h hL hn);have Qy:=qqh (fun(W:World) (m:Nat) (h:av W C A n c L m) (h0:0<n)=>qn W C A n c L m h h0);have hi:=h.le;have q7:=qqh (vX w C A n c L i h);obtain⟨R,hR⟩:∃ R,iP L i=R:=⟨_,rfl⟩;rw [hR];have HR:=qqh hR;clear h hL hR;go_enter Tryz.func35,Tryz.ntmps35;go_wp2_with fail;refine(gP.out _ i q7.out.cur.cur).mono ?_;rintro e w1 ⟨rfl,hc1,aP⟩;have fU:=qqh (q7.out.step hc1 aP);clear hc1 aP;have hlt:i<n:=(by rw [← hl];exact bB (by omega));rw [vG];obtain⟨d1,d2,d3,d4⟩:=fU.out.cur.cur.step hlt;have eT:=qqh (fU.out.step d3 d4);have S1:IntKind.i64.wrap ((i:Int)+1)=(i:Int)+1:=wrap_small _ (by omega) (by omega);have FD:=qqh (I8.out _ (i+1) 58 eT.out.cur.cur (by decide));clear d3 d4;cases hnd:aQ L (i+1) 58 with
 | error e0=>
  obtain⟨y,p⟩:=e0;have eC:=qqh (show R=.error (y,p) from HR.out.symm.trans (G6 hnd));rw [hnd]at FD;clear hnd;go_wp2_with fail;refine FD.out.mono ?_;rintro e w9 ⟨he,cj⟩;unfold aS at he;subst he;have fe:=qqh (eT.out.but.trans cj);clear cj;go_wp2_with fail;rw [eC.out];exact⟨rfl,rfl,fe.out⟩
 | ok j=>
  have CV:=qqh hnd;rw [hnd]at FD;clear hnd;obtain⟨a,ha⟩:∃ a,ay L j=a:=⟨_,rfl⟩;have HA:=qqh ha;clear ha;go_wp2_with fail;refine FD.out.mono ?_;rintro e w3 ⟨rfl,kN,bL⟩;have eo:=qqh (eT.out.step kN bL);clear kN bL d1 d2;go_wp2_with fail;refine(pW.out _ j eo.out.cur.cur).mono ?_;rintro e w4 ⟨rfl,lF,hb4⟩;rw [HA.out]at lF;have gx:=qqh (eo.out.step lF hb4);clear lF hb4;go_wp2_with fail;refine(gP.out _ a gx.out.cur.cur).mono ?_;rintro e w5 ⟨rfl,lD,cY⟩;have jT:=qqh (gx.out.step lD cY);clear lD cY;by_cases jZ:pk L a=91
  ·have xB:=qqh (ff.out _ a jT.out.cur.cur);cases hst:bE L 20 a with
   | error e0=>
    obtain⟨y,p⟩:=e0;have eC:=qqh (show R=.error (y,p) from HR.out.symm.trans (zw CV.out HA.out jZ hst));rw [hst]at xB;rw [jZ];clear hst jZ;go_wp2_with fail;refine xB.out.mono ?_;rintro e w9 ⟨he,cj⟩;unfold aS at he;subst he;have fe:=qqh (jT.out.but.trans cj);clear cj;go_wp2_with fail;rw [eC.out];exact⟨rfl,rfl,fe.out⟩
   | ok q=>
    obtain⟨s,k⟩:=q;have eC:=qqh (show R=.ok (⟨3,eu,s,0,cM,cM⟩,k) from HR.out.symm.trans (BO CV.out HA.out jZ hst));have hss:=(kR HL.out.ok 20 _ _ _ hst).2.size;rw [hst]at xB;rw [jZ];clear hst jZ;go_wp2_with fail;refine xB.out.mono ?_;rintro e w6 ⟨⟨B,m,d,rfl,hr,hd⟩,Bw,ek⟩;have UF:=jT.out.step Bw ek;have hm:m≤maxLen:=(by have h1:=hr.1;rw [bC]at h1;unfold maxLen;omega);have kF:=qqh (show cE w6 (ur w C) 2 B m (ak s) from hr.lift (fun b (h:w5.heap.size≤b)=>⟨by have:=jT.out.res.lt;omega,by have:=jT.out.cur.lt;have:=jT.out.but.1;omega⟩));have rC:=qqh UF;have xm:=qqh (show ej w6 (ur w C) ⟨3,eu,s,0,cM,cM⟩ [.int .i64 3,.string ⟨#[]⟩,.slice B m d,.int .i64 0,.bool false,.bool false,.slice none 0 0,.slice none 0 0,.slice none 0 0,.int .i64 0,.bool false,.bool false,.slice none 0 0,.slice none 0 0,.slice none 0 0,.int .i64 0] from⟨B,m,d,[.bool false,.bool false,.slice none 0 0,.slice none 0 0,.slice none 0 0,.int .i64 0],[.bool false,.bool false,.slice none 0 0,.slice none 0 0,.slice none 0 0,.int .i64 0],rfl,kF.out,hm,jW,jW,show jY 3 from⟨by decide,by decide⟩,show jY 0 from⟨by decide,by decide⟩,Nat.zero_le _⟩);clear hr hd Bw ek UF;obtain⟨hone,e1,e2,uP,e4⟩:=tU rC.out xm.out;have wV:=qqh e1;have uY:=qqh e2;have JO:=qqh e4;have qw:=qqh hone;have QD:=qqh uP;have yp:=qqh (oo.res rC.out);clear e1 e2 e4 uP hone
    go_wp2_with (refine wpList_store_row (c:=#[.int .i64 0,.string ⟨#[]⟩,.slice none 0 0,.int .i64 0,.bool false,.bool false,.slice none 0 0,.slice none 0 0,.slice none 0 0,.int .i64 0,.bool false,.bool false,.slice none 0 0,.slice none 0 0,.slice none 0 0,.int .i64 0]) (vs:=#[.int .i64 3,.string ⟨#[]⟩,.slice B m d,.int .i64 0,.bool false,.bool false,.slice none 0 0,.slice none 0 0,.slice none 0 0,.int .i64 0,.bool false,.bool false,.slice none 0 0,.slice none 0 0,.slice none 0 0,.int .i64 0]) rfl rfl jt rfl qw.out rfl rfl yp.out ?_);(try simp only [Act.put]);refine bodyPost_ret (v:=.agg #[.int .i64 3,.string ⟨#[]⟩,.slice B m d,.int .i64 0,.bool false,.bool false,.slice none 0 0,.slice none 0 0,.slice none 0 0,.int .i64 0,.bool false,.bool false,.slice none 0 0,.slice none 0 0,.slice none 0 0,.int .i64 0]) (kO Tryz.results35 rfl iX jt QD.out) rfl ?_;rw [eC.out];exact⟨⟨_,rfl,JO.out⟩,wV.out,uY.out⟩
  have q91:(pk L a == 91)=false:=(by rw [beq_eq_false_iff_ne];exact jZ);have c1:=jT.out.cur.cur.blk.cell 1;obtain⟨T,hT⟩:∃ T,gL L a=T:=⟨_,rfl⟩;have HT:=qqh hT;have kZ:=qqh (show R=(if jD T=true then .ok (⟨4,T,[],0,cM,cM⟩,aZ L a)else .error (7,a)) by rw [← HR.out,I2 CV.out HA.out jZ,hT]);clear hT;go_wp2_with fail;refine(Qy.out _ a jT.out.cur.cur (by omega)).mono ?_;rintro e w6 ⟨rfl,Bw,ek⟩;rw [HT.out];have rC:=qqh (jT.out.step Bw ek);have hts:T.size≤maxLen:=by
   rw [← HT.out];have:=uW L a;have:=rC.out.cur.cur.le;unfold maxLen;omega
  clear Bw ek c1;go_upto_region 9 with fail;have hP:=rC.out.res.lt;have tL:=ai.new w6 97 #[.int .i64 4,.string T,.slice none 0 0,.int .i64 0,.bool false,.bool false,.slice none 0 0,.slice none 0 0,.slice none 0 0,.int .i64 0,.bool false,.bool false,.slice none 0 0,.slice none 0 0,.slice none 0 0,.int .i64 0];have jX:Below w6.heap.size w6 (w6.alloc (.cells #[.int .i64 4,.string T,.slice none 0 0,.int .i64 0,.bool false,.bool false,.slice none 0 0,.slice none 0 0,.slice none 0 0,.int .i64 0,.bool false,.bool false,.slice none 0 0,.slice none 0 0,.slice none 0 0,.int .i64 0] 97)):=(Below.refl _ _).alloc (Nat.le_refl _) _;have Ui:=rC.out.below jX;have VS:w6.heap.size<(w6.alloc (.cells #[.int .i64 4,.string T,.slice none 0 0,.int .i64 0,.bool false,.bool false,.slice none 0 0,.slice none 0 0,.slice none 0 0,.int .i64 0,.bool false,.bool false,.slice none 0 0,.slice none 0 0,.slice none 0 0,.int .i64 0] 97)).heap.size:=(by simp);generalize (w6.alloc (.cells #[.int .i64 4,.string T,.slice none 0 0,.int .i64 0,.bool false,.bool false,.slice none 0 0,.slice none 0 0,.slice none 0 0,.int .i64 0,.bool false,.bool false,.slice none 0 0,.slice none 0 0,.slice none 0 0,.int .i64 0] 97))=w7 at *;have tE:=qqh Ui;have PR:=qqh tL;have c1:w7.cell? ⟨w6.heap.size,1,none⟩=some (.string T):=tL.cell 1;clear jX Ui tL;obtain⟨B9,Sg⟩:∃ B9,jD T=B9:=⟨_,rfl⟩;have fe:=qqh Sg;rw [Sg]at kZ;clear Sg;go_cut [51] (fun v wx=>v=.bool (!B9)∧Below w7.heap.size w7 wx);case first=>
   go_region_with (first | (go_at_call 57;refine(iq _).mono ?_;rintro e w' ⟨rfl,rfl⟩) | (go_at_call 56;refine(qf _ T _ fe.out _ (BY (ai.new _ _ _))).mono ?_;rintro e w' ⟨rfl,rfl⟩))
   all_goals
     go_wp2_with fail
     go_meet
     exact⟨rfl,below_drewN ((Below.refl _ _).alloc (Nat.le_refl _) _) _⟩
  obtain⟨rfl,hbc⟩:=hcut;have wR:=qqh (tE.out.below hbc);have QJ:=PR.out.below hbc VS;have An:=qqh QJ;cases B9 with
  | false=>
   have eC:=qqh (show R=.error (7,a) from kZ.out);clear hbc c1 QJ;go_wp2_with fail;refine(bV 7 a _).mono ?_;rintro e w9 ⟨rfl,rfl⟩;go_wp2_with fail;rw [eC.out];exact⟨rfl,rfl,wR.out.but⟩
  | true=>
   have eC:=qqh (show R=.ok (⟨4,T,[],0,cM,cM⟩,aZ L a) from kZ.out);have Wm:=wR.out;have xm:=qqh (show ej wc (ur w C) ⟨4,T,[],0,cM,cM⟩ [.int .i64 4,.string T,.slice none 0 0,.int .i64 0,.bool false,.bool false,.slice none 0 0,.slice none 0 0,.slice none 0 0,.int .i64 0,.bool false,.bool false,.slice none 0 0,.slice none 0 0,.slice none 0 0,.int .i64 0] from⟨none,0,0,[.bool false,.bool false,.slice none 0 0,.slice none 0 0,.slice none 0 0,.int .i64 0],[.bool false,.bool false,.slice none 0 0,.slice none 0 0,.slice none 0 0,.int .i64 0],rfl,cE.nil 2,Nat.zero_le _,jW,jW,show jY 4 from⟨by decide,by decide⟩,show jY 0 from⟨by decide,by decide⟩,hts⟩);clear hbc Wm c1;obtain⟨hone,e1,e2,uP,e4⟩:=tU wR.out xm.out;have wV:=qqh e1;have uY:=qqh e2;have JO:=qqh e4;have qw:=qqh hone;have QD:=qqh uP;have yp:=qqh (oo.res wR.out);have Vr:=qqh QJ;clear e1 e2 e4 uP hone;go_wp2_with (first | (refine wpList_load_row (cs:=#[.int .i64 4,.string T,.slice none 0 0,.int .i64 0,.bool false,.bool false,.slice none 0 0,.slice none 0 0,.slice none 0 0,.int .i64 0,.bool false,.bool false,.slice none 0 0,.slice none 0 0,.slice none 0 0,.int .i64 0]) rfl rfl iX jt rfl Vr.out ?_) | (refine wpList_store_row (c:=#[.int .i64 0,.string ⟨#[]⟩,.slice none 0 0,.int .i64 0,.bool false,.bool false,.slice none 0 0,.slice none 0 0,.slice none 0 0,.int .i64 0,.bool false,.bool false,.slice none 0 0,.slice none 0 0,.slice none 0 0,.int .i64 0]) (vs:=#[.int .i64 4,.string T,.slice none 0 0,.int .i64 0,.bool false,.bool false,.slice none 0 0,.slice none 0 0,.slice none 0 0,.int .i64 0,.bool false,.bool false,.slice none 0 0,.slice none 0 0,.slice none 0 0,.int .i64 0]) rfl rfl jt rfl qw.out rfl rfl yp.out ?_));(try simp only [Act.put])
   refine bodyPost_ret (v:=.agg #[.int .i64 4,.string T,.slice none 0 0,.int .i64 0,.bool false,.bool false,.slice none 0 0,.slice none 0 0,.slice none 0 0,.int .i64 0,.bool false,.bool false,.slice none 0 0,.slice none 0 0,.slice none 0 0,.int .i64 0]) (kO Tryz.results35 rfl iX jt QD.out) rfl ?_;rw [eC.out];exact⟨⟨_,rfl,JO.out⟩,wV.out,uY.out⟩
theorem zh {L:List Int} {i:Nat} {e:Int × Nat} (h:fX L (i+1)=.error e):mY L i=.error e:=by unfold mY;rw [h]
theorem zM {L:List Int} {i j:Nat} {s:ByteArray} {e:Int × Nat} (h:fX L (i+1)=.ok (s,j)) (h2:aQ L (ay L j) 61=.error e):mY L i=.error e:=by unfold mY;rw [h];simp only;rw [h2]
theorem Bp {L:List Int} {i j k:Nat} {s:ByteArray} {e:Int × Nat} (h:fX L (i+1)=.ok (s,j)) (h2:aQ L (ay L j) 61=.ok k) (h3:bE L 20 (ay L k)=.error e):mY L i=.error e:=by unfold mY;rw [h];simp only;rw [h2];simp only;rw [h3]
theorem PG {L:List Int} {i j k m:Nat} {s:ByteArray} {t:af} (h:fX L (i+1)=.ok (s,j)) (h2:aQ L (ay L j) 61=.ok k) (h3:bE L 20 (ay L k)=.ok (t,m)):mY L i=.ok (⟨1,s,t,0,cM,cM⟩,m):=by unfold mY;rw [h];simp only;rw [h2];simp only;rw [h3]
theorem CC (w:World) (C:Nat) (A:Option Addr) (n c:Nat) (L:List Int) (i:Nat) (h:av w C A n c L i) (hL:fP L) (hn:n≤100000) (kI:pk L i=36) (hv:Ld L i=true) :
    Calls Tryz.prog 35 #[.pointer (some ⟨C,0,none⟩)] w (rQ w C A n c L (mY L i)):=by
 have hl:=h.len;have HL:=qqh hL;have gP:=qqh (fun(W:World) (m:Nat) (h:av W C A n c L m)=>cK W C A n c L m h);have pW:=qqh (fun(W:World) (m:Nat) (h:av W C A n c L m)=>i5 W C A n c L m h);have I8:=qqh (fun(W:World) (m:Nat) (r:Int) (h:av W C A n c L m) (hr:r ≠ -1)=>eS W C A n c L m r h hr);have ff:=qqh (fun(W:World) (m:Nat) (h:av W C A n c L m)=>tW 20 1 W C A n c L m rfl (by decide) h hL hn);have Qy:=qqh (fun(W:World) (m:Nat) (h:av W C A n c L m) (h0:0<n)=>qn W C A n c L m h h0);have hi:=h.le;have q7:=qqh (vX w C A n c L i h);obtain⟨R,hR⟩:∃ R,mY L i=R:=⟨_,rfl⟩;rw [hR];have HR:=qqh hR;clear h hL hR;go_enter Tryz.func35,Tryz.ntmps35;go_wp2_with fail;refine(gP.out _ i q7.out.cur.cur).mono ?_;rintro e w1 ⟨rfl,hc1,aP⟩;have fU:=qqh (q7.out.step hc1 aP);clear hc1 aP;have hlt:i<n:=(by rw [← hl];exact bB (by omega));have YY:=qqh (fun(W:World) (h:av W C A n c L i)=>show Calls Tryz.prog 58 #[.pointer (some ⟨C,0,none⟩)] W fun e w'=>e=.returned (.bool true)∧Below W.heap.size W w' by have:=sZ W C A n c L i h hlt;rwa [hv]at this);rw [kI]
 go_upto_if 63 with (first
   | (go_at_call 34;refine(gP.out _ i fU.out.cur.cur).mono ?_;rintro e w2 ⟨rfl,hc2,aR⟩;rw [kI])
   | (go_at_call 58;refine(YY.out _ (by assumption)).mono ?_;rintro e w3 ⟨rfl,bL⟩))
 have eo:=qqh ((fU.out.step hc2 aR).below bL);clear hc2 aR bL;obtain⟨d1,d2,d3,d4⟩:=eo.out.cur.cur.step hlt;have gx:=qqh (eo.out.step d3 d4);have S1:IntKind.i64.wrap ((i:Int)+1)=(i:Int)+1:=wrap_small _ (by omega) (by omega);have Ej:=qqh (Ge _ C A n c L (i+1) gx.out.cur.cur (by omega));clear d3 d4;cases hnm:fX L (i+1)with
 | error e0=>
  obtain⟨y,p⟩:=e0;have eC:=qqh (show R=.error (y,p) from HR.out.symm.trans (zh hnm));rw [hnm]at Ej;clear hnm;go_wp2_with fail;refine Ej.out.mono ?_;rintro e w9 ⟨he,cj⟩;unfold aS at he;subst he;have fe:=qqh (gx.out.but.trans cj);clear cj;go_wp2_with fail;rw [eC.out];exact⟨rfl,rfl,fe.out⟩
 | ok q=>
  obtain⟨T,j⟩:=q;have CV:=qqh hnm;have hts:T.size≤maxLen:=by
   have h1:=(j9 hnm).2.2.1;have h2:=uW L (i+1);have h3:=gx.out.cur.cur.le;rw [← h1]at h2;unfold maxLen;omega
  rw [hnm]at Ej;clear hnm;obtain⟨a,ha⟩:∃ a,ay L j=a:=⟨_,rfl⟩;have HA:=qqh ha;clear ha;go_wp2_with fail;refine Ej.out.mono ?_;rintro e w5 ⟨rfl,lD,cY⟩;have jT:=qqh (gx.out.step lD cY);clear lD cY d1 d2;have hP:=jT.out.res.lt;have Rv:w5.heap.size≠C:=(by have:=jT.out.cur.lt;have:=jT.out.but.1;omega);have tL:=ai.new w5 97 #[.int .i64 1,.string T,.slice none 0 0,.int .i64 0,.bool false,.bool false,.slice none 0 0,.slice none 0 0,.slice none 0 0,.int .i64 0,.bool false,.bool false,.slice none 0 0,.slice none 0 0,.slice none 0 0,.int .i64 0];have jX:Below w5.heap.size w5 (w5.alloc (.cells #[.int .i64 1,.string T,.slice none 0 0,.int .i64 0,.bool false,.bool false,.slice none 0 0,.slice none 0 0,.slice none 0 0,.int .i64 0,.bool false,.bool false,.slice none 0 0,.slice none 0 0,.slice none 0 0,.int .i64 0] 97)):=(Below.refl _ _).alloc (Nat.le_refl _) _;have rC:=qqh (jT.out.below jX);have PR:=qqh tL;clear jX tL;go_wp2_with fail;refine(pW.out _ j rC.out.cur.cur).mono ?_;rintro e w7 ⟨rfl,qO,gw⟩;rw [HA.out]at qO;have tE:=qqh (rC.out.step qO gw);have ZB:=qqh (lS PR.out gw Rv);clear qO gw;have Ls:=qqh (I8.out _ a 61 tE.out.cur.cur (by decide));cases hnd:aQ L a 61 with
  | error e0=>
   obtain⟨y,p⟩:=e0;have eC:=qqh (show R=.error (y,p) from HR.out.symm.trans (zM CV.out (by rw [HA.out];exact hnd)));rw [hnd]at Ls;clear hnd;go_wp2_with fail;refine Ls.out.mono ?_;rintro e w9 ⟨he,cj⟩;unfold aS at he;subst he;have fe:=qqh (tE.out.but.trans cj);clear cj;go_wp2_with fail;rw [eC.out];exact⟨rfl,rfl,fe.out⟩
  | ok k=>
   have VZ:=qqh (show aQ L (ay L j) 61=.ok k by rw [HA.out];exact hnd);rw [hnd]at Ls;clear hnd;obtain⟨b,hb⟩:∃ b,ay L k=b:=⟨_,rfl⟩;have HB:=qqh hb;clear hb;go_wp2_with fail;refine Ls.out.mono ?_;rintro e w8 ⟨rfl,FR,gy⟩;have wR:=qqh (tE.out.step FR gy);have An:=qqh (lS ZB.out gy Rv);clear FR gy;go_wp2_with fail;refine(pW.out _ k wR.out.cur.cur).mono ?_;rintro e w9 ⟨rfl,Fs,cj⟩;rw [HB.out]at Fs;have nV:=qqh (wR.out.step Fs cj);have Ob:=qqh (lS An.out cj Rv);clear Fs cj;have xB:=qqh (ff.out _ b nV.out.cur.cur);cases hst:bE L 20 b with
   | error e0=>
    obtain⟨y,p⟩:=e0;have eC:=qqh (show R=.error (y,p) from HR.out.symm.trans (Bp CV.out VZ.out (by rw [HB.out];exact hst)));rw [hst]at xB;clear hst;go_wp2_with fail;refine xB.out.mono ?_;rintro e wz ⟨he,hbz⟩;unfold aS at he;subst he;have SE:=qqh (nV.out.but.trans hbz);clear hbz;go_wp2_with fail;rw [eC.out];exact⟨rfl,rfl,SE.out⟩
   | ok q=>
    obtain⟨s,m0⟩:=q;have eC:=qqh (show R=.ok (⟨1,T,s,0,cM,cM⟩,m0) from HR.out.symm.trans (PG CV.out VZ.out (by rw [HB.out];exact hst)));have hss:=(kR HL.out.ok 20 _ _ _ hst).2.size;rw [hst]at xB;clear hst;go_wp2_with fail;refine xB.out.mono ?_;rintro e OJ ⟨⟨B,m,d,rfl,hr,hd⟩,TY,Re⟩;have VH:=nV.out.step TY Re;have NQ:=lS Ob.out Re Rv;have hm:m≤maxLen:=(by have h1:=hr.1;rw [bC]at h1;unfold maxLen;omega);have Cz:=Ob.out.lt;have x2:=NQ.cell 2;have z2:=NQ.frozen 2;have GX:=qqh (VH.put hP 2 (.slice B m d));have Pd:=qqh (show ai (OJ.setCell ⟨w5.heap.size,2,none⟩ (.slice B m d)) w5.heap.size 97 #[.int .i64 1,.string T,.slice B m d,.int .i64 0,.bool false,.bool false,.slice none 0 0,.slice none 0 0,.slice none 0 0,.int .i64 0,.bool false,.bool false,.slice none 0 0,.slice none 0 0,.slice none 0 0,.int .i64 0] from NQ.put 2 _);have hrd:cE OJ (fun b=>ur w C b∧b≠w5.heap.size) 2 B m (ak s):=hr.lift (fun b (h:w9.heap.size≤b)=>⟨⟨by have:=nV.out.res.lt;omega,by have:=nV.out.cur.lt;have:=nV.out.but.1;omega⟩,by omega⟩);have kF:=qqh (hrd.keep (aa.setCell (p:=⟨w5.heap.size,2,none⟩) (X':=ur w C) (.slice B m d) (fun b hb=>hb.2) (fun b hb _=>hb.1)))
    have xm:=qqh (show ej (OJ.setCell ⟨w5.heap.size,2,none⟩ (.slice B m d)) (ur w C) ⟨1,T,s,0,cM,cM⟩ [.int .i64 1,.string T,.slice B m d,.int .i64 0,.bool false,.bool false,.slice none 0 0,.slice none 0 0,.slice none 0 0,.int .i64 0,.bool false,.bool false,.slice none 0 0,.slice none 0 0,.slice none 0 0,.int .i64 0] from⟨B,m,d,[.bool false,.bool false,.slice none 0 0,.slice none 0 0,.slice none 0 0,.int .i64 0],[.bool false,.bool false,.slice none 0 0,.slice none 0 0,.slice none 0 0,.int .i64 0],rfl,kF.out,hm,jW,jW,show jY 1 from⟨by decide,by decide⟩,show jY 0 from⟨by decide,by decide⟩,hts⟩);clear hr hd TY Re VH NQ hrd;go_upto_region 19 with fail;have Tm:=GX.out;have Wt:=Pd.out;have Xc:=xm.out;clear GX Pd xm kF x2 z2;generalize OJ.setCell ⟨w5.heap.size,2,none⟩ (.slice B m d)=w11 at *;obtain⟨hone,e1,e2,uP,e4⟩:=tU Tm Xc;have wV:=qqh e1;have uY:=qqh e2;have JO:=qqh e4;have qw:=qqh hone;have QD:=qqh uP;have yp:=qqh (oo.res Tm);have Vr:=qqh Wt;clear e1 e2 e4 uP hone
    go_wp2_with (first | (refine wpList_load_row (cs:=#[.int .i64 1,.string T,.slice B m d,.int .i64 0,.bool false,.bool false,.slice none 0 0,.slice none 0 0,.slice none 0 0,.int .i64 0,.bool false,.bool false,.slice none 0 0,.slice none 0 0,.slice none 0 0,.int .i64 0]) rfl rfl iX jt rfl Vr.out ?_) | (refine wpList_store_row (c:=#[.int .i64 0,.string ⟨#[]⟩,.slice none 0 0,.int .i64 0,.bool false,.bool false,.slice none 0 0,.slice none 0 0,.slice none 0 0,.int .i64 0,.bool false,.bool false,.slice none 0 0,.slice none 0 0,.slice none 0 0,.int .i64 0]) (vs:=#[.int .i64 1,.string T,.slice B m d,.int .i64 0,.bool false,.bool false,.slice none 0 0,.slice none 0 0,.slice none 0 0,.int .i64 0,.bool false,.bool false,.slice none 0 0,.slice none 0 0,.slice none 0 0,.int .i64 0]) rfl rfl jt rfl qw.out rfl rfl yp.out ?_));(try simp only [Act.put]);refine bodyPost_ret (v:=.agg #[.int .i64 1,.string T,.slice B m d,.int .i64 0,.bool false,.bool false,.slice none 0 0,.slice none 0 0,.slice none 0 0,.int .i64 0,.bool false,.bool false,.slice none 0 0,.slice none 0 0,.slice none 0 0,.int .i64 0]) (kO Tryz.results35 rfl iX jt QD.out) rfl ?_;rw [eC.out];exact⟨⟨_,rfl,JO.out⟩,wV.out,uY.out⟩
end Go.Proofs.YthgkedoildcbcaaGreatDoor
