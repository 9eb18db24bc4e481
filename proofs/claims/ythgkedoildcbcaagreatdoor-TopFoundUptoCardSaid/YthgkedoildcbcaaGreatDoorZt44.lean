/- RulesNum + RulesRight + RdPartFr + RdPartA + RdPartB + RdPartC + RdPart -/
import Derived.Test.YthgkedoildcbcaaGreatDoorZt13
import Derived.Test.YthgkedoildcbcaaGreatDoorZt43
import Derived.Test.YthgkedoildcbcaaGreatDoorZt27
import Derived.Test.YthgkedoildcbcaaGreatDoorZt11
import Derived.Test.YthgkedoildcbcaaGreatDoorZt21
import Derived.Deep.DeepCutAuto
set_option maxHeartbeats 12800000
set_option maxRecDepth 100000
namespace Go.Proofs.YthgkedoildcbcaaGreatDoor
open Go.RowKit
theorem AD (L:List Int) (i:Nat):gO (gR L i):=by
 intro e p h;unfold gR at h;split at h
 ·cases h
 injection h with h;injection h with h1 h2;omega
theorem DB (L:List Int) (i:Nat):gO (gK L i):=by
 intro e p h;unfold gK at h;split at h
 ·cases h
 injection h with h;injection h with h1 h2;omega
theorem IM (L:List Int) (a:Nat) (out:List aE) (cur:Int) (e:Int) (p:Nat) (h:cE L a out cur=.error (e,p)):e≠0:=by
 unfold cE at h;split at h
 ·split at h
  ·injection h with h;injection h with h1 h2;omega
  cases h
 split at h
 ·split at h
  ·rename_i h1;injection h with h;subst h;exact xw L 20 a _ _ h1
  cases h
 split at h
 ·split at h
  ·rename_i h1;injection h with h;subst h;exact AD L _ _ _ h1
  cases h
 split at h
 ·split at h
  ·rename_i h1;injection h with h;subst h;exact DB L _ _ _ h1
  cases h
 split at h
 ·split at h
  ·rename_i h1;injection h with h;subst h;exact tP L _ _ _ h1
  split at h
  ·cases h
  injection h with h;injection h with h1 h2;omega
 cases h
theorem qW (L:List Int):∀ f i out cur,gO (cQ L f i out cur):=by
 intro f;induction f with
 | zero=>intro i out cur e p h;rw [cQ]at h;injection h with h;injection h with h1 h2;omega
 | succ f ih=>
  intro i out cur e p h;rw [cQ]at h;split at h
  ·rename_i h1;injection h with h;subst h;exact IM L _ _ _ _ _ h1
  ·cases h
  split at h
  ·injection h with h;injection h with h1 h2;omega
  exact ih _ _ _ _ _ h
theorem JJ (L:List Int) (st:Bool) (a:Nat):gO (dZ L st a):=by
 intro e p h;unfold dZ at h;split at h
 ·rename_i h1;injection h with h;subst h;exact qW L _ _ _ _ _ _ h1
 split at h
 ·split at h
  ·injection h with h;injection h with h1 h2;omega
  split at h
  ·rename_i h1;injection h with h;subst h;exact qW L _ _ _ _ _ _ h1
  cases h
 split at h
 ·injection h with h;injection h with h1 h2;omega
 cases h
theorem Jc (L:List Int) (a:Nat):gO (eJ L a):=by
 intro e p h;unfold eJ at h;split at h
 ·split at h
  ·rename_i h1;injection h with h;subst h;exact qW L _ _ _ _ _ _ h1
  split at h
  ·injection h with h;injection h with h1 h2;omega
  split at h <;> cases h
 cases h
theorem z8 (L:List Int) (i:Nat):gO (dU L i):=by
 intro e p h;unfold dU at h;split at h
 ·rename_i h1;injection h with h;subst h;exact JJ L _ _ _ _ h1
 split at h
 ·rename_i h1;injection h with h;subst h;exact Jc L _ _ _ h1
 cases h
theorem E7 (L:List Int) (i:Nat):gO (ff L i):=by
 intro e p h;unfold ff at h;split at h
 ·cases h
 split at h
 ·cases h
 split at h
 ·rename_i h1;injection h with h;subst h;exact ig h1
 cases h
theorem JC (L:List Int) (i:Nat):gO (jr L i):=by
 intro e p h;unfold jr at h;split at h
 ·unfold jq at h;split at h
  ·rename_i h1;injection h with h;subst h;exact ig h1
  split at h
  ·split at h
   ·rename_i h1;injection h with h;subst h;exact xw L 20 _ _ _ h1
   cases h
  split at h
  ·cases h
  injection h with h;injection h with h1 h2;omega
 split at h
 ·unfold oG at h;split at h
  ·rename_i h1;injection h with h;subst h;exact AD L _ _ _ h1
  split at h
  ·rename_i h1;injection h with h;subst h;exact ig h1
  split at h
  ·rename_i h1;injection h with h;subst h;exact xw L 20 _ _ _ h1
  cases h
 unfold jw at h;split at h
 ·rename_i h1;injection h with h;subst h;exact z8 L _ _ _ h1
 split at h
 ·rename_i h1;injection h with h;subst h;exact E7 L _ _ _ h1
 split at h
 ·rename_i h1;injection h with h;subst h;exact z8 L _ _ _ h1
 split at h
 ·rename_i h1;injection h with h;injection h with h2 h3;subst h2;exact h1
 cases h
theorem J3 (L:List Int):∀ f i l (e:Int) (p:Nat),gI L f i l=.error (e,p)→e≠0:=by
 intro f;induction f with
 | zero=>intro i l e p h;rw [gI]at h;injection h with h;injection h with h1 h2;omega
 | succ f ih=>
  intro i l e p h;rw [gI]at h;split at h
  ·cases h
  split at h
  ·injection h with h;injection h with h1 h2;omega
  split at h
  ·rename_i h1;injection h with h;subst h;exact JC L _ _ _ h1
  split at h
  ·rename_i h1;injection h with h;subst h;exact ig h1
  exact ih _ _ _ _ h
theorem uP {L:List Int} (h:16000<L.length):ku L=([],(4,0)):=by unfold ku;rw [if_pos h]
theorem ye {L:List Int} {e:Int} {p:Nat} (h:¬ 16000<L.length) (h2:gI L (L.length+1) 0 [] = .error (e,p)):ku L=([],(e,(p:Int))):=by unfold ku;rw [if_neg h,h2]
theorem Ay {L:List Int} {l:List aF} (h:¬ 16000<L.length) (h2:gI L (L.length+1) 0 [] = .ok l):ku L=(l,(0,0)):=by unfold ku;rw [if_neg h,h2]
def Df (a:aE):Prop:=Eo a=a∧(a.kind=1∨a.kind=2∨a.kind=3)∧a.name.size≤20
theorem JW {L:List Int} {a:Nat} {out o:List aE} {cur c:Int} {j:Nat} (h:cE L a out cur=.ok (some ((o,c),j))) (ho:∀ x∈out,Df x):∀ x∈o,Df x:=by
 have push:∀ (l:List aE),(∀ x∈l,Df x)→∀ x∈out++l,Df x:=by
  intro l hl x hx;rcases List.mem_append.1 hx with hx | hx;exact ho x hx;exact hl x hx
 have rune:∀ x,Df (nA x):=fun x=>⟨rfl,.inl rfl,Nat.zero_le _⟩;unfold cE at h;split at h
 ·split at h
  ·cases h
  injection h with h;injection h with h;injection h with h1 h2;injection h1 with h1 h3;subst h1;exact ho
 split at h
 ·split at h
  ·cases h
  injection h with h;injection h with h;injection h with h1 h2;injection h1 with h1 h3;subst h1;exact push _ (fun x hx=>by rw [List.mem_singleton.1 hx];exact⟨rfl,.inr (.inl rfl),Nat.zero_le _⟩)
 split at h
 ·split at h
  ·cases h
  rename_i hn;injection h with h;injection h with h;injection h with h1 h2;injection h1 with h1 h3;subst h1;exact push _ (fun x hx=>by rw [List.mem_singleton.1 hx];exact⟨rfl,.inr (.inr rfl),I1 (lQ hn).2.1⟩)
 split at h
 ·split at h
  ·cases h
  rename_i hq;injection h with h;injection h with h;injection h with h1 h2;injection h1 with h1 h3;subst h1;unfold gK at hq;split at hq
  ·injection hq with hq;injection hq with hq Hj;subst hq;refine push _ (fun x hx=>?_);obtain⟨y,_,rfl⟩:=List.mem_map.1 hx;exact rune y
  cases hq
 split at h
 ·split at h
  ·cases h
  split at h
  ·injection h with h;injection h with h;injection h with h1 h2;injection h1 with h1 h3;subst h1;exact push _ (fun x hx=>by rw [List.mem_singleton.1 hx];exact rune _)
  cases h
 injection h with h;cases h
theorem Ew {L:List Int}:∀ (f i:Nat) (out:List aE) (cur:Int) (v:List aE × Int) (j:Nat),(∀ x∈out,Df x)→cQ L f i out cur=.ok (v,j)→∀ x∈v.1,Df x:=by
 intro f;induction f with
 | zero=>intro i out cur v j _ h;rw [cQ]at h;cases h
 | succ f ih=>
  intro i out cur v j ho h;rw [cQ]at h;cases he:cE L (az L i) out cur with
  | error e=>rw [he]at h;cases h
  | ok q=>
   rw [he]at h;cases q with
   | none=>simp only at h;injection h with h;injection h with h1 h2;subst h1;exact ho
   | some q=>
    obtain⟨⟨o,c⟩,k⟩:=q;simp only at h;split at h
    ·cases h
    exact ih _ _ _ _ _ (JW he ho) h
theorem jS {L:List Int} {i:Nat} {v:List aE × Int} {j:Nat} (h:cJ L i=.ok (v,j)):∀ x∈v.1,Df x:=Ew _ _ _ _ _ _ (by simp) h
def T6 (s:bY):Prop:=(∀ x∈s.before,Df x)∧(∀ x∈s.source,Df x)∧∀ x∈s.after,Df x
theorem yz {l:List aE} (h:∀ x∈l,Df x):l.map Eo=l:=by
 induction l with
 | nil=>rfl
 | cons a l ih=>rw [List.map_cons,(h a List.mem_cons_self).1,ih (fun x hx=>h x (List.mem_cons_of_mem _ hx))]
theorem T6.bare {s:bY} (h:T6 s):Ic s=s:=by
 unfold Ic;rw [yz h.1,yz h.2.1,yz h.2.2]
theorem qL {L:List Int} {i:Nat} {v:bY} {j:Nat} (h:dU L i=.ok (v,j)):T6 v:=by
 have nil:∀ x∈([]:List aE),Df x:=(by simp);unfold dU at h;cases hh:dZ L (decide (pk L (az L i)=94)) (if pk L (az L i)=94 then az L i+1 else az L i)with
 | error e=>rw [hh]at h;cases h
 | ok q=>
  obtain⟨⟨b,s,c⟩,j1⟩:=q;rw [hh]at h;simp only at h;have h1:(∀ x∈b,Df x)∧∀ x∈s,Df x:=by
   unfold dZ at hh;cases hi:cJ L (if pk L (az L i)=94 then az L i+1 else az L i)with
   | error e=>rw [hi]at hh;cases hh
   | ok q=>
    obtain⟨⟨l,c1⟩,j2⟩:=q;rw [hi]at hh;simp only at hh;split at hh
    ·split at hh
     ·cases hh
     cases hi2:cJ L (j2+1)with
     | error e=>rw [hi2]at hh;cases hh
     | ok q=>
      obtain⟨⟨l2,c2⟩,j3⟩:=q;rw [hi2]at hh;simp only at hh;injection hh with hh;injection hh with hh Y9;injection hh with UX Sa;injection Sa with Vq UT;subst UX Vq;exact⟨jS hi,jS hi2⟩
    split at hh
    ·cases hh
    injection hh with hh;injection hh with hh Y9;injection hh with UX Sa;injection Sa with Vq UT;subst UX Vq;exact⟨nil,jS hi⟩
  cases ht:eJ L j1 with
  | error e=>rw [ht]at h;cases h
  | ok q=>
   obtain⟨⟨a,fin⟩,k⟩:=q;have h2:∀ x∈a,Df x:=by
    unfold eJ at ht;split at ht
    ·cases hi:cJ L (j1+1)with
     | error e=>rw [hi]at ht;cases ht
     | ok q=>
      obtain⟨⟨l,c1⟩,j2⟩:=q;rw [hi]at ht;simp only at ht;split at ht
      ·cases ht
      split at ht
      ·injection ht with ht;injection ht with ht1 ht2;injection ht1 with XU Ub;subst XU;exact jS hi
      injection ht with ht;injection ht with ht1 ht2;injection ht1 with XU Ub;subst XU;exact jS hi
    injection ht with ht;injection ht with ht1 ht2;injection ht1 with XU Ub;subst XU;exact nil
   rw [ht]at h;simp only at h;injection h with h;injection h with h3 h4;subst h3;exact⟨h1.1,h1.2,h2⟩
def XY (p:aF):Prop:=gy p=0∧Q0 p=p∧T6 p.left∧T6 p.right
theorem iR:T6 cZ:=⟨by simp [cZ],by simp [cZ],by simp [cZ]⟩
theorem Fi {L:List Int} (hL:cH L) {i:Nat} {v:aF} {j:Nat} (h:jr L i=.ok (v,j)):XY v:=by
 unfold jr at h;split at h
 ·unfold jq at h;split at h
  ·cases h
  split at h
  ·split at h
   ·cases h
   rename_i hs;injection h with h;injection h with h1 h2;subst h1;exact⟨jP (mo hL 20 _ _ _ hs).2,rfl,iR,iR⟩
  split at h
  ·rename_i hb;injection h with h;injection h with h1 h2;subst h1;refine⟨?_,rfl,iR,iR⟩;unfold gy;rw [if_neg (show ¬((4:Int)=1) by decide),if_neg (show ¬((4:Int)=3) by decide),if_pos rfl,if_pos hb]
  cases h
 split at h
 ·unfold oG at h;split at h
  ·cases h
  rename_i hn;split at h
  ·cases h
  split at h
  ·cases h
  rename_i hs;injection h with h;injection h with h1 h2;subst h1;refine⟨?_,rfl,iR,iR⟩;unfold gy;rw [if_pos rfl,if_pos (lQ hn).2.1];exact jP (mo hL 20 _ _ _ hs).2
 unfold jw at h;split at h
 ·cases h
 rename_i hl;split at h
 ·cases h
 split at h
 ·cases h
 rename_i hr;split at h
 ·cases h
 rename_i hw;injection h with h;injection h with h1 h2;subst h1;have g1:=qL hl;have g2:=qL hr;refine⟨Decidable.of_not_not hw,?_,g1,g2⟩;unfold Q0;simp only [g1.bare,g2.bare];rfl
theorem GR {L:List Int} (hL:cH L):∀ (f i:Nat) (l r:List aF),gI L f i l=.ok r→l.length≤200→(∀ p∈l,XY p)→(∀ p∈r,XY p)∧r.length≤200:=by
 intro f;induction f with
 | zero=>intro i l r h;rw [gI]at h;cases h
 | succ f ih=>
  intro i l r h hn hl;rw [gI]at h;split at h
  ·injection h with h;subst h;exact⟨hl,hn⟩
  split at h
  ·cases h
  split at h
  ·cases h
  rename_i hp;split at h
  ·cases h
  refine ih _ _ _ h (by rw [List.length_append,List.length_singleton];omega) (fun p hp2=>?_);rcases List.mem_append.1 hp2 with hp2 | hp2;exact hl p hp2;rw [List.mem_singleton.1 hp2];exact Fi hL hp
theorem sx {L:List Int} (hL:cH L):(∀ p∈(ku L).1,XY p)∧(ku L).1.length≤200:=by
 by_cases h1:16000<L.length
 ·rw [uP h1];exact⟨by simp,Nat.zero_le _⟩
 cases h2:gI L (L.length+1) 0 []with
 | error e=>
  obtain⟨e,p⟩:=e;rw [ye h1 h2];exact⟨by simp,Nat.zero_le _⟩
 | ok l=>
  rw [Ay h1 h2];exact GR hL _ _ _ _ h2 (Nat.zero_le _) (by simp)
def gw (a:List (List Int)) (b:List Word):Prop:=a.map bytesOf=b∧∀ w∈a,w.all bg=true
theorem gw.nil:gw [] []:=⟨rfl,by simp⟩
theorem gw.app {a c:List (List Int)} {b d:List Word} (h:gw a b) (h2:gw c d):gw (a++c) (b++d):=by
 refine⟨by rw [List.map_append,h.1,h2.1],fun w hw=>?_⟩;rcases List.mem_append.1 hw with hw | hw;exact h.2 w hw;exact h2.2 w hw
theorem gw.one {w:List Int} {x:Word} (h:bytesOf w=x) (hr:w.all bg=true):gw [w] [x]:=⟨by rw [List.map_singleton,h],fun y hy=>by rw [List.mem_singleton.1 hy];exact hr⟩
theorem gw.cons {w:List Int} {x:Word} {a:List (List Int)} {b:List Word} (h:bytesOf w=x) (hr:w.all bg=true) (h2:gw a b):gw (w::a) (x::b):=gw.app (gw.one h hr) h2
theorem gw.none {a:List (List Int)} {b:List Word} (h:gw a b):a = []↔b = []:=by rw [← h.1];simp
theorem dc.toX {w:World} {X:Nat→Prop} {u:Value} {l:List aE} (h:dc w X u l) (hg:∀ a∈l,Df a):∃ A n c,u=.slice A n c∧jh w X A n l∧n≤maxLen:=by
 obtain⟨A,n,c,rfl,⟨css,h1,h2,h3,h4,h5⟩,_,hn⟩:=h;refine⟨A,n,c,rfl,⟨css,h1,h2,fun i a cs ha hc=>?_,h4,h5⟩,by unfold maxLen;omega⟩;obtain⟨A',n',c',e,g1,g2,g3⟩:=h3 i a cs ha hc;obtain⟨_,k1,k2⟩:=hg a (List.mem_of_getElem? ha);exact⟨A',n',c',e,g1,g3,by unfold lI;omega,by unfold maxLen;omega⟩
theorem Ns {L:List Int} {i:Nat} {v:bY} {j:Nat} (h:dU L i=.ok (v,j)) : -1≤v.aa∧v.aa≤20:=by
 have one:∀ {i:Nat} {l:List aE} {c:Int} {j:Nat},cJ L i=.ok ((l,c),j) → -1≤c∧c≤20:=fun h=>qP _ _ _ _ (Nat.zero_le _) (by decide) (by decide) h;unfold dU at h;cases hh:dZ L (decide (pk L (az L i)=94)) (if pk L (az L i)=94 then az L i+1 else az L i)with
 | error e=>rw [hh]at h;cases h
 | ok q=>
  obtain⟨⟨b,s,c⟩,j1⟩:=q;rw [hh]at h;simp only at h;have h1 : -1≤c∧c≤20:=by
   unfold dZ at hh;cases hi:cJ L (if pk L (az L i)=94 then az L i+1 else az L i)with
   | error e=>rw [hi]at hh;cases hh
   | ok q=>
    obtain⟨⟨l,c1⟩,j2⟩:=q;rw [hi]at hh;simp only at hh;split at hh
    ·split at hh
     ·cases hh
     cases hi2:cJ L (j2+1)with
     | error e=>rw [hi2]at hh;cases hh
     | ok q=>
      obtain⟨⟨l2,c2⟩,j3⟩:=q;rw [hi2]at hh;simp only at hh;injection hh with hh;injection hh with hh Y9;injection hh with UX Sa;injection Sa with Vq UT;subst UT;exact one hi2
    split at hh
    ·cases hh
    injection hh with hh;injection hh with hh Y9;injection hh with UX Sa;injection Sa with Vq UT;subst UT;exact one hi
  cases ht:eJ L j1 with
  | error e=>rw [ht]at h;cases h
  | ok q=>
   obtain⟨⟨a,fin⟩,k⟩:=q;rw [ht]at h;simp only at h;injection h with h;injection h with h3 h4;subst h3;exact h1
def Ts (w:World) (C:Nat) (A:Option Addr) (n c:Nat) (L:List Int) (r:kS bY) (e:Ending) (w':World):Prop :=
  match r with
  | .ok (d,j)=>(∃ A1 n1 c1 A2 n2 c2 A3 n3 c3,e=.returned (.agg #[.bool d.start,.bool d.fin,.slice A1 n1 c1,.slice A2 n2 c2,.slice A3 n3 c3,.int .i64 d.aa])∧sB w' (fun b=>w.heap.size≤b∧b≠C) d [.bool d.start,.bool d.fin,.slice A1 n1 c1,.slice A2 n2 c2,.slice A3 n3 c3,.int .i64 d.aa])∧ax w' C A n c L j∧bP w C w'
  | .error (x,p)=>e=aY x p∧bP w C w'
theorem IK (w:World) (C:Nat) (A:Option Addr) (n c:Nat) (L:List Int) (i:Nat) (h:ax w C A n c L i) (hL:gl L) (hn:n≤100000) :
    Calls Tryz.prog 60 #[.pointer (some ⟨C,0,none⟩)] w (Ts w C A n c L (dU L i)):=by
 refine(OU w C A n c L i h hL hn).mono ?_;intro e w' hp;cases hr:dU L i with
 | error e0=>rw [hr]at hp;exact hp
 | ok q=>
  obtain⟨d,j⟩:=q;rw [hr]at hp;obtain⟨⟨u1,u2,u3,he,h1,h2,h3⟩,hc,hb⟩:=hp;obtain⟨g1,g2,g3⟩:=qL hr;have hk:af w' (fun b=>w.heap.size+2≤b∧b≠C) w' (fun b=>w.heap.size≤b∧b≠C):=af.refl (fun b hb=>⟨by have:=hb.1;omega,hb.2⟩);obtain⟨A1,n1,c1,rfl,x1,m1⟩:=(h1.keep hk).toX g1;obtain⟨A2,n2,c2,rfl,x2,m2⟩:=(h2.keep hk).toX g2;obtain⟨A3,n3,c3,rfl,x3,m3⟩:=(h3.keep hk).toX g3;have G7:=Ns hr;exact⟨⟨A1,n1,c1,A2,n2,c2,A3,n3,c3,he,A1,n1,c1,A2,n2,c2,A3,n3,c3,rfl,x1,x2,x3,m1,m2,m3,by unfold lI;omega⟩,hc,hb⟩
structure ql (w:World) (C:Nat) (A:Option Addr) (n c:Nat) (L:List Int) (wr:World) (j:Nat):Prop where
  cur:iV w.heap.size wr C A n c L j
  but:bP w C wr
  res:ai wr w.heap.size 97 #[.int .i64 0,.string ⟨#[]⟩,.slice none 0 0,.int .i64 0,.bool false,.bool false,.slice none 0 0,.slice none 0 0,.slice none 0 0,.int .i64 0,.bool false,.bool false,.slice none 0 0,.slice none 0 0,.slice none 0 0,.int .i64 0]
section
variable {w wr w' : World} {C : Nat} {A : Option Addr} {n c : Nat} {L : List Int} {j j' : Nat}
theorem ql.step (h:ql w C A n c L wr j) (hc:ax w' C A n c L j') (hb:bP wr C w'):ql w C A n c L w' j':=by
 have hC:=h.cur.lt;exact⟨h.cur.but hc hb,h.but.trans hb,(hb.2.2.2.2 _ h.res.lt (by omega)).trans h.res⟩
theorem ql.below (h:ql w C A n c L wr j) (hb:Below wr.heap.size wr w'):ql w C A n c L w' j:=by
 have bu:=hb.mono h.but.1;exact⟨h.cur.below bu,fD h.but bu,h.res.below hb h.res.lt⟩
theorem ql.put (h:ql w C A n c L wr j) {P:Nat} (hP:w.heap.size<P) (k:Nat) (u:Value):ql w C A n c L (wr.setCell ⟨P,k,none⟩ u) j:=by
 have hb:=(bP.set wr P k u);have bu:=hb.to (B:=w.heap.size) h.but.1 (Nat.le_of_lt hP);exact⟨h.cur.below bu,fD h.but bu,(hb.2.2.2.2 _ h.res.lt (by omega)).trans h.res⟩
end
theorem yP (w:World) (C:Nat) (A:Option Addr) (n c:Nat) (L:List Int) (i:Nat) (h:ax w C A n c L i):ql w C A n c L (w.alloc (.cells #[.int .i64 0,.string ⟨#[]⟩,.slice none 0 0,.int .i64 0,.bool false,.bool false,.slice none 0 0,.slice none 0 0,.slice none 0 0,.int .i64 0,.bool false,.bool false,.slice none 0 0,.slice none 0 0,.slice none 0 0,.int .i64 0] 97)) i:=by
 have hb:Below w.heap.size w (w.alloc (.cells #[.int .i64 0,.string ⟨#[]⟩,.slice none 0 0,.int .i64 0,.bool false,.bool false,.slice none 0 0,.slice none 0 0,.slice none 0 0,.int .i64 0,.bool false,.bool false,.slice none 0 0,.slice none 0 0,.slice none 0 0,.int .i64 0] 97)):=(Below.refl _ _).alloc (Nat.le_refl _) _;exact⟨(iV.start h).below hb,bP.below C hb,ai.new _ _ _⟩
def wB (w:World) (C b:Nat):Prop:=w.heap.size<b∧b≠C
theorem mX {w w':World} {C P:Nat} {t:TypeId} {cs:Array Value} (h:ai w P t cs) (hb:bP w C w') (hP:P≠C):ai w' P t cs:=(hb.2.2.2.2 _ h.lt hP).trans h
def tJ (w:World) (C:Nat) (A:Option Addr) (n c:Nat) (L:List Int) (r:kS aF) (e:Ending) (w':World):Prop :=
  match r with
  | .ok (d,j)=>(∃ cs:List Value,e=.returned (.agg cs.toArray)∧eO w' (wB w C) d cs)∧ax w' C A n c L j∧bP w C w'
  | .error (x,p)=>e=aY x p∧bP w C w'
theorem wC {w wr:World} {C:Nat} {A:Option Addr} {n c:Nat} {L:List Int} {j:Nat} {d:aF} {vs:List Value} (h:ql w C A n c L wr j) (hp:eO wr (wB w C) d vs) :
    vs.toArray.all (·.oneCell')=true∧ax (wr.setRow w.heap.size vs.toArray) C A n c L j∧bP w C (wr.setRow w.heap.size vs.toArray) ∧
    ai (wr.setRow w.heap.size vs.toArray) w.heap.size 97 vs.toArray∧eO (wr.setRow w.heap.size vs.toArray) (wB w C) d vs:=by
 have hb:=(Ib wr w.heap.size vs.toArray).to (B:=w.heap.size) h.but.1 (Nat.le_refl _);have hk:af wr (wB w C) (wr.setRow w.heap.size vs.toArray) (wB w C):=(Ib wr w.heap.size vs.toArray).keeps (fun b hb=>by have:=hb.1;omega) (fun _ h _=>h);exact⟨by rw [Array.all_eq_true_iff_forall_mem];intro u hu;exact hp.one.2 u (by simpa using hu),(h.cur.below hb).cur,fD h.but hb,Po h.res,hp.keep hk⟩
theorem kj:(Tryz.prog.info? 97).map (·.size)=some 16:=by kernel_rfl
theorem jX:∃ fs,Tryz.prog.underlying 97 = some (.struct fs):=⟨_,Tryz.underlying97⟩
theorem yD (L:List Int) (a:Nat):(iA L a).size≤4*L.length:=by
 unfold iA;have h1:=runesBytes_size_le (aL L a (bh L a));have h2:(aL L a (bh L a)).length≤L.length:=(by unfold aL;rw [List.length_take,List.length_drop];omega);omega
theorem Jl {L:List Int} {i:Nat} {e:Int × Nat} (h:aU L (i+1) 58=.error e):jq L i=.error e:=by unfold jq;rw [h]
theorem Ca {L:List Int} {i j a:Nat} {e:Int × Nat} (h:aU L (i+1) 58=.ok j) (ha:az L j=a) (lG:pk L a=91) (hs:bI L 20 a=.error e):jq L i=.error e:=by unfold jq;rw [h];simp only;rw [ha,if_pos lG,hs]
theorem Da {L:List Int} {i j a k:Nat} {s:ag} (h:aU L (i+1) 58=.ok j) (ha:az L j=a) (lG:pk L a=91) (hs:bI L 20 a=.ok (s,k)):jq L i=.ok (⟨3,eP,s,0,cZ,cZ⟩,k):=by unfold jq;rw [h];simp only;rw [ha,if_pos lG,hs]
theorem J7 {L:List Int} {i j a:Nat} (h:aU L (i+1) 58=.ok j) (ha:az L j=a) (lG:pk L a≠91):jq L i=(if kE (iA L a)=true then .ok (⟨4,iA L a,[],0,cZ,cZ⟩,bh L a)else .error (7,a)):=by unfold jq;rw [h];simp only;rw [ha,if_neg lG]
theorem Bc (w:World) (C:Nat) (A:Option Addr) (n c:Nat) (L:List Int) (i:Nat) (h:ax w C A n c L i) (hL:gl L) (hn:n≤100000) (xj:pk L i=58) :
    Calls Tryz.prog 35 #[.pointer (some ⟨C,0,none⟩)] w (tJ w C A n c L (jq L i)):=by
 have hl:=h.len;have HL:=qqh hL;have iI:=qqh (fun(W:World) (m:Nat) (h:ax W C A n c L m)=>cW W C A n c L m h);have rI:=qqh (fun(W:World) (m:Nat) (h:ax W C A n c L m)=>jW W C A n c L m h);have J0:=qqh (fun(W:World) (m:Nat) (r:Int) (h:ax W C A n c L m) (hr:r ≠ -1)=>fK W C A n c L m r h hr);have fB:=qqh (fun(W:World) (m:Nat) (h:ax W C A n c L m)=>vV 20 1 W C A n c L m rfl (by decide) h hL hn);have Tk:=qqh (fun(W:World) (m:Nat) (h:ax W C A n c L m) (h0:0<n)=>rT W C A n c L m h h0);have hi:=h.le;have sY:=qqh (yP w C A n c L i h);obtain⟨R,hR⟩:∃ R,jq L i=R:=⟨_,rfl⟩;rw [hR];have HR:=qqh hR;clear h hL hR;go_enter Tryz.func35,Tryz.ntmps35;go_wp2_with fail;refine(iI.out _ i sY.out.cur.cur).mono ?_;rintro e w1 ⟨rfl,hc1,aW⟩;have iU:=qqh (sY.out.step hc1 aW);clear hc1 aW;have hlt:i<n:=(by rw [← hl];exact bD (by omega));rw [xj];obtain⟨d1,d2,d3,d4⟩:=iU.out.cur.cur.step hlt;have fm:=qqh (iU.out.step d3 d4);have Va:IntKind.i64.wrap ((i:Int)+1)=(i:Int)+1:=wrap_small _ (by omega) (by omega);have KF:=qqh (J0.out _ (i+1) 58 fm.out.cur.cur (by decide));clear d3 d4;cases hnd:aU L (i+1) 58 with
 | error e0=>
  obtain⟨y,p⟩:=e0;have fc:=qqh (show R=.error (y,p) from HR.out.symm.trans (Jl hnd));rw [hnd]at KF;clear hnd;go_wp2_with fail;refine KF.out.mono ?_;rintro e w9 ⟨he,bR⟩;unfold aY at he;subst he;have eK:=qqh (fm.out.but.trans bR);clear bR;go_wp2_with fail;rw [fc.out];exact⟨rfl,rfl,eK.out⟩
 | ok j=>
  have DK:=qqh hnd;rw [hnd]at KF;clear hnd;obtain⟨a,ha⟩:∃ a,az L j=a:=⟨_,rfl⟩;have HA:=qqh ha;clear ha;go_wp2_with fail;refine KF.out.mono ?_;rintro e w3 ⟨rfl,lU,bN⟩;have eV:=qqh (fm.out.step lU bN);clear lU bN d1 d2;go_wp2_with fail;refine(rI.out _ j eV.out.cur.cur).mono ?_;rintro e w4 ⟨rfl,mP,hb4⟩;rw [HA.out]at mP;have iK:=qqh (eV.out.step mP hb4);clear mP hb4;go_wp2_with fail;refine(iI.out _ a iK.out.cur.cur).mono ?_;rintro e w5 ⟨rfl,mK,ez⟩;have kZ:=qqh (iK.out.step mK ez);clear mK ez;by_cases lG:pk L a=91
  ·have zg:=qqh (fB.out _ a kZ.out.cur.cur);cases hst:bI L 20 a with
   | error e0=>
    obtain⟨y,p⟩:=e0;have fc:=qqh (show R=.error (y,p) from HR.out.symm.trans (Ca DK.out HA.out lG hst));rw [hst]at zg;rw [lG];clear hst lG;go_wp2_with fail;refine zg.out.mono ?_;rintro e w9 ⟨he,bR⟩;unfold aY at he;subst he;have eK:=qqh (kZ.out.but.trans bR);clear bR;go_wp2_with fail;rw [fc.out];exact⟨rfl,rfl,eK.out⟩
   | ok q=>
    obtain⟨s,k⟩:=q;have fc:=qqh (show R=.ok (⟨3,eP,s,0,cZ,cZ⟩,k) from HR.out.symm.trans (Da DK.out HA.out lG hst));have hss:=(mo HL.out.ok 20 _ _ _ hst).2.size;rw [hst]at zg;rw [lG];clear hst lG;go_wp2_with fail;refine zg.out.mono ?_;rintro e w6 ⟨⟨B,m,d,rfl,hr,hd⟩,En,fu⟩;have Vn:=kZ.out.step En fu;have hm:m≤maxLen:=(by have h1:=hr.1;rw [bE]at h1;unfold maxLen;omega);have oe:=qqh (show bW w6 (wB w C) 2 B m (an s) from hr.lift (fun b (h:w5.heap.size≤b)=>⟨by have:=kZ.out.res.lt;omega,by have:=kZ.out.cur.lt;have:=kZ.out.but.1;omega⟩));have tN:=qqh Vn;have wS:=qqh (show eO w6 (wB w C) ⟨3,eP,s,0,cZ,cZ⟩ [.int .i64 3,.string ⟨#[]⟩,.slice B m d,.int .i64 0,.bool false,.bool false,.slice none 0 0,.slice none 0 0,.slice none 0 0,.int .i64 0,.bool false,.bool false,.slice none 0 0,.slice none 0 0,.slice none 0 0,.int .i64 0] from⟨B,m,d,[.bool false,.bool false,.slice none 0 0,.slice none 0 0,.slice none 0 0,.int .i64 0],[.bool false,.bool false,.slice none 0 0,.slice none 0 0,.slice none 0 0,.int .i64 0],rfl,oe.out,hm,kX,kX,show lI 3 from⟨by decide,by decide⟩,show lI 0 from⟨by decide,by decide⟩,Nat.zero_le _⟩);clear hr hd En fu Vn;obtain⟨hone,e1,e2,xd,e4⟩:=wC tN.out wS.out;have zc:=qqh e1;have xU:=qqh e2;have LB:=qqh e4;have so:=qqh hone;have RU:=qqh xd;have EF:=qqh (ql.res tN.out);clear e1 e2 e4 xd hone
    go_wp2_with (refine wpList_store_row (c:=#[.int .i64 0,.string ⟨#[]⟩,.slice none 0 0,.int .i64 0,.bool false,.bool false,.slice none 0 0,.slice none 0 0,.slice none 0 0,.int .i64 0,.bool false,.bool false,.slice none 0 0,.slice none 0 0,.slice none 0 0,.int .i64 0]) (vs:=#[.int .i64 3,.string ⟨#[]⟩,.slice B m d,.int .i64 0,.bool false,.bool false,.slice none 0 0,.slice none 0 0,.slice none 0 0,.int .i64 0,.bool false,.bool false,.slice none 0 0,.slice none 0 0,.slice none 0 0,.int .i64 0]) rfl rfl kj rfl so.out rfl rfl EF.out ?_);(try simp only [Act.put]);refine bodyPost_ret (v:=.agg #[.int .i64 3,.string ⟨#[]⟩,.slice B m d,.int .i64 0,.bool false,.bool false,.slice none 0 0,.slice none 0 0,.slice none 0 0,.int .i64 0,.bool false,.bool false,.slice none 0 0,.slice none 0 0,.slice none 0 0,.int .i64 0]) (mq Tryz.results35 rfl jX kj RU.out) rfl ?_;rw [fc.out];exact⟨⟨_,rfl,LB.out⟩,zc.out,xU.out⟩
  have q91:(pk L a == 91)=false:=(by rw [beq_eq_false_iff_ne];exact lG);have c1:=kZ.out.cur.cur.blk.cell 1;obtain⟨T,hT⟩:∃ T,iA L a=T:=⟨_,rfl⟩;have HT:=qqh hT;have kO:=qqh (show R=(if kE T=true then .ok (⟨4,T,[],0,cZ,cZ⟩,bh L a)else .error (7,a)) by rw [← HR.out,J7 DK.out HA.out lG,hT]);clear hT;go_wp2_with fail;refine(Tk.out _ a kZ.out.cur.cur (by omega)).mono ?_;rintro e w6 ⟨rfl,En,fu⟩;rw [HT.out];have tN:=qqh (kZ.out.step En fu);have hts:T.size≤maxLen:=by
   rw [← HT.out];have:=yD L a;have:=tN.out.cur.cur.le;unfold maxLen;omega
  clear En fu c1;go_upto_region 9 with fail;have hP:=tN.out.res.lt;have vJ:=ai.new w6 97 #[.int .i64 4,.string T,.slice none 0 0,.int .i64 0,.bool false,.bool false,.slice none 0 0,.slice none 0 0,.slice none 0 0,.int .i64 0,.bool false,.bool false,.slice none 0 0,.slice none 0 0,.slice none 0 0,.int .i64 0];have kY:Below w6.heap.size w6 (w6.alloc (.cells #[.int .i64 4,.string T,.slice none 0 0,.int .i64 0,.bool false,.bool false,.slice none 0 0,.slice none 0 0,.slice none 0 0,.int .i64 0,.bool false,.bool false,.slice none 0 0,.slice none 0 0,.slice none 0 0,.int .i64 0] 97)):=(Below.refl _ _).alloc (Nat.le_refl _) _;have VL:=tN.out.below kY;have WK:w6.heap.size<(w6.alloc (.cells #[.int .i64 4,.string T,.slice none 0 0,.int .i64 0,.bool false,.bool false,.slice none 0 0,.slice none 0 0,.slice none 0 0,.int .i64 0,.bool false,.bool false,.slice none 0 0,.slice none 0 0,.slice none 0 0,.int .i64 0] 97)).heap.size:=(by simp);generalize (w6.alloc (.cells #[.int .i64 4,.string T,.slice none 0 0,.int .i64 0,.bool false,.bool false,.slice none 0 0,.slice none 0 0,.slice none 0 0,.int .i64 0,.bool false,.bool false,.slice none 0 0,.slice none 0 0,.slice none 0 0,.int .i64 0] 97))=w7 at *;have vR:=qqh VL;have HBK:=qqh vJ;have c1:w7.cell? ⟨w6.heap.size,1,none⟩=some (.string T):=vJ.cell 1;clear kY VL vJ;obtain⟨B9,OG⟩:∃ B9,kE T=B9:=⟨_,rfl⟩;have eK:=qqh OG;rw [OG]at kO;clear OG;go_cut [51] (fun v wx=>v=.bool (!B9)∧Below w7.heap.size w7 wx);case first=>
   go_region_with (first | (go_at_call 57;refine(i6 _).mono ?_;rintro e w' ⟨rfl,rfl⟩) | (go_at_call 56;refine(sv _ T _ eK.out _ (Dq (ai.new _ _ _))).mono ?_;rintro e w' ⟨rfl,rfl⟩))
   all_goals
     go_wp2_with fail
     go_meet
     exact⟨rfl,below_drewN ((Below.refl _ _).alloc (Nat.le_refl _) _) _⟩
  obtain⟨rfl,hbc⟩:=hcut;have vI:=qqh (vR.out.below hbc);have Rj:=HBK.out.below hbc WK;have Ci:=qqh Rj;cases B9 with
  | false=>
   have fc:=qqh (show R=.error (7,a) from kO.out);clear hbc c1 Rj;go_wp2_with fail;refine(ck 7 a _).mono ?_;rintro e w9 ⟨rfl,rfl⟩;go_wp2_with fail;rw [fc.out];exact⟨rfl,rfl,vI.out.but⟩
  | true=>
   have fc:=qqh (show R=.ok (⟨4,T,[],0,cZ,cZ⟩,bh L a) from kO.out);have Yz:=vI.out;have wS:=qqh (show eO wc (wB w C) ⟨4,T,[],0,cZ,cZ⟩ [.int .i64 4,.string T,.slice none 0 0,.int .i64 0,.bool false,.bool false,.slice none 0 0,.slice none 0 0,.slice none 0 0,.int .i64 0,.bool false,.bool false,.slice none 0 0,.slice none 0 0,.slice none 0 0,.int .i64 0] from⟨none,0,0,[.bool false,.bool false,.slice none 0 0,.slice none 0 0,.slice none 0 0,.int .i64 0],[.bool false,.bool false,.slice none 0 0,.slice none 0 0,.slice none 0 0,.int .i64 0],rfl,bW.nil 2,Nat.zero_le _,kX,kX,show lI 4 from⟨by decide,by decide⟩,show lI 0 from⟨by decide,by decide⟩,hts⟩);clear hbc Yz c1;obtain⟨hone,e1,e2,xd,e4⟩:=wC vI.out wS.out;have zc:=qqh e1;have xU:=qqh e2;have LB:=qqh e4;have so:=qqh hone;have RU:=qqh xd;have EF:=qqh (ql.res vI.out);have Wd:=qqh Rj;clear e1 e2 e4 xd hone;go_wp2_with (first | (refine wpList_load_row (cs:=#[.int .i64 4,.string T,.slice none 0 0,.int .i64 0,.bool false,.bool false,.slice none 0 0,.slice none 0 0,.slice none 0 0,.int .i64 0,.bool false,.bool false,.slice none 0 0,.slice none 0 0,.slice none 0 0,.int .i64 0]) rfl rfl jX kj rfl Wd.out ?_) | (refine wpList_store_row (c:=#[.int .i64 0,.string ⟨#[]⟩,.slice none 0 0,.int .i64 0,.bool false,.bool false,.slice none 0 0,.slice none 0 0,.slice none 0 0,.int .i64 0,.bool false,.bool false,.slice none 0 0,.slice none 0 0,.slice none 0 0,.int .i64 0]) (vs:=#[.int .i64 4,.string T,.slice none 0 0,.int .i64 0,.bool false,.bool false,.slice none 0 0,.slice none 0 0,.slice none 0 0,.int .i64 0,.bool false,.bool false,.slice none 0 0,.slice none 0 0,.slice none 0 0,.int .i64 0]) rfl rfl kj rfl so.out rfl rfl EF.out ?_));(try simp only [Act.put])
   refine bodyPost_ret (v:=.agg #[.int .i64 4,.string T,.slice none 0 0,.int .i64 0,.bool false,.bool false,.slice none 0 0,.slice none 0 0,.slice none 0 0,.int .i64 0,.bool false,.bool false,.slice none 0 0,.slice none 0 0,.slice none 0 0,.int .i64 0]) (mq Tryz.results35 rfl jX kj RU.out) rfl ?_;rw [fc.out];exact⟨⟨_,rfl,LB.out⟩,zc.out,xU.out⟩
theorem Cv {L:List Int} {i:Nat} {e:Int × Nat} (h:gR L (i+1)=.error e):oG L i=.error e:=by unfold oG;rw [h]
theorem Bd {L:List Int} {i j:Nat} {s:ByteArray} {e:Int × Nat} (h:gR L (i+1)=.ok (s,j)) (h2:aU L (az L j) 61=.error e):oG L i=.error e:=by unfold oG;rw [h];simp only;rw [h2]
theorem ER {L:List Int} {i j k:Nat} {s:ByteArray} {e:Int × Nat} (h:gR L (i+1)=.ok (s,j)) (h2:aU L (az L j) 61=.ok k) (h3:bI L 20 (az L k)=.error e):oG L i=.error e:=by unfold oG;rw [h];simp only;rw [h2];simp only;rw [h3]
theorem Ri {L:List Int} {i j k m:Nat} {s:ByteArray} {t:ag} (h:gR L (i+1)=.ok (s,j)) (h2:aU L (az L j) 61=.ok k) (h3:bI L 20 (az L k)=.ok (t,m)):oG L i=.ok (⟨1,s,t,0,cZ,cZ⟩,m):=by unfold oG;rw [h];simp only;rw [h2];simp only;rw [h3]
theorem Ep (w:World) (C:Nat) (A:Option Addr) (n c:Nat) (L:List Int) (i:Nat) (h:ax w C A n c L i) (hL:gl L) (hn:n≤100000) (lX:pk L i=36) (hv:L5 L i=true) :
    Calls Tryz.prog 35 #[.pointer (some ⟨C,0,none⟩)] w (tJ w C A n c L (oG L i)):=by
 have hl:=h.len;have HL:=qqh hL;have iI:=qqh (fun(W:World) (m:Nat) (h:ax W C A n c L m)=>cW W C A n c L m h);have rI:=qqh (fun(W:World) (m:Nat) (h:ax W C A n c L m)=>jW W C A n c L m h);have J0:=qqh (fun(W:World) (m:Nat) (r:Int) (h:ax W C A n c L m) (hr:r ≠ -1)=>fK W C A n c L m r h hr);have fB:=qqh (fun(W:World) (m:Nat) (h:ax W C A n c L m)=>vV 20 1 W C A n c L m rfl (by decide) h hL hn);have Tk:=qqh (fun(W:World) (m:Nat) (h:ax W C A n c L m) (h0:0<n)=>rT W C A n c L m h h0);have hi:=h.le;have sY:=qqh (yP w C A n c L i h);obtain⟨R,hR⟩:∃ R,oG L i=R:=⟨_,rfl⟩;rw [hR];have HR:=qqh hR;clear h hL hR;go_enter Tryz.func35,Tryz.ntmps35;go_wp2_with fail;refine(iI.out _ i sY.out.cur.cur).mono ?_;rintro e w1 ⟨rfl,hc1,aW⟩;have iU:=qqh (sY.out.step hc1 aW);clear hc1 aW;have hlt:i<n:=(by rw [← hl];exact bD (by omega));have Zq:=qqh (fun(W:World) (h:ax W C A n c L i)=>show Calls Tryz.prog 58 #[.pointer (some ⟨C,0,none⟩)] W fun e w'=>e=.returned (.bool true)∧Below W.heap.size W w' by have:=uV W C A n c L i h hlt;rwa [hv]at this);rw [lX]
 go_upto_if 63 with (first
   | (go_at_call 34;refine(iI.out _ i iU.out.cur.cur).mono ?_;rintro e w2 ⟨rfl,hc2,bu⟩;rw [lX])
   | (go_at_call 58;refine(Zq.out _ (by assumption)).mono ?_;rintro e w3 ⟨rfl,bN⟩))
 have eV:=qqh ((iU.out.step hc2 bu).below bN);clear hc2 bu bN;obtain⟨d1,d2,d3,d4⟩:=eV.out.cur.cur.step hlt;have iK:=qqh (eV.out.step d3 d4);have Va:IntKind.i64.wrap ((i:Int)+1)=(i:Int)+1:=wrap_small _ (by omega) (by omega);have Gb:=qqh (Hs _ C A n c L (i+1) iK.out.cur.cur (by omega));clear d3 d4;cases hnm:gR L (i+1)with
 | error e0=>
  obtain⟨y,p⟩:=e0;have fc:=qqh (show R=.error (y,p) from HR.out.symm.trans (Cv hnm));rw [hnm]at Gb;clear hnm;go_wp2_with fail;refine Gb.out.mono ?_;rintro e w9 ⟨he,bR⟩;unfold aY at he;subst he;have eK:=qqh (iK.out.but.trans bR);clear bR;go_wp2_with fail;rw [fc.out];exact⟨rfl,rfl,eK.out⟩
 | ok q=>
  obtain⟨T,j⟩:=q;have DK:=qqh hnm;have hts:T.size≤maxLen:=by
   have h1:=(lQ hnm).2.2.1;have h2:=yD L (i+1);have h3:=iK.out.cur.cur.le;rw [← h1]at h2;unfold maxLen;omega
  rw [hnm]at Gb;clear hnm;obtain⟨a,ha⟩:∃ a,az L j=a:=⟨_,rfl⟩;have HA:=qqh ha;clear ha;go_wp2_with fail;refine Gb.out.mono ?_;rintro e w5 ⟨rfl,mK,ez⟩;have kZ:=qqh (iK.out.step mK ez);clear mK ez d1 d2;have hP:=kZ.out.res.lt;have RT:w5.heap.size≠C:=(by have:=kZ.out.cur.lt;have:=kZ.out.but.1;omega);have vJ:=ai.new w5 97 #[.int .i64 1,.string T,.slice none 0 0,.int .i64 0,.bool false,.bool false,.slice none 0 0,.slice none 0 0,.slice none 0 0,.int .i64 0,.bool false,.bool false,.slice none 0 0,.slice none 0 0,.slice none 0 0,.int .i64 0];have kY:Below w5.heap.size w5 (w5.alloc (.cells #[.int .i64 1,.string T,.slice none 0 0,.int .i64 0,.bool false,.bool false,.slice none 0 0,.slice none 0 0,.slice none 0 0,.int .i64 0,.bool false,.bool false,.slice none 0 0,.slice none 0 0,.slice none 0 0,.int .i64 0] 97)):=(Below.refl _ _).alloc (Nat.le_refl _) _;have tN:=qqh (kZ.out.below kY);have HBK:=qqh vJ;clear kY vJ;go_wp2_with fail;refine(rI.out _ j tN.out.cur.cur).mono ?_;rintro e w7 ⟨rfl,sI,gH⟩;rw [HA.out]at sI;have vR:=qqh (tN.out.step sI gH);have aa1:=qqh (mX HBK.out gH RT);clear sI gH;have Pj:=qqh (J0.out _ a 61 vR.out.cur.cur (by decide));cases hnd:aU L a 61 with
  | error e0=>
   obtain⟨y,p⟩:=e0;have fc:=qqh (show R=.error (y,p) from HR.out.symm.trans (Bd DK.out (by rw [HA.out];exact hnd)));rw [hnd]at Pj;clear hnd;go_wp2_with fail;refine Pj.out.mono ?_;rintro e w9 ⟨he,bR⟩;unfold aY at he;subst he;have eK:=qqh (vR.out.but.trans bR);clear bR;go_wp2_with fail;rw [fc.out];exact⟨rfl,rfl,eK.out⟩
  | ok k=>
   have XV:=qqh (show aU L (az L j) 61=.ok k by rw [HA.out];exact hnd);rw [hnd]at Pj;clear hnd;obtain⟨b,hb⟩:∃ b,az L k=b:=⟨_,rfl⟩;have HB:=qqh hb;clear hb;go_wp2_with fail;refine Pj.out.mono ?_;rintro e w8 ⟨rfl,Hu,gh⟩;have vI:=qqh (vR.out.step Hu gh);have Ci:=qqh (mX aa1.out gh RT);clear Hu gh;go_wp2_with fail;refine(rI.out _ k vI.out.cur.cur).mono ?_;rintro e w9 ⟨rfl,FE,bR⟩;rw [HB.out]at FE;have og:=qqh (vI.out.step FE bR);have PI:=qqh (mX Ci.out bR RT);clear FE bR;have zg:=qqh (fB.out _ b og.out.cur.cur);cases hst:bI L 20 b with
   | error e0=>
    obtain⟨y,p⟩:=e0;have fc:=qqh (show R=.error (y,p) from HR.out.symm.trans (ER DK.out XV.out (by rw [HB.out];exact hst)));rw [hst]at zg;clear hst;go_wp2_with fail;refine zg.out.mono ?_;rintro e wz ⟨he,hbz⟩;unfold aY at he;subst he;have P5:=qqh (og.out.but.trans hbz);clear hbz;go_wp2_with fail;rw [fc.out];exact⟨rfl,rfl,P5.out⟩
   | ok q=>
    obtain⟨s,m0⟩:=q;have fc:=qqh (show R=.ok (⟨1,T,s,0,cZ,cZ⟩,m0) from HR.out.symm.trans (Ri DK.out XV.out (by rw [HB.out];exact hst)));have hss:=(mo HL.out.ok 20 _ _ _ hst).2.size;rw [hst]at zg;clear hst;go_wp2_with fail;refine zg.out.mono ?_;rintro e uN ⟨⟨B,m,d,rfl,hr,hd⟩,Xf,S6⟩;have UB:=og.out.step Xf S6;have Pd:=mX PI.out S6 RT;have hm:m≤maxLen:=(by have h1:=hr.1;rw [bE]at h1;unfold maxLen;omega);have C8:=PI.out.lt;have x2:=Pd.cell 2;have z2:=Pd.frozen 2;have JY:=qqh (UB.put hP 2 (.slice B m d));have Qe:=qqh (show ai (uN.setCell ⟨w5.heap.size,2,none⟩ (.slice B m d)) w5.heap.size 97 #[.int .i64 1,.string T,.slice B m d,.int .i64 0,.bool false,.bool false,.slice none 0 0,.slice none 0 0,.slice none 0 0,.int .i64 0,.bool false,.bool false,.slice none 0 0,.slice none 0 0,.slice none 0 0,.int .i64 0] from Pd.put 2 _);have hrd:bW uN (fun b=>wB w C b∧b≠w5.heap.size) 2 B m (an s):=hr.lift (fun b (h:w9.heap.size≤b)=>⟨⟨by have:=og.out.res.lt;omega,by have:=og.out.cur.lt;have:=og.out.but.1;omega⟩,by omega⟩);have oe:=qqh (hrd.keep (af.setCell (p:=⟨w5.heap.size,2,none⟩) (X':=wB w C) (.slice B m d) (fun b hb=>hb.2) (fun b hb _=>hb.1)))
    have wS:=qqh (show eO (uN.setCell ⟨w5.heap.size,2,none⟩ (.slice B m d)) (wB w C) ⟨1,T,s,0,cZ,cZ⟩ [.int .i64 1,.string T,.slice B m d,.int .i64 0,.bool false,.bool false,.slice none 0 0,.slice none 0 0,.slice none 0 0,.int .i64 0,.bool false,.bool false,.slice none 0 0,.slice none 0 0,.slice none 0 0,.int .i64 0] from⟨B,m,d,[.bool false,.bool false,.slice none 0 0,.slice none 0 0,.slice none 0 0,.int .i64 0],[.bool false,.bool false,.slice none 0 0,.slice none 0 0,.slice none 0 0,.int .i64 0],rfl,oe.out,hm,kX,kX,show lI 1 from⟨by decide,by decide⟩,show lI 0 from⟨by decide,by decide⟩,hts⟩);clear hr hd Xf S6 UB Pd hrd;go_upto_region 19 with fail;have Xq:=JY.out;have YN:=Qe.out;have YY:=wS.out;clear JY Qe wS oe x2 z2;generalize uN.setCell ⟨w5.heap.size,2,none⟩ (.slice B m d)=w11 at *;obtain⟨hone,e1,e2,xd,e4⟩:=wC Xq YY;have zc:=qqh e1;have xU:=qqh e2;have LB:=qqh e4;have so:=qqh hone;have RU:=qqh xd;have EF:=qqh (ql.res Xq);have Wd:=qqh YN;clear e1 e2 e4 xd hone
    go_wp2_with (first | (refine wpList_load_row (cs:=#[.int .i64 1,.string T,.slice B m d,.int .i64 0,.bool false,.bool false,.slice none 0 0,.slice none 0 0,.slice none 0 0,.int .i64 0,.bool false,.bool false,.slice none 0 0,.slice none 0 0,.slice none 0 0,.int .i64 0]) rfl rfl jX kj rfl Wd.out ?_) | (refine wpList_store_row (c:=#[.int .i64 0,.string ⟨#[]⟩,.slice none 0 0,.int .i64 0,.bool false,.bool false,.slice none 0 0,.slice none 0 0,.slice none 0 0,.int .i64 0,.bool false,.bool false,.slice none 0 0,.slice none 0 0,.slice none 0 0,.int .i64 0]) (vs:=#[.int .i64 1,.string T,.slice B m d,.int .i64 0,.bool false,.bool false,.slice none 0 0,.slice none 0 0,.slice none 0 0,.int .i64 0,.bool false,.bool false,.slice none 0 0,.slice none 0 0,.slice none 0 0,.int .i64 0]) rfl rfl kj rfl so.out rfl rfl EF.out ?_));(try simp only [Act.put]);refine bodyPost_ret (v:=.agg #[.int .i64 1,.string T,.slice B m d,.int .i64 0,.bool false,.bool false,.slice none 0 0,.slice none 0 0,.slice none 0 0,.int .i64 0,.bool false,.bool false,.slice none 0 0,.slice none 0 0,.slice none 0 0,.int .i64 0]) (mq Tryz.results35 rfl jX kj RU.out) rfl ?_;rw [fc.out];exact⟨⟨_,rfl,LB.out⟩,zc.out,xU.out⟩
theorem zR {L:List Int} {i:Nat} {e:Int × Nat} (h:dU L i=.error e):jw L i=.error e:=by unfold jw;rw [h]
theorem yg {L:List Int} {i j:Nat} {l:bY} {e:Int × Nat} (h:dU L i=.ok (l,j)) (h2:ff L j=.error e):jw L i=.error e:=by unfold jw;rw [h];simp only;rw [h2]
theorem yy {L:List Int} {i j k:Nat} {l:bY} {d:Int} {e:Int × Nat} (h:dU L i=.ok (l,j)) (h2:ff L j=.ok (d,k)) (h3:dU L k=.error e):jw L i=.error e:=by unfold jw;rw [h];simp only;rw [h2];simp only;rw [h3]
theorem Gl {L:List Int} {i j k m:Nat} {l r:bY} {d:Int} (h:dU L i=.ok (l,j)) (h2:ff L j=.ok (d,k)) (h3:dU L k=.ok (r,m)):jw L i=if gy ⟨2,eP,[],d,l,r⟩≠0 then .error (gy ⟨2,eP,[],d,l,r⟩,i)else .ok (⟨2,eP,[],d,l,r⟩,m):=by unfold jw;rw [h];simp only;rw [h2];simp only;rw [h3]
theorem Ks {L:List Int} {i j:Nat} {d:Int} (h:ff L i=.ok (d,j)):1≤d∧d≤3:=by
 unfold ff at h;split at h
 ·injection h with h;injection h with h1 h2;omega
 split at h
 ·injection h with h;injection h with h1 h2;omega
 split at h
 ·cases h
 injection h with h;injection h with h1 h2;omega
theorem K1 {wr:World} {P:Nat} {t:TypeId} {X X':Nat→Prop} (a0 a1 a2 a3 a4 a5 a6 a7 a8 a9 v0 v1 v2 v3 v4 v5 z0 z1 z2 z3 z4 z5:Value) (h:ai wr P t #[a0,a1,a2,a3,a4,a5,a6,a7,a8,a9,z0,z1,z2,z3,z4,z5]) (hX:∀ b,X b→b≠P) (h2:∀ b,X b→X' b):ai ((((((wr.setCell ⟨P,10,none⟩ v0).setCell ⟨P,11,none⟩ v1).setCell ⟨P,12,none⟩ v2).setCell ⟨P,13,none⟩ v3).setCell ⟨P,14,none⟩ v4).setCell ⟨P,15,none⟩ v5) P t #[a0,a1,a2,a3,a4,a5,a6,a7,a8,a9,v0,v1,v2,v3,v4,v5]∧af wr X ((((((wr.setCell ⟨P,10,none⟩ v0).setCell ⟨P,11,none⟩ v1).setCell ⟨P,12,none⟩ v2).setCell ⟨P,13,none⟩ v3).setCell ⟨P,14,none⟩ v4).setCell ⟨P,15,none⟩ v5) X':=by
 have r0:ai (wr.setCell ⟨P,10,none⟩ v0) P t #[a0,a1,a2,a3,a4,a5,a6,a7,a8,a9,v0,z1,z2,z3,z4,z5]:=h.put 10 v0;have r1:ai ((wr.setCell ⟨P,10,none⟩ v0).setCell ⟨P,11,none⟩ v1) P t #[a0,a1,a2,a3,a4,a5,a6,a7,a8,a9,v0,v1,z2,z3,z4,z5]:=r0.put 11 v1;have r2:ai (((wr.setCell ⟨P,10,none⟩ v0).setCell ⟨P,11,none⟩ v1).setCell ⟨P,12,none⟩ v2) P t #[a0,a1,a2,a3,a4,a5,a6,a7,a8,a9,v0,v1,v2,z3,z4,z5]:=r1.put 12 v2;have r3:ai ((((wr.setCell ⟨P,10,none⟩ v0).setCell ⟨P,11,none⟩ v1).setCell ⟨P,12,none⟩ v2).setCell ⟨P,13,none⟩ v3) P t #[a0,a1,a2,a3,a4,a5,a6,a7,a8,a9,v0,v1,v2,v3,z4,z5]:=r2.put 13 v3;have r4:ai (((((wr.setCell ⟨P,10,none⟩ v0).setCell ⟨P,11,none⟩ v1).setCell ⟨P,12,none⟩ v2).setCell ⟨P,13,none⟩ v3).setCell ⟨P,14,none⟩ v4) P t #[a0,a1,a2,a3,a4,a5,a6,a7,a8,a9,v0,v1,v2,v3,v4,z5]:=r3.put 14 v4;have r5:ai ((((((wr.setCell ⟨P,10,none⟩ v0).setCell ⟨P,11,none⟩ v1).setCell ⟨P,12,none⟩ v2).setCell ⟨P,13,none⟩ v3).setCell ⟨P,14,none⟩ v4).setCell ⟨P,15,none⟩ v5) P t #[a0,a1,a2,a3,a4,a5,a6,a7,a8,a9,v0,v1,v2,v3,v4,v5]:=r4.put 15 v5;have kp:∀ (W:World) (k:Nat) (v:Value),af W X (W.setCell ⟨P,k,none⟩ v) X:=fun W k v=>af.setCell v hX (fun _ h _=>h);have k0:=kp wr 10 v0;have k1:=k0.trans (kp (wr.setCell ⟨P,10,none⟩ v0) 11 v1);have k2:=k1.trans (kp ((wr.setCell ⟨P,10,none⟩ v0).setCell ⟨P,11,none⟩ v1) 12 v2);have k3:=k2.trans (kp (((wr.setCell ⟨P,10,none⟩ v0).setCell ⟨P,11,none⟩ v1).setCell ⟨P,12,none⟩ v2) 13 v3);have k4:=k3.trans (kp ((((wr.setCell ⟨P,10,none⟩ v0).setCell ⟨P,11,none⟩ v1).setCell ⟨P,12,none⟩ v2).setCell ⟨P,13,none⟩ v3) 14 v4);have k5:=k4.trans (kp (((((wr.setCell ⟨P,10,none⟩ v0).setCell ⟨P,11,none⟩ v1).setCell ⟨P,12,none⟩ v2).setCell ⟨P,13,none⟩ v3).setCell ⟨P,14,none⟩ v4) 15 v5);exact⟨r5,k5.trans (af.refl h2)⟩
theorem BF (w:World) (C:Nat) (A:Option Addr) (n c:Nat) (L:List Int) (i:Nat) (h:ax w C A n c L i) (hL:gl L) (hn:n≤100000) (xj:pk L i≠58) (hv:¬(pk L i=36∧L5 L i=true)) :
    Calls Tryz.prog 35 #[.pointer (some ⟨C,0,none⟩)] w (tJ w C A n c L (jw L i)):=by
 have hl:=h.len;have HL:=qqh hL;have iI:=qqh (fun(W:World) (m:Nat) (h:ax W C A n c L m)=>cW W C A n c L m h);have rI:=qqh (fun(W:World) (m:Nat) (h:ax W C A n c L m)=>jW W C A n c L m h);have J0:=qqh (fun(W:World) (m:Nat) (r:Int) (h:ax W C A n c L m) (hr:r ≠ -1)=>fK W C A n c L m r h hr);have fB:=qqh (fun(W:World) (m:Nat) (h:ax W C A n c L m)=>vV 20 1 W C A n c L m rfl (by decide) h hL hn);have Tk:=qqh (fun(W:World) (m:Nat) (h:ax W C A n c L m) (h0:0<n)=>rT W C A n c L m h h0);have hi:=h.le;have sY:=qqh (yP w C A n c L i h);obtain⟨R,hR⟩:∃ R,jw L i=R:=⟨_,rfl⟩;rw [hR];have HR:=qqh hR;clear h hL hR;go_enter Tryz.func35,Tryz.ntmps35;go_wp2_with fail;refine(iI.out _ i sY.out.cur.cur).mono ?_;rintro e w1 ⟨rfl,hc1,aW⟩;have iU:=qqh (sY.out.step hc1 aW);clear hc1 aW;have yS:=qqh (fun(W:World) (m:Nat) (h:ax W C A n c L m)=>IK W C A n c L m h HL.out hn);have q58:(pk L i == 58)=false:=(by rw [beq_eq_false_iff_ne];exact xj);go_upto_region 12 with fail;go_cut [63] (fun v wx=>v=.bool false∧ql w C A n c L wx i);case first=>
  by_cases lX:pk L i=36
  ·have hlt:i<n:=(by rw [← hl];exact bD (by omega));have hvf:L5 L i=false:=(by rw [Bool.eq_false_iff];exact fun h=>hv ⟨lX,h⟩);have Zq:=qqh (fun(W:World) (h:ax W C A n c L i)=>show Calls Tryz.prog 58 #[.pointer (some ⟨C,0,none⟩)] W fun e w'=>e=.returned (.bool false)∧Below W.heap.size W w' by have:=uV W C A n c L i h hlt;rwa [hvf]at this);clear xj hv q58
   go_wp2_with (first
     | (go_at_call 34;refine(iI.out _ i iU.out.cur.cur).mono ?_;rintro e w2 ⟨rfl,hc2,bu⟩;rw [lX])
     | (go_at_call 58;refine(Zq.out _ (by assumption)).mono ?_;rintro e w3 ⟨rfl,bN⟩))
   go_meet;exact⟨rfl,(iU.out.step hc2 bu).below bN⟩
  have q36:(pk L i == 36)=false:=(by rw [beq_eq_false_iff_ne];exact lX);clear xj hv q58;go_wp2_with (go_at_call 34;refine(iI.out _ i iU.out.cur.cur).mono ?_;rintro e w2 ⟨rfl,hc2,bu⟩);go_meet;exact⟨rfl,iU.out.step hc2 bu⟩
 obtain⟨rfl,YK⟩:=hcut;have fm:=qqh YK;have y1:=YK.cur.cur.blk.cell 1;have jF:=qqh (yS.out _ i YK.cur.cur);clear YK xj hv q58;cases Jh:dU L i with
 | error e0=>
  obtain⟨y,p⟩:=e0;have fc:=qqh (show R=.error (y,p) from HR.out.symm.trans (zR Jh));rw [Jh]at jF;clear Jh;go_wp2_with fail;refine jF.out.mono ?_;rintro e w9 ⟨he,bR⟩;unfold aY at he;subst he;have eK:=qqh (fm.out.but.trans bR);clear bR;go_wp2_with fail;rw [fc.out];exact⟨rfl,rfl,eK.out⟩
 | ok q=>
  obtain⟨l,j⟩:=q;have KU:=qqh Jh;rw [Jh]at jF;clear Jh;go_wp2_with fail;refine jF.out.mono ?_;rintro e w3 ⟨⟨L1,a1,x1,L2,a2,x2,L3,a3,x3,rfl,NV⟩,lU,bN⟩;obtain⟨ls,lf,lb,U1,la,lc⟩:=l;dsimp only at NV;have eV:=qqh (fm.out.step lU bN);have C8:w.heap.size<w3.heap.size:=eV.out.res.lt;have hP0:=fm.out.res.lt;have RT:w3.heap.size≠C:=(by have:=eV.out.cur.lt;have:=eV.out.but.1;omega);have vJ:=ai.new w3 97 #[.int .i64 2,.string ⟨#[]⟩,.slice none 0 0,.int .i64 0,.bool ls,.bool lf,.slice L1 a1 x1,.slice L2 a2 x2,.slice L3 a3 x3,.int .i64 lc,.bool false,.bool false,.slice none 0 0,.slice none 0 0,.slice none 0 0,.int .i64 0];have kY:Below w3.heap.size w3 (w3.alloc (.cells #[.int .i64 2,.string ⟨#[]⟩,.slice none 0 0,.int .i64 0,.bool ls,.bool lf,.slice L1 a1 x1,.slice L2 a2 x2,.slice L3 a3 x3,.int .i64 lc,.bool false,.bool false,.slice none 0 0,.slice none 0 0,.slice none 0 0,.int .i64 0] 97)):=(Below.refl _ _).alloc (Nat.le_refl _) _;have iK:=qqh (eV.out.below kY);have Zl:=qqh vJ;have Z3:=qqh (NV.keep (af.alloc (X':=fun b=>wB w C b∧b≠w3.heap.size) (.cells #[.int .i64 2,.string ⟨#[]⟩,.slice none 0 0,.int .i64 0,.bool ls,.bool lf,.slice L1 a1 x1,.slice L2 a2 x2,.slice L3 a3 x3,.int .i64 lc,.bool false,.bool false,.slice none 0 0,.slice none 0 0,.slice none 0 0,.int .i64 0] 97) (fun b hb hl=>⟨⟨by have:=hb.1;omega,hb.2⟩,by omega⟩)));clear kY vJ NV lU bN y1;have YX:=qqh (Nw _ C A n c L j iK.out.cur.cur);cases NX:ff L j with
  | error e0=>
   obtain⟨y,p⟩:=e0;have fc:=qqh (show R=.error (y,p) from HR.out.symm.trans (yg KU.out NX));rw [NX]at YX;clear NX;go_wp2_with fail;refine YX.out.mono ?_;rintro e w9 ⟨he,bR⟩;unfold aY at he;subst he;have eK:=qqh (iK.out.but.trans bR);clear bR;go_wp2_with fail;rw [fc.out];exact⟨rfl,rfl,eK.out⟩
  | ok q=>
   obtain⟨d,k⟩:=q;have HAE:=qqh NX;have R7:=Ks NX;rw [NX]at YX;clear NX;go_wp2_with fail;refine YX.out.mono ?_;rintro e w5 ⟨rfl,mK,ez⟩;have Mc:=iK.out.step mK ez;have Yl:=mX Zl.out ez RT;have hx5:=Z3.out.keep (ez.keeps (X':=fun b=>wB w C b∧b≠w3.heap.size) (fun b h=>h.1.2) (fun _ h _=>h));have x5:=Yl.cell 3;have z5:=Yl.frozen 3;have tN:=qqh (Mc.put C8 3 (.int .i64 d));have Vz:=qqh (show ai (w5.setCell ⟨w3.heap.size,3,none⟩ (.int .i64 d)) w3.heap.size 97 #[.int .i64 2,.string ⟨#[]⟩,.slice none 0 0,.int .i64 d,.bool ls,.bool lf,.slice L1 a1 x1,.slice L2 a2 x2,.slice L3 a3 x3,.int .i64 lc,.bool false,.bool false,.slice none 0 0,.slice none 0 0,.slice none 0 0,.int .i64 0] from Yl.put 3 _);have Zf:=qqh (hx5.keep (af.setCell (p:=⟨w3.heap.size,3,none⟩) (X':=fun b=>wB w C b∧b≠w3.heap.size) (.int .i64 d) (fun b h=>h.2) (fun _ h _=>h)));clear Mc Yl hx5 mK ez;have oo:=qqh (yS.out _ k tN.out.cur.cur);have hz6:w3.heap.size<(w5.setCell ⟨w3.heap.size,3,none⟩ (.int .i64 d)).heap.size:=Vz.out.lt;cases hsr:dU L k with
   | error e0=>
    obtain⟨y,p⟩:=e0;have fc:=qqh (show R=.error (y,p) from HR.out.symm.trans (yy KU.out HAE.out hsr));rw [hsr]at oo;clear hsr;go_wp2_with fail;refine oo.out.mono ?_;rintro e w9 ⟨he,bR⟩;unfold aY at he;subst he;have eK:=qqh (tN.out.but.trans bR);clear bR;go_wp2_with fail;rw [fc.out];exact⟨rfl,rfl,eK.out⟩
   | ok q=>
    obtain⟨r,m⟩:=q;have BI:=qqh (HR.out.symm.trans (Gl KU.out HAE.out hsr));have HRG:=qqh hsr;rw [hsr]at oo;clear hsr;go_wp2_with fail;refine oo.out.mono ?_;rintro e w7 ⟨⟨R1,b1,y1,R2,b2,y2,R3,b3,y3,rfl,wG⟩,sI,gH⟩;obtain⟨rs,rf,rb,VG,ra,rc⟩:=r;dsimp only at wG BI ⊢;have VL:=tN.out.step sI gH;have EX:=mX Vz.out gH RT;have Sb:=Zf.out.keep (gH.keeps (X':=fun b=>wB w C b∧b≠w3.heap.size) (fun b h=>h.1.2) (fun _ h _=>h));have Q9:=wG.keep (af.refl (X':=fun b=>wB w C b∧b≠w3.heap.size) (fun b hb=>⟨⟨by have:=hb.1;omega,hb.2⟩,by have:=hb.1;omega⟩));have x10:=EX.cell 10;have z10:=EX.frozen 10;have x11:=EX.cell 11;have z11:=EX.frozen 11;have x12:=EX.cell 12;have z12:=EX.frozen 12;have x13:=EX.cell 13;have z13:=EX.frozen 13;have x14:=EX.cell 14;have z14:=EX.frozen 14;have x15:=EX.cell 15;have z15:=EX.frozen 15;obtain⟨hk8,hkp⟩:=K1 (X:=fun b=>wB w C b∧b≠w3.heap.size) (X':=wB w C) (.int .i64 2) (.string ⟨#[]⟩) (.slice none 0 0) (.int .i64 d) (.bool ls) (.bool lf) (.slice L1 a1 x1) (.slice L2 a2 x2) (.slice L3 a3 x3) (.int .i64 lc) (.bool rs) (.bool rf) (.slice R1 b1 y1) (.slice R2 b2 y2) (.slice R3 b3 y3) (.int .i64 rc) (.bool false) (.bool false) (.slice none 0 0) (.slice none 0 0) (.slice none 0 0) (.int .i64 0) EX (fun b h=>h.2) (fun b h=>h.1);have vI:=qqh ((((((VL.put C8 10 (.bool rs)).put C8 11 (.bool rf)).put C8 12 (.slice R1 b1 y1)).put C8 13 (.slice R2 b2 y2)).put C8 14 (.slice R3 b3 y3)).put C8 15 (.int .i64 rc))
    have Oh:=qqh (show eO _ (wB w C) ⟨2,eP,[],d,⟨ls,lf,lb,U1,la,lc⟩,⟨rs,rf,rb,VG,ra,rc⟩⟩ [.int .i64 2,.string ⟨#[]⟩,.slice none 0 0,.int .i64 d,.bool ls,.bool lf,.slice L1 a1 x1,.slice L2 a2 x2,.slice L3 a3 x3,.int .i64 lc,.bool rs,.bool rf,.slice R1 b1 y1,.slice R2 b2 y2,.slice R3 b3 y3,.int .i64 rc] from⟨none,0,0,[.bool ls,.bool lf,.slice L1 a1 x1,.slice L2 a2 x2,.slice L3 a3 x3,.int .i64 lc],[.bool rs,.bool rf,.slice R1 b1 y1,.slice R2 b2 y2,.slice R3 b3 y3,.int .i64 rc],rfl,bW.nil 2,Nat.zero_le _,Sb.keep hkp,Q9.keep hkp,show lI 2 from⟨by decide,by decide⟩,show lI d by unfold lI;omega,Nat.zero_le _⟩);have Ci:=qqh hk8;have WG:=qqh (Sb.keep hkp);have Xo:=qqh (Q9.keep hkp);clear VL EX Sb Q9 hkp hk8 wG sI gH;go_upto_region 24 with fail;have Xq:=vI.out;have YN:=Ci.out;have YY:=Oh.out;have hHL:=WG.out;have hHR:=Xo.out;clear vI Ci Oh WG Xo x5 z5 x10 z10 x11 z11 x12 z12 x13 z13 x14 z14 x15 z15;generalize ((((((w7.setCell ⟨w3.heap.size,10,none⟩ (.bool rs)).setCell ⟨w3.heap.size,11,none⟩ (.bool rf)).setCell ⟨w3.heap.size,12,none⟩ (.slice R1 b1 y1)).setCell ⟨w3.heap.size,13,none⟩ (.slice R2 b2 y2)).setCell ⟨w3.heap.size,14,none⟩ (.slice R3 b3 y3)).setCell ⟨w3.heap.size,15,none⟩ (.int .i64 rc))=w8 at *;have vI:=qqh Xq;have Ci:=qqh YN;have Oh:=qqh YY;clear Xq YN YY;have qt:=qqh (show Calls Tryz.prog 62 #[.agg #[.int .i64 2,.string ⟨#[]⟩,.slice none 0 0,.int .i64 d,.bool ls,.bool lf,.slice L1 a1 x1,.slice L2 a2 x2,.slice L3 a3 x3,.int .i64 lc,.bool rs,.bool rf,.slice R1 b1 y1,.slice R2 b2 y2,.slice R3 b3 y3,.int .i64 rc]] w8 fun e w'=>e=.returned (.int .i64 (gy ⟨2,eP,[],d,⟨ls,lf,lb,U1,la,lc⟩,⟨rs,rf,rb,VG,ra,rc⟩⟩))∧Below w8.heap.size w8 w' by
     obtain⟨_,_,_,_,_,_,_,_,_,he,l1,l2,l3,Cw,yR,BG,_⟩:=hHL;cases he;obtain⟨_,_,_,_,_,_,_,_,_,he,r1,r2,r3,Co,yV,BW,_⟩:=hHR;cases he;exact rS ⟨2,eP,[],d,⟨ls,lf,lb,U1,la,lc⟩,⟨rs,rf,rb,VG,ra,rc⟩⟩ none 0 0 L1 L2 L3 R1 R2 R3 a1 a2 a3 x1 x2 x3 b1 b2 b3 y1 y2 y3 w8 ((bW.nil (w:=w8) (X:=wB w C) 2).rd (fun _ _ h=>h)) (Nat.zero_le _) l1.rd l2.rd l3.rd Cw yR BG r1.rd r2.rd r3.rd Co yV BW)
    clear hHL hHR;generalize gy ⟨2,eP,[],d,⟨ls,lf,lb,U1,la,lc⟩,⟨rs,rf,rb,VG,ra,rc⟩⟩=pe at qt BI;go_wp2_with (refine wpList_load_row (cs:=#[.int .i64 2,.string ⟨#[]⟩,.slice none 0 0,.int .i64 d,.bool ls,.bool lf,.slice L1 a1 x1,.slice L2 a2 x2,.slice L3 a3 x3,.int .i64 lc,.bool rs,.bool rf,.slice R1 b1 y1,.slice R2 b2 y2,.slice R3 b3 y3,.int .i64 rc]) rfl rfl jX kj rfl Ci.out ?_);refine qt.out.mono ?_;rintro e w9 ⟨rfl,bR⟩;have og:=qqh (vI.out.below bR);have K5:=Ci.out.below bR Ci.out.lt;have acB:=qqh (Oh.out.keep (af.below bR (X':=wB w C) (fun _ h _=>h)));clear bR;by_cases hpe:pe=0
    ·have q0:(pe != 0)=false:=(by simpa using hpe);have fc:=qqh (show R=.ok (⟨2,eP,[],d,⟨ls,lf,lb,U1,la,lc⟩,⟨rs,rf,rb,VG,ra,rc⟩⟩,m) by rw [BI.out,if_neg (fun h=>h hpe)]);have PI:=qqh K5;clear K5 hpe;obtain⟨hone,e1,e2,xd,e4⟩:=wC og.out acB.out;have zc:=qqh e1;have xU:=qqh e2;have LB:=qqh e4;have so:=qqh hone;have RU:=qqh xd;have EF:=qqh (ql.res og.out);have Wd:=qqh PI.out;clear e1 e2 e4 xd hone;go_wp2_with (first | (refine wpList_load_row (cs:=#[.int .i64 2,.string ⟨#[]⟩,.slice none 0 0,.int .i64 d,.bool ls,.bool lf,.slice L1 a1 x1,.slice L2 a2 x2,.slice L3 a3 x3,.int .i64 lc,.bool rs,.bool rf,.slice R1 b1 y1,.slice R2 b2 y2,.slice R3 b3 y3,.int .i64 rc]) rfl rfl jX kj rfl Wd.out ?_) | (refine wpList_store_row (c:=#[.int .i64 0,.string ⟨#[]⟩,.slice none 0 0,.int .i64 0,.bool false,.bool false,.slice none 0 0,.slice none 0 0,.slice none 0 0,.int .i64 0,.bool false,.bool false,.slice none 0 0,.slice none 0 0,.slice none 0 0,.int .i64 0]) (vs:=#[.int .i64 2,.string ⟨#[]⟩,.slice none 0 0,.int .i64 d,.bool ls,.bool lf,.slice L1 a1 x1,.slice L2 a2 x2,.slice L3 a3 x3,.int .i64 lc,.bool rs,.bool rf,.slice R1 b1 y1,.slice R2 b2 y2,.slice R3 b3 y3,.int .i64 rc]) rfl rfl kj rfl so.out rfl rfl EF.out ?_));(try simp only [Act.put]);refine bodyPost_ret (v:=.agg #[.int .i64 2,.string ⟨#[]⟩,.slice none 0 0,.int .i64 d,.bool ls,.bool lf,.slice L1 a1 x1,.slice L2 a2 x2,.slice L3 a3 x3,.int .i64 lc,.bool rs,.bool rf,.slice R1 b1 y1,.slice R2 b2 y2,.slice R3 b3 y3,.int .i64 rc]) (mq Tryz.results35 rfl jX kj RU.out) rfl ?_;rw [fc.out];exact⟨⟨_,rfl,LB.out⟩,zc.out,xU.out⟩
    have q0:(pe != 0)=true:=(by simpa using hpe);have fc:=qqh (show R=.error (pe,i) by rw [BI.out,if_pos hpe]);clear K5 hpe;go_wp2_with fail;refine(ck pe i _).mono ?_;rintro e uN ⟨rfl,rfl⟩;go_wp2_with fail;rw [fc.out];exact⟨rfl,rfl,og.out.but⟩
theorem O3 (w:World) (C:Nat) (A:Option Addr) (n c:Nat) (L:List Int) (i:Nat) (h:ax w C A n c L i) (hL:gl L) (hn:n≤100000) :
    Calls Tryz.prog 35 #[.pointer (some ⟨C,0,none⟩)] w (tJ w C A n c L (jr L i)):=by
 unfold jr;by_cases xj:pk L i=58
 ·rw [if_pos xj];exact Bc w C A n c L i h hL hn xj
 rw [if_neg xj];by_cases hv:pk L i=36∧pk L (az L (bh L (i+1)))=61
 ·rw [if_pos hv];exact Ep w C A n c L i h hL hn hv.1 (decide_eq_true hv.2)
 rw [if_neg hv];exact BF w C A n c L i h hL hn xj (fun x=>hv ⟨x.1,of_decide_eq_true x.2⟩)
end Go.Proofs.YthgkedoildcbcaaGreatDoor
