/- RulesNum + RulesRight + RdPartFr + RdPartA + RdPartB + RdPartC + RdPart -/
import Derived.Test.YtkggjgeihhialaaGreatDoorZs14
import Derived.Test.YtkggjgeihhialaaGreatDoorZs41
import Derived.Test.YtkggjgeihhialaaGreatDoorZs27
import Derived.Test.YtkggjgeihhialaaGreatDoorZs12
import Derived.Test.YtkggjgeihhialaaGreatDoorZs22
import Derived.Deep.DeepCutAuto
set_option maxHeartbeats 12800000
set_option maxRecDepth 100000
namespace Go.Proofs.YtkggjgeihhialaaGreatDoor
open Go.RowKit
theorem xS (L:List Int) (i:Nat):gw (gv L i):=by
 intro e p h;unfold gv at h;split at h
 ·cases h
 injection h with h;injection h with h1 h2;omega
theorem B7 (L:List Int) (i:Nat):gw (fU L i):=by
 intro e p h;unfold fU at h;split at h
 ·cases h
 injection h with h;injection h with h1 h2;omega
theorem Gk (L:List Int) (a:Nat) (out:List aE) (cur:Int) (e:Int) (p:Nat) (h:b7 L a out cur=.error (e,p)):e≠0:=by
 unfold b7 at h;split at h
 ·split at h
  ·injection h with h;injection h with h1 h2;omega
  cases h
 split at h
 ·split at h
  ·rename_i h1;injection h with h;subst h;exact vC L 20 a _ _ h1
  cases h
 split at h
 ·split at h
  ·rename_i h1;injection h with h;subst h;exact xS L _ _ _ h1
  cases h
 split at h
 ·split at h
  ·rename_i h1;injection h with h;subst h;exact B7 L _ _ _ h1
  cases h
 split at h
 ·split at h
  ·rename_i h1;injection h with h;subst h;exact qU L _ _ _ h1
  split at h
  ·cases h
  injection h with h;injection h with h1 h2;omega
 cases h
theorem oQ (L:List Int):∀ f i out cur,gw (cI L f i out cur):=by
 intro f;induction f with
 | zero=>intro i out cur e p h;rw [cI]at h;injection h with h;injection h with h1 h2;omega
 | succ f ih=>
  intro i out cur e p h;rw [cI]at h;split at h
  ·rename_i h1;injection h with h;subst h;exact Gk L _ _ _ _ _ h1
  ·cases h
  split at h
  ·injection h with h;injection h with h1 h2;omega
  exact ih _ _ _ _ _ h
theorem Gb (L:List Int) (st:Bool) (a:Nat):gw (dI L st a):=by
 intro e p h;unfold dI at h;split at h
 ·rename_i h1;injection h with h;subst h;exact oQ L _ _ _ _ _ _ h1
 split at h
 ·split at h
  ·injection h with h;injection h with h1 h2;omega
  split at h
  ·rename_i h1;injection h with h;subst h;exact oQ L _ _ _ _ _ _ h1
  cases h
 split at h
 ·injection h with h;injection h with h1 h2;omega
 cases h
theorem GK (L:List Int) (a:Nat):gw (dZ L a):=by
 intro e p h;unfold dZ at h;split at h
 ·split at h
  ·rename_i h1;injection h with h;subst h;exact oQ L _ _ _ _ _ _ h1
  split at h
  ·injection h with h;injection h with h1 h2;omega
  split at h <;> cases h
 cases h
theorem yw (L:List Int) (i:Nat):gw (dG L i):=by
 intro e p h;unfold dG at h;split at h
 ·rename_i h1;injection h with h;subst h;exact Gb L _ _ _ _ h1
 split at h
 ·rename_i h1;injection h with h;subst h;exact GK L _ _ _ h1
 cases h
theorem DY (L:List Int) (i:Nat):gw (eJ L i):=by
 intro e p h;unfold eJ at h;split at h
 ·cases h
 split at h
 ·cases h
 split at h
 ·rename_i h1;injection h with h;subst h;exact gC h1
 cases h
theorem Ie (L:List Int) (i:Nat):gw (iL L i):=by
 intro e p h;unfold iL at h;split at h
 ·unfold iQ at h;split at h
  ·rename_i h1;injection h with h;subst h;exact gC h1
  split at h
  ·split at h
   ·rename_i h1;injection h with h;subst h;exact vC L 20 _ _ _ h1
   cases h
  split at h
  ·cases h
  injection h with h;injection h with h1 h2;omega
 split at h
 ·unfold mY at h;split at h
  ·rename_i h1;injection h with h;subst h;exact xS L _ _ _ h1
  split at h
  ·rename_i h1;injection h with h;subst h;exact gC h1
  split at h
  ·rename_i h1;injection h with h;subst h;exact vC L 20 _ _ _ h1
  cases h
 unfold iO at h;split at h
 ·rename_i h1;injection h with h;subst h;exact yw L _ _ _ h1
 split at h
 ·rename_i h1;injection h with h;subst h;exact DY L _ _ _ h1
 split at h
 ·rename_i h1;injection h with h;subst h;exact yw L _ _ _ h1
 split at h
 ·rename_i h1;injection h with h;injection h with h2 h3;subst h2;exact h1
 cases h
theorem Gn (L:List Int):∀ f i l (e:Int) (p:Nat),fQ L f i l=.error (e,p)→e≠0:=by
 intro f;induction f with
 | zero=>intro i l e p h;rw [fQ]at h;injection h with h;injection h with h1 h2;omega
 | succ f ih=>
  intro i l e p h;rw [fQ]at h;split at h
  ·cases h
  split at h
  ·injection h with h;injection h with h1 h2;omega
  split at h
  ·rename_i h1;injection h with h;subst h;exact Ie L _ _ _ h1
  split at h
  ·rename_i h1;injection h with h;subst h;exact gC h1
  exact ih _ _ _ _ h
theorem sH {L:List Int} (h:16000<L.length):gU L=([],(4,0)):=by unfold gU;rw [if_pos h]
theorem uH {L:List Int} {e:Int} {p:Nat} (h:¬ 16000<L.length) (h2:fQ L (L.length+1) 0 [] = .error (e,p)):gU L=([],(e,(p:Int))):=by unfold gU;rw [if_neg h,h2]
theorem yz {L:List Int} {l:List aF} (h:¬ 16000<L.length) (h2:fQ L (L.length+1) 0 [] = .ok l):gU L=(l,(0,0)):=by unfold gU;rw [if_neg h,h2]
def BC (a:aE):Prop:=Br a=a∧(a.kind=1∨a.kind=2∨a.kind=3)∧a.name.size≤20
theorem Ix {L:List Int} {a:Nat} {out o:List aE} {cur c:Int} {j:Nat} (h:b7 L a out cur=.ok (some ((o,c),j))) (ho:∀ x∈out,BC x):∀ x∈o,BC x:=by
 have push:∀ (l:List aE),(∀ x∈l,BC x)→∀ x∈out++l,BC x:=by
  intro l hl x hx;rcases List.mem_append.1 hx with hx | hx;exact ho x hx;exact hl x hx
 have rune:∀ x,BC (lM x):=fun x=>⟨rfl,.inl rfl,Nat.zero_le _⟩;unfold b7 at h;split at h
 ·split at h
  ·cases h
  injection h with h;injection h with h;injection h with h1 h2;injection h1 with h1 h3;subst h1;exact ho
 split at h
 ·split at h
  ·cases h
  injection h with h;injection h with h;injection h with h1 h2;injection h1 with h1 h3;subst h1;exact push _ (fun x hx=>by rw [List.mem_singleton.1 hx];exact⟨rfl,.inr (.inl rfl),Nat.zero_le _⟩)
 split at h
 ·split at h
  ·cases h
  rename_i hn;injection h with h;injection h with h;injection h with h1 h2;injection h1 with h1 h3;subst h1;exact push _ (fun x hx=>by rw [List.mem_singleton.1 hx];exact⟨rfl,.inr (.inr rfl),Gh (j7 hn).2.1⟩)
 split at h
 ·split at h
  ·cases h
  rename_i hq;injection h with h;injection h with h;injection h with h1 h2;injection h1 with h1 h3;subst h1;unfold fU at hq;split at hq
  ·injection hq with hq;injection hq with hq MP;subst hq;refine push _ (fun x hx=>?_);obtain⟨y,_,rfl⟩:=List.mem_map.1 hx;exact rune y
  cases hq
 split at h
 ·split at h
  ·cases h
  split at h
  ·injection h with h;injection h with h;injection h with h1 h2;injection h1 with h1 h3;subst h1;exact push _ (fun x hx=>by rw [List.mem_singleton.1 hx];exact rune _)
  cases h
 injection h with h;cases h
theorem AN {L:List Int}:∀ (f i:Nat) (out:List aE) (cur:Int) (v:List aE × Int) (j:Nat),(∀ x∈out,BC x)→cI L f i out cur=.ok (v,j)→∀ x∈v.1,BC x:=by
 intro f;induction f with
 | zero=>intro i out cur v j _ h;rw [cI]at h;cases h
 | succ f ih=>
  intro i out cur v j ho h;rw [cI]at h;cases he:b7 L (aB L i) out cur with
  | error e=>rw [he]at h;cases h
  | ok q=>
   rw [he]at h;cases q with
   | none=>simp only at h;injection h with h;injection h with h1 h2;subst h1;exact ho
   | some q=>
    obtain⟨⟨o,c⟩,k⟩:=q;simp only at h;split at h
    ·cases h
    exact ih _ _ _ _ _ (Ix he ho) h
theorem ji {L:List Int} {i:Nat} {v:List aE × Int} {j:Nat} (h:cA L i=.ok (v,j)):∀ x∈v.1,BC x:=AN _ _ _ _ _ _ (by simp) h
def RV (s:bO):Prop:=(∀ x∈s.before,BC x)∧(∀ x∈s.source,BC x)∧∀ x∈s.after,BC x
theorem wo {l:List aE} (h:∀ x∈l,BC x):l.map Br=l:=by
 induction l with
 | nil=>rfl
 | cons a l ih=>rw [List.map_cons,(h a List.mem_cons_self).1,ih (fun x hx=>h x (List.mem_cons_of_mem _ hx))]
theorem RV.bare {s:bO} (h:RV s):FA s=s:=by
 unfold FA;rw [wo h.1,wo h.2.1,wo h.2.2]
theorem oJ {L:List Int} {i:Nat} {v:bO} {j:Nat} (h:dG L i=.ok (v,j)):RV v:=by
 have nil:∀ x∈([]:List aE),BC x:=(by simp);unfold dG at h;cases hh:dI L (decide (pk L (aB L i)=94)) (if pk L (aB L i)=94 then aB L i+1 else aB L i)with
 | error e=>rw [hh]at h;cases h
 | ok q=>
  obtain⟨⟨b,s,c⟩,j1⟩:=q;rw [hh]at h;simp only at h;have h1:(∀ x∈b,BC x)∧∀ x∈s,BC x:=by
   unfold dI at hh;cases hi:cA L (if pk L (aB L i)=94 then aB L i+1 else aB L i)with
   | error e=>rw [hi]at hh;cases hh
   | ok q=>
    obtain⟨⟨l,c1⟩,j2⟩:=q;rw [hi]at hh;simp only at hh;split at hh
    ·split at hh
     ·cases hh
     cases hi2:cA L (j2+1)with
     | error e=>rw [hi2]at hh;cases hh
     | ok q=>
      obtain⟨⟨l2,c2⟩,j3⟩:=q;rw [hi2]at hh;simp only at hh;injection hh with hh;injection hh with hh Ww;injection hh with U9 PA;injection PA with Vp U2;subst U9 Vp;exact⟨ji hi,ji hi2⟩
    split at hh
    ·cases hh
    injection hh with hh;injection hh with hh Ww;injection hh with U9 PA;injection PA with Vp U2;subst U9 Vp;exact⟨nil,ji hi⟩
  cases ht:dZ L j1 with
  | error e=>rw [ht]at h;cases h
  | ok q=>
   obtain⟨⟨a,fin⟩,k⟩:=q;have h2:∀ x∈a,BC x:=by
    unfold dZ at ht;split at ht
    ·cases hi:cA L (j1+1)with
     | error e=>rw [hi]at ht;cases ht
     | ok q=>
      obtain⟨⟨l,c1⟩,j2⟩:=q;rw [hi]at ht;simp only at ht;split at ht
      ·cases ht
      split at ht
      ·injection ht with ht;injection ht with ht1 ht2;injection ht1 with VM ht4;subst VM;exact ji hi
      injection ht with ht;injection ht with ht1 ht2;injection ht1 with VM ht4;subst VM;exact ji hi
    injection ht with ht;injection ht with ht1 ht2;injection ht1 with VM ht4;subst VM;exact nil
   rw [ht]at h;simp only at h;injection h with h;injection h with h3 h4;subst h3;exact⟨h1.1,h1.2,h2⟩
def WN (p:aF):Prop:=fG p=0∧Oz p=p∧RV p.left∧RV p.right
theorem gZ:RV cQ:=⟨by simp [cQ],by simp [cQ],by simp [cQ]⟩
theorem Ek {L:List Int} (hL:cn L) {i:Nat} {v:aF} {j:Nat} (h:iL L i=.ok (v,j)):WN v:=by
 unfold iL at h;split at h
 ·unfold iQ at h;split at h
  ·cases h
  split at h
  ·split at h
   ·cases h
   rename_i hs;injection h with h;injection h with h1 h2;subst h1;exact⟨jb (kK hL 20 _ _ _ hs).2,rfl,gZ,gZ⟩
  split at h
  ·rename_i hb;injection h with h;injection h with h1 h2;subst h1;refine⟨?_,rfl,gZ,gZ⟩;unfold fG;rw [if_neg (show ¬((4:Int)=1) by decide),if_neg (show ¬((4:Int)=3) by decide),if_pos rfl,if_pos hb]
  cases h
 split at h
 ·unfold mY at h;split at h
  ·cases h
  rename_i hn;split at h
  ·cases h
  split at h
  ·cases h
  rename_i hs;injection h with h;injection h with h1 h2;subst h1;refine⟨?_,rfl,gZ,gZ⟩;unfold fG;rw [if_pos rfl,if_pos (j7 hn).2.1];exact jb (kK hL 20 _ _ _ hs).2
 unfold iO at h;split at h
 ·cases h
 rename_i hl;split at h
 ·cases h
 split at h
 ·cases h
 rename_i hr;split at h
 ·cases h
 rename_i hw;injection h with h;injection h with h1 h2;subst h1;have g1:=oJ hl;have g2:=oJ hr;refine⟨Decidable.of_not_not hw,?_,g1,g2⟩;unfold Oz;simp only [g1.bare,g2.bare];rfl
theorem DO {L:List Int} (hL:cn L):∀ (f i:Nat) (l r:List aF),fQ L f i l=.ok r→l.length≤200→(∀ p∈l,WN p)→(∀ p∈r,WN p)∧r.length≤200:=by
 intro f;induction f with
 | zero=>intro i l r h;rw [fQ]at h;cases h
 | succ f ih=>
  intro i l r h hn hl;rw [fQ]at h;split at h
  ·injection h with h;subst h;exact⟨hl,hn⟩
  split at h
  ·cases h
  split at h
  ·cases h
  rename_i hp;split at h
  ·cases h
  refine ih _ _ _ h (by rw [List.length_append,List.length_singleton];omega) (fun p hp2=>?_);rcases List.mem_append.1 hp2 with hp2 | hp2;exact hl p hp2;rw [List.mem_singleton.1 hp2];exact Ek hL hp
theorem zV {L:List Int} (hL:cn L):(∀ p∈(gU L).1,WN p)∧(gU L).1.length≤200:=by
 by_cases h1:16000<L.length
 ·rw [sH h1];exact⟨by simp,Nat.zero_le _⟩
 cases h2:fQ L (L.length+1) 0 []with
 | error e=>
  obtain⟨e,p⟩:=e;rw [uH h1 h2];exact⟨by simp,Nat.zero_le _⟩
 | ok l=>
  rw [yz h1 h2];exact DO hL _ _ _ _ h2 (Nat.zero_le _) (by simp)
def Fq (a:List (List Int)) (b:List Word):Prop:=a.map bytesOf=b∧∀ w∈a,w.all cV=true
theorem Fq.none {a:List (List Int)} {b:List Word} (h:Fq a b):a = []↔b = []:=by rw [← h.1];simp
theorem cN.toX {w:World} {X:Nat→Prop} {u:Value} {l:List aE} (h:cN w X u l) (hg:∀ a∈l,BC a):∃ A n c,u=.slice A n c∧ig w X A n l∧n≤maxLen:=by
 obtain⟨A,n,c,rfl,⟨css,h1,h2,h3,h4,h5⟩,_,hn⟩:=h;refine⟨A,n,c,rfl,⟨css,h1,h2,fun i a cs ha hc=>?_,h4,h5⟩,by unfold maxLen;omega⟩;obtain⟨A',n',c',e,g1,g2,g3⟩:=h3 i a cs ha hc;obtain⟨_,k1,k2⟩:=hg a (List.mem_of_getElem? ha);exact⟨A',n',c',e,g1,g3,by unfold jU;omega,by unfold maxLen;omega⟩
theorem Kk {L:List Int} {i:Nat} {v:bO} {j:Nat} (h:dG L i=.ok (v,j)) : -1≤v.af∧v.af≤20:=by
 have one:∀ {i:Nat} {l:List aE} {c:Int} {j:Nat},cA L i=.ok ((l,c),j) → -1≤c∧c≤20:=fun h=>oN _ _ _ _ (Nat.zero_le _) (by decide) (by decide) h;unfold dG at h;cases hh:dI L (decide (pk L (aB L i)=94)) (if pk L (aB L i)=94 then aB L i+1 else aB L i)with
 | error e=>rw [hh]at h;cases h
 | ok q=>
  obtain⟨⟨b,s,c⟩,j1⟩:=q;rw [hh]at h;simp only at h;have h1 : -1≤c∧c≤20:=by
   unfold dI at hh;cases hi:cA L (if pk L (aB L i)=94 then aB L i+1 else aB L i)with
   | error e=>rw [hi]at hh;cases hh
   | ok q=>
    obtain⟨⟨l,c1⟩,j2⟩:=q;rw [hi]at hh;simp only at hh;split at hh
    ·split at hh
     ·cases hh
     cases hi2:cA L (j2+1)with
     | error e=>rw [hi2]at hh;cases hh
     | ok q=>
      obtain⟨⟨l2,c2⟩,j3⟩:=q;rw [hi2]at hh;simp only at hh;injection hh with hh;injection hh with hh Ww;injection hh with U9 PA;injection PA with Vp U2;subst U2;exact one hi2
    split at hh
    ·cases hh
    injection hh with hh;injection hh with hh Ww;injection hh with U9 PA;injection PA with Vp U2;subst U2;exact one hi
  cases ht:dZ L j1 with
  | error e=>rw [ht]at h;cases h
  | ok q=>
   obtain⟨⟨a,fin⟩,k⟩:=q;rw [ht]at h;simp only at h;injection h with h;injection h with h3 h4;subst h3;exact h1
def Rs (w:World) (C:Nat) (A:Option Addr) (n c:Nat) (L:List Int) (r:jP bO) (e:Ending) (w':World):Prop :=
  match r with
  | .ok (d,j)=>(∃ A1 n1 c1 A2 n2 c2 A3 n3 c3,e=.returned (.agg #[.bool d.start,.bool d.fin,.slice A1 n1 c1,.slice A2 n2 c2,.slice A3 n3 c3,.int .i64 d.af])∧qJ w' (fun b=>w.heap.size≤b∧b≠C) d [.bool d.start,.bool d.fin,.slice A1 n1 c1,.slice A2 n2 c2,.slice A3 n3 c3,.int .i64 d.af])∧ay w' C A n c L j∧aZ w C w'
  | .error (x,p)=>e=aW x p∧aZ w C w'
theorem IK (w:World) (C:Nat) (A:Option Addr) (n c:Nat) (L:List Int) (i:Nat) (h:ay w C A n c L i) (hL:fN L) (hn:n≤100000) :
    Calls Tryz.prog 72 #[.pointer (some ⟨C,0,none⟩)] w (Rs w C A n c L (dG L i)):=by
 refine(MI w C A n c L i h hL hn).mono ?_;intro e w' hp;cases hr:dG L i with
 | error e0=>rw [hr]at hp;exact hp
 | ok q=>
  obtain⟨d,j⟩:=q;rw [hr]at hp;obtain⟨⟨u1,u2,u3,he,h1,h2,h3⟩,hc,hb⟩:=hp;obtain⟨g1,g2,g3⟩:=oJ hr;have hk:aa w' (fun b=>w.heap.size+2≤b∧b≠C) w' (fun b=>w.heap.size≤b∧b≠C):=aa.refl (fun b hb=>⟨by have:=hb.1;omega,hb.2⟩);obtain⟨A1,n1,c1,rfl,x1,m1⟩:=(h1.keep hk).toX g1;obtain⟨A2,n2,c2,rfl,x2,m2⟩:=(h2.keep hk).toX g2;obtain⟨A3,n3,c3,rfl,x3,m3⟩:=(h3.keep hk).toX g3;have Oi:=Kk hr;exact⟨⟨A1,n1,c1,A2,n2,c2,A3,n3,c3,he,A1,n1,c1,A2,n2,c2,A3,n3,c3,rfl,x1,x2,x3,m1,m2,m3,by unfold jU;omega⟩,hc,hb⟩
structure nW (w:World) (C:Nat) (A:Option Addr) (n c:Nat) (L:List Int) (wr:World) (j:Nat):Prop where
  cur:ia w.heap.size wr C A n c L j
  but:aZ w C wr
  res:aj wr w.heap.size 103 #[.int .i64 0,.string ⟨#[]⟩,.slice none 0 0,.int .i64 0,.bool false,.bool false,.slice none 0 0,.slice none 0 0,.slice none 0 0,.int .i64 0,.bool false,.bool false,.slice none 0 0,.slice none 0 0,.slice none 0 0,.int .i64 0]
section
variable {w wr w' : World} {C : Nat} {A : Option Addr} {n c : Nat} {L : List Int} {j j' : Nat}
theorem nW.step (h:nW w C A n c L wr j) (hc:ay w' C A n c L j') (hb:aZ wr C w'):nW w C A n c L w' j':=by
 have hC:=h.cur.lt;exact⟨h.cur.but hc hb,h.but.trans hb,(hb.2.2.2.2 _ h.res.lt (by omega)).trans h.res⟩
theorem nW.below (h:nW w C A n c L wr j) (hb:Below wr.heap.size wr w'):nW w C A n c L w' j:=by
 have aQ:=hb.mono h.but.1;exact⟨h.cur.below aQ,eY h.but aQ,h.res.below hb h.res.lt⟩
theorem nW.put (h:nW w C A n c L wr j) {P:Nat} (hP:w.heap.size<P) (k:Nat) (u:Value):nW w C A n c L (wr.setCell ⟨P,k,none⟩ u) j:=by
 have hb:=(aZ.set wr P k u);have aQ:=hb.to (B:=w.heap.size) h.but.1 (Nat.le_of_lt hP);exact⟨h.cur.below aQ,eY h.but aQ,(hb.2.2.2.2 _ h.res.lt (by omega)).trans h.res⟩
end
theorem vM (w:World) (C:Nat) (A:Option Addr) (n c:Nat) (L:List Int) (i:Nat) (h:ay w C A n c L i):nW w C A n c L (w.alloc (.cells #[.int .i64 0,.string ⟨#[]⟩,.slice none 0 0,.int .i64 0,.bool false,.bool false,.slice none 0 0,.slice none 0 0,.slice none 0 0,.int .i64 0,.bool false,.bool false,.slice none 0 0,.slice none 0 0,.slice none 0 0,.int .i64 0] 103)) i:=by
 have hb:Below w.heap.size w (w.alloc (.cells #[.int .i64 0,.string ⟨#[]⟩,.slice none 0 0,.int .i64 0,.bool false,.bool false,.slice none 0 0,.slice none 0 0,.slice none 0 0,.int .i64 0,.bool false,.bool false,.slice none 0 0,.slice none 0 0,.slice none 0 0,.int .i64 0] 103)):=(Below.refl _ _).alloc (Nat.le_refl _) _;exact⟨(ia.start h).below hb,aZ.below C hb,aj.new _ _ _⟩
def tP (w:World) (C b:Nat):Prop:=w.heap.size<b∧b≠C
theorem lD {w w':World} {C P:Nat} {t:TypeId} {cs:Array Value} (h:aj w P t cs) (hb:aZ w C w') (hP:P≠C):aj w' P t cs:=(hb.2.2.2.2 _ h.lt hP).trans h
def rK (w:World) (C:Nat) (A:Option Addr) (n c:Nat) (L:List Int) (r:jP aF) (e:Ending) (w':World):Prop :=
  match r with
  | .ok (d,j)=>(∃ cs:List Value,e=.returned (.agg cs.toArray)∧ew w' (tP w C) d cs)∧ay w' C A n c L j∧aZ w C w'
  | .error (x,p)=>e=aW x p∧aZ w C w'
theorem tO {w wr:World} {C:Nat} {A:Option Addr} {n c:Nat} {L:List Int} {j:Nat} {d:aF} {vs:List Value} (h:nW w C A n c L wr j) (hp:ew wr (tP w C) d vs) :
    vs.toArray.all (·.oneCell')=true∧ay (wr.setRow w.heap.size vs.toArray) C A n c L j∧aZ w C (wr.setRow w.heap.size vs.toArray) ∧
    aj (wr.setRow w.heap.size vs.toArray) w.heap.size 103 vs.toArray∧ew (wr.setRow w.heap.size vs.toArray) (tP w C) d vs:=by
 have hb:=(Fi wr w.heap.size vs.toArray).to (B:=w.heap.size) h.but.1 (Nat.le_refl _);have hk:aa wr (tP w C) (wr.setRow w.heap.size vs.toArray) (tP w C):=(Fi wr w.heap.size vs.toArray).keeps (fun b hb=>by have:=hb.1;omega) (fun _ h _=>h);exact⟨by rw [Array.all_eq_true_iff_forall_mem];intro u hu;exact hp.one.2 u (by simpa using hu),(h.cur.below hb).cur,eY h.but hb,NC h.res,hp.keep hk⟩
theorem jt:(Tryz.prog.info? 103).map (·.size)=some 16:=by kernel_rfl
theorem i7:∃ fs,Tryz.prog.underlying 103 = some (.struct fs):=⟨_,Tryz.underlying103⟩
theorem uR (L:List Int) (a:Nat):(gJ L a).size≤4*L.length:=by
 unfold gJ;have h1:=runesBytes_size_le (aL L a (bf L a));have h2:(aL L a (bf L a)).length≤L.length:=(by unfold aL;rw [List.length_take,List.length_drop];omega);omega
theorem Gy {L:List Int} {i:Nat} {e:Int × Nat} (h:aR L (i+1) 58=.error e):iQ L i=.error e:=by unfold iQ;rw [h]
theorem Az {L:List Int} {i j a:Nat} {e:Int × Nat} (h:aR L (i+1) 58=.ok j) (ha:aB L j=a) (j5:pk L a=91) (hs:bE L 20 a=.error e):iQ L i=.error e:=by unfold iQ;rw [h];simp only;rw [ha,if_pos j5,hs]
theorem AU {L:List Int} {i j a k:Nat} {s:ag} (h:aR L (i+1) 58=.ok j) (ha:aB L j=a) (j5:pk L a=91) (hs:bE L 20 a=.ok (s,k)):iQ L i=.ok (⟨3,ey,s,0,cQ,cQ⟩,k):=by unfold iQ;rw [h];simp only;rw [ha,if_pos j5,hs]
theorem Io {L:List Int} {i j a:Nat} (h:aR L (i+1) 58=.ok j) (ha:aB L j=a) (j5:pk L a≠91):iQ L i=(if jy (gJ L a)=true then .ok (⟨4,gJ L a,[],0,cQ,cQ⟩,bf L a)else .error (7,a)):=by unfold iQ;rw [h];simp only;rw [ha,if_neg j5]
theorem zY (w:World) (C:Nat) (A:Option Addr) (n c:Nat) (L:List Int) (i:Nat) (h:ay w C A n c L i) (hL:fN L) (hn:n≤100000) (ux:pk L i=58) :
    Calls Tryz.prog 42 #[.pointer (some ⟨C,0,none⟩)] w (rK w C A n c L (iQ L i)):=by
 have hl:=h.len;have HL:=qqh hL;have gD:=qqh (fun(W:World) (m:Nat) (h:ay W C A n c L m)=>cK W C A n c L m h);have pM:=qqh (fun(W:World) (m:Nat) (h:ay W C A n c L m)=>jj W C A n c L m h);have GB:=qqh (fun(W:World) (m:Nat) (r:Int) (h:ay W C A n c L m) (hr:r ≠ -1)=>eZ W C A n c L m r h hr);have fk:=qqh (fun(W:World) (m:Nat) (h:ay W C A n c L m)=>tY 20 1 W C A n c L m rfl (by decide) h hL hn);have Rk:=qqh (fun(W:World) (m:Nat) (h:ay W C A n c L m) (h0:0<n)=>qt W C A n c L m h h0);have hi:=h.le;have qR:=qqh (vM w C A n c L i h);obtain⟨R,hR⟩:∃ R,iQ L i=R:=⟨_,rfl⟩;rw [hR];have HR:=qqh hR;clear h hL hR;go_enter Tryz.func42,Tryz.ntmps42;go_wp2_with fail;refine(gD.out _ i qR.out.cur.cur).mono ?_;rintro e w1 ⟨rfl,hc1,aT⟩;have fK:=qqh (qR.out.step hc1 aT);clear hc1 aT;have hlt:i<n:=(by rw [← hl];exact bu (by omega));rw [ux];obtain⟨d1,d2,d3,d4⟩:=fK.out.cur.cur.step hlt;have eT:=qqh (fK.out.step d3 d4);have Vv:IntKind.i64.wrap ((i:Int)+1)=(i:Int)+1:=wrap_small _ (by omega) (by omega);have Jc:=qqh (GB.out _ (i+1) 58 eT.out.cur.cur (by decide));clear d3 d4;cases hnd:aR L (i+1) 58 with
 | error e0=>
  obtain⟨y,p⟩:=e0;have eH:=qqh (show R=.error (y,p) from HR.out.symm.trans (Gy hnd));rw [hnd]at Jc;clear hnd;go_wp2_with fail;refine Jc.out.mono ?_;rintro e w9 ⟨he,cF⟩;unfold aW at he;subst he;have eE:=qqh (eT.out.but.trans cF);clear cF;go_wp2_with fail;rw [eH.out];exact⟨rfl,rfl,eE.out⟩
 | ok j=>
  have CN:=qqh hnd;rw [hnd]at Jc;clear hnd;obtain⟨a,ha⟩:∃ a,aB L j=a:=⟨_,rfl⟩;have HA:=qqh ha;clear ha;go_wp2_with fail;refine Jc.out.mono ?_;rintro e w3 ⟨rfl,kR,bJ⟩;have eF:=qqh (eT.out.step kR bJ);clear kR bJ d1 d2;go_wp2_with fail;refine(pM.out _ j eF.out.cur.cur).mono ?_;rintro e w4 ⟨rfl,kM,hb4⟩;rw [HA.out]at kM;have gW:=qqh (eF.out.step kM hb4);clear kM hb4;go_wp2_with fail;refine(gD.out _ a gW.out.cur.cur).mono ?_;rintro e w5 ⟨rfl,kX,cY⟩;have iM:=qqh (gW.out.step kX cY);clear kX cY;by_cases j5:pk L a=91
  ·have xK:=qqh (fk.out _ a iM.out.cur.cur);cases hst:bE L 20 a with
   | error e0=>
    obtain⟨y,p⟩:=e0;have eH:=qqh (show R=.error (y,p) from HR.out.symm.trans (Az CN.out HA.out j5 hst));rw [hst]at xK;rw [j5];clear hst j5;go_wp2_with fail;refine xK.out.mono ?_;rintro e w9 ⟨he,cF⟩;unfold aW at he;subst he;have eE:=qqh (iM.out.but.trans cF);clear cF;go_wp2_with fail;rw [eH.out];exact⟨rfl,rfl,eE.out⟩
   | ok q=>
    obtain⟨s,k⟩:=q;have eH:=qqh (show R=.ok (⟨3,ey,s,0,cQ,cQ⟩,k) from HR.out.symm.trans (AU CN.out HA.out j5 hst));have hss:=(kK HL.out.ok 20 _ _ _ hst).2.size;rw [hst]at xK;rw [j5];clear hst j5;go_wp2_with fail;refine xK.out.mono ?_;rintro e w6 ⟨⟨B,m,d,rfl,hr,hd⟩,CU,dR⟩;have SI:=iM.out.step CU dR;have hm:m≤maxLen:=(by have h1:=hr.1;rw [bA]at h1;unfold maxLen;omega);have mw:=qqh (show cy w6 (tP w C) 2 B m (ak s) from hr.lift (fun b (h:w5.heap.size≤b)=>⟨by have:=iM.out.res.lt;omega,by have:=iM.out.cur.lt;have:=iM.out.but.1;omega⟩));have pS:=qqh SI;have xe:=qqh (show ew w6 (tP w C) ⟨3,ey,s,0,cQ,cQ⟩ [.int .i64 3,.string ⟨#[]⟩,.slice B m d,.int .i64 0,.bool false,.bool false,.slice none 0 0,.slice none 0 0,.slice none 0 0,.int .i64 0,.bool false,.bool false,.slice none 0 0,.slice none 0 0,.slice none 0 0,.int .i64 0] from⟨B,m,d,[.bool false,.bool false,.slice none 0 0,.slice none 0 0,.slice none 0 0,.int .i64 0],[.bool false,.bool false,.slice none 0 0,.slice none 0 0,.slice none 0 0,.int .i64 0],rfl,mw.out,hm,jS,jS,show jU 3 from⟨by decide,by decide⟩,show jU 0 from⟨by decide,by decide⟩,Nat.zero_le _⟩);clear hr hd CU dR SI;obtain⟨hone,e1,e2,vS,e4⟩:=tO pS.out xe.out;have wJ:=qqh e1;have uz:=qqh e2;have LS:=qqh e4;have qb:=qqh hone;have Rm:=qqh vS;have Cc:=qqh (nW.res pS.out);clear e1 e2 e4 vS hone
    go_wp2_with (refine wpList_store_row (c:=#[.int .i64 0,.string ⟨#[]⟩,.slice none 0 0,.int .i64 0,.bool false,.bool false,.slice none 0 0,.slice none 0 0,.slice none 0 0,.int .i64 0,.bool false,.bool false,.slice none 0 0,.slice none 0 0,.slice none 0 0,.int .i64 0]) (vs:=#[.int .i64 3,.string ⟨#[]⟩,.slice B m d,.int .i64 0,.bool false,.bool false,.slice none 0 0,.slice none 0 0,.slice none 0 0,.int .i64 0,.bool false,.bool false,.slice none 0 0,.slice none 0 0,.slice none 0 0,.int .i64 0]) rfl rfl jt rfl qb.out rfl rfl Cc.out ?_);(try simp only [Act.put]);refine bodyPost_ret (v:=.agg #[.int .i64 3,.string ⟨#[]⟩,.slice B m d,.int .i64 0,.bool false,.bool false,.slice none 0 0,.slice none 0 0,.slice none 0 0,.int .i64 0,.bool false,.bool false,.slice none 0 0,.slice none 0 0,.slice none 0 0,.int .i64 0]) (kL Tryz.results42 rfl i7 jt Rm.out) rfl ?_;rw [eH.out];exact⟨⟨_,rfl,LS.out⟩,wJ.out,uz.out⟩
  have q91:(pk L a == 91)=false:=(by rw [beq_eq_false_iff_ne];exact j5);have c1:=iM.out.cur.cur.blk.cell 1;obtain⟨T,hT⟩:∃ T,gJ L a=T:=⟨_,rfl⟩;have HT:=qqh hT;have iH:=qqh (show R=(if jy T=true then .ok (⟨4,T,[],0,cQ,cQ⟩,bf L a)else .error (7,a)) by rw [← HR.out,Io CN.out HA.out j5,hT]);clear hT;go_wp2_with fail;refine(Rk.out _ a iM.out.cur.cur (by omega)).mono ?_;rintro e w6 ⟨rfl,CU,dR⟩;rw [HT.out];have pS:=qqh (iM.out.step CU dR);have hts:T.size≤maxLen:=by
   rw [← HT.out];have:=uR L a;have:=pS.out.cur.cur.le;unfold maxLen;omega
  clear CU dR c1;go_upto_region 9 with fail;have hP:=pS.out.res.lt;have sW:=aj.new w6 103 #[.int .i64 4,.string T,.slice none 0 0,.int .i64 0,.bool false,.bool false,.slice none 0 0,.slice none 0 0,.slice none 0 0,.int .i64 0,.bool false,.bool false,.slice none 0 0,.slice none 0 0,.slice none 0 0,.int .i64 0];have jg:Below w6.heap.size w6 (w6.alloc (.cells #[.int .i64 4,.string T,.slice none 0 0,.int .i64 0,.bool false,.bool false,.slice none 0 0,.slice none 0 0,.slice none 0 0,.int .i64 0,.bool false,.bool false,.slice none 0 0,.slice none 0 0,.slice none 0 0,.int .i64 0] 103)):=(Below.refl _ _).alloc (Nat.le_refl _) _;have VT:=pS.out.below jg;have Vx:w6.heap.size<(w6.alloc (.cells #[.int .i64 4,.string T,.slice none 0 0,.int .i64 0,.bool false,.bool false,.slice none 0 0,.slice none 0 0,.slice none 0 0,.int .i64 0,.bool false,.bool false,.slice none 0 0,.slice none 0 0,.slice none 0 0,.int .i64 0] 103)).heap.size:=(by simp);generalize (w6.alloc (.cells #[.int .i64 4,.string T,.slice none 0 0,.int .i64 0,.bool false,.bool false,.slice none 0 0,.slice none 0 0,.slice none 0 0,.int .i64 0,.bool false,.bool false,.slice none 0 0,.slice none 0 0,.slice none 0 0,.int .i64 0] 103))=w7 at *;have sP:=qqh VT;have OU:=qqh sW;have c1:w7.cell? ⟨w6.heap.size,1,none⟩=some (.string T):=sW.cell 1;clear jg VT sW;obtain⟨B9,Sa⟩:∃ B9,jy T=B9:=⟨_,rfl⟩;have eE:=qqh Sa;rw [Sa]at iH;clear Sa;go_cut [51] (fun v wx=>v=.bool (!B9)∧Below w7.heap.size w7 wx);case first=>
   go_region_with (first | (go_at_call 47;refine(iw _).mono ?_;rintro e w' ⟨rfl,rfl⟩) | (go_at_call 46;refine(qH _ T _ eE.out _ (Bv (aj.new _ _ _))).mono ?_;rintro e w' ⟨rfl,rfl⟩))
   all_goals
     go_wp2_with fail
     go_meet
     exact⟨rfl,below_drewN ((Below.refl _ _).alloc (Nat.le_refl _) _) _⟩
  obtain⟨rfl,hbc⟩:=hcut;have wv:=qqh (sP.out.below hbc);have RD:=OU.out.below hbc Vx;have zI:=qqh RD;cases B9 with
  | false=>
   have eH:=qqh (show R=.error (7,a) from iH.out);clear hbc c1 RD;go_wp2_with fail;refine(bT 7 a _).mono ?_;rintro e w9 ⟨rfl,rfl⟩;go_wp2_with fail;rw [eH.out];exact⟨rfl,rfl,wv.out.but⟩
  | true=>
   have eH:=qqh (show R=.ok (⟨4,T,[],0,cQ,cQ⟩,bf L a) from iH.out);have Xx:=wv.out;have xe:=qqh (show ew wc (tP w C) ⟨4,T,[],0,cQ,cQ⟩ [.int .i64 4,.string T,.slice none 0 0,.int .i64 0,.bool false,.bool false,.slice none 0 0,.slice none 0 0,.slice none 0 0,.int .i64 0,.bool false,.bool false,.slice none 0 0,.slice none 0 0,.slice none 0 0,.int .i64 0] from⟨none,0,0,[.bool false,.bool false,.slice none 0 0,.slice none 0 0,.slice none 0 0,.int .i64 0],[.bool false,.bool false,.slice none 0 0,.slice none 0 0,.slice none 0 0,.int .i64 0],rfl,cy.nil 2,Nat.zero_le _,jS,jS,show jU 4 from⟨by decide,by decide⟩,show jU 0 from⟨by decide,by decide⟩,hts⟩);clear hbc Xx c1;obtain⟨hone,e1,e2,vS,e4⟩:=tO wv.out xe.out;have wJ:=qqh e1;have uz:=qqh e2;have LS:=qqh e4;have qb:=qqh hone;have Rm:=qqh vS;have Cc:=qqh (nW.res wv.out);have Tx:=qqh RD;clear e1 e2 e4 vS hone;go_wp2_with (first | (refine wpList_load_row (cs:=#[.int .i64 4,.string T,.slice none 0 0,.int .i64 0,.bool false,.bool false,.slice none 0 0,.slice none 0 0,.slice none 0 0,.int .i64 0,.bool false,.bool false,.slice none 0 0,.slice none 0 0,.slice none 0 0,.int .i64 0]) rfl rfl i7 jt rfl Tx.out ?_) | (refine wpList_store_row (c:=#[.int .i64 0,.string ⟨#[]⟩,.slice none 0 0,.int .i64 0,.bool false,.bool false,.slice none 0 0,.slice none 0 0,.slice none 0 0,.int .i64 0,.bool false,.bool false,.slice none 0 0,.slice none 0 0,.slice none 0 0,.int .i64 0]) (vs:=#[.int .i64 4,.string T,.slice none 0 0,.int .i64 0,.bool false,.bool false,.slice none 0 0,.slice none 0 0,.slice none 0 0,.int .i64 0,.bool false,.bool false,.slice none 0 0,.slice none 0 0,.slice none 0 0,.int .i64 0]) rfl rfl jt rfl qb.out rfl rfl Cc.out ?_));(try simp only [Act.put])
   refine bodyPost_ret (v:=.agg #[.int .i64 4,.string T,.slice none 0 0,.int .i64 0,.bool false,.bool false,.slice none 0 0,.slice none 0 0,.slice none 0 0,.int .i64 0,.bool false,.bool false,.slice none 0 0,.slice none 0 0,.slice none 0 0,.int .i64 0]) (kL Tryz.results42 rfl i7 jt Rm.out) rfl ?_;rw [eH.out];exact⟨⟨_,rfl,LS.out⟩,wJ.out,uz.out⟩
theorem zk {L:List Int} {i:Nat} {e:Int × Nat} (h:gv L (i+1)=.error e):mY L i=.error e:=by unfold mY;rw [h]
theorem zn {L:List Int} {i j:Nat} {s:ByteArray} {e:Int × Nat} (h:gv L (i+1)=.ok (s,j)) (h2:aR L (aB L j) 61=.error e):mY L i=.error e:=by unfold mY;rw [h];simp only;rw [h2]
theorem Ce {L:List Int} {i j k:Nat} {s:ByteArray} {e:Int × Nat} (h:gv L (i+1)=.ok (s,j)) (h2:aR L (aB L j) 61=.ok k) (h3:bE L 20 (aB L k)=.error e):mY L i=.error e:=by unfold mY;rw [h];simp only;rw [h2];simp only;rw [h3]
theorem Rn {L:List Int} {i j k m:Nat} {s:ByteArray} {t:ag} (h:gv L (i+1)=.ok (s,j)) (h2:aR L (aB L j) 61=.ok k) (h3:bE L 20 (aB L k)=.ok (t,m)):mY L i=.ok (⟨1,s,t,0,cQ,cQ⟩,m):=by unfold mY;rw [h];simp only;rw [h2];simp only;rw [h3]
theorem BK (w:World) (C:Nat) (A:Option Addr) (n c:Nat) (L:List Int) (i:Nat) (h:ay w C A n c L i) (hL:fN L) (hn:n≤100000) (kD:pk L i=36) (hv:KS L i=true) :
    Calls Tryz.prog 42 #[.pointer (some ⟨C,0,none⟩)] w (rK w C A n c L (mY L i)):=by
 have hl:=h.len;have HL:=qqh hL;have gD:=qqh (fun(W:World) (m:Nat) (h:ay W C A n c L m)=>cK W C A n c L m h);have pM:=qqh (fun(W:World) (m:Nat) (h:ay W C A n c L m)=>jj W C A n c L m h);have GB:=qqh (fun(W:World) (m:Nat) (r:Int) (h:ay W C A n c L m) (hr:r ≠ -1)=>eZ W C A n c L m r h hr);have fk:=qqh (fun(W:World) (m:Nat) (h:ay W C A n c L m)=>tY 20 1 W C A n c L m rfl (by decide) h hL hn);have Rk:=qqh (fun(W:World) (m:Nat) (h:ay W C A n c L m) (h0:0<n)=>qt W C A n c L m h h0);have hi:=h.le;have qR:=qqh (vM w C A n c L i h);obtain⟨R,hR⟩:∃ R,mY L i=R:=⟨_,rfl⟩;rw [hR];have HR:=qqh hR;clear h hL hR;go_enter Tryz.func42,Tryz.ntmps42;go_wp2_with fail;refine(gD.out _ i qR.out.cur.cur).mono ?_;rintro e w1 ⟨rfl,hc1,aT⟩;have fK:=qqh (qR.out.step hc1 aT);clear hc1 aT;have hlt:i<n:=(by rw [← hl];exact bu (by omega));have Yb:=qqh (fun(W:World) (h:ay W C A n c L i)=>show Calls Tryz.prog 70 #[.pointer (some ⟨C,0,none⟩)] W fun e w'=>e=.returned (.bool true)∧Below W.heap.size W w' by have:=sx W C A n c L i h hlt;rwa [hv]at this);rw [kD]
 go_upto_if 63 with (first
   | (go_at_call 41;refine(gD.out _ i fK.out.cur.cur).mono ?_;rintro e w2 ⟨rfl,hc2,aQ⟩;rw [kD])
   | (go_at_call 70;refine(Yb.out _ (by assumption)).mono ?_;rintro e w3 ⟨rfl,bJ⟩))
 have eF:=qqh ((fK.out.step hc2 aQ).below bJ);clear hc2 aQ bJ;obtain⟨d1,d2,d3,d4⟩:=eF.out.cur.cur.step hlt;have gW:=qqh (eF.out.step d3 d4);have Vv:IntKind.i64.wrap ((i:Int)+1)=(i:Int)+1:=wrap_small _ (by omega) (by omega);have Cg:=qqh (FG _ C A n c L (i+1) gW.out.cur.cur (by omega));clear d3 d4;cases hnm:gv L (i+1)with
 | error e0=>
  obtain⟨y,p⟩:=e0;have eH:=qqh (show R=.error (y,p) from HR.out.symm.trans (zk hnm));rw [hnm]at Cg;clear hnm;go_wp2_with fail;refine Cg.out.mono ?_;rintro e w9 ⟨he,cF⟩;unfold aW at he;subst he;have eE:=qqh (gW.out.but.trans cF);clear cF;go_wp2_with fail;rw [eH.out];exact⟨rfl,rfl,eE.out⟩
 | ok q=>
  obtain⟨T,j⟩:=q;have CN:=qqh hnm;have hts:T.size≤maxLen:=by
   have h1:=(j7 hnm).2.2.1;have h2:=uR L (i+1);have h3:=gW.out.cur.cur.le;rw [← h1]at h2;unfold maxLen;omega
  rw [hnm]at Cg;clear hnm;obtain⟨a,ha⟩:∃ a,aB L j=a:=⟨_,rfl⟩;have HA:=qqh ha;clear ha;go_wp2_with fail;refine Cg.out.mono ?_;rintro e w5 ⟨rfl,kX,cY⟩;have iM:=qqh (gW.out.step kX cY);clear kX cY d1 d2;have hP:=iM.out.res.lt;have Pt:w5.heap.size≠C:=(by have:=iM.out.cur.lt;have:=iM.out.but.1;omega);have sW:=aj.new w5 103 #[.int .i64 1,.string T,.slice none 0 0,.int .i64 0,.bool false,.bool false,.slice none 0 0,.slice none 0 0,.slice none 0 0,.int .i64 0,.bool false,.bool false,.slice none 0 0,.slice none 0 0,.slice none 0 0,.int .i64 0];have jg:Below w5.heap.size w5 (w5.alloc (.cells #[.int .i64 1,.string T,.slice none 0 0,.int .i64 0,.bool false,.bool false,.slice none 0 0,.slice none 0 0,.slice none 0 0,.int .i64 0,.bool false,.bool false,.slice none 0 0,.slice none 0 0,.slice none 0 0,.int .i64 0] 103)):=(Below.refl _ _).alloc (Nat.le_refl _) _;have pS:=qqh (iM.out.below jg);have OU:=qqh sW;clear jg sW;go_wp2_with fail;refine(pM.out _ j pS.out.cur.cur).mono ?_;rintro e w7 ⟨rfl,qf,gH⟩;rw [HA.out]at qf;have sP:=qqh (pS.out.step qf gH);have aaL:=qqh (lD OU.out gH Pt);clear qf gH;have Gp:=qqh (GB.out _ a 61 sP.out.cur.cur (by decide));cases hnd:aR L a 61 with
  | error e0=>
   obtain⟨y,p⟩:=e0;have eH:=qqh (show R=.error (y,p) from HR.out.symm.trans (zn CN.out (by rw [HA.out];exact hnd)));rw [hnd]at Gp;clear hnd;go_wp2_with fail;refine Gp.out.mono ?_;rintro e w9 ⟨he,cF⟩;unfold aW at he;subst he;have eE:=qqh (sP.out.but.trans cF);clear cF;go_wp2_with fail;rw [eH.out];exact⟨rfl,rfl,eE.out⟩
  | ok k=>
   have Vq:=qqh (show aR L (aB L j) 61=.ok k by rw [HA.out];exact hnd);rw [hnd]at Gp;clear hnd;obtain⟨b,hb⟩:∃ b,aB L k=b:=⟨_,rfl⟩;have HB:=qqh hb;clear hb;go_wp2_with fail;refine Gp.out.mono ?_;rintro e w8 ⟨rfl,E9,fW⟩;have wv:=qqh (sP.out.step E9 fW);have zI:=qqh (lD aaL.out fW Pt);clear E9 fW;go_wp2_with fail;refine(pM.out _ k wv.out.cur.cur).mono ?_;rintro e w9 ⟨rfl,BI,cF⟩;rw [HB.out]at BI;have nL:=qqh (wv.out.step BI cF);have MM:=qqh (lD zI.out cF Pt);clear BI cF;have xK:=qqh (fk.out _ b nL.out.cur.cur);cases hst:bE L 20 b with
   | error e0=>
    obtain⟨y,p⟩:=e0;have eH:=qqh (show R=.error (y,p) from HR.out.symm.trans (Ce CN.out Vq.out (by rw [HB.out];exact hst)));rw [hst]at xK;clear hst;go_wp2_with fail;refine xK.out.mono ?_;rintro e wz ⟨he,hbz⟩;unfold aW at he;subst he;have TW:=qqh (nL.out.but.trans hbz);clear hbz;go_wp2_with fail;rw [eH.out];exact⟨rfl,rfl,TW.out⟩
   | ok q=>
    obtain⟨s,m0⟩:=q;have eH:=qqh (show R=.ok (⟨1,T,s,0,cQ,cQ⟩,m0) from HR.out.symm.trans (Rn CN.out Vq.out (by rw [HB.out];exact hst)));have hss:=(kK HL.out.ok 20 _ _ _ hst).2.size;rw [hst]at xK;clear hst;go_wp2_with fail;refine xK.out.mono ?_;rintro e Pk ⟨⟨B,m,d,rfl,hr,hd⟩,Vu,Q9⟩;have TV:=nL.out.step Vu Q9;have N7:=lD MM.out Q9 Pt;have hm:m≤maxLen:=(by have h1:=hr.1;rw [bA]at h1;unfold maxLen;omega);have Cr:=MM.out.lt;have x2:=N7.cell 2;have z2:=N7.frozen 2;have Gw:=qqh (TV.put hP 2 (.slice B m d));have OS:=qqh (show aj (Pk.setCell ⟨w5.heap.size,2,none⟩ (.slice B m d)) w5.heap.size 103 #[.int .i64 1,.string T,.slice B m d,.int .i64 0,.bool false,.bool false,.slice none 0 0,.slice none 0 0,.slice none 0 0,.int .i64 0,.bool false,.bool false,.slice none 0 0,.slice none 0 0,.slice none 0 0,.int .i64 0] from N7.put 2 _);have hrd:cy Pk (fun b=>tP w C b∧b≠w5.heap.size) 2 B m (ak s):=hr.lift (fun b (h:w9.heap.size≤b)=>⟨⟨by have:=nL.out.res.lt;omega,by have:=nL.out.cur.lt;have:=nL.out.but.1;omega⟩,by omega⟩);have mw:=qqh (hrd.keep (aa.setCell (p:=⟨w5.heap.size,2,none⟩) (X':=tP w C) (.slice B m d) (fun b hb=>hb.2) (fun b hb _=>hb.1)))
    have xe:=qqh (show ew (Pk.setCell ⟨w5.heap.size,2,none⟩ (.slice B m d)) (tP w C) ⟨1,T,s,0,cQ,cQ⟩ [.int .i64 1,.string T,.slice B m d,.int .i64 0,.bool false,.bool false,.slice none 0 0,.slice none 0 0,.slice none 0 0,.int .i64 0,.bool false,.bool false,.slice none 0 0,.slice none 0 0,.slice none 0 0,.int .i64 0] from⟨B,m,d,[.bool false,.bool false,.slice none 0 0,.slice none 0 0,.slice none 0 0,.int .i64 0],[.bool false,.bool false,.slice none 0 0,.slice none 0 0,.slice none 0 0,.int .i64 0],rfl,mw.out,hm,jS,jS,show jU 1 from⟨by decide,by decide⟩,show jU 0 from⟨by decide,by decide⟩,hts⟩);clear hr hd Vu Q9 TV N7 hrd;go_upto_region 19 with fail;have TU:=Gw.out;have Xo:=OS.out;have Xm:=xe.out;clear Gw OS xe mw x2 z2;generalize Pk.setCell ⟨w5.heap.size,2,none⟩ (.slice B m d)=w11 at *;obtain⟨hone,e1,e2,vS,e4⟩:=tO TU Xm;have wJ:=qqh e1;have uz:=qqh e2;have LS:=qqh e4;have qb:=qqh hone;have Rm:=qqh vS;have Cc:=qqh (nW.res TU);have Tx:=qqh Xo;clear e1 e2 e4 vS hone
    go_wp2_with (first | (refine wpList_load_row (cs:=#[.int .i64 1,.string T,.slice B m d,.int .i64 0,.bool false,.bool false,.slice none 0 0,.slice none 0 0,.slice none 0 0,.int .i64 0,.bool false,.bool false,.slice none 0 0,.slice none 0 0,.slice none 0 0,.int .i64 0]) rfl rfl i7 jt rfl Tx.out ?_) | (refine wpList_store_row (c:=#[.int .i64 0,.string ⟨#[]⟩,.slice none 0 0,.int .i64 0,.bool false,.bool false,.slice none 0 0,.slice none 0 0,.slice none 0 0,.int .i64 0,.bool false,.bool false,.slice none 0 0,.slice none 0 0,.slice none 0 0,.int .i64 0]) (vs:=#[.int .i64 1,.string T,.slice B m d,.int .i64 0,.bool false,.bool false,.slice none 0 0,.slice none 0 0,.slice none 0 0,.int .i64 0,.bool false,.bool false,.slice none 0 0,.slice none 0 0,.slice none 0 0,.int .i64 0]) rfl rfl jt rfl qb.out rfl rfl Cc.out ?_));(try simp only [Act.put]);refine bodyPost_ret (v:=.agg #[.int .i64 1,.string T,.slice B m d,.int .i64 0,.bool false,.bool false,.slice none 0 0,.slice none 0 0,.slice none 0 0,.int .i64 0,.bool false,.bool false,.slice none 0 0,.slice none 0 0,.slice none 0 0,.int .i64 0]) (kL Tryz.results42 rfl i7 jt Rm.out) rfl ?_;rw [eH.out];exact⟨⟨_,rfl,LS.out⟩,wJ.out,uz.out⟩
theorem xb {L:List Int} {i:Nat} {e:Int × Nat} (h:dG L i=.error e):iO L i=.error e:=by unfold iO;rw [h]
theorem uW {L:List Int} {i j:Nat} {l:bO} {e:Int × Nat} (h:dG L i=.ok (l,j)) (h2:eJ L j=.error e):iO L i=.error e:=by unfold iO;rw [h];simp only;rw [h2]
theorem vW {L:List Int} {i j k:Nat} {l:bO} {d:Int} {e:Int × Nat} (h:dG L i=.ok (l,j)) (h2:eJ L j=.ok (d,k)) (h3:dG L k=.error e):iO L i=.error e:=by unfold iO;rw [h];simp only;rw [h2];simp only;rw [h3]
theorem Dq {L:List Int} {i j k m:Nat} {l r:bO} {d:Int} (h:dG L i=.ok (l,j)) (h2:eJ L j=.ok (d,k)) (h3:dG L k=.ok (r,m)):iO L i=if fG ⟨2,ey,[],d,l,r⟩≠0 then .error (fG ⟨2,ey,[],d,l,r⟩,i)else .ok (⟨2,ey,[],d,l,r⟩,m):=by unfold iO;rw [h];simp only;rw [h2];simp only;rw [h3]
theorem H6 {L:List Int} {i j:Nat} {d:Int} (h:eJ L i=.ok (d,j)):1≤d∧d≤3:=by
 unfold eJ at h;split at h
 ·injection h with h;injection h with h1 h2;omega
 split at h
 ·injection h with h;injection h with h1 h2;omega
 split at h
 ·cases h
 injection h with h;injection h with h1 h2;omega
theorem LJ {wr:World} {P:Nat} {t:TypeId} {X X':Nat→Prop} (a0 a1 a2 a3 a4 a5 a6 a7 a8 a9 v0 v1 v2 v3 v4 v5 z0 z1 z2 z3 z4 z5:Value) (h:aj wr P t #[a0,a1,a2,a3,a4,a5,a6,a7,a8,a9,z0,z1,z2,z3,z4,z5]) (hX:∀ b,X b→b≠P) (h2:∀ b,X b→X' b):aj ((((((wr.setCell ⟨P,10,none⟩ v0).setCell ⟨P,11,none⟩ v1).setCell ⟨P,12,none⟩ v2).setCell ⟨P,13,none⟩ v3).setCell ⟨P,14,none⟩ v4).setCell ⟨P,15,none⟩ v5) P t #[a0,a1,a2,a3,a4,a5,a6,a7,a8,a9,v0,v1,v2,v3,v4,v5]∧aa wr X ((((((wr.setCell ⟨P,10,none⟩ v0).setCell ⟨P,11,none⟩ v1).setCell ⟨P,12,none⟩ v2).setCell ⟨P,13,none⟩ v3).setCell ⟨P,14,none⟩ v4).setCell ⟨P,15,none⟩ v5) X':=by
 have r0:aj (wr.setCell ⟨P,10,none⟩ v0) P t #[a0,a1,a2,a3,a4,a5,a6,a7,a8,a9,v0,z1,z2,z3,z4,z5]:=h.put 10 v0;have r1:aj ((wr.setCell ⟨P,10,none⟩ v0).setCell ⟨P,11,none⟩ v1) P t #[a0,a1,a2,a3,a4,a5,a6,a7,a8,a9,v0,v1,z2,z3,z4,z5]:=r0.put 11 v1;have r2:aj (((wr.setCell ⟨P,10,none⟩ v0).setCell ⟨P,11,none⟩ v1).setCell ⟨P,12,none⟩ v2) P t #[a0,a1,a2,a3,a4,a5,a6,a7,a8,a9,v0,v1,v2,z3,z4,z5]:=r1.put 12 v2;have r3:aj ((((wr.setCell ⟨P,10,none⟩ v0).setCell ⟨P,11,none⟩ v1).setCell ⟨P,12,none⟩ v2).setCell ⟨P,13,none⟩ v3) P t #[a0,a1,a2,a3,a4,a5,a6,a7,a8,a9,v0,v1,v2,v3,z4,z5]:=r2.put 13 v3;have r4:aj (((((wr.setCell ⟨P,10,none⟩ v0).setCell ⟨P,11,none⟩ v1).setCell ⟨P,12,none⟩ v2).setCell ⟨P,13,none⟩ v3).setCell ⟨P,14,none⟩ v4) P t #[a0,a1,a2,a3,a4,a5,a6,a7,a8,a9,v0,v1,v2,v3,v4,z5]:=r3.put 14 v4;have r5:aj ((((((wr.setCell ⟨P,10,none⟩ v0).setCell ⟨P,11,none⟩ v1).setCell ⟨P,12,none⟩ v2).setCell ⟨P,13,none⟩ v3).setCell ⟨P,14,none⟩ v4).setCell ⟨P,15,none⟩ v5) P t #[a0,a1,a2,a3,a4,a5,a6,a7,a8,a9,v0,v1,v2,v3,v4,v5]:=r4.put 15 v5;have kp:∀ (W:World) (k:Nat) (v:Value),aa W X (W.setCell ⟨P,k,none⟩ v) X:=fun W k v=>aa.setCell v hX (fun _ h _=>h);have k0:=kp wr 10 v0;have k1:=k0.trans (kp (wr.setCell ⟨P,10,none⟩ v0) 11 v1);have k2:=k1.trans (kp ((wr.setCell ⟨P,10,none⟩ v0).setCell ⟨P,11,none⟩ v1) 12 v2);have k3:=k2.trans (kp (((wr.setCell ⟨P,10,none⟩ v0).setCell ⟨P,11,none⟩ v1).setCell ⟨P,12,none⟩ v2) 13 v3);have k4:=k3.trans (kp ((((wr.setCell ⟨P,10,none⟩ v0).setCell ⟨P,11,none⟩ v1).setCell ⟨P,12,none⟩ v2).setCell ⟨P,13,none⟩ v3) 14 v4);have k5:=k4.trans (kp (((((wr.setCell ⟨P,10,none⟩ v0).setCell ⟨P,11,none⟩ v1).setCell ⟨P,12,none⟩ v2).setCell ⟨P,13,none⟩ v3).setCell ⟨P,14,none⟩ v4) 15 v5);exact⟨r5,k5.trans (aa.refl h2)⟩
theorem zu (w:World) (C:Nat) (A:Option Addr) (n c:Nat) (L:List Int) (i:Nat) (h:ay w C A n c L i) (hL:fN L) (hn:n≤100000) (ux:pk L i≠58) (hv:¬(pk L i=36∧KS L i=true)) :
    Calls Tryz.prog 42 #[.pointer (some ⟨C,0,none⟩)] w (rK w C A n c L (iO L i)):=by
 have hl:=h.len;have HL:=qqh hL;have gD:=qqh (fun(W:World) (m:Nat) (h:ay W C A n c L m)=>cK W C A n c L m h);have pM:=qqh (fun(W:World) (m:Nat) (h:ay W C A n c L m)=>jj W C A n c L m h);have GB:=qqh (fun(W:World) (m:Nat) (r:Int) (h:ay W C A n c L m) (hr:r ≠ -1)=>eZ W C A n c L m r h hr);have fk:=qqh (fun(W:World) (m:Nat) (h:ay W C A n c L m)=>tY 20 1 W C A n c L m rfl (by decide) h hL hn);have Rk:=qqh (fun(W:World) (m:Nat) (h:ay W C A n c L m) (h0:0<n)=>qt W C A n c L m h h0);have hi:=h.le;have qR:=qqh (vM w C A n c L i h);obtain⟨R,hR⟩:∃ R,iO L i=R:=⟨_,rfl⟩;rw [hR];have HR:=qqh hR;clear h hL hR;go_enter Tryz.func42,Tryz.ntmps42;go_wp2_with fail;refine(gD.out _ i qR.out.cur.cur).mono ?_;rintro e w1 ⟨rfl,hc1,aT⟩;have fK:=qqh (qR.out.step hc1 aT);clear hc1 aT;have wD:=qqh (fun(W:World) (m:Nat) (h:ay W C A n c L m)=>IK W C A n c L m h HL.out hn);have q58:(pk L i == 58)=false:=(by rw [beq_eq_false_iff_ne];exact ux);go_upto_region 12 with fail;go_cut [63] (fun v wx=>v=.bool false∧nW w C A n c L wx i);case first=>
  by_cases kD:pk L i=36
  ·have hlt:i<n:=(by rw [← hl];exact bu (by omega));have hvf:KS L i=false:=(by rw [Bool.eq_false_iff];exact fun h=>hv ⟨kD,h⟩);have Yb:=qqh (fun(W:World) (h:ay W C A n c L i)=>show Calls Tryz.prog 70 #[.pointer (some ⟨C,0,none⟩)] W fun e w'=>e=.returned (.bool false)∧Below W.heap.size W w' by have:=sx W C A n c L i h hlt;rwa [hvf]at this);clear ux hv q58
   go_wp2_with (first
     | (go_at_call 41;refine(gD.out _ i fK.out.cur.cur).mono ?_;rintro e w2 ⟨rfl,hc2,aQ⟩;rw [kD])
     | (go_at_call 70;refine(Yb.out _ (by assumption)).mono ?_;rintro e w3 ⟨rfl,bJ⟩))
   go_meet;exact⟨rfl,(fK.out.step hc2 aQ).below bJ⟩
  have q36:(pk L i == 36)=false:=(by rw [beq_eq_false_iff_ne];exact kD);clear ux hv q58;go_wp2_with (go_at_call 41;refine(gD.out _ i fK.out.cur.cur).mono ?_;rintro e w2 ⟨rfl,hc2,aQ⟩);go_meet;exact⟨rfl,fK.out.step hc2 aQ⟩
 obtain⟨rfl,Xv⟩:=hcut;have eT:=qqh Xv;have y1:=Xv.cur.cur.blk.cell 1;have iV:=qqh (wD.out _ i Xv.cur.cur);clear Xv ux hv q58;cases NI:dG L i with
 | error e0=>
  obtain⟨y,p⟩:=e0;have eH:=qqh (show R=.error (y,p) from HR.out.symm.trans (xb NI));rw [NI]at iV;clear NI;go_wp2_with fail;refine iV.out.mono ?_;rintro e w9 ⟨he,cF⟩;unfold aW at he;subst he;have eE:=qqh (eT.out.but.trans cF);clear cF;go_wp2_with fail;rw [eH.out];exact⟨rfl,rfl,eE.out⟩
 | ok q=>
  obtain⟨l,j⟩:=q;have Ki:=qqh NI;rw [NI]at iV;clear NI;go_wp2_with fail;refine iV.out.mono ?_;rintro e w3 ⟨⟨L1,a1,x1,L2,a2,x2,L3,a3,x3,rfl,O3⟩,kR,bJ⟩;obtain⟨ls,lf,lb,VY,la,lc⟩:=l;dsimp only at O3;have eF:=qqh (eT.out.step kR bJ);have Cr:w.heap.size<w3.heap.size:=eF.out.res.lt;have hP0:=eT.out.res.lt;have Pt:w3.heap.size≠C:=(by have:=eF.out.cur.lt;have:=eF.out.but.1;omega);have sW:=aj.new w3 103 #[.int .i64 2,.string ⟨#[]⟩,.slice none 0 0,.int .i64 0,.bool ls,.bool lf,.slice L1 a1 x1,.slice L2 a2 x2,.slice L3 a3 x3,.int .i64 lc,.bool false,.bool false,.slice none 0 0,.slice none 0 0,.slice none 0 0,.int .i64 0];have jg:Below w3.heap.size w3 (w3.alloc (.cells #[.int .i64 2,.string ⟨#[]⟩,.slice none 0 0,.int .i64 0,.bool ls,.bool lf,.slice L1 a1 x1,.slice L2 a2 x2,.slice L3 a3 x3,.int .i64 lc,.bool false,.bool false,.slice none 0 0,.slice none 0 0,.slice none 0 0,.int .i64 0] 103)):=(Below.refl _ _).alloc (Nat.le_refl _) _;have gW:=qqh (eF.out.below jg);have XF:=qqh sW;have XM:=qqh (O3.keep (aa.alloc (X':=fun b=>tP w C b∧b≠w3.heap.size) (.cells #[.int .i64 2,.string ⟨#[]⟩,.slice none 0 0,.int .i64 0,.bool ls,.bool lf,.slice L1 a1 x1,.slice L2 a2 x2,.slice L3 a3 x3,.int .i64 lc,.bool false,.bool false,.slice none 0 0,.slice none 0 0,.slice none 0 0,.int .i64 0] 103) (fun b hb hl=>⟨⟨by have:=hb.1;omega,hb.2⟩,by omega⟩)));clear jg sW O3 kR bJ y1;have Wi:=qqh (Jz _ C A n c L j gW.out.cur.cur);cases Mv:eJ L j with
  | error e0=>
   obtain⟨y,p⟩:=e0;have eH:=qqh (show R=.error (y,p) from HR.out.symm.trans (uW Ki.out Mv));rw [Mv]at Wi;clear Mv;go_wp2_with fail;refine Wi.out.mono ?_;rintro e w9 ⟨he,cF⟩;unfold aW at he;subst he;have eE:=qqh (gW.out.but.trans cF);clear cF;go_wp2_with fail;rw [eH.out];exact⟨rfl,rfl,eE.out⟩
  | ok q=>
   obtain⟨d,k⟩:=q;have HAE:=qqh Mv;have PV:=H6 Mv;rw [Mv]at Wi;clear Mv;go_wp2_with fail;refine Wi.out.mono ?_;rintro e w5 ⟨rfl,kX,cY⟩;have JL:=gW.out.step kX cY;have Wt:=lD XF.out cY Pt;have hx5:=XM.out.keep (cY.keeps (X':=fun b=>tP w C b∧b≠w3.heap.size) (fun b h=>h.1.2) (fun _ h _=>h));have x5:=Wt.cell 3;have z5:=Wt.frozen 3;have pS:=qqh (JL.put Cr 3 (.int .i64 d));have SW:=qqh (show aj (w5.setCell ⟨w3.heap.size,3,none⟩ (.int .i64 d)) w3.heap.size 103 #[.int .i64 2,.string ⟨#[]⟩,.slice none 0 0,.int .i64 d,.bool ls,.bool lf,.slice L1 a1 x1,.slice L2 a2 x2,.slice L3 a3 x3,.int .i64 lc,.bool false,.bool false,.slice none 0 0,.slice none 0 0,.slice none 0 0,.int .i64 0] from Wt.put 3 _);have aaI:=qqh (hx5.keep (aa.setCell (p:=⟨w3.heap.size,3,none⟩) (X':=fun b=>tP w C b∧b≠w3.heap.size) (.int .i64 d) (fun b h=>h.2) (fun _ h _=>h)));clear JL Wt hx5 kX cY;have iz:=qqh (wD.out _ k pS.out.cur.cur);have YR:w3.heap.size<(w5.setCell ⟨w3.heap.size,3,none⟩ (.int .i64 d)).heap.size:=SW.out.lt;cases hsr:dG L k with
   | error e0=>
    obtain⟨y,p⟩:=e0;have eH:=qqh (show R=.error (y,p) from HR.out.symm.trans (vW Ki.out HAE.out hsr));rw [hsr]at iz;clear hsr;go_wp2_with fail;refine iz.out.mono ?_;rintro e w9 ⟨he,cF⟩;unfold aW at he;subst he;have eE:=qqh (pS.out.but.trans cF);clear cF;go_wp2_with fail;rw [eH.out];exact⟨rfl,rfl,eE.out⟩
   | ok q=>
    obtain⟨r,m⟩:=q;have wC:=qqh (HR.out.symm.trans (Dq Ki.out HAE.out hsr));have HRG:=qqh hsr;rw [hsr]at iz;clear hsr;go_wp2_with fail;refine iz.out.mono ?_;rintro e w7 ⟨⟨R1,b1,y1,R2,b2,y2,R3,b3,y3,rfl,tD⟩,qf,gH⟩;obtain⟨rs,rf,rb,VN,ra,rc⟩:=r;dsimp only at tD wC ⊢;have VT:=pS.out.step qf gH;have Dc:=lD SW.out gH Pt;have PL:=aaI.out.keep (gH.keeps (X':=fun b=>tP w C b∧b≠w3.heap.size) (fun b h=>h.1.2) (fun _ h _=>h));have Rc:=tD.keep (aa.refl (X':=fun b=>tP w C b∧b≠w3.heap.size) (fun b hb=>⟨⟨by have:=hb.1;omega,hb.2⟩,by have:=hb.1;omega⟩));have x10:=Dc.cell 10;have z10:=Dc.frozen 10;have x11:=Dc.cell 11;have z11:=Dc.frozen 11;have x12:=Dc.cell 12;have z12:=Dc.frozen 12;have x13:=Dc.cell 13;have z13:=Dc.frozen 13;have x14:=Dc.cell 14;have z14:=Dc.frozen 14;have x15:=Dc.cell 15;have z15:=Dc.frozen 15;obtain⟨hk8,hkp⟩:=LJ (X:=fun b=>tP w C b∧b≠w3.heap.size) (X':=tP w C) (.int .i64 2) (.string ⟨#[]⟩) (.slice none 0 0) (.int .i64 d) (.bool ls) (.bool lf) (.slice L1 a1 x1) (.slice L2 a2 x2) (.slice L3 a3 x3) (.int .i64 lc) (.bool rs) (.bool rf) (.slice R1 b1 y1) (.slice R2 b2 y2) (.slice R3 b3 y3) (.int .i64 rc) (.bool false) (.bool false) (.slice none 0 0) (.slice none 0 0) (.slice none 0 0) (.int .i64 0) Dc (fun b h=>h.2) (fun b h=>h.1);have wv:=qqh ((((((VT.put Cr 10 (.bool rs)).put Cr 11 (.bool rf)).put Cr 12 (.slice R1 b1 y1)).put Cr 13 (.slice R2 b2 y2)).put Cr 14 (.slice R3 b3 y3)).put Cr 15 (.int .i64 rc))
    have Ou:=qqh (show ew _ (tP w C) ⟨2,ey,[],d,⟨ls,lf,lb,VY,la,lc⟩,⟨rs,rf,rb,VN,ra,rc⟩⟩ [.int .i64 2,.string ⟨#[]⟩,.slice none 0 0,.int .i64 d,.bool ls,.bool lf,.slice L1 a1 x1,.slice L2 a2 x2,.slice L3 a3 x3,.int .i64 lc,.bool rs,.bool rf,.slice R1 b1 y1,.slice R2 b2 y2,.slice R3 b3 y3,.int .i64 rc] from⟨none,0,0,[.bool ls,.bool lf,.slice L1 a1 x1,.slice L2 a2 x2,.slice L3 a3 x3,.int .i64 lc],[.bool rs,.bool rf,.slice R1 b1 y1,.slice R2 b2 y2,.slice R3 b3 y3,.int .i64 rc],rfl,cy.nil 2,Nat.zero_le _,PL.keep hkp,Rc.keep hkp,show jU 2 from⟨by decide,by decide⟩,show jU d by unfold jU;omega,Nat.zero_le _⟩);have zI:=qqh hk8;have Ti:=qqh (PL.keep hkp);have Wd:=qqh (Rc.keep hkp);clear VT Dc PL Rc hkp hk8 tD qf gH;go_upto_region 24 with fail;have TU:=wv.out;have Xo:=zI.out;have Xm:=Ou.out;have hHL:=Ti.out;have hHR:=Wd.out;clear wv zI Ou Ti Wd x5 z5 x10 z10 x11 z11 x12 z12 x13 z13 x14 z14 x15 z15;generalize ((((((w7.setCell ⟨w3.heap.size,10,none⟩ (.bool rs)).setCell ⟨w3.heap.size,11,none⟩ (.bool rf)).setCell ⟨w3.heap.size,12,none⟩ (.slice R1 b1 y1)).setCell ⟨w3.heap.size,13,none⟩ (.slice R2 b2 y2)).setCell ⟨w3.heap.size,14,none⟩ (.slice R3 b3 y3)).setCell ⟨w3.heap.size,15,none⟩ (.int .i64 rc))=w8 at *;have wv:=qqh TU;have zI:=qqh Xo;have Ou:=qqh Xm;clear TU Xo Xm;have pL:=qqh (show Calls Tryz.prog 74 #[.agg #[.int .i64 2,.string ⟨#[]⟩,.slice none 0 0,.int .i64 d,.bool ls,.bool lf,.slice L1 a1 x1,.slice L2 a2 x2,.slice L3 a3 x3,.int .i64 lc,.bool rs,.bool rf,.slice R1 b1 y1,.slice R2 b2 y2,.slice R3 b3 y3,.int .i64 rc]] w8 fun e w'=>e=.returned (.int .i64 (fG ⟨2,ey,[],d,⟨ls,lf,lb,VY,la,lc⟩,⟨rs,rf,rb,VN,ra,rc⟩⟩))∧Below w8.heap.size w8 w' by
     obtain⟨_,_,_,_,_,_,_,_,_,he,l1,l2,l3,yU,wE,yW,_⟩:=hHL;cases he;obtain⟨_,_,_,_,_,_,_,_,_,he,r1,r2,r3,Ad,wI,zR,_⟩:=hHR;cases he;exact qx ⟨2,ey,[],d,⟨ls,lf,lb,VY,la,lc⟩,⟨rs,rf,rb,VN,ra,rc⟩⟩ none 0 0 L1 L2 L3 R1 R2 R3 a1 a2 a3 x1 x2 x3 b1 b2 b3 y1 y2 y3 w8 ((cy.nil (w:=w8) (X:=tP w C) 2).rd (fun _ _ h=>h)) (Nat.zero_le _) l1.rd l2.rd l3.rd yU wE yW r1.rd r2.rd r3.rd Ad wI zR)
    clear hHL hHR;generalize fG ⟨2,ey,[],d,⟨ls,lf,lb,VY,la,lc⟩,⟨rs,rf,rb,VN,ra,rc⟩⟩=pe at pL wC;go_wp2_with (refine wpList_load_row (cs:=#[.int .i64 2,.string ⟨#[]⟩,.slice none 0 0,.int .i64 d,.bool ls,.bool lf,.slice L1 a1 x1,.slice L2 a2 x2,.slice L3 a3 x3,.int .i64 lc,.bool rs,.bool rf,.slice R1 b1 y1,.slice R2 b2 y2,.slice R3 b3 y3,.int .i64 rc]) rfl rfl i7 jt rfl zI.out ?_);refine pL.out.mono ?_;rintro e w9 ⟨rfl,cF⟩;have nL:=qqh (wv.out.below cF);have Lk:=zI.out.below cF zI.out.lt;have ZT:=qqh (Ou.out.keep (aa.below cF (X':=tP w C) (fun _ h _=>h)));clear cF;by_cases hpe:pe=0
    ·have q0:(pe != 0)=false:=(by simpa using hpe);have eH:=qqh (show R=.ok (⟨2,ey,[],d,⟨ls,lf,lb,VY,la,lc⟩,⟨rs,rf,rb,VN,ra,rc⟩⟩,m) by rw [wC.out,if_neg (fun h=>h hpe)]);have MM:=qqh Lk;clear Lk hpe;obtain⟨hone,e1,e2,vS,e4⟩:=tO nL.out ZT.out;have wJ:=qqh e1;have uz:=qqh e2;have LS:=qqh e4;have qb:=qqh hone;have Rm:=qqh vS;have Cc:=qqh (nW.res nL.out);have Tx:=qqh MM.out;clear e1 e2 e4 vS hone;go_wp2_with (first | (refine wpList_load_row (cs:=#[.int .i64 2,.string ⟨#[]⟩,.slice none 0 0,.int .i64 d,.bool ls,.bool lf,.slice L1 a1 x1,.slice L2 a2 x2,.slice L3 a3 x3,.int .i64 lc,.bool rs,.bool rf,.slice R1 b1 y1,.slice R2 b2 y2,.slice R3 b3 y3,.int .i64 rc]) rfl rfl i7 jt rfl Tx.out ?_) | (refine wpList_store_row (c:=#[.int .i64 0,.string ⟨#[]⟩,.slice none 0 0,.int .i64 0,.bool false,.bool false,.slice none 0 0,.slice none 0 0,.slice none 0 0,.int .i64 0,.bool false,.bool false,.slice none 0 0,.slice none 0 0,.slice none 0 0,.int .i64 0]) (vs:=#[.int .i64 2,.string ⟨#[]⟩,.slice none 0 0,.int .i64 d,.bool ls,.bool lf,.slice L1 a1 x1,.slice L2 a2 x2,.slice L3 a3 x3,.int .i64 lc,.bool rs,.bool rf,.slice R1 b1 y1,.slice R2 b2 y2,.slice R3 b3 y3,.int .i64 rc]) rfl rfl jt rfl qb.out rfl rfl Cc.out ?_));(try simp only [Act.put]);refine bodyPost_ret (v:=.agg #[.int .i64 2,.string ⟨#[]⟩,.slice none 0 0,.int .i64 d,.bool ls,.bool lf,.slice L1 a1 x1,.slice L2 a2 x2,.slice L3 a3 x3,.int .i64 lc,.bool rs,.bool rf,.slice R1 b1 y1,.slice R2 b2 y2,.slice R3 b3 y3,.int .i64 rc]) (kL Tryz.results42 rfl i7 jt Rm.out) rfl ?_;rw [eH.out];exact⟨⟨_,rfl,LS.out⟩,wJ.out,uz.out⟩
    have q0:(pe != 0)=true:=(by simpa using hpe);have eH:=qqh (show R=.error (pe,i) by rw [wC.out,if_pos hpe]);clear Lk hpe;go_wp2_with fail;refine(bT pe i _).mono ?_;rintro e Pk ⟨rfl,rfl⟩;go_wp2_with fail;rw [eH.out];exact⟨rfl,rfl,nL.out.but⟩
theorem Oa (w:World) (C:Nat) (A:Option Addr) (n c:Nat) (L:List Int) (i:Nat) (h:ay w C A n c L i) (hL:fN L) (hn:n≤100000) :
    Calls Tryz.prog 42 #[.pointer (some ⟨C,0,none⟩)] w (rK w C A n c L (iL L i)):=by
 unfold iL;by_cases ux:pk L i=58
 ·rw [if_pos ux];exact zY w C A n c L i h hL hn ux
 rw [if_neg ux];by_cases hv:pk L i=36∧pk L (aB L (bf L (i+1)))=61
 ·rw [if_pos hv];exact BK w C A n c L i h hL hn hv.1 (decide_eq_true hv.2)
 rw [if_neg hv];exact zu w C A n c L i h hL hn ux (fun x=>hv ⟨x.1,of_decide_eq_true x.2⟩)
end Go.Proofs.YtkggjgeihhialaaGreatDoor
