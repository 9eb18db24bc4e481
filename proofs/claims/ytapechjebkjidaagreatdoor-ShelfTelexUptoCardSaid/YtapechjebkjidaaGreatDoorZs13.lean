/- RulesEmb2 -/
import Derived.Test.YtapechjebkjidaaGreatDoorZs12
namespace Go.Proofs.YtapechjebkjidaaGreatDoor
open Go.RowKit
theorem Jk {L:List Int} {i:Nat} (h1:qO (pk L i)=false) (h2:pk L i≠35):az L i=i:=by
 have e:aQ L i=i:=cQ (fun _=>h1);rw [oO,e,if_neg h2]
theorem MN {L:List Int} (hL:dc L):∀ (f i:Nat) (out:List aG) (cur:Int) (v:List aG × Int) (j:Nat),cK L f i out cur=.ok (v,j)→az L i≤j:=by
 intro f;induction f with
 | zero=>intro i out cur v j h;rw [cK]at h;cases h
 | succ f ih=>
  intro i out cur v j h;rw [cK]at h;cases he:cA L (az L i) out cur with
  | error e=>rw [he]at h;cases h
  | ok q=>
   rw [he]at h;cases q with
   | none=>simp only at h;injection h with h;injection h with h1 h2;omega
   | some q=>
    obtain⟨⟨o,c⟩,k⟩:=q;simp only at h;by_cases h20:20<o.length
    ·rw [if_pos h20]at h;cases h
    rw [if_neg h20]at h;have h1:=(xw hL he).1;have h2:=ih _ _ _ _ _ h;have h3:=dA L k;omega
section
variable {p : Nat} {L L' : List Int} (E : Jx p L L')
include E
theorem gn:∀ (d i:Nat),L.length - i=d→i≤L.length→(az L i<L.length∨pk L' (p+L.length) = -1)→az L' (p+i)=p+az L i:=by
 intro d;induction d using Nat.strongRecOn with
 | _ d ih=>
  intro i hd hi hq;rw [oO L i]at hq;rw [oO L i,oO L' (p+i)];by_cases tU:pk L (aQ L i)=35
  ·obtain⟨hl,hm⟩:=Nx tU;rw [if_pos tU]at hq ⊢;rw [E.skip hi hl,E.pk hl,if_pos tU];have h1:=ey L i;have h2:aA qP L (aQ L i)≤L.length:=(iD (Nat.le_of_lt hl)).2;have h3:=dA L (aA qP L (aQ L i));rw [E.run _ _ rfl (Nat.le_of_lt hl) (by rcases hq with hq | hq;exact .inl (by omega);exact .inr (by rw [hq];rfl))];exact ih _ (by omega) _ rfl h2 hq
  rw [if_neg tU]at hq ⊢;have hs:aQ L i≤L.length:=sS hi;have e:aQ L' (p+i)=p+aQ L i:=E.run _ i rfl hi (by rcases hq with hq | hq;exact .inl hq;exact .inr (by rw [hq];rfl));rw [e,if_neg];rcases Nat.lt_or_ge (aQ L i) L.length with hl | hl
  ·rw [E.pk hl];exact tU
  rcases hq with hq | hq;omega;rw [show aQ L i=L.length by omega,hq];decide
theorem js {i:Nat} (hi:i≤L.length):aX L' (p+i)=p+aX L i:=by
 unfold aX;rcases Nat.lt_or_ge i L.length with hl | hl
 ·rw [E.pk hl];split;exact E.Tz (by decide) (by decide) (by decide) hi;rfl
 have e:i=L.length:=(by omega);subst e;rw [qw (Nat.le_refl _),if_neg (by decide:¬ kB (-1)=true),if_neg];rcases E.stop with e | e | e <;> rw [e] <;> decide
theorem AV {i:Nat} (hi:i≤L.length):ic L' (p+i)=ic L i:=by
 unfold ic;rw [js E hi,E.text (kM hi)]
theorem EP {i:Nat} (hi:i≤L.length):KK p L (gG L i) (gG L' (p+i)):=by
 intro v j h;have hj:=(mU h).2.2.2;unfold gG at h ⊢;rw [AV E hi,js E hi];split at h
 ·rename_i hn;rw [if_pos hn];injection h with h;injection h with h3 h4;subst h3 h4;exact⟨kM hi,rfl⟩
 cases h
theorem Gd {i:Nat} (hi:i<L.length):KK p L (gv L i) (gv L' (p+i)):=by
 intro v j h;have hj:=(xp h).2;refine⟨hj,?_⟩;unfold gv at h ⊢;by_cases zh:pk L (aA lC L (i+1))=39
 ·have hl:aA lC L (i+1)<L.length:=bw (by omega);rw [if_pos zh]at h;rw [show p+i+1=p+(i+1) from rfl,E.run _ (i+1) rfl hi (.inl hl),E.pk hl,if_pos zh,E.text (Nat.le_of_lt hl)];injection h with h;injection h with h3 h4;subst h3 h4;rfl
 rw [if_neg zh]at h;cases h
theorem IJ {k:Nat} (hk:k≤L.length):kB (pk L' (p+k))=kB (pk L k):=by
 rcases Nat.lt_or_ge k L.length with hl | hl
 ·rw [E.pk hl]
 have e:k=L.length:=(by omega);subst e;rw [qw (Nat.le_refl _)];rcases E.stop with e | e | e <;> rw [e] <;> decide
theorem zE {a:Nat} (ha:a<L.length) {out:List aG} {cur:Int} (h:cA L a out cur=.ok none):cA L' (p+a) out cur=.ok none:=by
 unfold cA at h ⊢;rw [E.pk ha,show p+a+1=p+(a+1) from rfl,IJ E ha];by_cases vu:pk L a=124
 ·rw [if_pos vu]at h;split at h <;> first | cases h | (injection h with h;cases h)
 rw [if_neg vu]at h ⊢;by_cases lg:pk L a=91
 ·rw [if_pos lg]at h;split at h <;> first | cases h | (injection h with h;cases h)
 rw [if_neg lg]at h ⊢;by_cases lA:pk L a=36∧kB (pk L (a+1))=true
 ·rw [if_pos lA]at h;split at h <;> first | cases h | (injection h with h;cases h)
 rw [if_neg lA]at h ⊢;by_cases zh:pk L a=39
 ·rw [if_pos zh]at h;split at h <;> first | cases h | (injection h with h;cases h)
 rw [if_neg zh]at h ⊢;by_cases yE:pk L a=92∨cY (pk L a)=true
 ·rw [if_pos yE]at h;split at h
  ·cases h
  split at h <;> first | cases h | (injection h with h;cases h)
 rw [if_neg yE]
theorem MT (hL:dc L) {a j:Nat} {out o:List aG} {cur c:Int} (h:cA L a out cur=.ok (some ((o,c),j))):a<j∧j≤L.length∧cA L' (p+a) out cur=.ok (some ((o,c),p+j)):=by
 have haj:=(xw hL h).1;have ha:a<L.length:=by
  refine bw (fun e=>?_);unfold cA at h;rw [e]at h;simp [cY]at h
 refine⟨haj,?_⟩;unfold cA at h ⊢;rw [E.pk ha,show p+a+1=p+(a+1) from rfl,IJ E ha];by_cases vu:pk L a=124
 ·rw [if_pos vu]at h ⊢;by_cases hc:0≤cur
  ·rw [if_pos hc]at h;cases h
  rw [if_neg hc]at h ⊢;injection h with h;injection h with h;injection h with h1 h2;injection h1 with h1 h3;subst h1 h2 h3;exact⟨ha,rfl⟩
 rw [if_neg vu]at h ⊢;by_cases lg:pk L a=91
 ·rw [if_pos lg]at h ⊢;cases hs:bD L 20 a with
  | error e=>rw [hs]at h;cases h
  | ok q=>
   obtain⟨s,k⟩:=q;obtain⟨_,hk,e1⟩:=Cr E hL 20 _ _ _ hs;rw [hs]at h;rw [e1];simp only at h ⊢;injection h with h;injection h with h;injection h with h1 h2;injection h1 with h1 h3;subst h1 h2 h3;exact⟨hk,rfl⟩
 rw [if_neg lg]at h ⊢;by_cases lA:pk L a=36∧kB (pk L (a+1))=true
 ·rw [if_pos lA]at h ⊢;cases hs:gG L (a+1)with
  | error e=>rw [hs]at h;cases h
  | ok q=>
   obtain⟨s,k⟩:=q;obtain⟨hk,e1⟩:=EP E ha _ _ hs;rw [hs]at h;rw [e1];simp only at h ⊢;injection h with h;injection h with h;injection h with h1 h2;injection h1 with h1 h3;subst h1 h2 h3;exact⟨hk,rfl⟩
 rw [if_neg lA]at h ⊢;by_cases zh:pk L a=39
 ·rw [if_pos zh]at h ⊢;cases hs:gv L a with
  | error e=>rw [hs]at h;cases h
  | ok q=>
   obtain⟨s,k⟩:=q;obtain⟨hk,e1⟩:=Gd E ha _ _ hs;rw [hs]at h;rw [e1];simp only at h ⊢;injection h with h;injection h with h;injection h with h1 h2;injection h1 with h1 h3;subst h1 h2 h3;exact⟨hk,rfl⟩
 rw [if_neg zh]at h ⊢;by_cases yE:pk L a=92∨cY (pk L a)=true
 ·rw [if_pos yE]at h ⊢;cases hs:cX L a with
  | error e=>rw [hs]at h;cases h
  | ok q=>
   obtain⟨x,k⟩:=q;obtain⟨hk,e1⟩:=yz E _ _ _ hs;rw [hs]at h;rw [e1];simp only at h ⊢;by_cases hr:aK x=true
   ·rw [if_pos hr]at h ⊢;injection h with h;injection h with h;injection h with h1 h2;injection h1 with h1 h3;subst h1 h2 h3;exact⟨hk,rfl⟩
   rw [if_neg hr]at h;cases h
 rw [if_neg yE]at h;injection h with h;cases h
theorem Ky (hL:dc L):∀ (f f' i:Nat) (out:List aG) (cur:Int) (v:List aG × Int) (j:Nat),f≤f'→i≤L.length→cK L f i out cur=.ok (v,j)→i≤j∧j≤L.length∧(j<L.length→cK L' f' (p+i) out cur=.ok (v,p+j)):=by
 intro f;induction f with
 | zero=>intro f' i out cur v j _ _ h;rw [cK]at h;cases h
 | succ f ih=>
  intro f' i out cur v j hf hi h;obtain⟨f',rfl⟩:∃ g,f'=g+1:=⟨f' - 1,by omega⟩;have h0:=dA L i;have h1:=pG hi;rw [cK]at h;cases he:cA L (az L i) out cur with
  | error e=>rw [he]at h;cases h
  | ok q=>
   rw [he]at h;cases q with
   | none=>
    simp only at h;injection h with h;injection h with h3 h4;subst h3 h4;exact⟨h0,h1,fun hj=>by rw [cK,gn E _ i rfl hi (.inl hj),zE E hj he]⟩
   | some q=>
    obtain⟨⟨o,c⟩,k⟩:=q;simp only at h;by_cases h20:20<o.length
    ·rw [if_pos h20]at h;cases h
    rw [if_neg h20]at h;obtain⟨g1,g2,g3⟩:=MT E hL he;obtain⟨k1,k2,k3⟩:=ih f' k o c v j (by omega) g2 h;refine⟨by omega,k2,fun hj=>?_⟩;rw [cK,gn E _ i rfl hi (.inl (by omega)),g3];simp only;rw [if_neg h20];exact k3 hj
theorem kI (hL:dc L) {i:Nat} {v:List aG × Int} {j:Nat} (hi:i≤L.length) (h:cH L i=.ok (v,j)):i≤j∧j≤L.length∧(j<L.length→cH L' (p+i)=.ok (v,p+j)) :=
  Ky E hL _ _ _ _ _ _ _ (by have:=E.len;omega) hi h
theorem Oo (hL:dc L) {start:Bool} {a:Nat} {v:List aG × List aG × Int} {j:Nat} (ha:a≤L.length) (h:dQ L start a=.ok (v,j)):a≤j∧j≤L.length∧(j<L.length→dQ L' start (p+a)=.ok (v,p+j)):=by
 unfold dQ at h;cases hi:cH L a with
 | error e=>rw [hi]at h;cases h
 | ok q=>
  obtain⟨⟨l,c⟩,j1⟩:=q;obtain⟨g1,g2,g3⟩:=kI E hL ha hi;rw [hi]at h;simp only at h;by_cases rN:pk L j1=123
  ·have nV:j1<L.length:=bw (by omega);rw [if_pos rN]at h;by_cases hc:0≤c
   ·rw [if_pos hc]at h;cases h
   rw [if_neg hc]at h;cases hi2:cH L (j1+1)with
   | error e=>rw [hi2]at h;cases h
   | ok q=>
    obtain⟨⟨l2,c2⟩,j2⟩:=q;obtain⟨k1,k2,k3⟩:=kI E hL nV hi2;rw [hi2]at h;simp only at h;injection h with h;injection h with h3 h4;subst h3 h4;refine⟨by omega,k2,fun hj=>?_⟩;unfold dQ;rw [g3 nV];simp only;rw [E.pk nV,if_pos rN,if_neg hc,show p+j1+1=p+(j1+1) from rfl,k3 hj]
  rw [if_neg rN]at h;by_cases hs:start=true
  ·rw [if_pos hs]at h;cases h
  rw [if_neg hs]at h;injection h with h;injection h with h3 h4;subst h3 h4;refine⟨g1,g2,fun hj=>?_⟩;unfold dQ;rw [g3 hj];simp only;rw [E.pk hj,if_neg rN,if_neg hs]
theorem Dx (hL:dc L) {i:Nat} {v:List aG × Bool} {j:Nat} (hi:i≤L.length) (h:eu L i=.ok (v,j)):i≤j∧j≤L.length∧(j<L.length→eu L' (p+i)=.ok (v,p+j)):=by
 unfold eu at h;by_cases xQ:pk L i=125
 ·have hl:i<L.length:=bw (by omega);rw [if_pos xQ]at h;cases hi2:cH L (i+1)with
  | error e=>rw [hi2]at h;cases h
  | ok q=>
   obtain⟨⟨l,c⟩,k⟩:=q;obtain⟨k1,k2,k3⟩:=kI E hL hl hi2;rw [hi2]at h;simp only at h;by_cases hc:0≤c
   ·rw [if_pos hc]at h;cases h
   rw [if_neg hc]at h;by_cases lA:pk L k=36
   ·have jR:k<L.length:=bw (by omega);rw [if_pos lA]at h;injection h with h;injection h with h3 h4;subst h3 h4;refine⟨by omega,jR,fun hj=>?_⟩;unfold eu;rw [E.pk hl,if_pos xQ,show p+i+1=p+(i+1) from rfl,k3 jR];simp only;rw [if_neg hc,E.pk jR,if_pos lA];rfl
   rw [if_neg lA]at h;injection h with h;injection h with h3 h4;subst h3 h4;refine⟨by omega,k2,fun hj=>?_⟩;unfold eu;rw [E.pk hl,if_pos xQ,show p+i+1=p+(i+1) from rfl,k3 hj];simp only;rw [if_neg hc,E.pk hj,if_neg lA]
 rw [if_neg xQ]at h;injection h with h;injection h with h3 h4;subst h3 h4;refine⟨Nat.le_refl _,hi,fun hj=>?_⟩;unfold eu;rw [E.pk hj,if_neg xQ]
theorem DF (hL:dc L) {i:Nat} {v:cn} {j:Nat} (hi:i≤L.length) (h:dJ L i=.ok (v,j)):az L i≤j∧j≤L.length∧(j<L.length→dJ L' (p+i)=.ok (v,p+j)):=by
 unfold dJ at h;obtain⟨a0,ha0⟩:∃ a0,az L i=a0:=⟨_,rfl⟩;rw [ha0]at h;have abk:a0≤L.length:=(by rw [← ha0];exact pG hi);obtain⟨a1,mC⟩:∃ a1,(if pk L a0=94 then a0+1 else a0)=a1:=⟨_,rfl⟩;rw [mC]at h;have abp:a0≤a1∧a1≤L.length:=by
  rw [← mC];split
  ·rename_i oe;have:=bw (L:=L) (i:=a0) (by omega);omega
  exact⟨Nat.le_refl _,abk⟩
 cases hh:dQ L (decide (pk L a0=94)) a1 with
 | error e=>rw [hh]at h;cases h
 | ok q=>
  obtain⟨⟨b,s,c⟩,j1⟩:=q;obtain⟨g1,g2,g3⟩:=Oo E hL abp.2 hh;rw [hh]at h;simp only at h;cases ht:eu L j1 with
  | error e=>rw [ht]at h;cases h
  | ok q=>
   obtain⟨⟨a,fin⟩,k⟩:=q;obtain⟨k1,k2,k3⟩:=Dx E hL g2 ht;rw [ht]at h;simp only at h;injection h with h;injection h with h3 h4;subst h3 h4;have h5:=dA L k;have h6:=pG k2;refine⟨by omega,h6,fun hj=>?_⟩;have IG:a0<L.length:=(by omega);unfold dJ;rw [gn E _ i rfl hi (.inl (by omega)),ha0,E.pk IG,show(if pk L a0=94 then p+a0+1 else p+a0)=p+a1 by rw [← mC];split <;> rfl,g3 (by omega)];simp only;rw [k3 (by omega)];simp only;rw [gn E _ k rfl k2 (.inl hj)]
theorem Al {i:Nat} {d:Int} {j:Nat} (h:eU L i=.ok (d,j)):i<j∧j≤L.length∧eU L' (p+i)=.ok (d,p+j):=by
 unfold eU at h ⊢;by_cases Lf:pk L i=62
 ·have hl:i<L.length:=bw (by omega);rw [if_pos Lf]at h;injection h with h;injection h with h3 h4;subst h3 h4;rw [E.pk hl,if_pos Lf];exact⟨by omega,hl,rfl⟩
 rw [if_neg Lf]at h;by_cases zN:pk L i=60∧pk L (i+1)=62
 ·have hl:i<L.length:=bw (by omega);have jR:i+1<L.length:=bw (by omega);rw [if_pos zN]at h;injection h with h;injection h with h3 h4;subst h3 h4;rw [E.pk hl,show p+i+1=p+(i+1) from rfl,E.pk jR,if_neg Lf,if_pos zN];exact⟨by omega,jR,rfl⟩
 rw [if_neg zN]at h;cases hn:aU L i 60 with
 | error e=>rw [hn]at h;cases h
 | ok k=>
  obtain⟨hk,e1⟩:=jy E hn (by decide);obtain⟨rfl,hp⟩:=fZ hn;have hl:i<L.length:=hk;rw [hn]at h;simp only at h;injection h with h;injection h with h3 h4;subst h3 h4;have c1:=E.is (k:=i+1) hk (r:=62) (by decide) (by decide) (by decide);rw [E.pk hl,if_neg Lf,show p+i+1=p+(i+1) from rfl,if_neg (fun x=>zN ⟨x.1,c1.1 x.2⟩),e1];exact⟨by omega,hk,rfl⟩
theorem NO (hL:dc L) {i:Nat} {v:aI} {j:Nat} (hi:i≤L.length) (h:jM L i=.ok (v,j)):i≤j∧j≤L.length∧(j<L.length→jM L' (p+i)=.ok (v,p+j)):=by
 unfold jM at h;cases hs:dJ L i with
 | error e=>rw [hs]at h;cases h
 | ok q=>
  obtain⟨l,a⟩:=q;obtain⟨g1,g2,g3⟩:=DF E hL hi hs;rw [hs]at h;simp only at h;cases ha:eU L a with
  | error e=>rw [ha]at h;cases h
  | ok q=>
   obtain⟨d,k⟩:=q;obtain⟨k1,k2,k3⟩:=Al E ha;rw [ha]at h;simp only at h;cases nN:dJ L k with
   | error e=>rw [nN]at h;cases h
   | ok q=>
    obtain⟨r,m⟩:=q;obtain⟨m1,m2,m3⟩:=DF E hL k2 nN;rw [nN]at h;simp only at h;have h7:=dA L i;have h8:=dA L k;by_cases hw:gX ⟨2,eG,[],d,l,r⟩≠0
    ·rw [if_pos hw]at h;cases h
    rw [if_neg hw]at h;injection h with h;injection h with h3 h4;subst h3 h4;refine⟨by omega,m2,fun hj=>?_⟩;unfold jM;rw [g3 (by omega)];simp only;rw [k3];simp only;rw [m3 hj];simp only;rw [if_neg hw]
theorem LZ (hL:dc L) {i:Nat} {v:aI} {j:Nat} (h:jx L i=.ok (v,j)):i≤j∧j≤L.length∧(j<L.length→jx L' (p+i)=.ok (v,p+j)):=by
 unfold jx at h;cases hn:aU L (i+1) 58 with
 | error e=>rw [hn]at h;cases h
 | ok a=>
  obtain⟨ha,e1⟩:=jy E hn (by decide);have h0:=(fZ hn).1;rw [hn]at h;simp only at h;have h5:=dA L a;have h6:=pG ha;by_cases lg:pk L (az L a)=91
  ·have hl:az L a<L.length:=bw (by omega);rw [if_pos lg]at h;cases hs:bD L 20 (az L a)with
   | error e=>rw [hs]at h;cases h
   | ok q=>
    obtain⟨s,k⟩:=q;obtain⟨k0,k1,k2⟩:=Cr E hL 20 _ _ _ hs;rw [hs]at h;simp only at h;injection h with h;injection h with h3 h4;subst h3 h4;refine⟨by omega,k1,fun hj=>?_⟩;unfold jx;rw [show p+i+1=p+(i+1) from rfl,e1];simp only;rw [gn E _ a rfl ha (.inl hl),E.pk hl,if_pos lg,k2]
  rw [if_neg lg]at h;by_cases hb:jZ (ic L (az L a))=true
  ·rw [if_pos hb]at h;injection h with h;injection h with h3 h4;subst h3 h4;have h7:=xz L (az L a);refine⟨by omega,kM h6,fun hj=>?_⟩;have hl:az L a<L.length:=(by omega);unfold jx;rw [show p+i+1=p+(i+1) from rfl,e1];simp only;rw [gn E _ a rfl ha (.inl hl),E.pk hl,if_neg lg,AV E h6,if_pos hb,js E h6]
  rw [if_neg hb]at h;cases h
theorem Qp (hL:dc L) {i:Nat} {v:aI} {j:Nat} (hi:i<L.length) (h:pS L i=.ok (v,j)):i≤j∧j≤L.length∧(j<L.length→pS L' (p+i)=.ok (v,p+j)):=by
 unfold pS at h;cases hn:gG L (i+1)with
 | error e=>rw [hn]at h;cases h
 | ok q=>
  obtain⟨s,a⟩:=q;obtain⟨ha,e1⟩:=EP E hi _ _ hn;have h0:=(mU hn).1;rw [hn]at h;simp only at h;cases hq:aU L (az L a) 61 with
  | error e=>rw [hq]at h;cases h
  | ok k=>
   obtain⟨hk,e2⟩:=jy E hq (by decide);have h1:=(fZ hq).1;have h2:=dA L a;rw [hq]at h;simp only at h;cases hs:bD L 20 (az L k)with
   | error e=>rw [hs]at h;cases h
   | ok q=>
    obtain⟨t,m⟩:=q;obtain⟨k0,k1,k2⟩:=Cr E hL 20 _ _ _ hs;have h4:=dA L k;rw [hs]at h;simp only at h;injection h with h;injection h with h3 h5;subst h3 h5;refine⟨by omega,k1,fun hj=>?_⟩;unfold pS;rw [show p+i+1=p+(i+1) from rfl,e1];simp only;rw [gn E _ a rfl ha (.inl (by omega)),e2];simp only;rw [gn E _ k rfl hk (.inl (by omega)),k2]
end
theorem EU {L:List Int} (hL:dc L) {i:Nat} {v:cn} {j:Nat} (lA:pk L i=36) (h:dJ L i=.ok (v,j)):j=i∨az L (aX L (i+1))≤j:=by
 have E:Jx 0 L L:=⟨fun k _=>by rw [Nat.zero_add],.inr (.inr (by rw [Nat.zero_add];exact qw (Nat.le_refl _)))⟩;have e0:az L i=i:=Jk (by rw [lA];decide) (by rw [lA];decide);have hl:i<L.length:=bw (by omega);unfold dJ at h;rw [e0,if_neg (by rw [lA];decide),show decide (pk L i=94)=false by rw [lA];decide]at h;unfold dQ at h;cases hi:cH L i with
 | error e=>rw [hi]at h;cases h
 | ok q=>
  obtain⟨⟨l,c⟩,j1⟩:=q;have Tx:=kI E hL (Nat.le_of_lt hl) hi;have key:j1=i∨az L (aX L (i+1))≤j1:=by
   unfold cH at hi;rw [cK,e0]at hi;unfold cA at hi;rw [if_neg (by rw [lA];decide),if_neg (by rw [lA];decide)]at hi;by_cases hc:pk L i=36∧kB (pk L (i+1))=true
   ·rw [if_pos hc]at hi;cases hs:gG L (i+1)with
    | error e=>rw [hs]at hi;cases hi
    | ok q=>
     obtain⟨s,k⟩:=q;have hk:=(mU hs).2.2.2;rw [hs]at hi;simp only at hi;split at hi
     ·cases hi
     have:=MN hL _ _ _ _ _ _ hi;rw [hk]at this;exact .inr this
   rw [if_neg hc,if_neg (by rw [lA];decide),if_neg (by rw [lA];decide)]at hi;simp only at hi;injection hi with hi;injection hi with h3 h4;exact .inl h4.symm
  rw [hi]at h;simp only at h;rcases key with rfl | key
  ·rw [if_neg (by rw [lA];decide),if_neg (by decide)]at h;simp only at h;unfold eu at h;rw [if_neg (by rw [lA];decide)]at h;simp only at h;injection h with h;injection h with h3 h4;rw [e0]at h4;exact .inl h4.symm
  right;have up:∀ (r:kf (List aG × List aG × Int)),(match r with | .error e=>Except.error e | .ok ((b,s,c),j)=>match eu L j with | .error e=>.error e | .ok ((a,fin),k)=>.ok ((⟨false,fin,b,s,a,c⟩:cn),az L k))=.ok (v,j)→(∀ x k,r=.ok (x,k)→j1≤k∧k≤L.length)→j1≤j:=by
   intro r hr hk;cases r with
   | error e=>cases hr
   | ok q=>
    obtain⟨⟨b,s,c⟩,k⟩:=q;obtain⟨hk1,hk2⟩:=hk _ _ rfl;simp only at hr;cases ht:eu L k with
    | error e=>rw [ht]at hr;cases hr
    | ok q=>
     obtain⟨⟨a,fin⟩,m⟩:=q;have hm:=(Dx E hL hk2 ht).1;rw [ht]at hr;simp only at hr;injection hr with hr;injection hr with h3 h4;have:=dA L m;omega
  refine Nat.le_trans key (up _ h ?_);intro x k hk;split at hk
  ·rename_i rN;have nV:j1<L.length:=bw (by omega);split at hk
   ·cases hk
   cases hi2:cH L (j1+1)with
   | error e=>rw [hi2]at hk;cases hk
   | ok q=>
    obtain⟨⟨l2,c2⟩,j2⟩:=q;have:=kI E hL nV hi2;rw [hi2]at hk;simp only at hk;injection hk with hk;injection hk with h3 h4;omega
  rw [if_neg (by decide)]at hk;injection hk with hk;injection hk with h3 h4;omega
theorem AX {p:Nat} {L L':List Int} (E:Jx p L L') (hL:dc L) {i:Nat} {v:aI} {j:Nat} (hi:i≤L.length) (h:j4 L i=.ok (v,j)):i≤j∧j≤L.length∧(j<L.length→j4 L' (p+i)=.ok (v,p+j)):=by
 unfold j4 at h;by_cases xC:pk L i=58
 ·rw [if_pos xC]at h;have hl:i<L.length:=bw (by omega);obtain⟨g1,g2,g3⟩:=LZ E hL h;refine⟨g1,g2,fun hj=>?_⟩;unfold j4;rw [E.pk hl,if_pos xC];exact g3 hj
 rw [if_neg xC]at h;by_cases lA:pk L i=36∧pk L (az L (aX L (i+1)))=61
 ·rw [if_pos lA]at h;have hl:i<L.length:=bw (by omega);have jR:az L (aX L (i+1))<L.length:=bw (by omega);obtain⟨g1,g2,g3⟩:=Qp E hL hl h;refine⟨g1,g2,fun hj=>?_⟩;unfold j4;rw [E.pk hl,if_neg xC,show p+i+1=p+(i+1) from rfl,js E hl,gn E _ _ rfl (kM hl) (.inl jR),E.pk jR,if_pos lA];exact g3 hj
 rw [if_neg lA]at h;obtain⟨g1,g2,g3⟩:=NO E hL hi h;refine⟨g1,g2,fun hj=>?_⟩;have hl:i<L.length:=(by omega);unfold j4;rw [E.pk hl,if_neg xC,if_neg];exact g3 hj;rintro⟨x1,x2⟩;rw [show p+i+1=p+(i+1) from rfl,js E hl]at x2;rcases Nat.lt_or_ge (az L (aX L (i+1))) L.length with hs | hs
 ·rw [gn E _ _ rfl (kM hl) (.inl hs),E.pk hs]at x2;exact lA ⟨x1,x2⟩
 unfold jM at h;cases hsd:dJ L i with
 | error e=>rw [hsd]at h;cases h
 | ok q=>
  obtain⟨l,a⟩:=q;rw [hsd]at h;simp only at h;cases ha:eU L a with
  | error e=>rw [ha]at h;cases h
  | ok q=>
   obtain⟨d,k⟩:=q;have hk:=(Al E ha);rcases EU hL x1 hsd with rfl | hge
   ·unfold eU at ha;rw [if_neg (by omega),if_neg (fun x=>by have:=x.1;omega),Ad (by omega)]at ha;cases ha
   omega
theorem M6 {L:List Int} (hL:dc L) {i:Nat} {v:aI} {j:Nat} (hi:i≤L.length) (h:j4 L i=.ok (v,j)):i≤j∧j≤L.length:=by
 have E:Jx 0 L L:=⟨fun k _=>by rw [Nat.zero_add],.inr (.inr (by rw [Nat.zero_add];exact qw (Nat.le_refl _)))⟩;exact⟨(AX E hL hi h).1,(AX E hL hi h).2.1⟩
end Go.Proofs.YtapechjebkjidaaGreatDoor
