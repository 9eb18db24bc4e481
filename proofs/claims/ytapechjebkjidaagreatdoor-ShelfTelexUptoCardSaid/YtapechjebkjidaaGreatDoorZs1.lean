/- Utf + Spoilt -/
import Derived.WalkKit
import Derived.Lib.OthersKept
import Derived.Lib.RuneCountTail
namespace Go.Proofs.YtapechjebkjidaaGreatDoor
theorem dM (s:ByteArray) (p:Nat) (h:p<s.size):1≤(Utf8.decode s p).2∧(Utf8.decode s p).2≤4∧p+(Utf8.decode s p).2≤s.size:=by
 simp only [Utf8.decode];(repeat' split);(all_goals simp_all);(all_goals omega)
def qD (s:ByteArray):Nat→Nat→List (Nat × Nat)
  | 0,_=>[]
  | f+1,p=>if p<s.size then (p,(Utf8.decode s p).1)::qD s f (p+(Utf8.decode s p).2)else []
def uP (s:ByteArray) (p:Nat):List (Nat × Nat):=qD s (s.size - p) p
theorem DZ (s:ByteArray):∀ (f g p:Nat),s.size - p≤f→f≤g→qD s g p=qD s f p:=by
 intro f;induction f with
 | zero=>
  intro g p h _;cases g with
  | zero=>rfl
  | succ g=>simp only [qD];rw [if_neg (by omega)]
 | succ f ih=>
  intro g p h hg;obtain⟨g,rfl⟩:∃ g',g=g' + 1:=⟨g - 1,by omega⟩;simp only [qD];by_cases hp:p<s.size
  ·have:=dM s p hp;rw [if_pos hp,if_pos hp,ih g _ (by omega) (by omega)]
  rw [if_neg hp,if_neg hp]
theorem qq (s:ByteArray) (p:Nat) (h:p<s.size):uP s p=(p,(Utf8.decode s p).1)::uP s (p+(Utf8.decode s p).2):=by
 unfold uP;obtain⟨f,hf⟩:∃ f,s.size - p=f+1:=⟨s.size - p - 1,by omega⟩;have:=dM s p h;rw [hf];simp only [qD];rw [if_pos h,DZ s (s.size - (p+(Utf8.decode s p).2)) f _ (Nat.le_refl _) (by omega)]
theorem oY (s:ByteArray) (p:Nat) (h:¬ p<s.size):uP s p = []:=by
 unfold uP;rw [show s.size - p=0 by omega];rfl
theorem nJ (s:ByteArray):∀ (f p:Nat),s.size - p≤f→(uP s p).length≤s.size - p:=by
 intro f;induction f with
 | zero=>intro p h;rw [oY s p (by omega)];simp
 | succ f ih=>
  intro p h;by_cases hp:p<s.size
  ·have:=dM s p hp;have:=ih (p+(Utf8.decode s p).2) (by omega);rw [qq s p hp,List.length_cons];omega
  rw [oY s p hp];simp
def ay (s:ByteArray) (p:Nat):List Int:=(uP s p).map fun x=>(x.2:Int)
def placesOf (s:ByteArray) (p:Nat):List Int:=(uP s p).map fun x=>(x.1:Int)
theorem dF (s:ByteArray) (p:Nat) (h:p<s.size):ay s p=((Utf8.decode s p).1:Int)::ay s (p+(Utf8.decode s p).2):=by
 unfold ay;rw [qq s p h];rfl
theorem ck (s:ByteArray) (p:Nat) (h:¬ p<s.size):ay s p = []:=by unfold ay;rw [oY s p h];rfl
theorem yT (s:ByteArray) (p:Nat) (h:p<s.size):placesOf s p=(p:Int)::placesOf s (p+(Utf8.decode s p).2):=by
 unfold placesOf;rw [qq s p h];rfl
theorem Bd (s:ByteArray) (p:Nat) (h:¬ p<s.size):placesOf s p = []:=by unfold placesOf;rw [oY s p h];rfl
theorem cZ (s:ByteArray):(ay s 0).length≤s.size:=by
 have:=nJ s s.size 0 (by omega);simpa [ay] using this
theorem vv (s:ByteArray) (p:Nat):(ay s p).length≤s.size - p:=by
 have:=nJ s s.size p (by omega);simpa [ay] using this
def iP (s:ByteArray) (p:Nat):Bool:=(Utf8.decode s p).1 == 65533 && (Utf8.decode s p).2 == 1
def nH (s:ByteArray):Nat→Nat→Nat
  | 0,_=>0
  | f+1,p=>if p<s.size then (if iP s p then 1 else 0)+nH s f (p+(Utf8.decode s p).2)else 0
def spoilt (s:ByteArray) (p:Nat):Nat:=nH s (s.size - p) p
theorem Ct (s:ByteArray):∀ (f g p:Nat),s.size - p≤f→f≤g→nH s g p=nH s f p:=by
 intro f;induction f with
 | zero=>
  intro g p h _;cases g with
  | zero=>rfl
  | succ g=>simp only [nH];rw [if_neg (by omega)]
 | succ f ih=>
  intro g p h hg;obtain⟨g,rfl⟩:∃ g',g=g' + 1:=⟨g - 1,by omega⟩;simp only [nH];by_cases hp:p<s.size
  ·have:=dM s p hp;rw [if_pos hp,if_pos hp,ih g _ (by omega) (by omega)]
  rw [if_neg hp,if_neg hp]
theorem fM (s:ByteArray) (p:Nat) (h:p<s.size):spoilt s p=(if iP s p then 1 else 0)+spoilt s (p+(Utf8.decode s p).2):=by
 unfold spoilt;obtain⟨f,hf⟩:∃ f,s.size - p=f+1:=⟨s.size - p - 1,by omega⟩;have:=dM s p h;rw [hf];simp only [nH];rw [if_pos h,Ct s (s.size - (p+(Utf8.decode s p).2)) f _ (Nat.le_refl _) (by omega)]
theorem fc (s:ByteArray) (p:Nat) (h:¬ p<s.size):spoilt s p=0:=by
 unfold spoilt;rw [show s.size - p=0 by omega];rfl
theorem KN (s:ByteArray):∀ (f p:Nat),s.size - p≤f→spoilt s p≤s.size - p:=by
 intro f;induction f with
 | zero=>intro p h;rw [fc s p (by omega)];omega
 | succ f ih=>
  intro p h;by_cases hp:p<s.size
  ·have:=dM s p hp;have:=ih (p+(Utf8.decode s p).2) (by omega);rw [fM s p hp];split <;> omega
  rw [fc s p hp];omega
theorem decodeN_more (n m b0 b1 b2 b3 c1 c2 c3:Nat) (hnm:n≤m) (h1:1<n→c1=b1) (h2:2<n→c2=b2) (h3:3<n→c3=b3)
    (hg:¬(Lib.decodeN n b0 b1 b2 b3=(65533,1))):Lib.decodeN m b0 c1 c2 c3=Lib.decodeN n b0 b1 b2 b3:=by
 by_cases k0:b0<128
 ·simp [Lib.decodeN,k0]
 by_cases k1:b0 / 32=6∧(1<n∧b1 / 64=2)
 ·obtain⟨k1,k2,k3⟩:=k1;have e1:=h1 k2;subst e1;simp [Lib.decodeN,k0,k1,k2,k3,show 1<m by omega]
 by_cases k2:b0 / 16=14∧(1<n∧b1 / 64=2)∧(2<n∧b2 / 64=2)
 ·obtain⟨k2,⟨k3,k4⟩,k5,k6⟩:=k2;have e1:=h1 k3;have e2:=h2 k5;subst e1 e2;simp [Lib.decodeN,k0,k2,k3,k4,k5,k6,show 1<m by omega,show 2<m by omega,show ¬ b0 / 32=6 by omega]
 by_cases k3:b0 / 8=30∧(1<n∧b1 / 64=2)∧(2<n∧b2 / 64=2)∧(3<n∧b3 / 64=2)
 ·obtain⟨k3,⟨k4,k5⟩,⟨k6,k7⟩,k8,k9⟩:=k3;have e1:=h1 k4;have e2:=h2 k6;have e3:=h3 k8;subst e1 e2 e3;simp [Lib.decodeN,k0,k3,k4,k5,k6,k7,k8,k9,show 1<m by omega,show 2<m by omega,show 3<m by omega,show ¬ b0 / 32=6 by omega,show ¬ b0 / 16=14 by omega]
 exact absurd (by unfold Lib.decodeN;rw [if_neg k0,if_neg k1,if_neg k2,if_neg k3]) hg
theorem iz (s t:ByteArray) (i:Nat) (h:i<s.size):(s++t).get! i=s.get! i:=by
 rw [← Lib.getD_get!',← Lib.getD_get!'];have e:(s++t).data.toList=s.data.toList++t.data.toList:=(by simp);have hs:s.data.toList.length=s.size:=(by rw [Array.length_toList];rfl);rw [e,List.getD,List.getD,List.getElem?_append_left (by omega)]
theorem gR (s t:ByteArray) (i:Nat):(s++t).get! (s.size+i)=t.get! i:=by
 rw [← Lib.getD_get!',← Lib.getD_get!'];have e:(s++t).data.toList=s.data.toList++t.data.toList:=(by simp);have hs:s.data.toList.length=s.size:=(by rw [Array.length_toList];rfl);rw [e,List.getD,List.getD,List.getElem?_append_right (by omega),hs,Nat.add_sub_cancel_left]
theorem uL (s t:ByteArray) (p:Nat) (h:p<s.size) (hb:iP s p=false):Utf8.decode (s++t) p=Utf8.decode s p:=by
 have hsz:(s++t).size=s.size+t.size:=ByteArray.size_append;rw [Lib.decode_at,Lib.decode_at,iz s t p h];apply decodeN_more;omega
 ·intro _;rw [iz s t (p+1) (by omega)]
 ·intro _;rw [iz s t (p+2) (by omega)]
 ·intro _;rw [iz s t (p+3) (by omega)]
 rw [← Lib.decode_at];intro e;unfold iP at hb;rw [e]at hb;simp at hb
theorem Cg (s t:ByteArray) (q:Nat):Utf8.decode (s++t) (s.size+q)=Utf8.decode t q:=by
 have hsz:(s++t).size=s.size+t.size:=ByteArray.size_append;rw [Lib.decode_at,Lib.decode_at,gR,Nat.add_assoc,gR,Nat.add_assoc,gR,Nat.add_assoc,gR];congr 1;omega
theorem MS (s t:ByteArray):∀ (f q:Nat),t.size - q≤f→ay (s++t) (s.size+q)=ay t q∧spoilt (s++t) (s.size+q)=spoilt t q:=by
 have hsz:(s++t).size=s.size+t.size:=ByteArray.size_append;intro f;induction f with
 | zero=>
  intro q h;rw [ck _ _ (by omega),ck _ _ (by omega),fc _ _ (by omega),fc _ _ (by omega)];exact⟨rfl,rfl⟩
 | succ f ih=>
  intro q h;by_cases hq:q<t.size
  ·have hd:=dM t q hq;have:=ih (q+(Utf8.decode t q).2) (by omega);rw [dF _ _ (by omega),dF t q hq,fM _ _ (by omega),fM t q hq];unfold iP;rw [Cg,Nat.add_assoc,this.1,this.2];exact⟨rfl,rfl⟩
  rw [ck _ _ (by omega),ck _ _ (by omega),fc _ _ (by omega),fc _ _ (by omega)];exact⟨rfl,rfl⟩
theorem OF (s t:ByteArray):∀ (f p:Nat),s.size - p≤f→p≤s.size→spoilt s p=0→ay (s++t) p=ay s p++ay t 0∧spoilt (s++t) p=spoilt t 0:=by
 have hsz:(s++t).size=s.size+t.size:=ByteArray.size_append;have hend:=MS s t t.size 0 (by omega);rw [Nat.add_zero]at hend;intro f;induction f with
 | zero=>
  intro p h hp _;obtain rfl:p=s.size:=(by omega);rw [ck s _ (by omega)];exact hend
 | succ f ih=>
  intro p h hp h0;by_cases hlt:p<s.size
  ·have hd:=dM s p hlt;rw [fM s p hlt]at h0;have hb:iP s p=false:=by
    cases hb:iP s p;rfl;rw [hb]at h0;simp at h0
   have:=ih (p+(Utf8.decode s p).2) (by omega) (by omega) (by omega);have aL:iP (s++t) p=false:=(by unfold iP;rw [uL s t p hlt hb];exact hb);rw [dF _ _ (by omega),dF s p hlt,fM _ _ (by omega),uL s t p hlt hb,this.1,this.2,aL];simp
  obtain rfl:p=s.size:=(by omega);rw [ck s _ (by omega)];exact hend
end Go.Proofs.YtapechjebkjidaaGreatDoor
