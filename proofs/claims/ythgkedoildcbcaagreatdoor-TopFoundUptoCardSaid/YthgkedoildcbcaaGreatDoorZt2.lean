/- Utf + Spoilt -/
import Derived.WalkKit
import Derived.Lib.OthersKept
import Derived.Lib.RuneCountTail
namespace Go.Proofs.YthgkedoildcbcaaGreatDoor
theorem eS (s:ByteArray) (p:Nat) (h:p<s.size):1≤(Utf8.decode s p).2∧(Utf8.decode s p).2≤4∧p+(Utf8.decode s p).2≤s.size:=by
 simp only [Utf8.decode];(repeat' split);(all_goals simp_all);(all_goals omega)
def rz (s:ByteArray):Nat→Nat→List (Nat × Nat)
  | 0,_=>[]
  | f+1,p=>if p<s.size then (p,(Utf8.decode s p).1)::rz s f (p+(Utf8.decode s p).2)else []
def u7 (s:ByteArray) (p:Nat):List (Nat × Nat):=rz s (s.size - p) p
theorem CR (s:ByteArray):∀ (f g p:Nat),s.size - p≤f→f≤g→rz s g p=rz s f p:=by
 intro f;induction f with
 | zero=>
  intro g p h _;cases g with
  | zero=>rfl
  | succ g=>simp only [rz];rw [if_neg (by omega)]
 | succ f ih=>
  intro g p h hg;obtain⟨g,rfl⟩:∃ g',g=g' + 1:=⟨g - 1,by omega⟩;simp only [rz];by_cases hp:p<s.size
  ·have:=eS s p hp;rw [if_pos hp,if_pos hp,ih g _ (by omega) (by omega)]
  rw [if_neg hp,if_neg hp]
theorem rm (s:ByteArray) (p:Nat) (h:p<s.size):u7 s p=(p,(Utf8.decode s p).1)::u7 s (p+(Utf8.decode s p).2):=by
 unfold u7;obtain⟨f,hf⟩:∃ f,s.size - p=f+1:=⟨s.size - p - 1,by omega⟩;have:=eS s p h;rw [hf];simp only [rz];rw [if_pos h,CR s (s.size - (p+(Utf8.decode s p).2)) f _ (Nat.le_refl _) (by omega)]
theorem qg (s:ByteArray) (p:Nat) (h:¬ p<s.size):u7 s p = []:=by
 unfold u7;rw [show s.size - p=0 by omega];rfl
theorem nG (s:ByteArray):∀ (f p:Nat),s.size - p≤f→(u7 s p).length≤s.size - p:=by
 intro f;induction f with
 | zero=>intro p h;rw [qg s p (by omega)];simp
 | succ f ih=>
  intro p h;by_cases hp:p<s.size
  ·have:=eS s p hp;have:=ih (p+(Utf8.decode s p).2) (by omega);rw [rm s p hp,List.length_cons];omega
  rw [qg s p hp];simp
def bJ (s:ByteArray) (p:Nat):List Int:=(u7 s p).map fun x=>(x.2:Int)
def placesOf (s:ByteArray) (p:Nat):List Int:=(u7 s p).map fun x=>(x.1:Int)
theorem eT (s:ByteArray) (p:Nat) (h:p<s.size):bJ s p=((Utf8.decode s p).1:Int)::bJ s (p+(Utf8.decode s p).2):=by
 unfold bJ;rw [rm s p h];rfl
theorem cV (s:ByteArray) (p:Nat) (h:¬ p<s.size):bJ s p = []:=by unfold bJ;rw [qg s p h];rfl
theorem Od (s:ByteArray) (p:Nat) (h:p<s.size):placesOf s p=(p:Int)::placesOf s (p+(Utf8.decode s p).2):=by
 unfold placesOf;rw [rm s p h];rfl
theorem Pr (s:ByteArray) (p:Nat) (h:¬ p<s.size):placesOf s p = []:=by unfold placesOf;rw [qg s p h];rfl
theorem oY (s:ByteArray):(bJ s 0).length≤s.size:=by
 have:=nG s s.size 0 (by omega);simpa [bJ] using this
theorem KP (s:ByteArray) (p:Nat):(bJ s p).length≤s.size - p:=by
 have:=nG s s.size p (by omega);simpa [bJ] using this
def lu (s:ByteArray) (p:Nat):Bool:=(Utf8.decode s p).1 == 65533 && (Utf8.decode s p).2 == 1
def nF (s:ByteArray):Nat→Nat→Nat
  | 0,_=>0
  | f+1,p=>if p<s.size then (if lu s p then 1 else 0)+nF s f (p+(Utf8.decode s p).2)else 0
def spoilt (s:ByteArray) (p:Nat):Nat:=nF s (s.size - p) p
theorem Ct (s:ByteArray):∀ (f g p:Nat),s.size - p≤f→f≤g→nF s g p=nF s f p:=by
 intro f;induction f with
 | zero=>
  intro g p h _;cases g with
  | zero=>rfl
  | succ g=>simp only [nF];rw [if_neg (by omega)]
 | succ f ih=>
  intro g p h hg;obtain⟨g,rfl⟩:∃ g',g=g' + 1:=⟨g - 1,by omega⟩;simp only [nF];by_cases hp:p<s.size
  ·have:=eS s p hp;rw [if_pos hp,if_pos hp,ih g _ (by omega) (by omega)]
  rw [if_neg hp,if_neg hp]
theorem gV (s:ByteArray) (p:Nat) (h:p<s.size):spoilt s p=(if lu s p then 1 else 0)+spoilt s (p+(Utf8.decode s p).2):=by
 unfold spoilt;obtain⟨f,hf⟩:∃ f,s.size - p=f+1:=⟨s.size - p - 1,by omega⟩;have:=eS s p h;rw [hf];simp only [nF];rw [if_pos h,Ct s (s.size - (p+(Utf8.decode s p).2)) f _ (Nat.le_refl _) (by omega)]
theorem gM (s:ByteArray) (p:Nat) (h:¬ p<s.size):spoilt s p=0:=by
 unfold spoilt;rw [show s.size - p=0 by omega];rfl
theorem TN (s:ByteArray):∀ (f p:Nat),s.size - p≤f→spoilt s p≤s.size - p:=by
 intro f;induction f with
 | zero=>intro p h;rw [gM s p (by omega)];omega
 | succ f ih=>
  intro p h;by_cases hp:p<s.size
  ·have:=eS s p hp;have:=ih (p+(Utf8.decode s p).2) (by omega);rw [gV s p hp];split <;> omega
  rw [gM s p hp];omega
theorem decodeN_more (n m b0 b1 b2 b3 c1 c2 c3:Nat) (hnm:n≤m) (h1:1<n→c1=b1) (h2:2<n→c2=b2) (h3:3<n→c3=b3)
    (hg:¬(Lib.decodeN n b0 b1 b2 b3=(65533,1))):Lib.decodeN m b0 c1 c2 c3=Lib.decodeN n b0 b1 b2 b3:=by
 by_cases k0:b0<128
 ·simp [Lib.decodeN,k0]
 by_cases k1:b0 / 32=6∧(1<n∧b1 / 64=2)
 ·obtain⟨k1,k2,k3⟩:=k1;have e1:=h1 k2;subst e1;simp [Lib.decodeN,k0,k1,k2,k3,show 1<m by omega]
 by_cases k2:b0 / 16=14∧(1<n∧b1 / 64=2)∧(2<n∧b2 / 64=2)
 ·obtain⟨k2,⟨k3,k4⟩,k5,k6⟩:=k2;have e1:=h1 k3;have e2:=h2 k5;subst e1 e2;simp [Lib.decodeN,k0,k2,k3,k4,k5,k6,show 1<m by omega,show 2<m by omega,show ¬ b0 / 32=6 by omega]
 by_cases k3:b0 / 8=30∧(1<n∧b1 / 64=2)∧(2<n∧b2 / 64=2)∧(3<n∧b3 / 64=2)
 ·obtain⟨k3,⟨k4,k5⟩,⟨k6,k7⟩,k8,k9⟩:=k3;have e1:=h1 k4;have e2:=h2 k6;have e3:=h3 k8;subst e1 e2 e3;simp [Lib.decodeN,k0,k3,k4,k5,k6,k7,k8,k9,show 1<m by omega,show 2<m by omega,show 3<m by omega,show ¬ b0 / 32=6 by omega,show ¬ b0 / 16=14 by omega]
 exact absurd (by unfold Lib.decodeN;rw [if_neg k0,if_neg k1,if_neg k2,if_neg k3]) hg
theorem iH (s t:ByteArray) (i:Nat) (h:i<s.size):(s++t).get! i=s.get! i:=by
 rw [← Lib.getD_get!',← Lib.getD_get!'];have e:(s++t).data.toList=s.data.toList++t.data.toList:=(by simp);have hs:s.data.toList.length=s.size:=(by rw [Array.length_toList];rfl);rw [e,List.getD,List.getD,List.getElem?_append_left (by omega)]
theorem iw (s t:ByteArray) (i:Nat):(s++t).get! (s.size+i)=t.get! i:=by
 rw [← Lib.getD_get!',← Lib.getD_get!'];have e:(s++t).data.toList=s.data.toList++t.data.toList:=(by simp);have hs:s.data.toList.length=s.size:=(by rw [Array.length_toList];rfl);rw [e,List.getD,List.getD,List.getElem?_append_right (by omega),hs,Nat.add_sub_cancel_left]
theorem uK (s t:ByteArray) (p:Nat) (h:p<s.size) (hb:lu s p=false):Utf8.decode (s++t) p=Utf8.decode s p:=by
 have hsz:(s++t).size=s.size+t.size:=ByteArray.size_append;rw [Lib.decode_at,Lib.decode_at,iH s t p h];apply decodeN_more;omega
 ·intro _;rw [iH s t (p+1) (by omega)]
 ·intro _;rw [iH s t (p+2) (by omega)]
 ·intro _;rw [iH s t (p+3) (by omega)]
 rw [← Lib.decode_at];intro e;unfold lu at hb;rw [e]at hb;simp at hb
theorem Bj (s t:ByteArray) (q:Nat):Utf8.decode (s++t) (s.size+q)=Utf8.decode t q:=by
 have hsz:(s++t).size=s.size+t.size:=ByteArray.size_append;rw [Lib.decode_at,Lib.decode_at,iw,Nat.add_assoc,iw,Nat.add_assoc,iw,Nat.add_assoc,iw];congr 1;omega
theorem Ls (s t:ByteArray):∀ (f q:Nat),t.size - q≤f→bJ (s++t) (s.size+q)=bJ t q∧spoilt (s++t) (s.size+q)=spoilt t q:=by
 have hsz:(s++t).size=s.size+t.size:=ByteArray.size_append;intro f;induction f with
 | zero=>
  intro q h;rw [cV _ _ (by omega),cV _ _ (by omega),gM _ _ (by omega),gM _ _ (by omega)];exact⟨rfl,rfl⟩
 | succ f ih=>
  intro q h;by_cases hq:q<t.size
  ·have hd:=eS t q hq;have:=ih (q+(Utf8.decode t q).2) (by omega);rw [eT _ _ (by omega),eT t q hq,gV _ _ (by omega),gV t q hq];unfold lu;rw [Bj,Nat.add_assoc,this.1,this.2];exact⟨rfl,rfl⟩
  rw [cV _ _ (by omega),cV _ _ (by omega),gM _ _ (by omega),gM _ _ (by omega)];exact⟨rfl,rfl⟩
theorem ME (s t:ByteArray):∀ (f p:Nat),s.size - p≤f→p≤s.size→spoilt s p=0→bJ (s++t) p=bJ s p++bJ t 0∧spoilt (s++t) p=spoilt t 0:=by
 have hsz:(s++t).size=s.size+t.size:=ByteArray.size_append;have hend:=Ls s t t.size 0 (by omega);rw [Nat.add_zero]at hend;intro f;induction f with
 | zero=>
  intro p h hp _;obtain rfl:p=s.size:=(by omega);rw [cV s _ (by omega)];exact hend
 | succ f ih=>
  intro p h hp h0;by_cases hlt:p<s.size
  ·have hd:=eS s p hlt;rw [gV s p hlt]at h0;have hb:lu s p=false:=by
    cases hb:lu s p;rfl;rw [hb]at h0;simp at h0
   have:=ih (p+(Utf8.decode s p).2) (by omega) (by omega) (by omega);have bu:lu (s++t) p=false:=(by unfold lu;rw [uK s t p hlt hb];exact hb);rw [eT _ _ (by omega),eT s p hlt,gV _ _ (by omega),uK s t p hlt hb,this.1,this.2,bu];simp
  obtain rfl:p=s.size:=(by omega);rw [cV s _ (by omega)];exact hend
end Go.Proofs.YthgkedoildcbcaaGreatDoor
