/- Utf -/
import Derived.WalkKit
import Derived.Lib.OthersKept
namespace Go.Proofs.YtkggjgeihhialaaGreatDoor
theorem ke (s:ByteArray) (p:Nat) (h:p<s.size):1≤(Utf8.decode s p).2∧(Utf8.decode s p).2≤4∧p+(Utf8.decode s p).2≤s.size:=by
 simp only [Utf8.decode];(repeat' split);(all_goals simp_all);(all_goals omega)
def pV (s:ByteArray):Nat→Nat→List (Nat × Nat)
  | 0,_=>[]
  | f+1,p=>if p<s.size then (p,(Utf8.decode s p).1)::pV s f (p+(Utf8.decode s p).2)else []
def xA (s:ByteArray) (p:Nat):List (Nat × Nat):=pV s (s.size - p) p
theorem DE (s:ByteArray):∀ (f g p:Nat),s.size - p≤f→f≤g→pV s g p=pV s f p:=by
 intro f;induction f with
 | zero=>
  intro g p h _;cases g with
  | zero=>rfl
  | succ g=>simp only [pV];rw [if_neg (by omega)]
 | succ f ih=>
  intro g p h hg;obtain⟨g,rfl⟩:∃ g',g=g' + 1:=⟨g - 1,by omega⟩;simp only [pV];by_cases hp:p<s.size
  ·have:=ke s p hp;rw [if_pos hp,if_pos hp,ih g _ (by omega) (by omega)]
  rw [if_neg hp,if_neg hp]
theorem wN (s:ByteArray) (p:Nat) (h:p<s.size):xA s p=(p,(Utf8.decode s p).1)::xA s (p+(Utf8.decode s p).2):=by
 unfold xA;obtain⟨f,hf⟩:∃ f,s.size - p=f+1:=⟨s.size - p - 1,by omega⟩;have:=ke s p h;rw [hf];simp only [pV];rw [if_pos h,DE s (s.size - (p+(Utf8.decode s p).2)) f _ (Nat.le_refl _) (by omega)]
theorem sn (s:ByteArray) (p:Nat) (h:¬ p<s.size):xA s p = []:=by
 unfold xA;rw [show s.size - p=0 by omega];rfl
theorem rH (s:ByteArray):∀ (f p:Nat),s.size - p≤f→(xA s p).length≤s.size - p:=by
 intro f;induction f with
 | zero=>intro p h;rw [sn s p (by omega)];simp
 | succ f ih=>
  intro p h;by_cases hp:p<s.size
  ·have:=ke s p hp;have:=ih (p+(Utf8.decode s p).2) (by omega);rw [wN s p hp,List.length_cons];omega
  rw [sn s p hp];simp
def dm (s:ByteArray) (p:Nat):List Int:=(xA s p).map fun x=>(x.2:Int)
theorem qX (s:ByteArray) (p:Nat) (h:p<s.size):dm s p=((Utf8.decode s p).1:Int)::dm s (p+(Utf8.decode s p).2):=by
 unfold dm;rw [wN s p h];rfl
theorem nN (s:ByteArray) (p:Nat) (h:¬ p<s.size):dm s p = []:=by unfold dm;rw [sn s p h];rfl
theorem wj (s:ByteArray):(dm s 0).length≤s.size:=by
 have:=rH s s.size 0 (by omega);simpa [dm] using this
end Go.Proofs.YtkggjgeihhialaaGreatDoor
