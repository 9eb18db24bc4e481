/- Utf -/
import Derived.WalkKit
import Derived.Lib.OthersKept
namespace Go.Proofs.YtamkjeipdjbemaaGreatDoor
theorem kN (s:ByteArray) (p:Nat) (h:p<s.size):1≤(Utf8.decode s p).2∧(Utf8.decode s p).2≤4∧p+(Utf8.decode s p).2≤s.size:=by
 simp only [Utf8.decode];(repeat' split);(all_goals simp_all);(all_goals omega)
def qF (s:ByteArray):Nat→Nat→List (Nat × Nat)
  | 0,_=>[]
  | f+1,p=>if p<s.size then (p,(Utf8.decode s p).1)::qF s f (p+(Utf8.decode s p).2)else []
def xp (s:ByteArray) (p:Nat):List (Nat × Nat):=qF s (s.size - p) p
theorem Cy (s:ByteArray):∀ (f g p:Nat),s.size - p≤f→f≤g→qF s g p=qF s f p:=by
 intro f;induction f with
 | zero=>
  intro g p h _;cases g with
  | zero=>rfl
  | succ g=>simp only [qF];rw [if_neg (by omega)]
 | succ f ih=>
  intro g p h hg;obtain⟨g,rfl⟩:∃ g',g=g' + 1:=⟨g - 1,by omega⟩;simp only [qF];by_cases hp:p<s.size
  ·have:=kN s p hp;rw [if_pos hp,if_pos hp,ih g _ (by omega) (by omega)]
  rw [if_neg hp,if_neg hp]
theorem xZ (s:ByteArray) (p:Nat) (h:p<s.size):xp s p=(p,(Utf8.decode s p).1)::xp s (p+(Utf8.decode s p).2):=by
 unfold xp;obtain⟨f,hf⟩:∃ f,s.size - p=f+1:=⟨s.size - p - 1,by omega⟩;have:=kN s p h;rw [hf];simp only [qF];rw [if_pos h,Cy s (s.size - (p+(Utf8.decode s p).2)) f _ (Nat.le_refl _) (by omega)]
theorem tg (s:ByteArray) (p:Nat) (h:¬ p<s.size):xp s p = []:=by
 unfold xp;rw [show s.size - p=0 by omega];rfl
theorem rj (s:ByteArray):∀ (f p:Nat),s.size - p≤f→(xp s p).length≤s.size - p:=by
 intro f;induction f with
 | zero=>intro p h;rw [tg s p (by omega)];simp
 | succ f ih=>
  intro p h;by_cases hp:p<s.size
  ·have:=kN s p hp;have:=ih (p+(Utf8.decode s p).2) (by omega);rw [xZ s p hp,List.length_cons];omega
  rw [tg s p hp];simp
def dw (s:ByteArray) (p:Nat):List Int:=(xp s p).map fun x=>(x.2:Int)
theorem rQ (s:ByteArray) (p:Nat) (h:p<s.size):dw s p=((Utf8.decode s p).1:Int)::dw s (p+(Utf8.decode s p).2):=by
 unfold dw;rw [xZ s p h];rfl
theorem oE (s:ByteArray) (p:Nat) (h:¬ p<s.size):dw s p = []:=by unfold dw;rw [tg s p h];rfl
theorem wv (s:ByteArray):(dw s 0).length≤s.size:=by
 have:=rj s s.size 0 (by omega);simpa [dw] using this
end Go.Proofs.YtamkjeipdjbemaaGreatDoor
