/- Utf -/
import Derived.WalkKit
import Derived.Lib.OthersKept
namespace Go.Proofs.YthgkedoildcbcaaGreatDoor
theorem jS (s:ByteArray) (p:Nat) (h:p<s.size):1≤(Utf8.decode s p).2∧(Utf8.decode s p).2≤4∧p+(Utf8.decode s p).2≤s.size:=by
 simp only [Utf8.decode];(repeat' split);(all_goals simp_all);(all_goals omega)
def o7 (s:ByteArray):Nat→Nat→List (Nat × Nat)
  | 0,_=>[]
  | f+1,p=>if p<s.size then (p,(Utf8.decode s p).1)::o7 s f (p+(Utf8.decode s p).2)else []
def vD (s:ByteArray) (p:Nat):List (Nat × Nat):=o7 s (s.size - p) p
theorem Bm (s:ByteArray):∀ (f g p:Nat),s.size - p≤f→f≤g→o7 s g p=o7 s f p:=by
 intro f;induction f with
 | zero=>
  intro g p h _;cases g with
  | zero=>rfl
  | succ g=>simp only [o7];rw [if_neg (by omega)]
 | succ f ih=>
  intro g p h hg;obtain⟨g,rfl⟩:∃ g',g=g' + 1:=⟨g - 1,by omega⟩;simp only [o7];by_cases hp:p<s.size
  ·have:=jS s p hp;rw [if_pos hp,if_pos hp,ih g _ (by omega) (by omega)]
  rw [if_neg hp,if_neg hp]
theorem uy (s:ByteArray) (p:Nat) (h:p<s.size):vD s p=(p,(Utf8.decode s p).1)::vD s (p+(Utf8.decode s p).2):=by
 unfold vD;obtain⟨f,hf⟩:∃ f,s.size - p=f+1:=⟨s.size - p - 1,by omega⟩;have:=jS s p h;rw [hf];simp only [o7];rw [if_pos h,Bm s (s.size - (p+(Utf8.decode s p).2)) f _ (Nat.le_refl _) (by omega)]
theorem ru (s:ByteArray) (p:Nat) (h:¬ p<s.size):vD s p = []:=by
 unfold vD;rw [show s.size - p=0 by omega];rfl
theorem zE (s:ByteArray):∀ (f p:Nat),s.size - p≤f→(vD s p).length≤s.size - p:=by
 intro f;induction f with
 | zero=>intro p h;rw [ru s p (by omega)];simp
 | succ f ih=>
  intro p h;by_cases hp:p<s.size
  ·have:=jS s p hp;have:=ih (p+(Utf8.decode s p).2) (by omega);rw [uy s p hp,List.length_cons];omega
  rw [ru s p hp];simp
def dz (s:ByteArray) (p:Nat):List Int:=(vD s p).map fun x=>(x.2:Int)
theorem qW (s:ByteArray) (p:Nat) (h:p<s.size):dz s p=((Utf8.decode s p).1:Int)::dz s (p+(Utf8.decode s p).2):=by
 unfold dz;rw [uy s p h];rfl
theorem nx (s:ByteArray) (p:Nat) (h:¬ p<s.size):dz s p = []:=by unfold dz;rw [ru s p h];rfl
end Go.Proofs.YthgkedoildcbcaaGreatDoor
