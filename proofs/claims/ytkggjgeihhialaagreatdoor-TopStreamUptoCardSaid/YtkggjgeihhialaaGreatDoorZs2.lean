/- Utf -/
import Derived.WalkKit
import Derived.Lib.OthersKept
namespace Go.Proofs.YtkggjgeihhialaaGreatDoor
theorem jQ (s:ByteArray) (p:Nat) (h:p<s.size):1≤(Utf8.decode s p).2∧(Utf8.decode s p).2≤4∧p+(Utf8.decode s p).2≤s.size:=by
 simp only [Utf8.decode];(repeat' split);(all_goals simp_all);(all_goals omega)
def oP (s:ByteArray):Nat→Nat→List (Nat × Nat)
  | 0,_=>[]
  | f+1,p=>if p<s.size then (p,(Utf8.decode s p).1)::oP s f (p+(Utf8.decode s p).2)else []
def vP (s:ByteArray) (p:Nat):List (Nat × Nat):=oP s (s.size - p) p
theorem CB (s:ByteArray):∀ (f g p:Nat),s.size - p≤f→f≤g→oP s g p=oP s f p:=by
 intro f;induction f with
 | zero=>
  intro g p h _;cases g with
  | zero=>rfl
  | succ g=>simp only [oP];rw [if_neg (by omega)]
 | succ f ih=>
  intro g p h hg;obtain⟨g,rfl⟩:∃ g',g=g' + 1:=⟨g - 1,by omega⟩;simp only [oP];by_cases hp:p<s.size
  ·have:=jQ s p hp;rw [if_pos hp,if_pos hp,ih g _ (by omega) (by omega)]
  rw [if_neg hp,if_neg hp]
theorem vc (s:ByteArray) (p:Nat) (h:p<s.size):vP s p=(p,(Utf8.decode s p).1)::vP s (p+(Utf8.decode s p).2):=by
 unfold vP;obtain⟨f,hf⟩:∃ f,s.size - p=f+1:=⟨s.size - p - 1,by omega⟩;have:=jQ s p h;rw [hf];simp only [oP];rw [if_pos h,CB s (s.size - (p+(Utf8.decode s p).2)) f _ (Nat.le_refl _) (by omega)]
theorem rF (s:ByteArray) (p:Nat) (h:¬ p<s.size):vP s p = []:=by
 unfold vP;rw [show s.size - p=0 by omega];rfl
theorem qI (s:ByteArray):∀ (f p:Nat),s.size - p≤f→(vP s p).length≤s.size - p:=by
 intro f;induction f with
 | zero=>intro p h;rw [rF s p (by omega)];simp
 | succ f ih=>
  intro p h;by_cases hp:p<s.size
  ·have:=jQ s p hp;have:=ih (p+(Utf8.decode s p).2) (by omega);rw [vc s p hp,List.length_cons];omega
  rw [rF s p hp];simp
def cE (s:ByteArray) (p:Nat):List Int:=(vP s p).map fun x=>(x.2:Int)
theorem qs (s:ByteArray) (p:Nat) (h:p<s.size):cE s p=((Utf8.decode s p).1:Int)::cE s (p+(Utf8.decode s p).2):=by
 unfold cE;rw [vc s p h];rfl
theorem mW (s:ByteArray) (p:Nat) (h:¬ p<s.size):cE s p = []:=by unfold cE;rw [rF s p h];rfl
theorem vZ (s:ByteArray):(cE s 0).length≤s.size:=by
 have:=qI s s.size 0 (by omega);simpa [cE] using this
end Go.Proofs.YtkggjgeihhialaaGreatDoor
