/- Utf -/
import Derived.WalkKit
import Derived.Lib.OthersKept
namespace Go.Proofs.YtblinekbpcdbfaaGreatDoor
theorem jd (s:ByteArray) (p:Nat) (h:p<s.size):1≤(Utf8.decode s p).2∧(Utf8.decode s p).2≤4∧p+(Utf8.decode s p).2≤s.size:=by
 simp only [Utf8.decode];(repeat' split);(all_goals simp_all);(all_goals omega)
def ql (s:ByteArray):Nat→Nat→List (Nat × Nat)
  | 0,_=>[]
  | f+1,p=>if p<s.size then (p,(Utf8.decode s p).1)::ql s f (p+(Utf8.decode s p).2)else []
def vt (s:ByteArray) (p:Nat):List (Nat × Nat):=ql s (s.size - p) p
theorem Co (s:ByteArray):∀ (f g p:Nat),s.size - p≤f→f≤g→ql s g p=ql s f p:=by
 intro f;induction f with
 | zero=>
  intro g p h _;cases g with
  | zero=>rfl
  | succ g=>simp only [ql];rw [if_neg (by omega)]
 | succ f ih=>
  intro g p h hg;obtain⟨g,rfl⟩:∃ g',g=g' + 1:=⟨g - 1,by omega⟩;simp only [ql];by_cases hp:p<s.size
  ·have:=jd s p hp;rw [if_pos hp,if_pos hp,ih g _ (by omega) (by omega)]
  rw [if_neg hp,if_neg hp]
theorem vW (s:ByteArray) (p:Nat) (h:p<s.size):vt s p=(p,(Utf8.decode s p).1)::vt s (p+(Utf8.decode s p).2):=by
 unfold vt;obtain⟨f,hf⟩:∃ f,s.size - p=f+1:=⟨s.size - p - 1,by omega⟩;have:=jd s p h;rw [hf];simp only [ql];rw [if_pos h,Co s (s.size - (p+(Utf8.decode s p).2)) f _ (Nat.le_refl _) (by omega)]
theorem rV (s:ByteArray) (p:Nat) (h:¬ p<s.size):vt s p = []:=by
 unfold vt;rw [show s.size - p=0 by omega];rfl
theorem qT (s:ByteArray):∀ (f p:Nat),s.size - p≤f→(vt s p).length≤s.size - p:=by
 intro f;induction f with
 | zero=>intro p h;rw [rV s p (by omega)];simp
 | succ f ih=>
  intro p h;by_cases hp:p<s.size
  ·have:=jd s p hp;have:=ih (p+(Utf8.decode s p).2) (by omega);rw [vW s p hp,List.length_cons];omega
  rw [rV s p hp];simp
def aR (s:ByteArray) (p:Nat):List Int:=(vt s p).map fun x=>(x.2:Int)
theorem mU (s:ByteArray) (p:Nat) (h:p<s.size):aR s p=((Utf8.decode s p).1:Int)::aR s (p+(Utf8.decode s p).2):=by
 unfold aR;rw [vW s p h];rfl
theorem jB (s:ByteArray) (p:Nat) (h:¬ p<s.size):aR s p = []:=by unfold aR;rw [rV s p h];rfl
theorem nN (s:ByteArray):(aR s 0).length≤s.size:=by
 have:=qT s s.size 0 (by omega);simpa [aR] using this
end Go.Proofs.YtblinekbpcdbfaaGreatDoor
