/- Utf + Spoilt -/
import Derived.WalkKit
import Derived.Lib.OthersKept
import Derived.Lib.RuneCountTail
namespace Go.Proofs.YthnhbcohfoodlaaGreatDoor
theorem fj (s : ByteArray) (p : Nat) (h : p < s.size) : 1 ≤ (Utf8.decode s p).2 ∧ (Utf8.decode s p).2 ≤ 4 ∧ p + (Utf8.decode s p).2 ≤ s.size := by
 simp only [Utf8.decode];(repeat' split);(all_goals simp_all);(all_goals omega)
def nu (s : ByteArray) : Nat → Nat → List (Nat × Nat)
  | 0, _ => []
  | f + 1, p => if p < s.size then (p, (Utf8.decode s p).1) :: nu s f (p + (Utf8.decode s p).2) else []
def pY (s : ByteArray) (p : Nat) : List (Nat × Nat) := nu s (s.size - p) p
theorem yz (s : ByteArray) : ∀ (f g p : Nat), s.size - p ≤ f → f ≤ g → nu s g p = nu s f p := by
 intro f;induction f with
 | zero =>
  intro g p h _;cases g with
  | zero => rfl
  | succ g => simp only [nu]; rw [if_neg (by omega)]
 | succ f ih =>
  intro g p h hg;obtain ⟨g, rfl⟩ : ∃ g', g = g' + 1 := ⟨g - 1, by omega⟩;simp only [nu];by_cases hp : p < s.size
  ·have := fj s p hp;rw [if_pos hp, if_pos hp, ih g _ (by omega) (by omega)]
  rw [if_neg hp, if_neg hp]
theorem nN (s : ByteArray) (p : Nat) (h : p < s.size) : pY s p = (p, (Utf8.decode s p).1) :: pY s (p + (Utf8.decode s p).2) := by
 unfold pY;obtain ⟨f, hf⟩ : ∃ f, s.size - p = f + 1 := ⟨s.size - p - 1, by omega⟩;have := fj s p h;rw [hf];simp only [nu];rw [if_pos h, yz s (s.size - (p + (Utf8.decode s p).2)) f _ (Nat.le_refl _) (by omega)]
theorem lS (s : ByteArray) (p : Nat) (h : ¬ p < s.size) : pY s p = [] := by
 unfold pY;rw [show s.size - p = 0 by omega];rfl
theorem nZ (s : ByteArray) : ∀ (f p : Nat), s.size - p ≤ f → (pY s p).length ≤ s.size - p := by
 intro f;induction f with
 | zero => intro p h; rw [lS s p (by omega)]; simp
 | succ f ih =>
  intro p h;by_cases hp : p < s.size
  ·have := fj s p hp;have := ih (p + (Utf8.decode s p).2) (by omega);rw [nN s p hp, List.length_cons];omega
  rw [lS s p hp]; simp
def cq (s : ByteArray) (p : Nat) : List Int := (pY s p).map fun x => (x.2 : Int)
def placesOf (s : ByteArray) (p : Nat) : List Int := (pY s p).map fun x => (x.1 : Int)
theorem kE (s : ByteArray) (p : Nat) (h : p < s.size) : cq s p = ((Utf8.decode s p).1 : Int) :: cq s (p + (Utf8.decode s p).2) := by
 unfold cq; rw [nN s p h]; rfl
theorem jH (s : ByteArray) (p : Nat) (h : ¬ p < s.size) : cq s p = [] := by unfold cq; rw [lS s p h]; rfl
theorem tM (s : ByteArray) (p : Nat) (h : p < s.size) : placesOf s p = (p : Int) :: placesOf s (p + (Utf8.decode s p).2) := by
 unfold placesOf; rw [nN s p h]; rfl
theorem vG (s : ByteArray) (p : Nat) (h : ¬ p < s.size) : placesOf s p = [] := by unfold placesOf; rw [lS s p h]; rfl
def qb (s : ByteArray) (p : Nat) : Bool := (Utf8.decode s p).1 == 65533 && (Utf8.decode s p).2 == 1
def kD (s : ByteArray) : Nat → Nat → Nat
  | 0, _ => 0
  | f + 1, p => if p < s.size then (if qb s p then 1 else 0) + kD s f (p + (Utf8.decode s p).2) else 0
def spoilt (s : ByteArray) (p : Nat) : Nat := kD s (s.size - p) p
theorem vS (s : ByteArray) : ∀ (f g p : Nat), s.size - p ≤ f → f ≤ g → kD s g p = kD s f p := by
 intro f;induction f with
 | zero =>
  intro g p h _;cases g with
  | zero => rfl
  | succ g => simp only [kD]; rw [if_neg (by omega)]
 | succ f ih =>
  intro g p h hg;obtain ⟨g, rfl⟩ : ∃ g', g = g' + 1 := ⟨g - 1, by omega⟩;simp only [kD];by_cases hp : p < s.size
  ·have := fj s p hp;rw [if_pos hp, if_pos hp, ih g _ (by omega) (by omega)]
  rw [if_neg hp, if_neg hp]
theorem pT (s : ByteArray) (p : Nat) (h : p < s.size) : spoilt s p = (if qb s p then 1 else 0) + spoilt s (p + (Utf8.decode s p).2) := by
 unfold spoilt;obtain ⟨f, hf⟩ : ∃ f, s.size - p = f + 1 := ⟨s.size - p - 1, by omega⟩;have := fj s p h;rw [hf];simp only [kD];rw [if_pos h, vS s (s.size - (p + (Utf8.decode s p).2)) f _ (Nat.le_refl _) (by omega)]
theorem nA (s : ByteArray) (p : Nat) (h : ¬ p < s.size) : spoilt s p = 0 := by
 unfold spoilt;rw [show s.size - p = 0 by omega];rfl
theorem Bz (s : ByteArray) : ∀ (f p : Nat), s.size - p ≤ f → spoilt s p ≤ s.size - p := by
 intro f;induction f with
 | zero => intro p h; rw [nA s p (by omega)]; omega
 | succ f ih =>
  intro p h;by_cases hp : p < s.size
  ·have := fj s p hp;have := ih (p + (Utf8.decode s p).2) (by omega);rw [pT s p hp];split <;> omega
  rw [nA s p hp]; omega
end Go.Proofs.YthnhbcohfoodlaaGreatDoor
