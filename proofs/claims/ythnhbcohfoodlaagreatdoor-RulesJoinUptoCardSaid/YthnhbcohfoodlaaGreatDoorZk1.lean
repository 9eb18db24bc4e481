/- Utf -/
import Derived.WalkKit
import Derived.Lib.OthersKept
namespace Go.Proofs.YthnhbcohfoodlaaGreatDoor
theorem dec_bound (s : ByteArray) (p : Nat) (h : p < s.size) : 1 ≤ (Utf8.decode s p).2 ∧ (Utf8.decode s p).2 ≤ 4 ∧ p + (Utf8.decode s p).2 ≤ s.size := by
  simp only [Utf8.decode]
  repeat' split
  all_goals simp_all
  all_goals omega
def spotsF (s : ByteArray) : Nat → Nat → List (Nat × Nat)
  | 0, _ => []
  | f + 1, p => if p < s.size then (p, (Utf8.decode s p).1) :: spotsF s f (p + (Utf8.decode s p).2) else []
def spots (s : ByteArray) (p : Nat) : List (Nat × Nat) := spotsF s (s.size - p) p
theorem spotsF_more (s : ByteArray) : ∀ (f g p : Nat), s.size - p ≤ f → f ≤ g → spotsF s g p = spotsF s f p := by
  intro f
  induction f with
  | zero =>
    intro g p h _
    cases g with
    | zero => rfl
    | succ g => simp only [spotsF]; rw [if_neg (by omega)]
  | succ f ih =>
    intro g p h hg
    obtain ⟨g, rfl⟩ : ∃ g', g = g' + 1 := ⟨g - 1, by omega⟩
    simp only [spotsF]
    by_cases hp : p < s.size
    · have := dec_bound s p hp
      rw [if_pos hp, if_pos hp, ih g _ (by omega) (by omega)]
    · rw [if_neg hp, if_neg hp]
theorem spots_step (s : ByteArray) (p : Nat) (h : p < s.size) : spots s p = (p, (Utf8.decode s p).1) :: spots s (p + (Utf8.decode s p).2) := by
  unfold spots
  obtain ⟨f, hf⟩ : ∃ f, s.size - p = f + 1 := ⟨s.size - p - 1, by omega⟩
  have := dec_bound s p h
  rw [hf]
  simp only [spotsF]
  rw [if_pos h, spotsF_more s (s.size - (p + (Utf8.decode s p).2)) f _ (Nat.le_refl _) (by omega)]
theorem spots_end (s : ByteArray) (p : Nat) (h : ¬ p < s.size) : spots s p = [] := by
  unfold spots
  rw [show s.size - p = 0 by omega]
  rfl
theorem spots_length (s : ByteArray) : ∀ (f p : Nat), s.size - p ≤ f → (spots s p).length ≤ s.size - p := by
  intro f
  induction f with
  | zero => intro p h; rw [spots_end s p (by omega)]; simp
  | succ f ih =>
    intro p h
    by_cases hp : p < s.size
    · have := dec_bound s p hp
      have := ih (p + (Utf8.decode s p).2) (by omega)
      rw [spots_step s p hp, List.length_cons]
      omega
    · rw [spots_end s p hp]; simp
def runesOf (s : ByteArray) (p : Nat) : List Int := (spots s p).map fun x => (x.2 : Int)
theorem runesOf_step (s : ByteArray) (p : Nat) (h : p < s.size) : runesOf s p = ((Utf8.decode s p).1 : Int) :: runesOf s (p + (Utf8.decode s p).2) := by
  unfold runesOf; rw [spots_step s p h]; rfl
theorem runesOf_end (s : ByteArray) (p : Nat) (h : ¬ p < s.size) : runesOf s p = [] := by unfold runesOf; rw [spots_end s p h]; rfl
theorem runesOf_length (s : ByteArray) : (runesOf s 0).length ≤ s.size := by
  have := spots_length s s.size 0 (by omega)
  simpa [runesOf] using this
end Go.Proofs.YthnhbcohfoodlaaGreatDoor
