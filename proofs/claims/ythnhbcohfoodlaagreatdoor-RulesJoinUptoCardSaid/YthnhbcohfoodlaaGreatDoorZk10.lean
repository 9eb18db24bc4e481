/- RunesValid -/
import Derived.Test.YthnhbcohfoodlaaGreatDoorZk1
import Derived.Test.YthnhbcohfoodlaaGreatDoorZk5
import Derived.Lib.MapLaws
import Derived.Laws.Runes
namespace Go.Proofs.YthnhbcohfoodlaaGreatDoor
theorem decode_right_rune (s : ByteArray) (p : Nat) : rightB ((Utf8.decode s p).1 : Int) = true := by
  rw [Lib.decode_at]
  have key : ∀ n b0 b1 b2 b3, rightB ((Lib.decodeN n b0 b1 b2 b3).1 : Int) = true := by
    intro n b0 b1 b2 b3
    unfold Lib.decodeN
    repeat' split
    all_goals simp [rightB]
    all_goals omega
  exact key _ _ _ _ _
theorem runesOf_right (s : ByteArray) : ∀ (f p : Nat), s.size - p ≤ f → (runesOf s p).all rightB = true := by
  intro f
  induction f with
  | zero => intro p h; rw [runesOf_end s p (by omega)]; rfl
  | succ f ih =>
    intro p h
    by_cases hp : p < s.size
    · have hd := dec_bound s p hp
      rw [runesOf_step s p hp, List.all_cons, decode_right_rune s p, ih _ (by omega)]
      rfl
    · rw [runesOf_end s p hp]; rfl
theorem runesOf_valid (s : ByteArray) : ∀ x ∈ runesOf s 0, Utf8.valid x = true := by
  intro x hx
  have := List.all_eq_true.1 (runesOf_right s s.size 0 (by omega)) x hx
  rw [validRune_eq]
  unfold validRune
  simpa [rightB] using this
end Go.Proofs.YthnhbcohfoodlaaGreatDoor
