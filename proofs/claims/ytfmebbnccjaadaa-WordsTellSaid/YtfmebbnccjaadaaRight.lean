/- Right: whether a number is a rune that a text can hold. The walks of utf8.ValidRune, runes.Right, scriptref1.Right: each returns rightB r, for every number r of Go's rune. -/
import Derived.Test.YtfmebbnccjaadaaRows
import Derived.Test.YtfmebbnccjaadaaMem
namespace Go.Proofs.Ytfmebbnccjaadaa
open Go.RowKit

/-- r is a right rune. -/
def rightB (r : Int) : Bool := decide ((0 ≤ r ∧ r < 55296) ∨ (57343 < r ∧ r ≤ 1114111))

theorem valid_rune (r : Int) (w : World) :
    Calls Try.prog 101 #[.int .i32 r] w fun e w' => e = .returned (.bool (rightB r)) ∧ w = w' := by
  go_enter Try.func101, Try.ntmps101
  go_wp2
  all_goals go_ret
  all_goals refine ⟨ret_bool ?_, rfl⟩
  all_goals (rw [Bool.eq_iff_iff]; simp [rightB]; try omega)

theorem runes_right (r : Int) (w : World) :
    Calls Try.prog 84 #[.int .i32 r] w fun e w' => e = .returned (.bool (rightB r)) ∧ w = w' := by
  go_enter Try.func84, Try.ntmps84
  go_wp2_with (go_at_call 101; refine (valid_rune _ _).mono ?_; rintro e w' ⟨rfl, rfl⟩)
  go_ret
  exact ⟨rfl, rfl⟩

theorem ref_right (r : Int) (w : World) :
    Calls Try.prog 66 #[.int .i32 r] w fun e w' => e = .returned (.bool (rightB r)) ∧ w = w' := by
  go_enter Try.func66, Try.ntmps66
  go_wp2
  all_goals go_ret
  all_goals refine ⟨ret_bool ?_, rfl⟩
  all_goals (rw [Bool.eq_iff_iff]; simp [rightB]; try omega)

end Go.Proofs.Ytfmebbnccjaadaa
