/- Right: whether a number is a rune that a text can hold. The walks of utf8.ValidRune, runes.Right, scriptref1.Right: each returns rightB r, for every number r of Go's rune. -/
import Derived.Test.YtebpmfejhfkagaaRows
import Derived.Test.YtebpmfejhfkagaaMem
namespace Go.Proofs.Ytebpmfejhfkagaa
open Go.RowKit

/-- r is a right rune. -/
def rightB (r : Int) : Bool := decide ((0 ≤ r ∧ r < 55296) ∨ (57343 < r ∧ r ≤ 1114111))

theorem valid_rune (r : Int) (w : World) :
    Calls Try.prog 48 #[.int .i32 r] w fun e w' => e = .returned (.bool (rightB r)) ∧ w = w' := by
  go_enter Try.func48, Try.ntmps48
  go_wp2
  all_goals go_ret
  all_goals refine ⟨ret_bool ?_, rfl⟩
  all_goals (rw [Bool.eq_iff_iff]; simp [rightB]; try omega)

theorem runes_right (r : Int) (w : World) :
    Calls Try.prog 33 #[.int .i32 r] w fun e w' => e = .returned (.bool (rightB r)) ∧ w = w' := by
  go_enter Try.func33, Try.ntmps33
  go_wp2_with (go_at_call 48; refine (valid_rune _ _).mono ?_; rintro e w' ⟨rfl, rfl⟩)
  go_ret
  exact ⟨rfl, rfl⟩

theorem ref_right (r : Int) (w : World) :
    Calls Try.prog 55 #[.int .i32 r] w fun e w' => e = .returned (.bool (rightB r)) ∧ w = w' := by
  go_enter Try.func55, Try.ntmps55
  go_wp2
  all_goals go_ret
  all_goals refine ⟨ret_bool ?_, rfl⟩
  all_goals (rw [Bool.eq_iff_iff]; simp [rightB]; try omega)

end Go.Proofs.Ytebpmfejhfkagaa
