/- Right: whether a number is a rune that a text can hold. The walks of utf8.ValidRune, runes.Right, scriptref1.Right: each returns rightB r, for every number r of Go's rune. -/
import Derived.Test.YtdfljicijfceeaaDoorRows
import Derived.Test.YtdfljicijfceeaaDoorMem
namespace Go.Proofs.YtdfljicijfceeaaDoor
open Go.RowKit

/-- r is a right rune. -/
def rightB (r : Int) : Bool := decide ((0 ≤ r ∧ r < 55296) ∨ (57343 < r ∧ r ≤ 1114111))

theorem valid_rune (r : Int) (w : World) :
    Calls Tryd.prog 64 #[.int .i32 r] w fun e w' => e = .returned (.bool (rightB r)) ∧ w = w' := by
  go_enter Tryd.func64, Tryd.ntmps64
  go_wp2
  all_goals go_ret
  all_goals refine ⟨ret_bool ?_, rfl⟩
  all_goals (rw [Bool.eq_iff_iff]; simp [rightB]; try omega)

theorem runes_right (r : Int) (w : World) :
    Calls Tryd.prog 46 #[.int .i32 r] w fun e w' => e = .returned (.bool (rightB r)) ∧ w = w' := by
  go_enter Tryd.func46, Tryd.ntmps46
  go_wp2_with (go_at_call 64; refine (valid_rune _ _).mono ?_; rintro e w' ⟨rfl, rfl⟩)
  go_ret
  exact ⟨rfl, rfl⟩

theorem ref_right (r : Int) (w : World) :
    Calls Tryd.prog 55 #[.int .i32 r] w fun e w' => e = .returned (.bool (rightB r)) ∧ w = w' := by
  go_enter Tryd.func55, Tryd.ntmps55
  go_wp2
  all_goals go_ret
  all_goals refine ⟨ret_bool ?_, rfl⟩
  all_goals (rw [Bool.eq_iff_iff]; simp [rightB]; try omega)

end Go.Proofs.YtdfljicijfceeaaDoor
