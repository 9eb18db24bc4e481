/- Right: whether a number is a rune that a text can hold. The walks of utf8.ValidRune, runes.Right, scriptref1.Right: each returns rightB r, for every number r of Go's rune. -/
import Derived.Test.YthnhbcohfoodlaaGreatDoorRows
import Derived.Test.YthnhbcohfoodlaaGreatDoorMem
namespace Go.Proofs.YthnhbcohfoodlaaGreatDoor
open Go.RowKit

/-- r is a right rune. -/
def rightB (r : Int) : Bool := decide ((0 ≤ r ∧ r < 55296) ∨ (57343 < r ∧ r ≤ 1114111))

theorem right_range {r : Int} (h : rightB r = true) : 0 ≤ r ∧ r ≤ 1114111 := by
  simp [rightB] at h
  omega

theorem valid_rune (r : Int) (w : World) :
    Calls Tryz.prog 141 #[.int .i32 r] w fun e w' => e = .returned (.bool (rightB r)) ∧ w = w' := by
  go_enter Tryz.func141, Tryz.ntmps141
  go_wp2
  all_goals go_ret
  all_goals refine ⟨ret_bool ?_, rfl⟩
  all_goals (rw [Bool.eq_iff_iff]; simp [rightB]; try omega)

theorem runes_right (r : Int) (w : World) :
    Calls Tryz.prog 87 #[.int .i32 r] w fun e w' => e = .returned (.bool (rightB r)) ∧ w = w' := by
  go_enter Tryz.func87, Tryz.ntmps87
  go_wp2_with (go_at_call 141; refine (valid_rune _ _).mono ?_; rintro e w' ⟨rfl, rfl⟩)
  go_ret
  exact ⟨rfl, rfl⟩

theorem ref_right (r : Int) (w : World) :
    Calls Tryz.prog 131 #[.int .i32 r] w fun e w' => e = .returned (.bool (rightB r)) ∧ w = w' := by
  go_enter Tryz.func131, Tryz.ntmps131
  go_wp2
  all_goals go_ret
  all_goals refine ⟨ret_bool ?_, rfl⟩
  all_goals (rw [Bool.eq_iff_iff]; simp [rightB]; try omega)

end Go.Proofs.YthnhbcohfoodlaaGreatDoor
