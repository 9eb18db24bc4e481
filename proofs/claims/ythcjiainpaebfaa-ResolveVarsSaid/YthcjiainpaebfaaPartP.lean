/- What is wrong with a part: partP. -/
import Derived.Test.YthcjiainpaebfaaTold
import Derived.Test.YthcjiainpaebfaaSideWalk
import Derived.Test.YthcjiainpaebfaaPass
namespace Go.Proofs.Ythcjiainpaebfaa
open Go.RowKit

def fitB (dir : Int) (left right : SideD) : Bool :=
  (dir == 2 || plainB right.source) && (dir == 1 || plainB left.source) && (dir != 1 || (!aroundB right && decide (left.cursor < 0))) && (dir != 2 || (!aroundB left && decide (right.cursor < 0)))
def ruleP (dir : Int) (left right : SideD) : Int :=
  if dir < 1 ∨ 3 < dir then 1
  else if sideP left (dir != 2) = 0 then (if sideP right (dir != 1) = 0 then (if fitB dir left right = true then 0 else 8) else sideP right (dir != 1))
  else sideP left (dir != 2)
def partP (p : PartD) : Int :=
  if p.kind = 1 then (if namedP p.name = true then wrongP p.set else 7)
  else if p.kind = 3 then wrongP p.set
  else if p.kind = 4 then (if passB p.name = true then 0 else 7)
  else if p.kind = 2 then ruleP p.dir p.left p.right
  else 1

theorem all_small {s : SideD} (h : itemsAll [s.before, s.source, s.after] = 0) : s.before.length ≤ 20 ∧ s.source.length ≤ 20 ∧ s.after.length ≤ 20 := by
  simp only [itemsAll] at h
  by_cases h1 : itemsP s.before = 0
  · rw [if_pos h1] at h
    by_cases h2 : itemsP s.source = 0
    · rw [if_pos h2] at h
      by_cases h3 : itemsP s.after = 0
      · exact ⟨items_small h1, items_small h2, items_small h3⟩
      · rw [if_neg h3] at h; exact absurd h h3
    · rw [if_neg h2] at h; exact absurd h h2
  · rw [if_neg h1] at h; exact absurd h h1
theorem side_small {s : SideD} {must : Bool} (h : sideP s must = 0) : s.before.length ≤ 20 ∧ s.source.length ≤ 20 ∧ s.after.length ≤ 20 := by
  unfold sideP at h
  by_cases h1 : itemsAll [s.before, s.source, s.after] = 0
  · exact all_small h1
  · rw [if_neg h1] at h; exact absurd h h1

end Go.Proofs.Ythcjiainpaebfaa
