/- Spans: what append asks of them. -/
import Derived.Test.YthnhbcohfoodlaaGreatDoorSpan
namespace Go.Proofs.YthnhbcohfoodlaaGreatDoor
open Go.RowKit

theorem infoSpan : (Tryz.prog.info? 74).map (fun i => (i.zero, i.size, i.bytes)) = some (some (.agg #[.int .i32 0, .int .i32 0]), 2, 8) := by kernel_rfl
theorem span_one (x y : Int) : ∀ u ∈ [Value.int .i32 x, .int .i32 y], u.oneCell' = true := by
  intro u hu; simp at hu; rcases hu with rfl | rfl <;> rfl
theorem spanCells_snoc (l : Spans) (x y : Int) : spanCells (l ++ [(x, y)]) = spanCells l ++ [.int .i32 x, .int .i32 y] := by simp [spanCells]

theorem spanCells_one (l : Spans) : ∀ u ∈ spanCells l, u.oneCell' = true := by
  intro u hu
  simp only [spanCells, List.mem_flatMap] at hu
  obtain ⟨x, _, hu⟩ := hu
  simp at hu
  rcases hu with rfl | rfl <;> rfl
theorem spanCells_app2 (a b : Spans) : spanCells (a ++ b) = spanCells a ++ spanCells b := by simp [spanCells]
theorem spanCells_append (a b : Spans) : spanCells (a ++ b) = spanCells a ++ spanCells b := by simp [spanCells]

end Go.Proofs.YthnhbcohfoodlaaGreatDoor
