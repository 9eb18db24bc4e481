/- What is wrong with a part: rulesyn.part tells partP. -/
import Derived.Test.YthcjiainpaebfaaPartWalk
import Derived.Test.YthcjiainpaebfaaPartRule
namespace Go.Proofs.Ythcjiainpaebfaa
open Go.RowKit

set_option maxRecDepth 100000 in
set_option maxHeartbeats 1600000 in
theorem rulesyn_part (p : PartD) (A : Option Addr) (n c : Nat) (L1 L2 L3 R1 R2 R3 : Option Addr) (a1 a2 a3 x1 x2 x3 b1 b2 b3 y1 y2 y3 : Nat) (w : World) (hs : RdS w w.heap.size A n p.set) (hn : n ≤ maxLen) (l1 : RdIt w w.heap.size L1 a1 p.left.before) (l2 : RdIt w w.heap.size L2 a2 p.left.source) (l3 : RdIt w w.heap.size L3 a3 p.left.after) (la1 : a1 ≤ maxLen) (la2 : a2 ≤ maxLen) (la3 : a3 ≤ maxLen) (r1 : RdIt w w.heap.size R1 b1 p.right.before) (r2 : RdIt w w.heap.size R2 b2 p.right.source) (r3 : RdIt w w.heap.size R3 b3 p.right.after) (ra1 : b1 ≤ maxLen) (ra2 : b2 ≤ maxLen) (ra3 : b3 ≤ maxLen)  :
    Calls Try.prog 34 #[.agg #[.int .i64 p.kind, .string p.name, .slice A n c, .int .i64 p.dir, .bool p.left.start, .bool p.left.fin, .slice L1 a1 x1, .slice L2 a2 x2, .slice L3 a3 x3, .int .i64 p.left.cursor, .bool p.right.start, .bool p.right.fin, .slice R1 b1 y1, .slice R2 b2 y2, .slice R3 b3 y3, .int .i64 p.right.cursor]] w fun e w' => e = .returned (.int .i64 (partP p)) ∧ Below w.heap.size w w' := by
  obtain ⟨kind, name, set, dir, left, right⟩ := p
  dsimp only at *
  unfold partP
  dsimp only
  by_cases k1 : kind = 1
  · subst k1
    rw [if_pos rfl]
    exact part_var name set left right dir A n c L1 L2 L3 R1 R2 R3 a1 a2 a3 x1 x2 x3 b1 b2 b3 y1 y2 y3 w hs (by unfold maxLen at hn; omega)
  by_cases k3 : kind = 3
  · subst k3
    rw [if_neg k1, if_pos rfl]
    exact part_filter name set left right dir A n c L1 L2 L3 R1 R2 R3 a1 a2 a3 x1 x2 x3 b1 b2 b3 y1 y2 y3 w hs (by unfold maxLen at hn; omega)
  by_cases k4 : kind = 4
  · subst k4
    rw [if_neg k1, if_neg k3, if_pos rfl]
    exact part_pass name left right dir A n c L1 L2 L3 R1 R2 R3 a1 a2 a3 x1 x2 x3 b1 b2 b3 y1 y2 y3 w
  by_cases k2 : kind = 2
  · subst k2
    rw [if_neg k1, if_neg k3, if_neg k4, if_pos rfl]
    by_cases hd : dir < 1 ∨ 3 < dir
    · have e : ruleP dir left right = 1 := if_pos hd
      rw [e]
      exact part_dir name left right dir A n c L1 L2 L3 R1 R2 R3 a1 a2 a3 x1 x2 x3 b1 b2 b3 y1 y2 y3 w hd
    rcases (show dir = 1 ∨ dir = 2 ∨ dir = 3 by omega) with rfl | rfl | rfl
    · exact part_rule1 name left right A n c L1 L2 L3 R1 R2 R3 a1 a2 a3 x1 x2 x3 b1 b2 b3 y1 y2 y3 w l1 l2 l3 la1 la2 la3 r1 r2 r3 ra1 ra2 ra3
    · exact part_rule2 name left right A n c L1 L2 L3 R1 R2 R3 a1 a2 a3 x1 x2 x3 b1 b2 b3 y1 y2 y3 w l1 l2 l3 la1 la2 la3 r1 r2 r3 ra1 ra2 ra3
    · exact part_rule3 name left right A n c L1 L2 L3 R1 R2 R3 a1 a2 a3 x1 x2 x3 b1 b2 b3 y1 y2 y3 w l1 l2 l3 la1 la2 la3 r1 r2 r3 ra1 ra2 ra3
  rw [if_neg k1, if_neg k3, if_neg k4, if_neg k2]
  exact part_other name left right kind dir A n c L1 L2 L3 R1 R2 R3 a1 a2 a3 x1 x2 x3 b1 b2 b3 y1 y2 y3 w k1 k2 k3 k4

end Go.Proofs.Ythcjiainpaebfaa
