/- PartWalk + PartAll -/
import Derived.Test.YthnhbcohfoodlaaGreatDoorZk21
import Derived.Deep.RegionWith
namespace Go.Proofs.YthnhbcohfoodlaaGreatDoor
open Go.RowKit
theorem blk_drew {w : World} {g : Nat} {t : TypeId} {cs : Array Value} (h : Blk w g t cs) : Blk w.drew g t cs := h
set_option maxRecDepth 100000 in
set_option maxHeartbeats 1600000 in
theorem part_var (name : ByteArray) (set : Spans) (left right : SideD) (dir : Int) (A : Option Addr) (n c : Nat) (L1 L2 L3 R1 R2 R3 : Option Addr) (a1 a2 a3 x1 x2 x3 b1 b2 b3 y1 y2 y3 : Nat) (w : World) (hs : RdS w w.heap.size A n set) (hn : n ≤ 9223372036854775807) :
    Calls Tryz.prog 70 #[.agg #[.int .i64 1, .string name, .slice A n c, .int .i64 dir, .bool left.start, .bool left.fin, .slice L1 a1 x1, .slice L2 a2 x2, .slice L3 a3 x3, .int .i64 left.cursor, .bool right.start, .bool right.fin, .slice R1 b1 y1, .slice R2 b2 y2, .slice R3 b3 y3, .int .i64 right.cursor]] w fun e w' => e = .returned (.int .i64 (if namedP name = true then wrongP set else 7)) ∧ Below w.heap.size w w' := by
  have HB := Lib.hid ((Below.refl w.heap.size w).alloc (Nat.le_refl _) (.cells #[.int .i64 1, .string name, .slice A n c, .int .i64 dir, .bool left.start, .bool left.fin, .slice L1 a1 x1, .slice L2 a2 x2, .slice L3 a3 x3, .int .i64 left.cursor, .bool right.start, .bool right.fin, .slice R1 b1 y1, .slice R2 b2 y2, .slice R3 b3 y3, .int .i64 right.cursor] 98))
  have HS := Lib.hid (rds_alloc hs (.cells #[.int .i64 1, .string name, .slice A n c, .int .i64 dir, .bool left.start, .bool left.fin, .slice L1 a1 x1, .slice L2 a2 x2, .slice L3 a3 x3, .int .i64 left.cursor, .bool right.start, .bool right.fin, .slice R1 b1 y1, .slice R2 b2 y2, .slice R3 b3 y3, .int .i64 right.cursor] 98))
  clear hs
  cases hr : namedP name
  · go_enter Tryz.func70, Tryz.ntmps70
    go_wp2_with (go_at_call 24; refine (rulesyn_named _ _).mono ?_; rintro e w' ⟨rfl, rfl⟩; rw [hr])
    go_ret
    exact ⟨rfl, HB.out⟩
  · go_enter Tryz.func70, Tryz.ntmps70
    go_wp2_with (go_at_call 24; refine (rulesyn_named _ _).mono ?_; rintro e w' ⟨rfl, rfl⟩; rw [hr])
    refine (sets_wrong A n c set _ hn HS.out).mono ?_
    rintro e w' ⟨rfl, hb⟩
    go_wp2_with fail
    go_ret
    exact ⟨rfl, HB.out.trans (hb.mono (by simp))⟩
set_option maxRecDepth 100000 in
set_option maxHeartbeats 1600000 in
theorem part_filter (name : ByteArray) (set : Spans) (left right : SideD) (dir : Int) (A : Option Addr) (n c : Nat) (L1 L2 L3 R1 R2 R3 : Option Addr) (a1 a2 a3 x1 x2 x3 b1 b2 b3 y1 y2 y3 : Nat) (w : World) (hs : RdS w w.heap.size A n set) (hn : n ≤ 9223372036854775807) :
    Calls Tryz.prog 70 #[.agg #[.int .i64 3, .string name, .slice A n c, .int .i64 dir, .bool left.start, .bool left.fin, .slice L1 a1 x1, .slice L2 a2 x2, .slice L3 a3 x3, .int .i64 left.cursor, .bool right.start, .bool right.fin, .slice R1 b1 y1, .slice R2 b2 y2, .slice R3 b3 y3, .int .i64 right.cursor]] w fun e w' => e = .returned (.int .i64 (wrongP set)) ∧ Below w.heap.size w w' := by
  have HB := Lib.hid ((Below.refl w.heap.size w).alloc (Nat.le_refl _) (.cells #[.int .i64 3, .string name, .slice A n c, .int .i64 dir, .bool left.start, .bool left.fin, .slice L1 a1 x1, .slice L2 a2 x2, .slice L3 a3 x3, .int .i64 left.cursor, .bool right.start, .bool right.fin, .slice R1 b1 y1, .slice R2 b2 y2, .slice R3 b3 y3, .int .i64 right.cursor] 98))
  have HS := Lib.hid (rds_alloc hs (.cells #[.int .i64 3, .string name, .slice A n c, .int .i64 dir, .bool left.start, .bool left.fin, .slice L1 a1 x1, .slice L2 a2 x2, .slice L3 a3 x3, .int .i64 left.cursor, .bool right.start, .bool right.fin, .slice R1 b1 y1, .slice R2 b2 y2, .slice R3 b3 y3, .int .i64 right.cursor] 98))
  clear hs
  go_enter Tryz.func70, Tryz.ntmps70
  go_wp2_with fail
  refine (sets_wrong A n c set _ hn HS.out).mono ?_
  rintro e w' ⟨rfl, hb⟩
  go_wp2_with fail
  go_ret
  exact ⟨rfl, HB.out.trans (hb.mono (by simp))⟩
set_option maxRecDepth 100000 in
set_option maxHeartbeats 1600000 in
theorem part_other (name : ByteArray) (left right : SideD) (kind dir : Int) (A : Option Addr) (n c : Nat) (L1 L2 L3 R1 R2 R3 : Option Addr) (a1 a2 a3 x1 x2 x3 b1 b2 b3 y1 y2 y3 : Nat) (w : World) (k1 : kind ≠ 1) (k2 : kind ≠ 2) (k3 : kind ≠ 3) (k4 : kind ≠ 4) :
    Calls Tryz.prog 70 #[.agg #[.int .i64 kind, .string name, .slice A n c, .int .i64 dir, .bool left.start, .bool left.fin, .slice L1 a1 x1, .slice L2 a2 x2, .slice L3 a3 x3, .int .i64 left.cursor, .bool right.start, .bool right.fin, .slice R1 b1 y1, .slice R2 b2 y2, .slice R3 b3 y3, .int .i64 right.cursor]] w fun e w' => e = .returned (.int .i64 (1)) ∧ Below w.heap.size w w' := by
  have HB := Lib.hid ((Below.refl w.heap.size w).alloc (Nat.le_refl _) (.cells #[.int .i64 kind, .string name, .slice A n c, .int .i64 dir, .bool left.start, .bool left.fin, .slice L1 a1 x1, .slice L2 a2 x2, .slice L3 a3 x3, .int .i64 left.cursor, .bool right.start, .bool right.fin, .slice R1 b1 y1, .slice R2 b2 y2, .slice R3 b3 y3, .int .i64 right.cursor] 98))
  have e1 : (kind == 1) = false := by simpa using k1
  have e2 : (kind == 2) = false := by simpa using k2
  have e3 : (kind == 3) = false := by simpa using k3
  have e4 : (kind == 4) = false := by simpa using k4
  clear k1 k2 k3 k4
  go_enter Tryz.func70, Tryz.ntmps70
  go_wp2_with fail
  go_ret
  exact ⟨rfl, HB.out⟩
set_option maxRecDepth 100000 in
set_option maxHeartbeats 1600000 in
theorem part_pass (name : ByteArray) (left right : SideD) (dir : Int) (A : Option Addr) (n c : Nat) (L1 L2 L3 R1 R2 R3 : Option Addr) (a1 a2 a3 x1 x2 x3 b1 b2 b3 y1 y2 y3 : Nat) (w : World)  :
    Calls Tryz.prog 70 #[.agg #[.int .i64 4, .string name, .slice A n c, .int .i64 dir, .bool left.start, .bool left.fin, .slice L1 a1 x1, .slice L2 a2 x2, .slice L3 a3 x3, .int .i64 left.cursor, .bool right.start, .bool right.fin, .slice R1 b1 y1, .slice R2 b2 y2, .slice R3 b3 y3, .int .i64 right.cursor]] w fun e w' => e = .returned (.int .i64 (if passB name = true then 0 else 7)) ∧ Below w.heap.size w w' := by
  have HB := Lib.hid ((Below.refl w.heap.size w).alloc (Nat.le_refl _) (.cells #[.int .i64 4, .string name, .slice A n c, .int .i64 dir, .bool left.start, .bool left.fin, .slice L1 a1 x1, .slice L2 a2 x2, .slice L3 a3 x3, .int .i64 left.cursor, .bool right.start, .bool right.fin, .slice R1 b1 y1, .slice R2 b2 y2, .slice R3 b3 y3, .int .i64 right.cursor] 98))
  have c1 : (w.alloc (.cells #[.int .i64 4, .string name, .slice A n c, .int .i64 dir, .bool left.start, .bool left.fin, .slice L1 a1 x1, .slice L2 a2 x2, .slice L3 a3 x3, .int .i64 left.cursor, .bool right.start, .bool right.fin, .slice R1 b1 y1, .slice R2 b2 y2, .slice R3 b3 y3, .int .i64 right.cursor] 98)).cell? ⟨w.heap.size, 1, none⟩ = some (.string name) := (Blk.new _ _ _).cell 1
  have hlt : w.heap.size < (w.alloc (.cells #[.int .i64 4, .string name, .slice A n c, .int .i64 dir, .bool left.start, .bool left.fin, .slice L1 a1 x1, .slice L2 a2 x2, .slice L3 a3 x3, .int .i64 left.cursor, .bool right.start, .bool right.fin, .slice R1 b1 y1, .slice R2 b2 y2, .slice R3 b3 y3, .int .i64 right.cursor] 98)).heap.size := by simp
  cases hr : passB name
  all_goals
    have HR := Lib.hid hr
    clear hr
    go_enter Tryz.func70, Tryz.ntmps70
    go_wp2_with fail
    generalize w.alloc (.cells #[.int .i64 4, .string name, .slice A n c, .int .i64 dir, .bool left.start, .bool left.fin, .slice L1 a1 x1, .slice L2 a2 x2, .slice L3 a3 x3, .int .i64 left.cursor, .bool right.start, .bool right.fin, .slice R1 b1 y1, .slice R2 b2 y2, .slice R3 b3 y3, .int .i64 right.cursor] 98) = W0 at *
    go_region_with (first | (go_at_call 97; refine (rulesyn_passes _).mono ?_; rintro e w' ⟨rfl, rfl⟩) | (go_at_call 96; refine (pass_has _ name _ HR.out _ (blk_drew (Blk.new _ _ _))).mono ?_; rintro e w' ⟨rfl, rfl⟩))
    all_goals
      go_wp2_with fail
      go_ret
      exact ⟨rfl, below_drewN (HB.out.alloc HB.out.size _) _⟩
end Go.Proofs.YthnhbcohfoodlaaGreatDoor

namespace Go.Proofs.YthnhbcohfoodlaaGreatDoor
open Go.RowKit
set_option maxRecDepth 100000 in
set_option maxHeartbeats 1600000 in
theorem rulesyn_part (p : PartD) (A : Option Addr) (n c : Nat) (L1 L2 L3 R1 R2 R3 : Option Addr) (a1 a2 a3 x1 x2 x3 b1 b2 b3 y1 y2 y3 : Nat) (w : World) (hs : RdS w w.heap.size A n p.set) (hn : n ≤ maxLen) (l1 : RdIt w w.heap.size L1 a1 p.left.before) (l2 : RdIt w w.heap.size L2 a2 p.left.source) (l3 : RdIt w w.heap.size L3 a3 p.left.after) (la1 : a1 ≤ maxLen) (la2 : a2 ≤ maxLen) (la3 : a3 ≤ maxLen) (r1 : RdIt w w.heap.size R1 b1 p.right.before) (r2 : RdIt w w.heap.size R2 b2 p.right.source) (r3 : RdIt w w.heap.size R3 b3 p.right.after) (ra1 : b1 ≤ maxLen) (ra2 : b2 ≤ maxLen) (ra3 : b3 ≤ maxLen)  :
    Calls Tryz.prog 70 #[.agg #[.int .i64 p.kind, .string p.name, .slice A n c, .int .i64 p.dir, .bool p.left.start, .bool p.left.fin, .slice L1 a1 x1, .slice L2 a2 x2, .slice L3 a3 x3, .int .i64 p.left.cursor, .bool p.right.start, .bool p.right.fin, .slice R1 b1 y1, .slice R2 b2 y2, .slice R3 b3 y3, .int .i64 p.right.cursor]] w fun e w' => e = .returned (.int .i64 (partP p)) ∧ Below w.heap.size w w' := by
  obtain ⟨kind, name, set, dir, left, right⟩ := p
  dsimp only at *
  unfold partP
  dsimp only
  by_cases k1 : kind = 1
  · subst k1
    rw [if_pos rfl]
    exact part_var name set left right dir A n c L1 L2 L3 R1 R2 R3 a1 a2 a3 x1 x2 x3 b1 b2 b3 y1 y2 y3 w hs (by unfold maxLen at hn; omega)
  by_cases k3 : kind = 3
  · subst k3
    rw [if_neg k1, if_pos rfl]
    exact part_filter name set left right dir A n c L1 L2 L3 R1 R2 R3 a1 a2 a3 x1 x2 x3 b1 b2 b3 y1 y2 y3 w hs (by unfold maxLen at hn; omega)
  by_cases k4 : kind = 4
  · subst k4
    rw [if_neg k1, if_neg k3, if_pos rfl]
    exact part_pass name left right dir A n c L1 L2 L3 R1 R2 R3 a1 a2 a3 x1 x2 x3 b1 b2 b3 y1 y2 y3 w
  by_cases k2 : kind = 2
  · subst k2
    rw [if_neg k1, if_neg k3, if_neg k4, if_pos rfl]
    by_cases hd : dir < 1 ∨ 3 < dir
    · have e : ruleP dir left right = 1 := if_pos hd
      rw [e]
      exact part_dir name left right dir A n c L1 L2 L3 R1 R2 R3 a1 a2 a3 x1 x2 x3 b1 b2 b3 y1 y2 y3 w hd
    rcases (show dir = 1 ∨ dir = 2 ∨ dir = 3 by omega) with rfl | rfl | rfl
    · exact part_rule1 name left right A n c L1 L2 L3 R1 R2 R3 a1 a2 a3 x1 x2 x3 b1 b2 b3 y1 y2 y3 w l1 l2 l3 la1 la2 la3 r1 r2 r3 ra1 ra2 ra3
    · exact part_rule2 name left right A n c L1 L2 L3 R1 R2 R3 a1 a2 a3 x1 x2 x3 b1 b2 b3 y1 y2 y3 w l1 l2 l3 la1 la2 la3 r1 r2 r3 ra1 ra2 ra3
    · exact part_rule3 name left right A n c L1 L2 L3 R1 R2 R3 a1 a2 a3 x1 x2 x3 b1 b2 b3 y1 y2 y3 w l1 l2 l3 la1 la2 la3 r1 r2 r3 ra1 ra2 ra3
  rw [if_neg k1, if_neg k3, if_neg k4, if_neg k2]
  exact part_other name left right kind dir A n c L1 L2 L3 R1 R2 R3 a1 a2 a3 x1 x2 x3 b1 b2 b3 y1 y2 y3 w k1 k2 k3 k4
end Go.Proofs.YthnhbcohfoodlaaGreatDoor
