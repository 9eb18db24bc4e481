/- PartRule -/
import Derived.Test.YthnhbcohfoodlaaGreatDoorZt11
import Derived.Deep.QuietTactic
import Derived.BigQuiet
namespace Go.Proofs.YthnhbcohfoodlaaGreatDoor
open Go.RowKit
set_option maxRecDepth 100000 in
set_option maxHeartbeats 1600000 in
theorem part_rule1 (name : ByteArray) (left right : SideD) (A : Option Addr) (n c : Nat) (L1 L2 L3 R1 R2 R3 : Option Addr) (a1 a2 a3 x1 x2 x3 b1 b2 b3 y1 y2 y3 : Nat) (w : World) (l1 : RdIt w w.heap.size L1 a1 left.before) (l2 : RdIt w w.heap.size L2 a2 left.source) (l3 : RdIt w w.heap.size L3 a3 left.after) (la1 : a1 ≤ maxLen) (la2 : a2 ≤ maxLen) (la3 : a3 ≤ maxLen) (r1 : RdIt w w.heap.size R1 b1 right.before) (r2 : RdIt w w.heap.size R2 b2 right.source) (r3 : RdIt w w.heap.size R3 b3 right.after) (ra1 : b1 ≤ maxLen) (ra2 : b2 ≤ maxLen) (ra3 : b3 ≤ maxLen) :
 Calls Tryz.prog 70 #[.agg #[.int .i64 2, .string name, .slice A n c, .int .i64 1, .bool left.start, .bool left.fin, .slice L1 a1 x1, .slice L2 a2 x2, .slice L3 a3 x3, .int .i64 left.cursor, .bool right.start, .bool right.fin, .slice R1 b1 y1, .slice R2 b2 y2, .slice R3 b3 y3, .int .i64 right.cursor]] w fun e w' => e = .returned (.int .i64 (ruleP 1 left right)) ∧ Below w.heap.size w w' := by
 have SL := Lib.hid (fun w' (hb : Below w.heap.size w w') must => rulesyn_side left must L1 L2 L3 a1 a2 a3 x1 x2 x3 w' (rdit_below l1 hb) (rdit_below l2 hb) (rdit_below l3 hb) la1 la2 la3)
 have TL := Lib.hid (fun w' (hb : Below w.heap.size w w') => rulesyn_told left L1 L2 L3 a1 a2 a3 x1 x2 x3 w' (rdit_below l2 hb) la2)
 have BL := Lib.hid (fun w' must (h0 : sideP left must = 0) => rulesyn_bare left L1 L2 L3 a1 a2 a3 x1 x2 x3 w' (RdL.len l1) (RdL.len l3) (by rw [← RdL.len l1]; exact (side_small h0).1) (by rw [← RdL.len l3]; exact (side_small h0).2.2))
 have SR := Lib.hid (fun w' (hb : Below w.heap.size w w') must => rulesyn_side right must R1 R2 R3 b1 b2 b3 y1 y2 y3 w' (rdit_below r1 hb) (rdit_below r2 hb) (rdit_below r3 hb) ra1 ra2 ra3)
 have TR := Lib.hid (fun w' (hb : Below w.heap.size w w') => rulesyn_told right R1 R2 R3 b1 b2 b3 y1 y2 y3 w' (rdit_below r2 hb) ra2)
 have BR := Lib.hid (fun w' must (h0 : sideP right must = 0) => rulesyn_bare right R1 R2 R3 b1 b2 b3 y1 y2 y3 w' (RdL.len r1) (RdL.len r3) (by rw [← RdL.len r1]; exact (side_small h0).1) (by rw [← RdL.len r3]; exact (side_small h0).2.2))
 clear l1 l2 l3 r1 r2 r3 la1 la2 la3 ra1 ra2 ra3
 have HB0 := Lib.hid ((Below.refl w.heap.size w).alloc (Nat.le_refl _) (.cells #[.int .i64 2, .string name, .slice A n c, .int .i64 1, .bool left.start, .bool left.fin, .slice L1 a1 x1, .slice L2 a2 x2, .slice L3 a3 x3, .int .i64 left.cursor, .bool right.start, .bool right.fin, .slice R1 b1 y1, .slice R2 b2 y2, .slice R3 b3 y3, .int .i64 right.cursor] 98))
 have HK0 := Lib.hid (Blk.new w 98 #[.int .i64 2, .string name, .slice A n c, .int .i64 1, .bool left.start, .bool left.fin, .slice L1 a1 x1, .slice L2 a2 x2, .slice L3 a3 x3, .int .i64 left.cursor, .bool right.start, .bool right.fin, .slice R1 b1 y1, .slice R2 b2 y2, .slice R3 b3 y3, .int .i64 right.cursor])
 go_enter Tryz.func70, Tryz.ntmps70
 go_wp2_with fail
 generalize w.alloc (.cells #[.int .i64 2, .string name, .slice A n c, .int .i64 1, .bool left.start, .bool left.fin, .slice L1 a1 x1, .slice L2 a2 x2, .slice L3 a3 x3, .int .i64 left.cursor, .bool right.start, .bool right.fin, .slice R1 b1 y1, .slice R2 b2 y2, .slice R3 b3 y3, .int .i64 right.cursor] 98) = W0 at *
 have c0 : W0.cell? ⟨w.heap.size, 0, none⟩ = some (.int .i64 2) := HK0.out.cell 0
 have c3 : W0.cell? ⟨w.heap.size, 3, none⟩ = some (.int .i64 1) := HK0.out.cell 3
 have c4 : W0.cell? ⟨w.heap.size, 4, none⟩ = some (.bool left.start) := HK0.out.cell 4
 have c5 : W0.cell? ⟨w.heap.size, 5, none⟩ = some (.bool left.fin) := HK0.out.cell 5
 have c6 : W0.cell? ⟨w.heap.size, 6, none⟩ = some (.slice L1 a1 x1) := HK0.out.cell 6
 have c7 : W0.cell? ⟨w.heap.size, 7, none⟩ = some (.slice L2 a2 x2) := HK0.out.cell 7
 have c8 : W0.cell? ⟨w.heap.size, 8, none⟩ = some (.slice L3 a3 x3) := HK0.out.cell 8
 have c9 : W0.cell? ⟨w.heap.size, 9, none⟩ = some (.int .i64 left.cursor) := HK0.out.cell 9
 have c10 : W0.cell? ⟨w.heap.size, 10, none⟩ = some (.bool right.start) := HK0.out.cell 10
 have c11 : W0.cell? ⟨w.heap.size, 11, none⟩ = some (.bool right.fin) := HK0.out.cell 11
 have c12 : W0.cell? ⟨w.heap.size, 12, none⟩ = some (.slice R1 b1 y1) := HK0.out.cell 12
 have c13 : W0.cell? ⟨w.heap.size, 13, none⟩ = some (.slice R2 b2 y2) := HK0.out.cell 13
 have c14 : W0.cell? ⟨w.heap.size, 14, none⟩ = some (.slice R3 b3 y3) := HK0.out.cell 14
 have c15 : W0.cell? ⟨w.heap.size, 15, none⟩ = some (.int .i64 right.cursor) := HK0.out.cell 15
 go_quiet (fail)
 go_wp2_with fail
 refine (SL.out _ (below_drewN HB0.out _) true).mono ?_
 rintro e w1 ⟨rfl, hb⟩
 have HBw1 := Lib.hid (HB0.out.trans (Below.trans (below_drewN (Below.refl _ _) _) (hb.mono (by exact Nat.le_refl _)) |>.mono HB0.out.size))
 have HKw1 := Lib.hid (Blk.below (Blk.drewN HK0.out _) hb HK0.out.lt)
 clear hb
 have d10 : w1.cell? ⟨w.heap.size, 10, none⟩ = some (.bool right.start) := HKw1.out.cell 10
 have d11 : w1.cell? ⟨w.heap.size, 11, none⟩ = some (.bool right.fin) := HKw1.out.cell 11
 have d12 : w1.cell? ⟨w.heap.size, 12, none⟩ = some (.slice R1 b1 y1) := HKw1.out.cell 12
 have d13 : w1.cell? ⟨w.heap.size, 13, none⟩ = some (.slice R2 b2 y2) := HKw1.out.cell 13
 have d14 : w1.cell? ⟨w.heap.size, 14, none⟩ = some (.slice R3 b3 y3) := HKw1.out.cell 14
 have d15 : w1.cell? ⟨w.heap.size, 15, none⟩ = some (.int .i64 right.cursor) := HKw1.out.cell 15
 by_cases e1 : sideP left true = 0
 ·have e1' : (sideP left true != 0) = false := by simp [e1]
  go_wp2_with fail
  refine (SR.out w1 HBw1.out false).mono ?_
  rintro e w2 ⟨rfl, hb⟩
  have HKw2 := Lib.hid (Blk.below HKw1.out hb HKw1.out.lt)
  have HBw2 := Lib.hid (HBw1.out.trans (hb.mono HBw1.out.size))
  clear hb
  have d10 : w2.cell? ⟨w.heap.size, 10, none⟩ = some (.bool right.start) := HKw2.out.cell 10
  have d11 : w2.cell? ⟨w.heap.size, 11, none⟩ = some (.bool right.fin) := HKw2.out.cell 11
  have d12 : w2.cell? ⟨w.heap.size, 12, none⟩ = some (.slice R1 b1 y1) := HKw2.out.cell 12
  have d13 : w2.cell? ⟨w.heap.size, 13, none⟩ = some (.slice R2 b2 y2) := HKw2.out.cell 13
  have d14 : w2.cell? ⟨w.heap.size, 14, none⟩ = some (.slice R3 b3 y3) := HKw2.out.cell 14
  have d15 : w2.cell? ⟨w.heap.size, 15, none⟩ = some (.int .i64 right.cursor) := HKw2.out.cell 15
  by_cases e2 : sideP right false = 0
  ·have e2' : (sideP right false != 0) = false := by simp [e2]
   go_wp2_with fail
   refine (TR.out w2 HBw2.out).mono ?_
   rintro e w3 ⟨rfl, hb⟩
   have HKw3 := Lib.hid (Blk.below HKw2.out hb HKw2.out.lt)
   have HBw3 := Lib.hid (HBw2.out.trans (hb.mono HBw2.out.size))
   clear hb
   have d10 : w3.cell? ⟨w.heap.size, 10, none⟩ = some (.bool right.start) := HKw3.out.cell 10
   have d11 : w3.cell? ⟨w.heap.size, 11, none⟩ = some (.bool right.fin) := HKw3.out.cell 11
   have d12 : w3.cell? ⟨w.heap.size, 12, none⟩ = some (.slice R1 b1 y1) := HKw3.out.cell 12
   have d13 : w3.cell? ⟨w.heap.size, 13, none⟩ = some (.slice R2 b2 y2) := HKw3.out.cell 13
   have d14 : w3.cell? ⟨w.heap.size, 14, none⟩ = some (.slice R3 b3 y3) := HKw3.out.cell 14
   have d15 : w3.cell? ⟨w.heap.size, 15, none⟩ = some (.int .i64 right.cursor) := HKw3.out.cell 15
   cases hp : tellsB right.source
   ·have HV := Lib.hid (show ruleP 1 left right = 8 by simp [ruleP, fitB, e1, e2, hp])
    clear e1 e2 hp
    go_wp2_with fail
    go_ret
    rw [HV.out]
    exact ⟨rfl, HBw3.out⟩
   ·go_wp2_with fail
    refine (BR.out w3 false e2).mono ?_
    rintro e w4 ⟨rfl, hb⟩
    have HKw4 := Lib.hid (Blk.below HKw3.out hb HKw3.out.lt)
    have HBw4 := Lib.hid (HBw3.out.trans (hb.mono HBw3.out.size))
    clear hb
    have d9 : w4.cell? ⟨w.heap.size, 9, none⟩ = some (.int .i64 left.cursor) := HKw4.out.cell 9
    cases ha : aroundB right
    ·by_cases hcur : left.cursor < 0
     ·have HV := Lib.hid (show ruleP 1 left right = 0 by simp [ruleP, fitB, e1, e2, hp, ha, hcur])
      clear e1 e2 hp ha
      go_wp2_with fail
      go_ret
      rw [HV.out]
      exact ⟨rfl, HBw4.out⟩
     ·have HV := Lib.hid (show ruleP 1 left right = 8 by simp [ruleP, fitB, e1, e2, hp, ha, hcur])
      clear e1 e2 hp ha
      go_wp2_with fail
      go_ret
      rw [HV.out]
      exact ⟨rfl, HBw4.out⟩
    ·have HV := Lib.hid (show ruleP 1 left right = 8 by simp [ruleP, fitB, e1, e2, hp, ha])
     clear e1 e2 hp ha
     go_wp2_with fail
     go_ret
     rw [HV.out]
     exact ⟨rfl, HBw4.out⟩
  ·have e2' : (sideP right false != 0) = true := by simpa using e2
   have HV := Lib.hid (show ruleP 1 left right = sideP right false by simp [ruleP, e1, e2])
   clear e1 e2
   go_wp2_with fail
   go_ret
   rw [HV.out]
   exact ⟨rfl, HBw2.out⟩
 ·have e1' : (sideP left true != 0) = true := by simpa using e1
  have HV := Lib.hid (show ruleP 1 left right = sideP left true by simp [ruleP, e1])
  clear e1
  go_wp2_with fail
  go_ret
  rw [HV.out]
  exact ⟨rfl, HBw1.out⟩
set_option maxRecDepth 100000 in
set_option maxHeartbeats 1600000 in
theorem part_rule2 (name : ByteArray) (left right : SideD) (A : Option Addr) (n c : Nat) (L1 L2 L3 R1 R2 R3 : Option Addr) (a1 a2 a3 x1 x2 x3 b1 b2 b3 y1 y2 y3 : Nat) (w : World) (l1 : RdIt w w.heap.size L1 a1 left.before) (l2 : RdIt w w.heap.size L2 a2 left.source) (l3 : RdIt w w.heap.size L3 a3 left.after) (la1 : a1 ≤ maxLen) (la2 : a2 ≤ maxLen) (la3 : a3 ≤ maxLen) (r1 : RdIt w w.heap.size R1 b1 right.before) (r2 : RdIt w w.heap.size R2 b2 right.source) (r3 : RdIt w w.heap.size R3 b3 right.after) (ra1 : b1 ≤ maxLen) (ra2 : b2 ≤ maxLen) (ra3 : b3 ≤ maxLen) :
 Calls Tryz.prog 70 #[.agg #[.int .i64 2, .string name, .slice A n c, .int .i64 2, .bool left.start, .bool left.fin, .slice L1 a1 x1, .slice L2 a2 x2, .slice L3 a3 x3, .int .i64 left.cursor, .bool right.start, .bool right.fin, .slice R1 b1 y1, .slice R2 b2 y2, .slice R3 b3 y3, .int .i64 right.cursor]] w fun e w' => e = .returned (.int .i64 (ruleP 2 left right)) ∧ Below w.heap.size w w' := by
 have SL := Lib.hid (fun w' (hb : Below w.heap.size w w') must => rulesyn_side left must L1 L2 L3 a1 a2 a3 x1 x2 x3 w' (rdit_below l1 hb) (rdit_below l2 hb) (rdit_below l3 hb) la1 la2 la3)
 have TL := Lib.hid (fun w' (hb : Below w.heap.size w w') => rulesyn_told left L1 L2 L3 a1 a2 a3 x1 x2 x3 w' (rdit_below l2 hb) la2)
 have BL := Lib.hid (fun w' must (h0 : sideP left must = 0) => rulesyn_bare left L1 L2 L3 a1 a2 a3 x1 x2 x3 w' (RdL.len l1) (RdL.len l3) (by rw [← RdL.len l1]; exact (side_small h0).1) (by rw [← RdL.len l3]; exact (side_small h0).2.2))
 have SR := Lib.hid (fun w' (hb : Below w.heap.size w w') must => rulesyn_side right must R1 R2 R3 b1 b2 b3 y1 y2 y3 w' (rdit_below r1 hb) (rdit_below r2 hb) (rdit_below r3 hb) ra1 ra2 ra3)
 have TR := Lib.hid (fun w' (hb : Below w.heap.size w w') => rulesyn_told right R1 R2 R3 b1 b2 b3 y1 y2 y3 w' (rdit_below r2 hb) ra2)
 have BR := Lib.hid (fun w' must (h0 : sideP right must = 0) => rulesyn_bare right R1 R2 R3 b1 b2 b3 y1 y2 y3 w' (RdL.len r1) (RdL.len r3) (by rw [← RdL.len r1]; exact (side_small h0).1) (by rw [← RdL.len r3]; exact (side_small h0).2.2))
 clear l1 l2 l3 r1 r2 r3 la1 la2 la3 ra1 ra2 ra3
 have HB0 := Lib.hid ((Below.refl w.heap.size w).alloc (Nat.le_refl _) (.cells #[.int .i64 2, .string name, .slice A n c, .int .i64 2, .bool left.start, .bool left.fin, .slice L1 a1 x1, .slice L2 a2 x2, .slice L3 a3 x3, .int .i64 left.cursor, .bool right.start, .bool right.fin, .slice R1 b1 y1, .slice R2 b2 y2, .slice R3 b3 y3, .int .i64 right.cursor] 98))
 have HK0 := Lib.hid (Blk.new w 98 #[.int .i64 2, .string name, .slice A n c, .int .i64 2, .bool left.start, .bool left.fin, .slice L1 a1 x1, .slice L2 a2 x2, .slice L3 a3 x3, .int .i64 left.cursor, .bool right.start, .bool right.fin, .slice R1 b1 y1, .slice R2 b2 y2, .slice R3 b3 y3, .int .i64 right.cursor])
 go_enter Tryz.func70, Tryz.ntmps70
 go_wp2_with fail
 generalize w.alloc (.cells #[.int .i64 2, .string name, .slice A n c, .int .i64 2, .bool left.start, .bool left.fin, .slice L1 a1 x1, .slice L2 a2 x2, .slice L3 a3 x3, .int .i64 left.cursor, .bool right.start, .bool right.fin, .slice R1 b1 y1, .slice R2 b2 y2, .slice R3 b3 y3, .int .i64 right.cursor] 98) = W0 at *
 have c0 : W0.cell? ⟨w.heap.size, 0, none⟩ = some (.int .i64 2) := HK0.out.cell 0
 have c3 : W0.cell? ⟨w.heap.size, 3, none⟩ = some (.int .i64 2) := HK0.out.cell 3
 have c4 : W0.cell? ⟨w.heap.size, 4, none⟩ = some (.bool left.start) := HK0.out.cell 4
 have c5 : W0.cell? ⟨w.heap.size, 5, none⟩ = some (.bool left.fin) := HK0.out.cell 5
 have c6 : W0.cell? ⟨w.heap.size, 6, none⟩ = some (.slice L1 a1 x1) := HK0.out.cell 6
 have c7 : W0.cell? ⟨w.heap.size, 7, none⟩ = some (.slice L2 a2 x2) := HK0.out.cell 7
 have c8 : W0.cell? ⟨w.heap.size, 8, none⟩ = some (.slice L3 a3 x3) := HK0.out.cell 8
 have c9 : W0.cell? ⟨w.heap.size, 9, none⟩ = some (.int .i64 left.cursor) := HK0.out.cell 9
 have c10 : W0.cell? ⟨w.heap.size, 10, none⟩ = some (.bool right.start) := HK0.out.cell 10
 have c11 : W0.cell? ⟨w.heap.size, 11, none⟩ = some (.bool right.fin) := HK0.out.cell 11
 have c12 : W0.cell? ⟨w.heap.size, 12, none⟩ = some (.slice R1 b1 y1) := HK0.out.cell 12
 have c13 : W0.cell? ⟨w.heap.size, 13, none⟩ = some (.slice R2 b2 y2) := HK0.out.cell 13
 have c14 : W0.cell? ⟨w.heap.size, 14, none⟩ = some (.slice R3 b3 y3) := HK0.out.cell 14
 have c15 : W0.cell? ⟨w.heap.size, 15, none⟩ = some (.int .i64 right.cursor) := HK0.out.cell 15
 go_quiet (fail)
 go_wp2_with fail
 refine (SL.out _ (below_drewN HB0.out _) false).mono ?_
 rintro e w1 ⟨rfl, hb⟩
 have HBw1 := Lib.hid (HB0.out.trans (Below.trans (below_drewN (Below.refl _ _) _) (hb.mono (by exact Nat.le_refl _)) |>.mono HB0.out.size))
 have HKw1 := Lib.hid (Blk.below (Blk.drewN HK0.out _) hb HK0.out.lt)
 clear hb
 have d10 : w1.cell? ⟨w.heap.size, 10, none⟩ = some (.bool right.start) := HKw1.out.cell 10
 have d11 : w1.cell? ⟨w.heap.size, 11, none⟩ = some (.bool right.fin) := HKw1.out.cell 11
 have d12 : w1.cell? ⟨w.heap.size, 12, none⟩ = some (.slice R1 b1 y1) := HKw1.out.cell 12
 have d13 : w1.cell? ⟨w.heap.size, 13, none⟩ = some (.slice R2 b2 y2) := HKw1.out.cell 13
 have d14 : w1.cell? ⟨w.heap.size, 14, none⟩ = some (.slice R3 b3 y3) := HKw1.out.cell 14
 have d15 : w1.cell? ⟨w.heap.size, 15, none⟩ = some (.int .i64 right.cursor) := HKw1.out.cell 15
 by_cases e1 : sideP left false = 0
 ·have e1' : (sideP left false != 0) = false := by simp [e1]
  go_wp2_with fail
  refine (SR.out w1 HBw1.out true).mono ?_
  rintro e w2 ⟨rfl, hb⟩
  have HKw2 := Lib.hid (Blk.below HKw1.out hb HKw1.out.lt)
  have HBw2 := Lib.hid (HBw1.out.trans (hb.mono HBw1.out.size))
  clear hb
  have d4 : w2.cell? ⟨w.heap.size, 4, none⟩ = some (.bool left.start) := HKw2.out.cell 4
  have d5 : w2.cell? ⟨w.heap.size, 5, none⟩ = some (.bool left.fin) := HKw2.out.cell 5
  have d6 : w2.cell? ⟨w.heap.size, 6, none⟩ = some (.slice L1 a1 x1) := HKw2.out.cell 6
  have d7 : w2.cell? ⟨w.heap.size, 7, none⟩ = some (.slice L2 a2 x2) := HKw2.out.cell 7
  have d8 : w2.cell? ⟨w.heap.size, 8, none⟩ = some (.slice L3 a3 x3) := HKw2.out.cell 8
  have d9 : w2.cell? ⟨w.heap.size, 9, none⟩ = some (.int .i64 left.cursor) := HKw2.out.cell 9
  by_cases e2 : sideP right true = 0
  ·have e2' : (sideP right true != 0) = false := by simp [e2]
   go_wp2_with fail
   refine (TL.out w2 HBw2.out).mono ?_
   rintro e w3 ⟨rfl, hb⟩
   have HKw3 := Lib.hid (Blk.below HKw2.out hb HKw2.out.lt)
   have HBw3 := Lib.hid (HBw2.out.trans (hb.mono HBw2.out.size))
   clear hb
   have d4 : w3.cell? ⟨w.heap.size, 4, none⟩ = some (.bool left.start) := HKw3.out.cell 4
   have d5 : w3.cell? ⟨w.heap.size, 5, none⟩ = some (.bool left.fin) := HKw3.out.cell 5
   have d6 : w3.cell? ⟨w.heap.size, 6, none⟩ = some (.slice L1 a1 x1) := HKw3.out.cell 6
   have d7 : w3.cell? ⟨w.heap.size, 7, none⟩ = some (.slice L2 a2 x2) := HKw3.out.cell 7
   have d8 : w3.cell? ⟨w.heap.size, 8, none⟩ = some (.slice L3 a3 x3) := HKw3.out.cell 8
   have d9 : w3.cell? ⟨w.heap.size, 9, none⟩ = some (.int .i64 left.cursor) := HKw3.out.cell 9
   cases hp : tellsB left.source
   ·have HV := Lib.hid (show ruleP 2 left right = 8 by simp [ruleP, fitB, e1, e2, hp])
    clear e1 e2 hp
    go_wp2_with fail
    go_ret
    rw [HV.out]
    exact ⟨rfl, HBw3.out⟩
   ·go_wp2_with fail
    refine (BL.out w3 false e1).mono ?_
    rintro e w4 ⟨rfl, hb⟩
    have HKw4 := Lib.hid (Blk.below HKw3.out hb HKw3.out.lt)
    have HBw4 := Lib.hid (HBw3.out.trans (hb.mono HBw3.out.size))
    clear hb
    have d15 : w4.cell? ⟨w.heap.size, 15, none⟩ = some (.int .i64 right.cursor) := HKw4.out.cell 15
    cases ha : aroundB left
    ·by_cases hcur : right.cursor < 0
     ·have HV := Lib.hid (show ruleP 2 left right = 0 by simp [ruleP, fitB, e1, e2, hp, ha, hcur])
      clear e1 e2 hp ha
      go_wp2_with fail
      go_ret
      rw [HV.out]
      exact ⟨rfl, HBw4.out⟩
     ·have HV := Lib.hid (show ruleP 2 left right = 8 by simp [ruleP, fitB, e1, e2, hp, ha, hcur])
      clear e1 e2 hp ha
      go_wp2_with fail
      go_ret
      rw [HV.out]
      exact ⟨rfl, HBw4.out⟩
    ·have HV := Lib.hid (show ruleP 2 left right = 8 by simp [ruleP, fitB, e1, e2, hp, ha])
     clear e1 e2 hp ha
     go_wp2_with fail
     go_ret
     rw [HV.out]
     exact ⟨rfl, HBw4.out⟩
  ·have e2' : (sideP right true != 0) = true := by simpa using e2
   have HV := Lib.hid (show ruleP 2 left right = sideP right true by simp [ruleP, e1, e2])
   clear e1 e2
   go_wp2_with fail
   go_ret
   rw [HV.out]
   exact ⟨rfl, HBw2.out⟩
 ·have e1' : (sideP left false != 0) = true := by simpa using e1
  have HV := Lib.hid (show ruleP 2 left right = sideP left false by simp [ruleP, e1])
  clear e1
  go_wp2_with fail
  go_ret
  rw [HV.out]
  exact ⟨rfl, HBw1.out⟩
set_option maxRecDepth 100000 in
set_option maxHeartbeats 1600000 in
theorem part_rule3 (name : ByteArray) (left right : SideD) (A : Option Addr) (n c : Nat) (L1 L2 L3 R1 R2 R3 : Option Addr) (a1 a2 a3 x1 x2 x3 b1 b2 b3 y1 y2 y3 : Nat) (w : World) (l1 : RdIt w w.heap.size L1 a1 left.before) (l2 : RdIt w w.heap.size L2 a2 left.source) (l3 : RdIt w w.heap.size L3 a3 left.after) (la1 : a1 ≤ maxLen) (la2 : a2 ≤ maxLen) (la3 : a3 ≤ maxLen) (r1 : RdIt w w.heap.size R1 b1 right.before) (r2 : RdIt w w.heap.size R2 b2 right.source) (r3 : RdIt w w.heap.size R3 b3 right.after) (ra1 : b1 ≤ maxLen) (ra2 : b2 ≤ maxLen) (ra3 : b3 ≤ maxLen) :
 Calls Tryz.prog 70 #[.agg #[.int .i64 2, .string name, .slice A n c, .int .i64 3, .bool left.start, .bool left.fin, .slice L1 a1 x1, .slice L2 a2 x2, .slice L3 a3 x3, .int .i64 left.cursor, .bool right.start, .bool right.fin, .slice R1 b1 y1, .slice R2 b2 y2, .slice R3 b3 y3, .int .i64 right.cursor]] w fun e w' => e = .returned (.int .i64 (ruleP 3 left right)) ∧ Below w.heap.size w w' := by
 have SL := Lib.hid (fun w' (hb : Below w.heap.size w w') must => rulesyn_side left must L1 L2 L3 a1 a2 a3 x1 x2 x3 w' (rdit_below l1 hb) (rdit_below l2 hb) (rdit_below l3 hb) la1 la2 la3)
 have TL := Lib.hid (fun w' (hb : Below w.heap.size w w') => rulesyn_told left L1 L2 L3 a1 a2 a3 x1 x2 x3 w' (rdit_below l2 hb) la2)
 have BL := Lib.hid (fun w' must (h0 : sideP left must = 0) => rulesyn_bare left L1 L2 L3 a1 a2 a3 x1 x2 x3 w' (RdL.len l1) (RdL.len l3) (by rw [← RdL.len l1]; exact (side_small h0).1) (by rw [← RdL.len l3]; exact (side_small h0).2.2))
 have SR := Lib.hid (fun w' (hb : Below w.heap.size w w') must => rulesyn_side right must R1 R2 R3 b1 b2 b3 y1 y2 y3 w' (rdit_below r1 hb) (rdit_below r2 hb) (rdit_below r3 hb) ra1 ra2 ra3)
 have TR := Lib.hid (fun w' (hb : Below w.heap.size w w') => rulesyn_told right R1 R2 R3 b1 b2 b3 y1 y2 y3 w' (rdit_below r2 hb) ra2)
 have BR := Lib.hid (fun w' must (h0 : sideP right must = 0) => rulesyn_bare right R1 R2 R3 b1 b2 b3 y1 y2 y3 w' (RdL.len r1) (RdL.len r3) (by rw [← RdL.len r1]; exact (side_small h0).1) (by rw [← RdL.len r3]; exact (side_small h0).2.2))
 clear l1 l2 l3 r1 r2 r3 la1 la2 la3 ra1 ra2 ra3
 have HB0 := Lib.hid ((Below.refl w.heap.size w).alloc (Nat.le_refl _) (.cells #[.int .i64 2, .string name, .slice A n c, .int .i64 3, .bool left.start, .bool left.fin, .slice L1 a1 x1, .slice L2 a2 x2, .slice L3 a3 x3, .int .i64 left.cursor, .bool right.start, .bool right.fin, .slice R1 b1 y1, .slice R2 b2 y2, .slice R3 b3 y3, .int .i64 right.cursor] 98))
 have HK0 := Lib.hid (Blk.new w 98 #[.int .i64 2, .string name, .slice A n c, .int .i64 3, .bool left.start, .bool left.fin, .slice L1 a1 x1, .slice L2 a2 x2, .slice L3 a3 x3, .int .i64 left.cursor, .bool right.start, .bool right.fin, .slice R1 b1 y1, .slice R2 b2 y2, .slice R3 b3 y3, .int .i64 right.cursor])
 go_enter Tryz.func70, Tryz.ntmps70
 go_wp2_with fail
 generalize w.alloc (.cells #[.int .i64 2, .string name, .slice A n c, .int .i64 3, .bool left.start, .bool left.fin, .slice L1 a1 x1, .slice L2 a2 x2, .slice L3 a3 x3, .int .i64 left.cursor, .bool right.start, .bool right.fin, .slice R1 b1 y1, .slice R2 b2 y2, .slice R3 b3 y3, .int .i64 right.cursor] 98) = W0 at *
 have c0 : W0.cell? ⟨w.heap.size, 0, none⟩ = some (.int .i64 2) := HK0.out.cell 0
 have c3 : W0.cell? ⟨w.heap.size, 3, none⟩ = some (.int .i64 3) := HK0.out.cell 3
 have c4 : W0.cell? ⟨w.heap.size, 4, none⟩ = some (.bool left.start) := HK0.out.cell 4
 have c5 : W0.cell? ⟨w.heap.size, 5, none⟩ = some (.bool left.fin) := HK0.out.cell 5
 have c6 : W0.cell? ⟨w.heap.size, 6, none⟩ = some (.slice L1 a1 x1) := HK0.out.cell 6
 have c7 : W0.cell? ⟨w.heap.size, 7, none⟩ = some (.slice L2 a2 x2) := HK0.out.cell 7
 have c8 : W0.cell? ⟨w.heap.size, 8, none⟩ = some (.slice L3 a3 x3) := HK0.out.cell 8
 have c9 : W0.cell? ⟨w.heap.size, 9, none⟩ = some (.int .i64 left.cursor) := HK0.out.cell 9
 have c10 : W0.cell? ⟨w.heap.size, 10, none⟩ = some (.bool right.start) := HK0.out.cell 10
 have c11 : W0.cell? ⟨w.heap.size, 11, none⟩ = some (.bool right.fin) := HK0.out.cell 11
 have c12 : W0.cell? ⟨w.heap.size, 12, none⟩ = some (.slice R1 b1 y1) := HK0.out.cell 12
 have c13 : W0.cell? ⟨w.heap.size, 13, none⟩ = some (.slice R2 b2 y2) := HK0.out.cell 13
 have c14 : W0.cell? ⟨w.heap.size, 14, none⟩ = some (.slice R3 b3 y3) := HK0.out.cell 14
 have c15 : W0.cell? ⟨w.heap.size, 15, none⟩ = some (.int .i64 right.cursor) := HK0.out.cell 15
 go_quiet (fail)
 go_wp2_with fail
 refine (SL.out _ (below_drewN HB0.out _) true).mono ?_
 rintro e w1 ⟨rfl, hb⟩
 have HBw1 := Lib.hid (HB0.out.trans (Below.trans (below_drewN (Below.refl _ _) _) (hb.mono (by exact Nat.le_refl _)) |>.mono HB0.out.size))
 have HKw1 := Lib.hid (Blk.below (Blk.drewN HK0.out _) hb HK0.out.lt)
 clear hb
 have d10 : w1.cell? ⟨w.heap.size, 10, none⟩ = some (.bool right.start) := HKw1.out.cell 10
 have d11 : w1.cell? ⟨w.heap.size, 11, none⟩ = some (.bool right.fin) := HKw1.out.cell 11
 have d12 : w1.cell? ⟨w.heap.size, 12, none⟩ = some (.slice R1 b1 y1) := HKw1.out.cell 12
 have d13 : w1.cell? ⟨w.heap.size, 13, none⟩ = some (.slice R2 b2 y2) := HKw1.out.cell 13
 have d14 : w1.cell? ⟨w.heap.size, 14, none⟩ = some (.slice R3 b3 y3) := HKw1.out.cell 14
 have d15 : w1.cell? ⟨w.heap.size, 15, none⟩ = some (.int .i64 right.cursor) := HKw1.out.cell 15
 by_cases e1 : sideP left true = 0
 ·have e1' : (sideP left true != 0) = false := by simp [e1]
  go_wp2_with fail
  refine (SR.out w1 HBw1.out true).mono ?_
  rintro e w2 ⟨rfl, hb⟩
  have HKw2 := Lib.hid (Blk.below HKw1.out hb HKw1.out.lt)
  have HBw2 := Lib.hid (HBw1.out.trans (hb.mono HBw1.out.size))
  clear hb
  have d10 : w2.cell? ⟨w.heap.size, 10, none⟩ = some (.bool right.start) := HKw2.out.cell 10
  have d11 : w2.cell? ⟨w.heap.size, 11, none⟩ = some (.bool right.fin) := HKw2.out.cell 11
  have d12 : w2.cell? ⟨w.heap.size, 12, none⟩ = some (.slice R1 b1 y1) := HKw2.out.cell 12
  have d13 : w2.cell? ⟨w.heap.size, 13, none⟩ = some (.slice R2 b2 y2) := HKw2.out.cell 13
  have d14 : w2.cell? ⟨w.heap.size, 14, none⟩ = some (.slice R3 b3 y3) := HKw2.out.cell 14
  have d15 : w2.cell? ⟨w.heap.size, 15, none⟩ = some (.int .i64 right.cursor) := HKw2.out.cell 15
  by_cases e2 : sideP right true = 0
  ·have e2' : (sideP right true != 0) = false := by simp [e2]
   go_wp2_with fail
   refine (TR.out w2 HBw2.out).mono ?_
   rintro e w3 ⟨rfl, hb⟩
   have HKw3 := Lib.hid (Blk.below HKw2.out hb HKw2.out.lt)
   have HBw3 := Lib.hid (HBw2.out.trans (hb.mono HBw2.out.size))
   clear hb
   have d4 : w3.cell? ⟨w.heap.size, 4, none⟩ = some (.bool left.start) := HKw3.out.cell 4
   have d5 : w3.cell? ⟨w.heap.size, 5, none⟩ = some (.bool left.fin) := HKw3.out.cell 5
   have d6 : w3.cell? ⟨w.heap.size, 6, none⟩ = some (.slice L1 a1 x1) := HKw3.out.cell 6
   have d7 : w3.cell? ⟨w.heap.size, 7, none⟩ = some (.slice L2 a2 x2) := HKw3.out.cell 7
   have d8 : w3.cell? ⟨w.heap.size, 8, none⟩ = some (.slice L3 a3 x3) := HKw3.out.cell 8
   have d9 : w3.cell? ⟨w.heap.size, 9, none⟩ = some (.int .i64 left.cursor) := HKw3.out.cell 9
   cases hp : tellsB right.source
   ·have HV := Lib.hid (show ruleP 3 left right = 8 by simp [ruleP, fitB, e1, e2, hp])
    clear e1 e2 hp
    go_wp2_with fail
    go_ret
    rw [HV.out]
    exact ⟨rfl, HBw3.out⟩
   ·go_wp2_with fail
    refine (TL.out w3 HBw3.out).mono ?_
    rintro e w4 ⟨rfl, hb⟩
    have HKw4 := Lib.hid (Blk.below HKw3.out hb HKw3.out.lt)
    have HBw4 := Lib.hid (HBw3.out.trans (hb.mono HBw3.out.size))
    clear hb
    cases hq : tellsB left.source
    ·have HV := Lib.hid (show ruleP 3 left right = 8 by simp [ruleP, fitB, e1, e2, hp, hq])
     clear e1 e2 hp hq
     go_wp2_with fail
     go_ret
     rw [HV.out]
     exact ⟨rfl, HBw4.out⟩
    ·have HV := Lib.hid (show ruleP 3 left right = 0 by simp [ruleP, fitB, e1, e2, hp, hq])
     clear e1 e2 hp hq
     go_wp2_with fail
     go_ret
     rw [HV.out]
     exact ⟨rfl, HBw4.out⟩
  ·have e2' : (sideP right true != 0) = true := by simpa using e2
   have HV := Lib.hid (show ruleP 3 left right = sideP right true by simp [ruleP, e1, e2])
   clear e1 e2
   go_wp2_with fail
   go_ret
   rw [HV.out]
   exact ⟨rfl, HBw2.out⟩
 ·have e1' : (sideP left true != 0) = true := by simpa using e1
  have HV := Lib.hid (show ruleP 3 left right = sideP left true by simp [ruleP, e1])
  clear e1
  go_wp2_with fail
  go_ret
  rw [HV.out]
  exact ⟨rfl, HBw1.out⟩
set_option maxRecDepth 100000 in
set_option maxHeartbeats 1600000 in
theorem part_dir (name : ByteArray) (left right : SideD) (dir : Int) (A : Option Addr) (n c : Nat) (L1 L2 L3 R1 R2 R3 : Option Addr) (a1 a2 a3 x1 x2 x3 b1 b2 b3 y1 y2 y3 : Nat) (w : World) (h : dir < 1 ∨ 3 < dir) :
 Calls Tryz.prog 70 #[.agg #[.int .i64 2, .string name, .slice A n c, .int .i64 dir, .bool left.start, .bool left.fin, .slice L1 a1 x1, .slice L2 a2 x2, .slice L3 a3 x3, .int .i64 left.cursor, .bool right.start, .bool right.fin, .slice R1 b1 y1, .slice R2 b2 y2, .slice R3 b3 y3, .int .i64 right.cursor]] w fun e w' => e = .returned (.int .i64 1) ∧ Below w.heap.size w w' := by
 have HB := Lib.hid ((Below.refl w.heap.size w).alloc (Nat.le_refl _) (.cells #[.int .i64 2, .string name, .slice A n c, .int .i64 dir, .bool left.start, .bool left.fin, .slice L1 a1 x1, .slice L2 a2 x2, .slice L3 a3 x3, .int .i64 left.cursor, .bool right.start, .bool right.fin, .slice R1 b1 y1, .slice R2 b2 y2, .slice R3 b3 y3, .int .i64 right.cursor] 98))
 rcases h with h | h
 all_goals
  go_enter Tryz.func70, Tryz.ntmps70
  go_wp2_with fail
  go_ret
  exact ⟨rfl, HB.out⟩
end Go.Proofs.YthnhbcohfoodlaaGreatDoor
