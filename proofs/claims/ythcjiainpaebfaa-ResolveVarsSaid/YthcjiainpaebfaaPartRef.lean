/- What is wrong with a part, by the document's answer: the walk of scriptref5.Part: partP. -/
import Derived.Test.YthcjiainpaebfaaPartP
namespace Go.Proofs.Ythcjiainpaebfaa
open Go.RowKit

set_option maxRecDepth 100000 in
set_option maxHeartbeats 1600000 in
theorem refp_var (name : ByteArray) (set : Spans) (left right : SideD) (dir : Int) (A : Option Addr) (n c : Nat) (L1 L2 L3 R1 R2 R3 : Option Addr) (a1 a2 a3 x1 x2 x3 b1 b2 b3 y1 y2 y3 : Nat) (w : World) (hs : RdS w w.heap.size A n set) (hn : n ≤ 9223372036854775807) (hm : name.size ≤ 9223372036854775807) :
    Calls Try.prog 29 #[.agg #[.int .i64 1, .string name, .slice A n c, .int .i64 dir, .bool left.start, .bool left.fin, .slice L1 a1 x1, .slice L2 a2 x2, .slice L3 a3 x3, .int .i64 left.cursor, .bool right.start, .bool right.fin, .slice R1 b1 y1, .slice R2 b2 y2, .slice R3 b3 y3, .int .i64 right.cursor]] w fun e w' => e = .returned (.int .i64 (if namedP name = true then wrongP set else 7)) ∧ Below w.heap.size w w' := by
  have HB := Lib.hid ((Below.refl w.heap.size w).alloc (Nat.le_refl _) (.cells #[.int .i64 1, .string name, .slice A n c, .int .i64 dir, .bool left.start, .bool left.fin, .slice L1 a1 x1, .slice L2 a2 x2, .slice L3 a3 x3, .int .i64 left.cursor, .bool right.start, .bool right.fin, .slice R1 b1 y1, .slice R2 b2 y2, .slice R3 b3 y3, .int .i64 right.cursor] 40))
  have HK0 := Lib.hid (Blk.new w 40 #[.int .i64 1, .string name, .slice A n c, .int .i64 dir, .bool left.start, .bool left.fin, .slice L1 a1 x1, .slice L2 a2 x2, .slice L3 a3 x3, .int .i64 left.cursor, .bool right.start, .bool right.fin, .slice R1 b1 y1, .slice R2 b2 y2, .slice R3 b3 y3, .int .i64 right.cursor])
  have HS := Lib.hid (fun w' (hb : Below w.heap.size w w') => ref2_wrong A n c set w' hn (Rd.more (Rd.below hs hb) hb.size))
  clear hs
  cases hr : namedP name
  · go_enter Try.func29, Try.ntmps29
    go_wp2_with fail
    refine (ref_named name hm _).mono ?_
    rintro e w1 ⟨rfl, hb⟩
    rw [hr]
    have HKw1 := Lib.hid (Blk.below HK0.out hb HK0.out.lt)
    have HBw1 := Lib.hid (HB.out.trans (hb.mono HB.out.size))
    clear hb hr
    have d0 : w1.cell? ⟨w.heap.size, 0, none⟩ = some (.int .i64 1) := HKw1.out.cell 0
    have d2 : w1.cell? ⟨w.heap.size, 2, none⟩ = some (.slice A n c) := HKw1.out.cell 2
    go_wp2_with fail
    go_ret
    exact ⟨rfl, HBw1.out⟩
  · go_enter Try.func29, Try.ntmps29
    go_wp2_with fail
    refine (ref_named name hm _).mono ?_
    rintro e w1 ⟨rfl, hb⟩
    rw [hr]
    have HKw1 := Lib.hid (Blk.below HK0.out hb HK0.out.lt)
    have HBw1 := Lib.hid (HB.out.trans (hb.mono HB.out.size))
    clear hb hr
    have d0 : w1.cell? ⟨w.heap.size, 0, none⟩ = some (.int .i64 1) := HKw1.out.cell 0
    have d2 : w1.cell? ⟨w.heap.size, 2, none⟩ = some (.slice A n c) := HKw1.out.cell 2
    go_wp2_with fail
    refine (HS.out w1 HBw1.out).mono ?_
    rintro e w2 ⟨rfl, hb⟩
    have hb2 := HBw1.out.trans (hb.mono HBw1.out.size)
    clear hb
    go_wp2_with fail
    go_ret
    exact ⟨rfl, hb2⟩

set_option maxRecDepth 100000 in
set_option maxHeartbeats 1600000 in
theorem refp_filter (name : ByteArray) (set : Spans) (left right : SideD) (dir : Int) (A : Option Addr) (n c : Nat) (L1 L2 L3 R1 R2 R3 : Option Addr) (a1 a2 a3 x1 x2 x3 b1 b2 b3 y1 y2 y3 : Nat) (w : World) (hs : RdS w w.heap.size A n set) (hn : n ≤ 9223372036854775807) :
    Calls Try.prog 29 #[.agg #[.int .i64 3, .string name, .slice A n c, .int .i64 dir, .bool left.start, .bool left.fin, .slice L1 a1 x1, .slice L2 a2 x2, .slice L3 a3 x3, .int .i64 left.cursor, .bool right.start, .bool right.fin, .slice R1 b1 y1, .slice R2 b2 y2, .slice R3 b3 y3, .int .i64 right.cursor]] w fun e w' => e = .returned (.int .i64 (wrongP set)) ∧ Below w.heap.size w w' := by
  have HB := Lib.hid ((Below.refl w.heap.size w).alloc (Nat.le_refl _) (.cells #[.int .i64 3, .string name, .slice A n c, .int .i64 dir, .bool left.start, .bool left.fin, .slice L1 a1 x1, .slice L2 a2 x2, .slice L3 a3 x3, .int .i64 left.cursor, .bool right.start, .bool right.fin, .slice R1 b1 y1, .slice R2 b2 y2, .slice R3 b3 y3, .int .i64 right.cursor] 40))
  have HS := Lib.hid (rds_alloc hs (.cells #[.int .i64 3, .string name, .slice A n c, .int .i64 dir, .bool left.start, .bool left.fin, .slice L1 a1 x1, .slice L2 a2 x2, .slice L3 a3 x3, .int .i64 left.cursor, .bool right.start, .bool right.fin, .slice R1 b1 y1, .slice R2 b2 y2, .slice R3 b3 y3, .int .i64 right.cursor] 40))
  clear hs
  go_enter Try.func29, Try.ntmps29
  go_wp2_with fail
  refine (ref2_wrong A n c set _ hn HS.out).mono ?_
  rintro e w' ⟨rfl, hb⟩
  go_wp2_with fail
  go_ret
  exact ⟨rfl, HB.out.trans (hb.mono (by simp))⟩

set_option maxRecDepth 100000 in
set_option maxHeartbeats 1600000 in
theorem refp_pass (name : ByteArray) (left right : SideD) (dir : Int) (A : Option Addr) (n c : Nat) (L1 L2 L3 R1 R2 R3 : Option Addr) (a1 a2 a3 x1 x2 x3 b1 b2 b3 y1 y2 y3 : Nat) (w : World)  :
    Calls Try.prog 29 #[.agg #[.int .i64 4, .string name, .slice A n c, .int .i64 dir, .bool left.start, .bool left.fin, .slice L1 a1 x1, .slice L2 a2 x2, .slice L3 a3 x3, .int .i64 left.cursor, .bool right.start, .bool right.fin, .slice R1 b1 y1, .slice R2 b2 y2, .slice R3 b3 y3, .int .i64 right.cursor]] w fun e w' => e = .returned (.int .i64 (if passB name = true then 0 else 7)) ∧ Below w.heap.size w w' := by
  have HB := Lib.hid ((Below.refl w.heap.size w).alloc (Nat.le_refl _) (.cells #[.int .i64 4, .string name, .slice A n c, .int .i64 dir, .bool left.start, .bool left.fin, .slice L1 a1 x1, .slice L2 a2 x2, .slice L3 a3 x3, .int .i64 left.cursor, .bool right.start, .bool right.fin, .slice R1 b1 y1, .slice R2 b2 y2, .slice R3 b3 y3, .int .i64 right.cursor] 40))
  cases hr : passB name
  all_goals
    go_enter Try.func29, Try.ntmps29
    go_wp2_with (go_at_call 37; refine (ref_pass _ _).mono ?_; rintro e w' ⟨rfl, rfl⟩; rw [hr])
    go_ret
    exact ⟨rfl, HB.out⟩

set_option maxRecDepth 100000 in
set_option maxHeartbeats 1600000 in
theorem refp_other (name : ByteArray) (left right : SideD) (kind dir : Int) (A : Option Addr) (n c : Nat) (L1 L2 L3 R1 R2 R3 : Option Addr) (a1 a2 a3 x1 x2 x3 b1 b2 b3 y1 y2 y3 : Nat) (w : World) (k : kind < 1 ∨ 4 < kind) :
    Calls Try.prog 29 #[.agg #[.int .i64 kind, .string name, .slice A n c, .int .i64 dir, .bool left.start, .bool left.fin, .slice L1 a1 x1, .slice L2 a2 x2, .slice L3 a3 x3, .int .i64 left.cursor, .bool right.start, .bool right.fin, .slice R1 b1 y1, .slice R2 b2 y2, .slice R3 b3 y3, .int .i64 right.cursor]] w fun e w' => e = .returned (.int .i64 (1)) ∧ Below w.heap.size w w' := by
  have HB := Lib.hid ((Below.refl w.heap.size w).alloc (Nat.le_refl _) (.cells #[.int .i64 kind, .string name, .slice A n c, .int .i64 dir, .bool left.start, .bool left.fin, .slice L1 a1 x1, .slice L2 a2 x2, .slice L3 a3 x3, .int .i64 left.cursor, .bool right.start, .bool right.fin, .slice R1 b1 y1, .slice R2 b2 y2, .slice R3 b3 y3, .int .i64 right.cursor] 40))
  rcases k with k | k
  all_goals
    go_enter Try.func29, Try.ntmps29
    go_wp2_with fail
    go_ret
    exact ⟨rfl, HB.out⟩

set_option maxRecDepth 100000 in
set_option maxHeartbeats 1600000 in
theorem refp_rule1 (name : ByteArray) (left right : SideD) (A : Option Addr) (n c : Nat) (L1 L2 L3 R1 R2 R3 : Option Addr) (a1 a2 a3 x1 x2 x3 b1 b2 b3 y1 y2 y3 : Nat) (w : World) (l1 : RdIt w w.heap.size L1 a1 left.before) (l2 : RdIt w w.heap.size L2 a2 left.source) (l3 : RdIt w w.heap.size L3 a3 left.after) (la1 : a1 ≤ maxLen) (la2 : a2 ≤ maxLen) (la3 : a3 ≤ maxLen) (r1 : RdIt w w.heap.size R1 b1 right.before) (r2 : RdIt w w.heap.size R2 b2 right.source) (r3 : RdIt w w.heap.size R3 b3 right.after) (ra1 : b1 ≤ maxLen) (ra2 : b2 ≤ maxLen) (ra3 : b3 ≤ maxLen) (hleft : i64R left.cursor) (hright : i64R right.cursor) :
    Calls Try.prog 29 #[.agg #[.int .i64 2, .string name, .slice A n c, .int .i64 1, .bool left.start, .bool left.fin, .slice L1 a1 x1, .slice L2 a2 x2, .slice L3 a3 x3, .int .i64 left.cursor, .bool right.start, .bool right.fin, .slice R1 b1 y1, .slice R2 b2 y2, .slice R3 b3 y3, .int .i64 right.cursor]] w fun e w' => e = .returned (.int .i64 (ruleP 1 left right)) ∧ Below w.heap.size w w' := by
  have SL := Lib.hid (fun w' (hb : Below w.heap.size w w') must => ref_side left must L1 L2 L3 a1 a2 a3 x1 x2 x3 w' (rdit_below l1 hb) (rdit_below l2 hb) (rdit_below l3 hb) la1 la2 la3 hleft)
  have TL := Lib.hid (fun w' (hb : Below w.heap.size w w') => ref_plain left L1 L2 L3 a1 a2 a3 x1 x2 x3 w' (rdit_below l2 hb) la2)
  have BL := Lib.hid (fun w' => ref_around left L1 L2 L3 a1 a2 a3 x1 x2 x3 w' (RdL.len l1) (RdL.len l3))
  have SR := Lib.hid (fun w' (hb : Below w.heap.size w w') must => ref_side right must R1 R2 R3 b1 b2 b3 y1 y2 y3 w' (rdit_below r1 hb) (rdit_below r2 hb) (rdit_below r3 hb) ra1 ra2 ra3 hright)
  have TR := Lib.hid (fun w' (hb : Below w.heap.size w w') => ref_plain right R1 R2 R3 b1 b2 b3 y1 y2 y3 w' (rdit_below r2 hb) ra2)
  have BR := Lib.hid (fun w' => ref_around right R1 R2 R3 b1 b2 b3 y1 y2 y3 w' (RdL.len r1) (RdL.len r3))
  clear l1 l2 l3 r1 r2 r3 la1 la2 la3 ra1 ra2 ra3 hleft hright
  have HBw0 := Lib.hid ((Below.refl w.heap.size w).alloc (Nat.le_refl _) (.cells #[.int .i64 2, .string name, .slice A n c, .int .i64 1, .bool left.start, .bool left.fin, .slice L1 a1 x1, .slice L2 a2 x2, .slice L3 a3 x3, .int .i64 left.cursor, .bool right.start, .bool right.fin, .slice R1 b1 y1, .slice R2 b2 y2, .slice R3 b3 y3, .int .i64 right.cursor] 40))
  have HKw0 := Lib.hid (Blk.new w 40 #[.int .i64 2, .string name, .slice A n c, .int .i64 1, .bool left.start, .bool left.fin, .slice L1 a1 x1, .slice L2 a2 x2, .slice L3 a3 x3, .int .i64 left.cursor, .bool right.start, .bool right.fin, .slice R1 b1 y1, .slice R2 b2 y2, .slice R3 b3 y3, .int .i64 right.cursor])
  go_enter Try.func29, Try.ntmps29
  go_wp2_with fail
  refine (SL.out _ HBw0.out true).mono ?_
  rintro e w1 ⟨rfl, hb⟩
  have HKw1 := Lib.hid (Blk.below HKw0.out hb HKw0.out.lt)
  have HBw1 := Lib.hid (HBw0.out.trans (hb.mono HBw0.out.size))
  clear hb
  have d3 : w1.cell? ⟨w.heap.size, 3, none⟩ = some (.int .i64 1) := HKw1.out.cell 3
  have d10 : w1.cell? ⟨w.heap.size, 10, none⟩ = some (.bool right.start) := HKw1.out.cell 10
  have d11 : w1.cell? ⟨w.heap.size, 11, none⟩ = some (.bool right.fin) := HKw1.out.cell 11
  have d12 : w1.cell? ⟨w.heap.size, 12, none⟩ = some (.slice R1 b1 y1) := HKw1.out.cell 12
  have d13 : w1.cell? ⟨w.heap.size, 13, none⟩ = some (.slice R2 b2 y2) := HKw1.out.cell 13
  have d14 : w1.cell? ⟨w.heap.size, 14, none⟩ = some (.slice R3 b3 y3) := HKw1.out.cell 14
  have d15 : w1.cell? ⟨w.heap.size, 15, none⟩ = some (.int .i64 right.cursor) := HKw1.out.cell 15
  by_cases e1 : sideP left true = 0
  · have e1' : (sideP left true != 0) = false := by simp [e1]
    go_wp2_with fail
    refine (SR.out w1 HBw1.out false).mono ?_
    rintro e w2 ⟨rfl, hb⟩
    have HKw2 := Lib.hid (Blk.below HKw1.out hb HKw1.out.lt)
    have HBw2 := Lib.hid (HBw1.out.trans (hb.mono HBw1.out.size))
    clear hb
    have d3 : w2.cell? ⟨w.heap.size, 3, none⟩ = some (.int .i64 1) := HKw2.out.cell 3
    have d4 : w2.cell? ⟨w.heap.size, 4, none⟩ = some (.bool left.start) := HKw2.out.cell 4
    have d5 : w2.cell? ⟨w.heap.size, 5, none⟩ = some (.bool left.fin) := HKw2.out.cell 5
    have d6 : w2.cell? ⟨w.heap.size, 6, none⟩ = some (.slice L1 a1 x1) := HKw2.out.cell 6
    have d7 : w2.cell? ⟨w.heap.size, 7, none⟩ = some (.slice L2 a2 x2) := HKw2.out.cell 7
    have d8 : w2.cell? ⟨w.heap.size, 8, none⟩ = some (.slice L3 a3 x3) := HKw2.out.cell 8
    have d9 : w2.cell? ⟨w.heap.size, 9, none⟩ = some (.int .i64 left.cursor) := HKw2.out.cell 9
    have d10 : w2.cell? ⟨w.heap.size, 10, none⟩ = some (.bool right.start) := HKw2.out.cell 10
    have d11 : w2.cell? ⟨w.heap.size, 11, none⟩ = some (.bool right.fin) := HKw2.out.cell 11
    have d12 : w2.cell? ⟨w.heap.size, 12, none⟩ = some (.slice R1 b1 y1) := HKw2.out.cell 12
    have d13 : w2.cell? ⟨w.heap.size, 13, none⟩ = some (.slice R2 b2 y2) := HKw2.out.cell 13
    have d14 : w2.cell? ⟨w.heap.size, 14, none⟩ = some (.slice R3 b3 y3) := HKw2.out.cell 14
    have d15 : w2.cell? ⟨w.heap.size, 15, none⟩ = some (.int .i64 right.cursor) := HKw2.out.cell 15
    by_cases e2 : sideP right false = 0
    · have e2' : (sideP right false != 0) = false := by simp [e2]
      go_wp2_with fail
      refine (TR.out w2 HBw2.out).mono ?_
      rintro e w3 ⟨rfl, hb⟩
      have HKw3 := Lib.hid (Blk.below HKw2.out hb HKw2.out.lt)
      have HBw3 := Lib.hid (HBw2.out.trans (hb.mono HBw2.out.size))
      clear hb
      have d3 : w3.cell? ⟨w.heap.size, 3, none⟩ = some (.int .i64 1) := HKw3.out.cell 3
      have d4 : w3.cell? ⟨w.heap.size, 4, none⟩ = some (.bool left.start) := HKw3.out.cell 4
      have d5 : w3.cell? ⟨w.heap.size, 5, none⟩ = some (.bool left.fin) := HKw3.out.cell 5
      have d6 : w3.cell? ⟨w.heap.size, 6, none⟩ = some (.slice L1 a1 x1) := HKw3.out.cell 6
      have d7 : w3.cell? ⟨w.heap.size, 7, none⟩ = some (.slice L2 a2 x2) := HKw3.out.cell 7
      have d8 : w3.cell? ⟨w.heap.size, 8, none⟩ = some (.slice L3 a3 x3) := HKw3.out.cell 8
      have d9 : w3.cell? ⟨w.heap.size, 9, none⟩ = some (.int .i64 left.cursor) := HKw3.out.cell 9
      have d10 : w3.cell? ⟨w.heap.size, 10, none⟩ = some (.bool right.start) := HKw3.out.cell 10
      have d11 : w3.cell? ⟨w.heap.size, 11, none⟩ = some (.bool right.fin) := HKw3.out.cell 11
      have d12 : w3.cell? ⟨w.heap.size, 12, none⟩ = some (.slice R1 b1 y1) := HKw3.out.cell 12
      have d13 : w3.cell? ⟨w.heap.size, 13, none⟩ = some (.slice R2 b2 y2) := HKw3.out.cell 13
      have d14 : w3.cell? ⟨w.heap.size, 14, none⟩ = some (.slice R3 b3 y3) := HKw3.out.cell 14
      have d15 : w3.cell? ⟨w.heap.size, 15, none⟩ = some (.int .i64 right.cursor) := HKw3.out.cell 15
      cases hp : plainB right.source
      · have HV := Lib.hid (show ruleP 1 left right = 8 by simp [ruleP, fitB, e1, e2, hp])
        clear e1 e2 hp
        go_wp2_with fail
        go_ret
        rw [HV.out]
        exact ⟨rfl, HBw3.out⟩
      · go_wp2_with fail
        refine (BR.out w3).mono ?_
        rintro e w4 ⟨rfl, hb⟩
        have HKw4 := Lib.hid (Blk.below HKw3.out hb HKw3.out.lt)
        have HBw4 := Lib.hid (HBw3.out.trans (hb.mono HBw3.out.size))
        clear hb
        have d3 : w4.cell? ⟨w.heap.size, 3, none⟩ = some (.int .i64 1) := HKw4.out.cell 3
        have d4 : w4.cell? ⟨w.heap.size, 4, none⟩ = some (.bool left.start) := HKw4.out.cell 4
        have d5 : w4.cell? ⟨w.heap.size, 5, none⟩ = some (.bool left.fin) := HKw4.out.cell 5
        have d6 : w4.cell? ⟨w.heap.size, 6, none⟩ = some (.slice L1 a1 x1) := HKw4.out.cell 6
        have d7 : w4.cell? ⟨w.heap.size, 7, none⟩ = some (.slice L2 a2 x2) := HKw4.out.cell 7
        have d8 : w4.cell? ⟨w.heap.size, 8, none⟩ = some (.slice L3 a3 x3) := HKw4.out.cell 8
        have d9 : w4.cell? ⟨w.heap.size, 9, none⟩ = some (.int .i64 left.cursor) := HKw4.out.cell 9
        have d10 : w4.cell? ⟨w.heap.size, 10, none⟩ = some (.bool right.start) := HKw4.out.cell 10
        have d11 : w4.cell? ⟨w.heap.size, 11, none⟩ = some (.bool right.fin) := HKw4.out.cell 11
        have d12 : w4.cell? ⟨w.heap.size, 12, none⟩ = some (.slice R1 b1 y1) := HKw4.out.cell 12
        have d13 : w4.cell? ⟨w.heap.size, 13, none⟩ = some (.slice R2 b2 y2) := HKw4.out.cell 13
        have d14 : w4.cell? ⟨w.heap.size, 14, none⟩ = some (.slice R3 b3 y3) := HKw4.out.cell 14
        have d15 : w4.cell? ⟨w.heap.size, 15, none⟩ = some (.int .i64 right.cursor) := HKw4.out.cell 15
        cases ha : aroundB right
        · by_cases hcur : left.cursor < 0
          · have hcd : decide (left.cursor < 0) = true := decide_eq_true hcur
            have HV := Lib.hid (show ruleP 1 left right = 0 by simp [ruleP, fitB, e1, e2, hp, ha, hcur])
            clear e1 e2 hp ha hcur
            go_wp2_with fail
            go_ret
            rw [HV.out]
            exact ⟨rfl, HBw4.out⟩
          · have hcd : decide (left.cursor < 0) = false := decide_eq_false hcur
            have HV := Lib.hid (show ruleP 1 left right = 8 by simp [ruleP, fitB, e1, e2, hp, ha, hcur])
            clear e1 e2 hp ha hcur
            go_wp2_with fail
            go_ret
            rw [HV.out]
            exact ⟨rfl, HBw4.out⟩
        · have HV := Lib.hid (show ruleP 1 left right = 8 by simp [ruleP, fitB, e1, e2, hp, ha])
          clear e1 e2 hp ha
          go_wp2_with fail
          go_ret
          rw [HV.out]
          exact ⟨rfl, HBw4.out⟩
    · have e2' : (sideP right false != 0) = true := by simpa using e2
      have HV := Lib.hid (show ruleP 1 left right = sideP right false by simp [ruleP, e1, e2])
      clear e1 e2
      go_wp2_with fail
      go_ret
      rw [HV.out]
      exact ⟨rfl, HBw2.out⟩
  · have e1' : (sideP left true != 0) = true := by simpa using e1
    have HV := Lib.hid (show ruleP 1 left right = sideP left true by simp [ruleP, e1])
    clear e1
    go_wp2_with fail
    go_ret
    rw [HV.out]
    exact ⟨rfl, HBw1.out⟩

set_option maxRecDepth 100000 in
set_option maxHeartbeats 1600000 in
theorem refp_rule2 (name : ByteArray) (left right : SideD) (A : Option Addr) (n c : Nat) (L1 L2 L3 R1 R2 R3 : Option Addr) (a1 a2 a3 x1 x2 x3 b1 b2 b3 y1 y2 y3 : Nat) (w : World) (l1 : RdIt w w.heap.size L1 a1 left.before) (l2 : RdIt w w.heap.size L2 a2 left.source) (l3 : RdIt w w.heap.size L3 a3 left.after) (la1 : a1 ≤ maxLen) (la2 : a2 ≤ maxLen) (la3 : a3 ≤ maxLen) (r1 : RdIt w w.heap.size R1 b1 right.before) (r2 : RdIt w w.heap.size R2 b2 right.source) (r3 : RdIt w w.heap.size R3 b3 right.after) (ra1 : b1 ≤ maxLen) (ra2 : b2 ≤ maxLen) (ra3 : b3 ≤ maxLen) (hleft : i64R left.cursor) (hright : i64R right.cursor) :
    Calls Try.prog 29 #[.agg #[.int .i64 2, .string name, .slice A n c, .int .i64 2, .bool left.start, .bool left.fin, .slice L1 a1 x1, .slice L2 a2 x2, .slice L3 a3 x3, .int .i64 left.cursor, .bool right.start, .bool right.fin, .slice R1 b1 y1, .slice R2 b2 y2, .slice R3 b3 y3, .int .i64 right.cursor]] w fun e w' => e = .returned (.int .i64 (ruleP 2 left right)) ∧ Below w.heap.size w w' := by
  have SL := Lib.hid (fun w' (hb : Below w.heap.size w w') must => ref_side left must L1 L2 L3 a1 a2 a3 x1 x2 x3 w' (rdit_below l1 hb) (rdit_below l2 hb) (rdit_below l3 hb) la1 la2 la3 hleft)
  have TL := Lib.hid (fun w' (hb : Below w.heap.size w w') => ref_plain left L1 L2 L3 a1 a2 a3 x1 x2 x3 w' (rdit_below l2 hb) la2)
  have BL := Lib.hid (fun w' => ref_around left L1 L2 L3 a1 a2 a3 x1 x2 x3 w' (RdL.len l1) (RdL.len l3))
  have SR := Lib.hid (fun w' (hb : Below w.heap.size w w') must => ref_side right must R1 R2 R3 b1 b2 b3 y1 y2 y3 w' (rdit_below r1 hb) (rdit_below r2 hb) (rdit_below r3 hb) ra1 ra2 ra3 hright)
  have TR := Lib.hid (fun w' (hb : Below w.heap.size w w') => ref_plain right R1 R2 R3 b1 b2 b3 y1 y2 y3 w' (rdit_below r2 hb) ra2)
  have BR := Lib.hid (fun w' => ref_around right R1 R2 R3 b1 b2 b3 y1 y2 y3 w' (RdL.len r1) (RdL.len r3))
  clear l1 l2 l3 r1 r2 r3 la1 la2 la3 ra1 ra2 ra3 hleft hright
  have HBw0 := Lib.hid ((Below.refl w.heap.size w).alloc (Nat.le_refl _) (.cells #[.int .i64 2, .string name, .slice A n c, .int .i64 2, .bool left.start, .bool left.fin, .slice L1 a1 x1, .slice L2 a2 x2, .slice L3 a3 x3, .int .i64 left.cursor, .bool right.start, .bool right.fin, .slice R1 b1 y1, .slice R2 b2 y2, .slice R3 b3 y3, .int .i64 right.cursor] 40))
  have HKw0 := Lib.hid (Blk.new w 40 #[.int .i64 2, .string name, .slice A n c, .int .i64 2, .bool left.start, .bool left.fin, .slice L1 a1 x1, .slice L2 a2 x2, .slice L3 a3 x3, .int .i64 left.cursor, .bool right.start, .bool right.fin, .slice R1 b1 y1, .slice R2 b2 y2, .slice R3 b3 y3, .int .i64 right.cursor])
  go_enter Try.func29, Try.ntmps29
  go_wp2_with fail
  refine (SL.out _ HBw0.out false).mono ?_
  rintro e w1 ⟨rfl, hb⟩
  have HKw1 := Lib.hid (Blk.below HKw0.out hb HKw0.out.lt)
  have HBw1 := Lib.hid (HBw0.out.trans (hb.mono HBw0.out.size))
  clear hb
  have d3 : w1.cell? ⟨w.heap.size, 3, none⟩ = some (.int .i64 2) := HKw1.out.cell 3
  have d10 : w1.cell? ⟨w.heap.size, 10, none⟩ = some (.bool right.start) := HKw1.out.cell 10
  have d11 : w1.cell? ⟨w.heap.size, 11, none⟩ = some (.bool right.fin) := HKw1.out.cell 11
  have d12 : w1.cell? ⟨w.heap.size, 12, none⟩ = some (.slice R1 b1 y1) := HKw1.out.cell 12
  have d13 : w1.cell? ⟨w.heap.size, 13, none⟩ = some (.slice R2 b2 y2) := HKw1.out.cell 13
  have d14 : w1.cell? ⟨w.heap.size, 14, none⟩ = some (.slice R3 b3 y3) := HKw1.out.cell 14
  have d15 : w1.cell? ⟨w.heap.size, 15, none⟩ = some (.int .i64 right.cursor) := HKw1.out.cell 15
  by_cases e1 : sideP left false = 0
  · have e1' : (sideP left false != 0) = false := by simp [e1]
    go_wp2_with fail
    refine (SR.out w1 HBw1.out true).mono ?_
    rintro e w2 ⟨rfl, hb⟩
    have HKw2 := Lib.hid (Blk.below HKw1.out hb HKw1.out.lt)
    have HBw2 := Lib.hid (HBw1.out.trans (hb.mono HBw1.out.size))
    clear hb
    have d3 : w2.cell? ⟨w.heap.size, 3, none⟩ = some (.int .i64 2) := HKw2.out.cell 3
    have d4 : w2.cell? ⟨w.heap.size, 4, none⟩ = some (.bool left.start) := HKw2.out.cell 4
    have d5 : w2.cell? ⟨w.heap.size, 5, none⟩ = some (.bool left.fin) := HKw2.out.cell 5
    have d6 : w2.cell? ⟨w.heap.size, 6, none⟩ = some (.slice L1 a1 x1) := HKw2.out.cell 6
    have d7 : w2.cell? ⟨w.heap.size, 7, none⟩ = some (.slice L2 a2 x2) := HKw2.out.cell 7
    have d8 : w2.cell? ⟨w.heap.size, 8, none⟩ = some (.slice L3 a3 x3) := HKw2.out.cell 8
    have d9 : w2.cell? ⟨w.heap.size, 9, none⟩ = some (.int .i64 left.cursor) := HKw2.out.cell 9
    have d10 : w2.cell? ⟨w.heap.size, 10, none⟩ = some (.bool right.start) := HKw2.out.cell 10
    have d11 : w2.cell? ⟨w.heap.size, 11, none⟩ = some (.bool right.fin) := HKw2.out.cell 11
    have d12 : w2.cell? ⟨w.heap.size, 12, none⟩ = some (.slice R1 b1 y1) := HKw2.out.cell 12
    have d13 : w2.cell? ⟨w.heap.size, 13, none⟩ = some (.slice R2 b2 y2) := HKw2.out.cell 13
    have d14 : w2.cell? ⟨w.heap.size, 14, none⟩ = some (.slice R3 b3 y3) := HKw2.out.cell 14
    have d15 : w2.cell? ⟨w.heap.size, 15, none⟩ = some (.int .i64 right.cursor) := HKw2.out.cell 15
    by_cases e2 : sideP right true = 0
    · have e2' : (sideP right true != 0) = false := by simp [e2]
      go_wp2_with fail
      refine (TL.out w2 HBw2.out).mono ?_
      rintro e w3 ⟨rfl, hb⟩
      have HKw3 := Lib.hid (Blk.below HKw2.out hb HKw2.out.lt)
      have HBw3 := Lib.hid (HBw2.out.trans (hb.mono HBw2.out.size))
      clear hb
      have d3 : w3.cell? ⟨w.heap.size, 3, none⟩ = some (.int .i64 2) := HKw3.out.cell 3
      have d4 : w3.cell? ⟨w.heap.size, 4, none⟩ = some (.bool left.start) := HKw3.out.cell 4
      have d5 : w3.cell? ⟨w.heap.size, 5, none⟩ = some (.bool left.fin) := HKw3.out.cell 5
      have d6 : w3.cell? ⟨w.heap.size, 6, none⟩ = some (.slice L1 a1 x1) := HKw3.out.cell 6
      have d7 : w3.cell? ⟨w.heap.size, 7, none⟩ = some (.slice L2 a2 x2) := HKw3.out.cell 7
      have d8 : w3.cell? ⟨w.heap.size, 8, none⟩ = some (.slice L3 a3 x3) := HKw3.out.cell 8
      have d9 : w3.cell? ⟨w.heap.size, 9, none⟩ = some (.int .i64 left.cursor) := HKw3.out.cell 9
      have d10 : w3.cell? ⟨w.heap.size, 10, none⟩ = some (.bool right.start) := HKw3.out.cell 10
      have d11 : w3.cell? ⟨w.heap.size, 11, none⟩ = some (.bool right.fin) := HKw3.out.cell 11
      have d12 : w3.cell? ⟨w.heap.size, 12, none⟩ = some (.slice R1 b1 y1) := HKw3.out.cell 12
      have d13 : w3.cell? ⟨w.heap.size, 13, none⟩ = some (.slice R2 b2 y2) := HKw3.out.cell 13
      have d14 : w3.cell? ⟨w.heap.size, 14, none⟩ = some (.slice R3 b3 y3) := HKw3.out.cell 14
      have d15 : w3.cell? ⟨w.heap.size, 15, none⟩ = some (.int .i64 right.cursor) := HKw3.out.cell 15
      cases hp : plainB left.source
      · have HV := Lib.hid (show ruleP 2 left right = 8 by simp [ruleP, fitB, e1, e2, hp])
        clear e1 e2 hp
        go_wp2_with fail
        go_ret
        rw [HV.out]
        exact ⟨rfl, HBw3.out⟩
      · go_wp2_with fail
        refine (BL.out w3).mono ?_
        rintro e w4 ⟨rfl, hb⟩
        have HKw4 := Lib.hid (Blk.below HKw3.out hb HKw3.out.lt)
        have HBw4 := Lib.hid (HBw3.out.trans (hb.mono HBw3.out.size))
        clear hb
        have d3 : w4.cell? ⟨w.heap.size, 3, none⟩ = some (.int .i64 2) := HKw4.out.cell 3
        have d4 : w4.cell? ⟨w.heap.size, 4, none⟩ = some (.bool left.start) := HKw4.out.cell 4
        have d5 : w4.cell? ⟨w.heap.size, 5, none⟩ = some (.bool left.fin) := HKw4.out.cell 5
        have d6 : w4.cell? ⟨w.heap.size, 6, none⟩ = some (.slice L1 a1 x1) := HKw4.out.cell 6
        have d7 : w4.cell? ⟨w.heap.size, 7, none⟩ = some (.slice L2 a2 x2) := HKw4.out.cell 7
        have d8 : w4.cell? ⟨w.heap.size, 8, none⟩ = some (.slice L3 a3 x3) := HKw4.out.cell 8
        have d9 : w4.cell? ⟨w.heap.size, 9, none⟩ = some (.int .i64 left.cursor) := HKw4.out.cell 9
        have d10 : w4.cell? ⟨w.heap.size, 10, none⟩ = some (.bool right.start) := HKw4.out.cell 10
        have d11 : w4.cell? ⟨w.heap.size, 11, none⟩ = some (.bool right.fin) := HKw4.out.cell 11
        have d12 : w4.cell? ⟨w.heap.size, 12, none⟩ = some (.slice R1 b1 y1) := HKw4.out.cell 12
        have d13 : w4.cell? ⟨w.heap.size, 13, none⟩ = some (.slice R2 b2 y2) := HKw4.out.cell 13
        have d14 : w4.cell? ⟨w.heap.size, 14, none⟩ = some (.slice R3 b3 y3) := HKw4.out.cell 14
        have d15 : w4.cell? ⟨w.heap.size, 15, none⟩ = some (.int .i64 right.cursor) := HKw4.out.cell 15
        cases ha : aroundB left
        · by_cases hcur : right.cursor < 0
          · have hcd : decide (right.cursor < 0) = true := decide_eq_true hcur
            have HV := Lib.hid (show ruleP 2 left right = 0 by simp [ruleP, fitB, e1, e2, hp, ha, hcur])
            clear e1 e2 hp ha hcur
            go_wp2_with fail
            go_ret
            rw [HV.out]
            exact ⟨rfl, HBw4.out⟩
          · have hcd : decide (right.cursor < 0) = false := decide_eq_false hcur
            have HV := Lib.hid (show ruleP 2 left right = 8 by simp [ruleP, fitB, e1, e2, hp, ha, hcur])
            clear e1 e2 hp ha hcur
            go_wp2_with fail
            go_ret
            rw [HV.out]
            exact ⟨rfl, HBw4.out⟩
        · have HV := Lib.hid (show ruleP 2 left right = 8 by simp [ruleP, fitB, e1, e2, hp, ha])
          clear e1 e2 hp ha
          go_wp2_with fail
          go_ret
          rw [HV.out]
          exact ⟨rfl, HBw4.out⟩
    · have e2' : (sideP right true != 0) = true := by simpa using e2
      have HV := Lib.hid (show ruleP 2 left right = sideP right true by simp [ruleP, e1, e2])
      clear e1 e2
      go_wp2_with fail
      go_ret
      rw [HV.out]
      exact ⟨rfl, HBw2.out⟩
  · have e1' : (sideP left false != 0) = true := by simpa using e1
    have HV := Lib.hid (show ruleP 2 left right = sideP left false by simp [ruleP, e1])
    clear e1
    go_wp2_with fail
    go_ret
    rw [HV.out]
    exact ⟨rfl, HBw1.out⟩

set_option maxRecDepth 100000 in
set_option maxHeartbeats 1600000 in
theorem refp_rule3 (name : ByteArray) (left right : SideD) (A : Option Addr) (n c : Nat) (L1 L2 L3 R1 R2 R3 : Option Addr) (a1 a2 a3 x1 x2 x3 b1 b2 b3 y1 y2 y3 : Nat) (w : World) (l1 : RdIt w w.heap.size L1 a1 left.before) (l2 : RdIt w w.heap.size L2 a2 left.source) (l3 : RdIt w w.heap.size L3 a3 left.after) (la1 : a1 ≤ maxLen) (la2 : a2 ≤ maxLen) (la3 : a3 ≤ maxLen) (r1 : RdIt w w.heap.size R1 b1 right.before) (r2 : RdIt w w.heap.size R2 b2 right.source) (r3 : RdIt w w.heap.size R3 b3 right.after) (ra1 : b1 ≤ maxLen) (ra2 : b2 ≤ maxLen) (ra3 : b3 ≤ maxLen) (hleft : i64R left.cursor) (hright : i64R right.cursor) :
    Calls Try.prog 29 #[.agg #[.int .i64 2, .string name, .slice A n c, .int .i64 3, .bool left.start, .bool left.fin, .slice L1 a1 x1, .slice L2 a2 x2, .slice L3 a3 x3, .int .i64 left.cursor, .bool right.start, .bool right.fin, .slice R1 b1 y1, .slice R2 b2 y2, .slice R3 b3 y3, .int .i64 right.cursor]] w fun e w' => e = .returned (.int .i64 (ruleP 3 left right)) ∧ Below w.heap.size w w' := by
  have SL := Lib.hid (fun w' (hb : Below w.heap.size w w') must => ref_side left must L1 L2 L3 a1 a2 a3 x1 x2 x3 w' (rdit_below l1 hb) (rdit_below l2 hb) (rdit_below l3 hb) la1 la2 la3 hleft)
  have TL := Lib.hid (fun w' (hb : Below w.heap.size w w') => ref_plain left L1 L2 L3 a1 a2 a3 x1 x2 x3 w' (rdit_below l2 hb) la2)
  have BL := Lib.hid (fun w' => ref_around left L1 L2 L3 a1 a2 a3 x1 x2 x3 w' (RdL.len l1) (RdL.len l3))
  have SR := Lib.hid (fun w' (hb : Below w.heap.size w w') must => ref_side right must R1 R2 R3 b1 b2 b3 y1 y2 y3 w' (rdit_below r1 hb) (rdit_below r2 hb) (rdit_below r3 hb) ra1 ra2 ra3 hright)
  have TR := Lib.hid (fun w' (hb : Below w.heap.size w w') => ref_plain right R1 R2 R3 b1 b2 b3 y1 y2 y3 w' (rdit_below r2 hb) ra2)
  have BR := Lib.hid (fun w' => ref_around right R1 R2 R3 b1 b2 b3 y1 y2 y3 w' (RdL.len r1) (RdL.len r3))
  clear l1 l2 l3 r1 r2 r3 la1 la2 la3 ra1 ra2 ra3 hleft hright
  have HBw0 := Lib.hid ((Below.refl w.heap.size w).alloc (Nat.le_refl _) (.cells #[.int .i64 2, .string name, .slice A n c, .int .i64 3, .bool left.start, .bool left.fin, .slice L1 a1 x1, .slice L2 a2 x2, .slice L3 a3 x3, .int .i64 left.cursor, .bool right.start, .bool right.fin, .slice R1 b1 y1, .slice R2 b2 y2, .slice R3 b3 y3, .int .i64 right.cursor] 40))
  have HKw0 := Lib.hid (Blk.new w 40 #[.int .i64 2, .string name, .slice A n c, .int .i64 3, .bool left.start, .bool left.fin, .slice L1 a1 x1, .slice L2 a2 x2, .slice L3 a3 x3, .int .i64 left.cursor, .bool right.start, .bool right.fin, .slice R1 b1 y1, .slice R2 b2 y2, .slice R3 b3 y3, .int .i64 right.cursor])
  go_enter Try.func29, Try.ntmps29
  go_wp2_with fail
  refine (SL.out _ HBw0.out true).mono ?_
  rintro e w1 ⟨rfl, hb⟩
  have HKw1 := Lib.hid (Blk.below HKw0.out hb HKw0.out.lt)
  have HBw1 := Lib.hid (HBw0.out.trans (hb.mono HBw0.out.size))
  clear hb
  have d3 : w1.cell? ⟨w.heap.size, 3, none⟩ = some (.int .i64 3) := HKw1.out.cell 3
  have d10 : w1.cell? ⟨w.heap.size, 10, none⟩ = some (.bool right.start) := HKw1.out.cell 10
  have d11 : w1.cell? ⟨w.heap.size, 11, none⟩ = some (.bool right.fin) := HKw1.out.cell 11
  have d12 : w1.cell? ⟨w.heap.size, 12, none⟩ = some (.slice R1 b1 y1) := HKw1.out.cell 12
  have d13 : w1.cell? ⟨w.heap.size, 13, none⟩ = some (.slice R2 b2 y2) := HKw1.out.cell 13
  have d14 : w1.cell? ⟨w.heap.size, 14, none⟩ = some (.slice R3 b3 y3) := HKw1.out.cell 14
  have d15 : w1.cell? ⟨w.heap.size, 15, none⟩ = some (.int .i64 right.cursor) := HKw1.out.cell 15
  by_cases e1 : sideP left true = 0
  · have e1' : (sideP left true != 0) = false := by simp [e1]
    go_wp2_with fail
    refine (SR.out w1 HBw1.out true).mono ?_
    rintro e w2 ⟨rfl, hb⟩
    have HKw2 := Lib.hid (Blk.below HKw1.out hb HKw1.out.lt)
    have HBw2 := Lib.hid (HBw1.out.trans (hb.mono HBw1.out.size))
    clear hb
    have d3 : w2.cell? ⟨w.heap.size, 3, none⟩ = some (.int .i64 3) := HKw2.out.cell 3
    have d4 : w2.cell? ⟨w.heap.size, 4, none⟩ = some (.bool left.start) := HKw2.out.cell 4
    have d5 : w2.cell? ⟨w.heap.size, 5, none⟩ = some (.bool left.fin) := HKw2.out.cell 5
    have d6 : w2.cell? ⟨w.heap.size, 6, none⟩ = some (.slice L1 a1 x1) := HKw2.out.cell 6
    have d7 : w2.cell? ⟨w.heap.size, 7, none⟩ = some (.slice L2 a2 x2) := HKw2.out.cell 7
    have d8 : w2.cell? ⟨w.heap.size, 8, none⟩ = some (.slice L3 a3 x3) := HKw2.out.cell 8
    have d9 : w2.cell? ⟨w.heap.size, 9, none⟩ = some (.int .i64 left.cursor) := HKw2.out.cell 9
    have d10 : w2.cell? ⟨w.heap.size, 10, none⟩ = some (.bool right.start) := HKw2.out.cell 10
    have d11 : w2.cell? ⟨w.heap.size, 11, none⟩ = some (.bool right.fin) := HKw2.out.cell 11
    have d12 : w2.cell? ⟨w.heap.size, 12, none⟩ = some (.slice R1 b1 y1) := HKw2.out.cell 12
    have d13 : w2.cell? ⟨w.heap.size, 13, none⟩ = some (.slice R2 b2 y2) := HKw2.out.cell 13
    have d14 : w2.cell? ⟨w.heap.size, 14, none⟩ = some (.slice R3 b3 y3) := HKw2.out.cell 14
    have d15 : w2.cell? ⟨w.heap.size, 15, none⟩ = some (.int .i64 right.cursor) := HKw2.out.cell 15
    by_cases e2 : sideP right true = 0
    · have e2' : (sideP right true != 0) = false := by simp [e2]
      go_wp2_with fail
      refine (TR.out w2 HBw2.out).mono ?_
      rintro e w3 ⟨rfl, hb⟩
      have HKw3 := Lib.hid (Blk.below HKw2.out hb HKw2.out.lt)
      have HBw3 := Lib.hid (HBw2.out.trans (hb.mono HBw2.out.size))
      clear hb
      have d3 : w3.cell? ⟨w.heap.size, 3, none⟩ = some (.int .i64 3) := HKw3.out.cell 3
      have d4 : w3.cell? ⟨w.heap.size, 4, none⟩ = some (.bool left.start) := HKw3.out.cell 4
      have d5 : w3.cell? ⟨w.heap.size, 5, none⟩ = some (.bool left.fin) := HKw3.out.cell 5
      have d6 : w3.cell? ⟨w.heap.size, 6, none⟩ = some (.slice L1 a1 x1) := HKw3.out.cell 6
      have d7 : w3.cell? ⟨w.heap.size, 7, none⟩ = some (.slice L2 a2 x2) := HKw3.out.cell 7
      have d8 : w3.cell? ⟨w.heap.size, 8, none⟩ = some (.slice L3 a3 x3) := HKw3.out.cell 8
      have d9 : w3.cell? ⟨w.heap.size, 9, none⟩ = some (.int .i64 left.cursor) := HKw3.out.cell 9
      have d10 : w3.cell? ⟨w.heap.size, 10, none⟩ = some (.bool right.start) := HKw3.out.cell 10
      have d11 : w3.cell? ⟨w.heap.size, 11, none⟩ = some (.bool right.fin) := HKw3.out.cell 11
      have d12 : w3.cell? ⟨w.heap.size, 12, none⟩ = some (.slice R1 b1 y1) := HKw3.out.cell 12
      have d13 : w3.cell? ⟨w.heap.size, 13, none⟩ = some (.slice R2 b2 y2) := HKw3.out.cell 13
      have d14 : w3.cell? ⟨w.heap.size, 14, none⟩ = some (.slice R3 b3 y3) := HKw3.out.cell 14
      have d15 : w3.cell? ⟨w.heap.size, 15, none⟩ = some (.int .i64 right.cursor) := HKw3.out.cell 15
      cases hp : plainB right.source
      · have HV := Lib.hid (show ruleP 3 left right = 8 by simp [ruleP, fitB, e1, e2, hp])
        clear e1 e2 hp
        go_wp2_with fail
        go_ret
        rw [HV.out]
        exact ⟨rfl, HBw3.out⟩
      · go_wp2_with fail
        refine (TL.out w3 HBw3.out).mono ?_
        rintro e w4 ⟨rfl, hb⟩
        have HKw4 := Lib.hid (Blk.below HKw3.out hb HKw3.out.lt)
        have HBw4 := Lib.hid (HBw3.out.trans (hb.mono HBw3.out.size))
        clear hb
        have d3 : w4.cell? ⟨w.heap.size, 3, none⟩ = some (.int .i64 3) := HKw4.out.cell 3
        have d4 : w4.cell? ⟨w.heap.size, 4, none⟩ = some (.bool left.start) := HKw4.out.cell 4
        have d5 : w4.cell? ⟨w.heap.size, 5, none⟩ = some (.bool left.fin) := HKw4.out.cell 5
        have d6 : w4.cell? ⟨w.heap.size, 6, none⟩ = some (.slice L1 a1 x1) := HKw4.out.cell 6
        have d7 : w4.cell? ⟨w.heap.size, 7, none⟩ = some (.slice L2 a2 x2) := HKw4.out.cell 7
        have d8 : w4.cell? ⟨w.heap.size, 8, none⟩ = some (.slice L3 a3 x3) := HKw4.out.cell 8
        have d9 : w4.cell? ⟨w.heap.size, 9, none⟩ = some (.int .i64 left.cursor) := HKw4.out.cell 9
        have d10 : w4.cell? ⟨w.heap.size, 10, none⟩ = some (.bool right.start) := HKw4.out.cell 10
        have d11 : w4.cell? ⟨w.heap.size, 11, none⟩ = some (.bool right.fin) := HKw4.out.cell 11
        have d12 : w4.cell? ⟨w.heap.size, 12, none⟩ = some (.slice R1 b1 y1) := HKw4.out.cell 12
        have d13 : w4.cell? ⟨w.heap.size, 13, none⟩ = some (.slice R2 b2 y2) := HKw4.out.cell 13
        have d14 : w4.cell? ⟨w.heap.size, 14, none⟩ = some (.slice R3 b3 y3) := HKw4.out.cell 14
        have d15 : w4.cell? ⟨w.heap.size, 15, none⟩ = some (.int .i64 right.cursor) := HKw4.out.cell 15
        cases hq : plainB left.source
        · have HV := Lib.hid (show ruleP 3 left right = 8 by simp [ruleP, fitB, e1, e2, hp, hq])
          clear e1 e2 hp hq
          go_wp2_with fail
          go_ret
          rw [HV.out]
          exact ⟨rfl, HBw4.out⟩
        · have HV := Lib.hid (show ruleP 3 left right = 0 by simp [ruleP, fitB, e1, e2, hp, hq])
          clear e1 e2 hp hq
          go_wp2_with fail
          go_ret
          rw [HV.out]
          exact ⟨rfl, HBw4.out⟩
    · have e2' : (sideP right true != 0) = true := by simpa using e2
      have HV := Lib.hid (show ruleP 3 left right = sideP right true by simp [ruleP, e1, e2])
      clear e1 e2
      go_wp2_with fail
      go_ret
      rw [HV.out]
      exact ⟨rfl, HBw2.out⟩
  · have e1' : (sideP left true != 0) = true := by simpa using e1
    have HV := Lib.hid (show ruleP 3 left right = sideP left true by simp [ruleP, e1])
    clear e1
    go_wp2_with fail
    go_ret
    rw [HV.out]
    exact ⟨rfl, HBw1.out⟩

set_option maxRecDepth 100000 in
set_option maxHeartbeats 1600000 in
theorem refp_dir (name : ByteArray) (left right : SideD) (dir : Int) (A : Option Addr) (n c : Nat) (L1 L2 L3 R1 R2 R3 : Option Addr) (a1 a2 a3 x1 x2 x3 b1 b2 b3 y1 y2 y3 : Nat) (w : World) (h : dir < 1 ∨ 3 < dir) :
    Calls Try.prog 29 #[.agg #[.int .i64 2, .string name, .slice A n c, .int .i64 dir, .bool left.start, .bool left.fin, .slice L1 a1 x1, .slice L2 a2 x2, .slice L3 a3 x3, .int .i64 left.cursor, .bool right.start, .bool right.fin, .slice R1 b1 y1, .slice R2 b2 y2, .slice R3 b3 y3, .int .i64 right.cursor]] w fun e w' => e = .returned (.int .i64 1) ∧ Below w.heap.size w w' := by
  have HB := Lib.hid ((Below.refl w.heap.size w).alloc (Nat.le_refl _) (.cells #[.int .i64 2, .string name, .slice A n c, .int .i64 dir, .bool left.start, .bool left.fin, .slice L1 a1 x1, .slice L2 a2 x2, .slice L3 a3 x3, .int .i64 left.cursor, .bool right.start, .bool right.fin, .slice R1 b1 y1, .slice R2 b2 y2, .slice R3 b3 y3, .int .i64 right.cursor] 40))
  rcases h with h | h
  all_goals
    go_enter Try.func29, Try.ntmps29
    go_wp2_with fail
    go_ret
    exact ⟨rfl, HB.out⟩

set_option maxRecDepth 100000 in
set_option maxHeartbeats 1600000 in
theorem ref_part (p : PartD) (A : Option Addr) (n c : Nat) (L1 L2 L3 R1 R2 R3 : Option Addr) (a1 a2 a3 x1 x2 x3 b1 b2 b3 y1 y2 y3 : Nat) (w : World) (hs : RdS w w.heap.size A n p.set) (hn : n ≤ maxLen) (l1 : RdIt w w.heap.size L1 a1 p.left.before) (l2 : RdIt w w.heap.size L2 a2 p.left.source) (l3 : RdIt w w.heap.size L3 a3 p.left.after) (la1 : a1 ≤ maxLen) (la2 : a2 ≤ maxLen) (la3 : a3 ≤ maxLen) (r1 : RdIt w w.heap.size R1 b1 p.right.before) (r2 : RdIt w w.heap.size R2 b2 p.right.source) (r3 : RdIt w w.heap.size R3 b3 p.right.after) (ra1 : b1 ≤ maxLen) (ra2 : b2 ≤ maxLen) (ra3 : b3 ≤ maxLen) (hleft : i64R p.left.cursor) (hright : i64R p.right.cursor) (hm : p.name.size ≤ maxLen) :
    Calls Try.prog 29 #[.agg #[.int .i64 p.kind, .string p.name, .slice A n c, .int .i64 p.dir, .bool p.left.start, .bool p.left.fin, .slice L1 a1 x1, .slice L2 a2 x2, .slice L3 a3 x3, .int .i64 p.left.cursor, .bool p.right.start, .bool p.right.fin, .slice R1 b1 y1, .slice R2 b2 y2, .slice R3 b3 y3, .int .i64 p.right.cursor]] w fun e w' => e = .returned (.int .i64 (partP p)) ∧ Below w.heap.size w w' := by
  obtain ⟨kind, name, set, dir, left, right⟩ := p
  dsimp only at *
  unfold partP
  dsimp only
  by_cases k1 : kind = 1
  · subst k1
    rw [if_pos rfl]
    exact refp_var name set left right dir A n c L1 L2 L3 R1 R2 R3 a1 a2 a3 x1 x2 x3 b1 b2 b3 y1 y2 y3 w hs (by unfold maxLen at hn; omega) (by unfold maxLen at hm; omega)
  by_cases k3 : kind = 3
  · subst k3
    rw [if_neg k1, if_pos rfl]
    exact refp_filter name set left right dir A n c L1 L2 L3 R1 R2 R3 a1 a2 a3 x1 x2 x3 b1 b2 b3 y1 y2 y3 w hs (by unfold maxLen at hn; omega)
  by_cases k4 : kind = 4
  · subst k4
    rw [if_neg k1, if_neg k3, if_pos rfl]
    exact refp_pass name left right dir A n c L1 L2 L3 R1 R2 R3 a1 a2 a3 x1 x2 x3 b1 b2 b3 y1 y2 y3 w
  by_cases k2 : kind = 2
  · subst k2
    rw [if_neg k1, if_neg k3, if_neg k4, if_pos rfl]
    by_cases hd : dir < 1 ∨ 3 < dir
    · have e : ruleP dir left right = 1 := if_pos hd
      rw [e]
      exact refp_dir name left right dir A n c L1 L2 L3 R1 R2 R3 a1 a2 a3 x1 x2 x3 b1 b2 b3 y1 y2 y3 w hd
    rcases (show dir = 1 ∨ dir = 2 ∨ dir = 3 by omega) with rfl | rfl | rfl
    · exact refp_rule1 name left right A n c L1 L2 L3 R1 R2 R3 a1 a2 a3 x1 x2 x3 b1 b2 b3 y1 y2 y3 w l1 l2 l3 la1 la2 la3 r1 r2 r3 ra1 ra2 ra3 hleft hright
    · exact refp_rule2 name left right A n c L1 L2 L3 R1 R2 R3 a1 a2 a3 x1 x2 x3 b1 b2 b3 y1 y2 y3 w l1 l2 l3 la1 la2 la3 r1 r2 r3 ra1 ra2 ra3 hleft hright
    · exact refp_rule3 name left right A n c L1 L2 L3 R1 R2 R3 a1 a2 a3 x1 x2 x3 b1 b2 b3 y1 y2 y3 w l1 l2 l3 la1 la2 la3 r1 r2 r3 ra1 ra2 ra3 hleft hright
  rw [if_neg k1, if_neg k3, if_neg k4, if_neg k2]
  exact refp_other name left right kind dir A n c L1 L2 L3 R1 R2 R3 a1 a2 a3 x1 x2 x3 b1 b2 b3 y1 y2 y3 w (by omega)

end Go.Proofs.Ythcjiainpaebfaa
