/- WrittenS -/
import Derived.Test.YthnhbcohfoodlaaGreatDoorZt22
namespace Go.Proofs.YthnhbcohfoodlaaGreatDoor
open Go.RowKit Go.Shelf
set_option maxRecDepth 100000 in
set_option maxHeartbeats 3200000 in
theorem written_ss (A1 A2 A3 : Option Addr) (n1 n2 n3 c1 c2 c3 : Nat) (cursor : Int) (x1 x2 x3 : List UInt8) (w : World)
 (i1 : ∀ w', Below w.heap.size w w' → Calls Tryz.prog 108 #[.slice A1 n1 c1, .int .i64 (-1)] w' fun e w2 => e = .returned (.string ⟨x1.toArray⟩) ∧ Below w'.heap.size w' w2)
 (i2 : ∀ w', Below w.heap.size w w' → Calls Tryz.prog 108 #[.slice A2 n2 c2, .int .i64 cursor] w' fun e w2 => e = .returned (.string ⟨x2.toArray⟩) ∧ Below w'.heap.size w' w2)
 (i3 : ∀ w', Below w.heap.size w w' → Calls Tryz.prog 108 #[.slice A3 n3 c3, .int .i64 (-1)] w' fun e w2 => e = .returned (.string ⟨x3.toArray⟩) ∧ Below w'.heap.size w' w2)
 (hx1 : x1.length ≤ 200000) (hx2 : x2.length ≤ 200000) (hx3 : x3.length ≤ 200000) :
 Calls Tryz.prog 66 #[.agg #[.bool true, .bool true, .slice A1 n1 c1, .slice A2 n2 c2, .slice A3 n3 c3, .int .i64 cursor]] w fun e w' => e = .returned (.string ⟨(Lib.join (putW (putW (putW (putW (putW (putW (putW [] [94]) x1) [123]) x2) [125]) x3) [36]) [32]).toArray⟩) ∧ Below w.heap.size w w' := by
 have hs0 : WrittenAt w w.heap.size (w.heap.size + 1) w.heap.size #[.bool true, .bool true, .slice A1 n1 c1, .slice A2 n2 c2, .slice A3 n3 c3, .int .i64 cursor] [] ((w.alloc (.cells #[.bool true, .bool true, .slice A1 n1 c1, .slice A2 n2 c2, .slice A3 n3 c3, .int .i64 cursor] 96)).alloc (.cells #[.slice none 0 0] 108)) := by
  refine ⟨(Blk.new _ _ _).alloc _, ⟨.slice none 0 0, ?_, OwnT.nil _ _⟩, ((Below.refl _ _).alloc (Nat.le_refl _) _).alloc (by simp) _⟩
  have := Blk.new (w.alloc (.cells #[.bool true, .bool true, .slice A1 n1 c1, .slice A2 n2 c2, .slice A3 n3 c3, .int .i64 cursor] 96)) 108 #[.slice none 0 0]
  simpa using this
 have I1 := Lib.hid i1
 have I2 := Lib.hid i2
 have I3 := Lib.hid i3
 have S0 := Lib.hid hs0
 clear i1 i2 i3 hs0
 have HT0 := Lib.hid (show ∀ y ∈ ([] : List (List UInt8)), y.length ≤ 200000 by simp)
 go_enter Tryz.func66, Tryz.ntmps66
 go_wp2_with fail
 refine (written_put [94] S0.out (Nat.le_succ _) (Nat.le_refl _) (by omega) (by simp)).mono ?_
 rintro e u0 ⟨rfl, hs⟩
 have S1 := Lib.hid hs
 have HT1 := Lib.hid (putW_text _ [94] 200000 HT0.out (by decide))
 have hl1 : (putW [] [94]).length ≤ 1 := putW_len _ _
 generalize hW1 : putW [] [94] = W1 at *
 have HW1 := Lib.hid hW1
 clear hs hW1
 have d0_u0 : u0.cell? ⟨w.heap.size, 0, none⟩ = some (.bool true) := S1.out.1.cell 0
 have d1_u0 : u0.cell? ⟨w.heap.size, 1, none⟩ = some (.bool true) := S1.out.1.cell 1
 have d2_u0 : u0.cell? ⟨w.heap.size, 2, none⟩ = some (.slice A1 n1 c1) := S1.out.1.cell 2
 have d3_u0 : u0.cell? ⟨w.heap.size, 3, none⟩ = some (.slice A2 n2 c2) := S1.out.1.cell 3
 have d4_u0 : u0.cell? ⟨w.heap.size, 4, none⟩ = some (.slice A3 n3 c3) := S1.out.1.cell 4
 have d5_u0 : u0.cell? ⟨w.heap.size, 5, none⟩ = some (.int .i64 cursor) := S1.out.1.cell 5
 go_wp2_with fail
 refine (I1.out _ S1.out.2.2).mono ?_
 rintro e v1 ⟨rfl, hb⟩
 have R1 := Lib.hid (written_below S1.out hb (Nat.le_refl _))
 clear hb
 have d0_v1 : v1.cell? ⟨w.heap.size, 0, none⟩ = some (.bool true) := R1.out.1.cell 0
 have d1_v1 : v1.cell? ⟨w.heap.size, 1, none⟩ = some (.bool true) := R1.out.1.cell 1
 have d2_v1 : v1.cell? ⟨w.heap.size, 2, none⟩ = some (.slice A1 n1 c1) := R1.out.1.cell 2
 have d3_v1 : v1.cell? ⟨w.heap.size, 3, none⟩ = some (.slice A2 n2 c2) := R1.out.1.cell 3
 have d4_v1 : v1.cell? ⟨w.heap.size, 4, none⟩ = some (.slice A3 n3 c3) := R1.out.1.cell 4
 have d5_v1 : v1.cell? ⟨w.heap.size, 5, none⟩ = some (.int .i64 cursor) := R1.out.1.cell 5
 go_wp2_with fail
 refine (written_put x1 R1.out (Nat.le_succ _) (Nat.le_refl _) (by omega) (by omega)).mono ?_
 rintro e u1 ⟨rfl, hs⟩
 have S2 := Lib.hid hs
 have HT2 := Lib.hid (putW_text _ x1 200000 HT1.out hx1)
 have hl2 : (putW W1 x1).length ≤ W1.length + 1 := putW_len _ _
 generalize hW2 : putW W1 x1 = W2 at *
 have HW2 := Lib.hid hW2
 clear hs hW2
 have d0_u1 : u1.cell? ⟨w.heap.size, 0, none⟩ = some (.bool true) := S2.out.1.cell 0
 have d1_u1 : u1.cell? ⟨w.heap.size, 1, none⟩ = some (.bool true) := S2.out.1.cell 1
 have d2_u1 : u1.cell? ⟨w.heap.size, 2, none⟩ = some (.slice A1 n1 c1) := S2.out.1.cell 2
 have d3_u1 : u1.cell? ⟨w.heap.size, 3, none⟩ = some (.slice A2 n2 c2) := S2.out.1.cell 3
 have d4_u1 : u1.cell? ⟨w.heap.size, 4, none⟩ = some (.slice A3 n3 c3) := S2.out.1.cell 4
 have d5_u1 : u1.cell? ⟨w.heap.size, 5, none⟩ = some (.int .i64 cursor) := S2.out.1.cell 5
 go_wp2_with fail
 refine (written_put [123] S2.out (Nat.le_succ _) (Nat.le_refl _) (by omega) (by omega)).mono ?_
 rintro e u2 ⟨rfl, hs⟩
 have S3 := Lib.hid hs
 have HT3 := Lib.hid (putW_text _ [123] 200000 HT2.out (by decide))
 have hl3 : (putW W2 [123]).length ≤ W2.length + 1 := putW_len _ _
 generalize hW3 : putW W2 [123] = W3 at *
 have HW3 := Lib.hid hW3
 clear hs hW3
 have d0_u2 : u2.cell? ⟨w.heap.size, 0, none⟩ = some (.bool true) := S3.out.1.cell 0
 have d1_u2 : u2.cell? ⟨w.heap.size, 1, none⟩ = some (.bool true) := S3.out.1.cell 1
 have d2_u2 : u2.cell? ⟨w.heap.size, 2, none⟩ = some (.slice A1 n1 c1) := S3.out.1.cell 2
 have d3_u2 : u2.cell? ⟨w.heap.size, 3, none⟩ = some (.slice A2 n2 c2) := S3.out.1.cell 3
 have d4_u2 : u2.cell? ⟨w.heap.size, 4, none⟩ = some (.slice A3 n3 c3) := S3.out.1.cell 4
 have d5_u2 : u2.cell? ⟨w.heap.size, 5, none⟩ = some (.int .i64 cursor) := S3.out.1.cell 5
 go_wp2_with fail
 refine (I2.out _ S3.out.2.2).mono ?_
 rintro e v3 ⟨rfl, hb⟩
 have R3 := Lib.hid (written_below S3.out hb (Nat.le_refl _))
 clear hb
 have d0_v3 : v3.cell? ⟨w.heap.size, 0, none⟩ = some (.bool true) := R3.out.1.cell 0
 have d1_v3 : v3.cell? ⟨w.heap.size, 1, none⟩ = some (.bool true) := R3.out.1.cell 1
 have d2_v3 : v3.cell? ⟨w.heap.size, 2, none⟩ = some (.slice A1 n1 c1) := R3.out.1.cell 2
 have d3_v3 : v3.cell? ⟨w.heap.size, 3, none⟩ = some (.slice A2 n2 c2) := R3.out.1.cell 3
 have d4_v3 : v3.cell? ⟨w.heap.size, 4, none⟩ = some (.slice A3 n3 c3) := R3.out.1.cell 4
 have d5_v3 : v3.cell? ⟨w.heap.size, 5, none⟩ = some (.int .i64 cursor) := R3.out.1.cell 5
 go_wp2_with fail
 refine (written_put x2 R3.out (Nat.le_succ _) (Nat.le_refl _) (by omega) (by omega)).mono ?_
 rintro e u3 ⟨rfl, hs⟩
 have S4 := Lib.hid hs
 have HT4 := Lib.hid (putW_text _ x2 200000 HT3.out hx2)
 have hl4 : (putW W3 x2).length ≤ W3.length + 1 := putW_len _ _
 generalize hW4 : putW W3 x2 = W4 at *
 have HW4 := Lib.hid hW4
 clear hs hW4
 have d0_u3 : u3.cell? ⟨w.heap.size, 0, none⟩ = some (.bool true) := S4.out.1.cell 0
 have d1_u3 : u3.cell? ⟨w.heap.size, 1, none⟩ = some (.bool true) := S4.out.1.cell 1
 have d2_u3 : u3.cell? ⟨w.heap.size, 2, none⟩ = some (.slice A1 n1 c1) := S4.out.1.cell 2
 have d3_u3 : u3.cell? ⟨w.heap.size, 3, none⟩ = some (.slice A2 n2 c2) := S4.out.1.cell 3
 have d4_u3 : u3.cell? ⟨w.heap.size, 4, none⟩ = some (.slice A3 n3 c3) := S4.out.1.cell 4
 have d5_u3 : u3.cell? ⟨w.heap.size, 5, none⟩ = some (.int .i64 cursor) := S4.out.1.cell 5
 go_wp2_with fail
 refine (written_put [125] S4.out (Nat.le_succ _) (Nat.le_refl _) (by omega) (by omega)).mono ?_
 rintro e u4 ⟨rfl, hs⟩
 have S5 := Lib.hid hs
 have HT5 := Lib.hid (putW_text _ [125] 200000 HT4.out (by decide))
 have hl5 : (putW W4 [125]).length ≤ W4.length + 1 := putW_len _ _
 generalize hW5 : putW W4 [125] = W5 at *
 have HW5 := Lib.hid hW5
 clear hs hW5
 have d0_u4 : u4.cell? ⟨w.heap.size, 0, none⟩ = some (.bool true) := S5.out.1.cell 0
 have d1_u4 : u4.cell? ⟨w.heap.size, 1, none⟩ = some (.bool true) := S5.out.1.cell 1
 have d2_u4 : u4.cell? ⟨w.heap.size, 2, none⟩ = some (.slice A1 n1 c1) := S5.out.1.cell 2
 have d3_u4 : u4.cell? ⟨w.heap.size, 3, none⟩ = some (.slice A2 n2 c2) := S5.out.1.cell 3
 have d4_u4 : u4.cell? ⟨w.heap.size, 4, none⟩ = some (.slice A3 n3 c3) := S5.out.1.cell 4
 have d5_u4 : u4.cell? ⟨w.heap.size, 5, none⟩ = some (.int .i64 cursor) := S5.out.1.cell 5
 go_wp2_with fail
 refine (I3.out _ S5.out.2.2).mono ?_
 rintro e v5 ⟨rfl, hb⟩
 have R5 := Lib.hid (written_below S5.out hb (Nat.le_refl _))
 clear hb
 have d0_v5 : v5.cell? ⟨w.heap.size, 0, none⟩ = some (.bool true) := R5.out.1.cell 0
 have d1_v5 : v5.cell? ⟨w.heap.size, 1, none⟩ = some (.bool true) := R5.out.1.cell 1
 have d2_v5 : v5.cell? ⟨w.heap.size, 2, none⟩ = some (.slice A1 n1 c1) := R5.out.1.cell 2
 have d3_v5 : v5.cell? ⟨w.heap.size, 3, none⟩ = some (.slice A2 n2 c2) := R5.out.1.cell 3
 have d4_v5 : v5.cell? ⟨w.heap.size, 4, none⟩ = some (.slice A3 n3 c3) := R5.out.1.cell 4
 have d5_v5 : v5.cell? ⟨w.heap.size, 5, none⟩ = some (.int .i64 cursor) := R5.out.1.cell 5
 go_wp2_with fail
 refine (written_put x3 R5.out (Nat.le_succ _) (Nat.le_refl _) (by omega) (by omega)).mono ?_
 rintro e u5 ⟨rfl, hs⟩
 have S6 := Lib.hid hs
 have HT6 := Lib.hid (putW_text _ x3 200000 HT5.out hx3)
 have hl6 : (putW W5 x3).length ≤ W5.length + 1 := putW_len _ _
 generalize hW6 : putW W5 x3 = W6 at *
 have HW6 := Lib.hid hW6
 clear hs hW6
 have d0_u5 : u5.cell? ⟨w.heap.size, 0, none⟩ = some (.bool true) := S6.out.1.cell 0
 have d1_u5 : u5.cell? ⟨w.heap.size, 1, none⟩ = some (.bool true) := S6.out.1.cell 1
 have d2_u5 : u5.cell? ⟨w.heap.size, 2, none⟩ = some (.slice A1 n1 c1) := S6.out.1.cell 2
 have d3_u5 : u5.cell? ⟨w.heap.size, 3, none⟩ = some (.slice A2 n2 c2) := S6.out.1.cell 3
 have d4_u5 : u5.cell? ⟨w.heap.size, 4, none⟩ = some (.slice A3 n3 c3) := S6.out.1.cell 4
 have d5_u5 : u5.cell? ⟨w.heap.size, 5, none⟩ = some (.int .i64 cursor) := S6.out.1.cell 5
 go_wp2_with fail
 refine (written_put [36] S6.out (Nat.le_succ _) (Nat.le_refl _) (by omega) (by omega)).mono ?_
 rintro e u6 ⟨rfl, hs⟩
 have S7 := Lib.hid hs
 have HT7 := Lib.hid (putW_text _ [36] 200000 HT6.out (by decide))
 have hl7 : (putW W6 [36]).length ≤ W6.length + 1 := putW_len _ _
 generalize hW7 : putW W6 [36] = W7 at *
 have HW7 := Lib.hid hW7
 clear hs hW7
 have d0_u6 : u6.cell? ⟨w.heap.size, 0, none⟩ = some (.bool true) := S7.out.1.cell 0
 have d1_u6 : u6.cell? ⟨w.heap.size, 1, none⟩ = some (.bool true) := S7.out.1.cell 1
 have d2_u6 : u6.cell? ⟨w.heap.size, 2, none⟩ = some (.slice A1 n1 c1) := S7.out.1.cell 2
 have d3_u6 : u6.cell? ⟨w.heap.size, 3, none⟩ = some (.slice A2 n2 c2) := S7.out.1.cell 3
 have d4_u6 : u6.cell? ⟨w.heap.size, 4, none⟩ = some (.slice A3 n3 c3) := S7.out.1.cell 4
 have d5_u6 : u6.cell? ⟨w.heap.size, 5, none⟩ = some (.int .i64 cursor) := S7.out.1.cell 5
 obtain ⟨_, ⟨v, hv, ho⟩, hbl⟩ := S7.out
 obtain ⟨A, c, rfl, _⟩ := own_form ho
 have g0 : u6.cell? ⟨w.heap.size + 1, 0, none⟩ = some _ := hv.cell 0
 have HC := Lib.hid (join_owned A _ c _ _ u6 ho rfl (by omega) (Nat.le_trans (join_len _ 200000 HT7.out) (Nat.le_trans (Nat.mul_le_mul_right _ (show W7.length ≤ 20 by omega)) (by decide))))
 have HBL := Lib.hid hbl
 clear hv ho hbl
 go_wp2_with fail
 refine HC.out.mono ?_
 rintro e w9 ⟨rfl, hb⟩
 have hb9 := HBL.out.trans (hb.mono HBL.out.size)
 clear hb
 go_wp2_with fail
 go_ret
 rw [HW1.out, HW2.out, HW3.out, HW4.out, HW5.out, HW6.out, HW7.out]
 exact ⟨rfl, hb9⟩
set_option maxRecDepth 100000 in
set_option maxHeartbeats 3200000 in
theorem written_sb (A1 A2 A3 : Option Addr) (n1 n2 n3 c1 c2 c3 : Nat) (cursor : Int) (x1 x2 x3 : List UInt8) (w : World) (hn3 : 0 < n3)
 (i1 : ∀ w', Below w.heap.size w w' → Calls Tryz.prog 108 #[.slice A1 n1 c1, .int .i64 (-1)] w' fun e w2 => e = .returned (.string ⟨x1.toArray⟩) ∧ Below w'.heap.size w' w2)
 (i2 : ∀ w', Below w.heap.size w w' → Calls Tryz.prog 108 #[.slice A2 n2 c2, .int .i64 cursor] w' fun e w2 => e = .returned (.string ⟨x2.toArray⟩) ∧ Below w'.heap.size w' w2)
 (i3 : ∀ w', Below w.heap.size w w' → Calls Tryz.prog 108 #[.slice A3 n3 c3, .int .i64 (-1)] w' fun e w2 => e = .returned (.string ⟨x3.toArray⟩) ∧ Below w'.heap.size w' w2)
 (hx1 : x1.length ≤ 200000) (hx2 : x2.length ≤ 200000) (hx3 : x3.length ≤ 200000) :
 Calls Tryz.prog 66 #[.agg #[.bool true, .bool false, .slice A1 n1 c1, .slice A2 n2 c2, .slice A3 n3 c3, .int .i64 cursor]] w fun e w' => e = .returned (.string ⟨(Lib.join (putW (putW (putW (putW (putW (putW [] [94]) x1) [123]) x2) [125]) x3) [32]).toArray⟩) ∧ Below w.heap.size w w' := by
 have hs0 : WrittenAt w w.heap.size (w.heap.size + 1) w.heap.size #[.bool true, .bool false, .slice A1 n1 c1, .slice A2 n2 c2, .slice A3 n3 c3, .int .i64 cursor] [] ((w.alloc (.cells #[.bool true, .bool false, .slice A1 n1 c1, .slice A2 n2 c2, .slice A3 n3 c3, .int .i64 cursor] 96)).alloc (.cells #[.slice none 0 0] 108)) := by
  refine ⟨(Blk.new _ _ _).alloc _, ⟨.slice none 0 0, ?_, OwnT.nil _ _⟩, ((Below.refl _ _).alloc (Nat.le_refl _) _).alloc (by simp) _⟩
  have := Blk.new (w.alloc (.cells #[.bool true, .bool false, .slice A1 n1 c1, .slice A2 n2 c2, .slice A3 n3 c3, .int .i64 cursor] 96)) 108 #[.slice none 0 0]
  simpa using this
 have I1 := Lib.hid i1
 have I2 := Lib.hid i2
 have I3 := Lib.hid i3
 have S0 := Lib.hid hs0
 clear i1 i2 i3 hs0
 have HT0 := Lib.hid (show ∀ y ∈ ([] : List (List UInt8)), y.length ≤ 200000 by simp)
 go_enter Tryz.func66, Tryz.ntmps66
 go_wp2_with fail
 refine (written_put [94] S0.out (Nat.le_succ _) (Nat.le_refl _) (by omega) (by simp)).mono ?_
 rintro e u0 ⟨rfl, hs⟩
 have S1 := Lib.hid hs
 have HT1 := Lib.hid (putW_text _ [94] 200000 HT0.out (by decide))
 have hl1 : (putW [] [94]).length ≤ 1 := putW_len _ _
 generalize hW1 : putW [] [94] = W1 at *
 have HW1 := Lib.hid hW1
 clear hs hW1
 have d0_u0 : u0.cell? ⟨w.heap.size, 0, none⟩ = some (.bool true) := S1.out.1.cell 0
 have d1_u0 : u0.cell? ⟨w.heap.size, 1, none⟩ = some (.bool false) := S1.out.1.cell 1
 have d2_u0 : u0.cell? ⟨w.heap.size, 2, none⟩ = some (.slice A1 n1 c1) := S1.out.1.cell 2
 have d3_u0 : u0.cell? ⟨w.heap.size, 3, none⟩ = some (.slice A2 n2 c2) := S1.out.1.cell 3
 have d4_u0 : u0.cell? ⟨w.heap.size, 4, none⟩ = some (.slice A3 n3 c3) := S1.out.1.cell 4
 have d5_u0 : u0.cell? ⟨w.heap.size, 5, none⟩ = some (.int .i64 cursor) := S1.out.1.cell 5
 go_wp2_with fail
 refine (I1.out _ S1.out.2.2).mono ?_
 rintro e v1 ⟨rfl, hb⟩
 have R1 := Lib.hid (written_below S1.out hb (Nat.le_refl _))
 clear hb
 have d0_v1 : v1.cell? ⟨w.heap.size, 0, none⟩ = some (.bool true) := R1.out.1.cell 0
 have d1_v1 : v1.cell? ⟨w.heap.size, 1, none⟩ = some (.bool false) := R1.out.1.cell 1
 have d2_v1 : v1.cell? ⟨w.heap.size, 2, none⟩ = some (.slice A1 n1 c1) := R1.out.1.cell 2
 have d3_v1 : v1.cell? ⟨w.heap.size, 3, none⟩ = some (.slice A2 n2 c2) := R1.out.1.cell 3
 have d4_v1 : v1.cell? ⟨w.heap.size, 4, none⟩ = some (.slice A3 n3 c3) := R1.out.1.cell 4
 have d5_v1 : v1.cell? ⟨w.heap.size, 5, none⟩ = some (.int .i64 cursor) := R1.out.1.cell 5
 go_wp2_with fail
 refine (written_put x1 R1.out (Nat.le_succ _) (Nat.le_refl _) (by omega) (by omega)).mono ?_
 rintro e u1 ⟨rfl, hs⟩
 have S2 := Lib.hid hs
 have HT2 := Lib.hid (putW_text _ x1 200000 HT1.out hx1)
 have hl2 : (putW W1 x1).length ≤ W1.length + 1 := putW_len _ _
 generalize hW2 : putW W1 x1 = W2 at *
 have HW2 := Lib.hid hW2
 clear hs hW2
 have d0_u1 : u1.cell? ⟨w.heap.size, 0, none⟩ = some (.bool true) := S2.out.1.cell 0
 have d1_u1 : u1.cell? ⟨w.heap.size, 1, none⟩ = some (.bool false) := S2.out.1.cell 1
 have d2_u1 : u1.cell? ⟨w.heap.size, 2, none⟩ = some (.slice A1 n1 c1) := S2.out.1.cell 2
 have d3_u1 : u1.cell? ⟨w.heap.size, 3, none⟩ = some (.slice A2 n2 c2) := S2.out.1.cell 3
 have d4_u1 : u1.cell? ⟨w.heap.size, 4, none⟩ = some (.slice A3 n3 c3) := S2.out.1.cell 4
 have d5_u1 : u1.cell? ⟨w.heap.size, 5, none⟩ = some (.int .i64 cursor) := S2.out.1.cell 5
 go_wp2_with fail
 refine (written_put [123] S2.out (Nat.le_succ _) (Nat.le_refl _) (by omega) (by omega)).mono ?_
 rintro e u2 ⟨rfl, hs⟩
 have S3 := Lib.hid hs
 have HT3 := Lib.hid (putW_text _ [123] 200000 HT2.out (by decide))
 have hl3 : (putW W2 [123]).length ≤ W2.length + 1 := putW_len _ _
 generalize hW3 : putW W2 [123] = W3 at *
 have HW3 := Lib.hid hW3
 clear hs hW3
 have d0_u2 : u2.cell? ⟨w.heap.size, 0, none⟩ = some (.bool true) := S3.out.1.cell 0
 have d1_u2 : u2.cell? ⟨w.heap.size, 1, none⟩ = some (.bool false) := S3.out.1.cell 1
 have d2_u2 : u2.cell? ⟨w.heap.size, 2, none⟩ = some (.slice A1 n1 c1) := S3.out.1.cell 2
 have d3_u2 : u2.cell? ⟨w.heap.size, 3, none⟩ = some (.slice A2 n2 c2) := S3.out.1.cell 3
 have d4_u2 : u2.cell? ⟨w.heap.size, 4, none⟩ = some (.slice A3 n3 c3) := S3.out.1.cell 4
 have d5_u2 : u2.cell? ⟨w.heap.size, 5, none⟩ = some (.int .i64 cursor) := S3.out.1.cell 5
 go_wp2_with fail
 refine (I2.out _ S3.out.2.2).mono ?_
 rintro e v3 ⟨rfl, hb⟩
 have R3 := Lib.hid (written_below S3.out hb (Nat.le_refl _))
 clear hb
 have d0_v3 : v3.cell? ⟨w.heap.size, 0, none⟩ = some (.bool true) := R3.out.1.cell 0
 have d1_v3 : v3.cell? ⟨w.heap.size, 1, none⟩ = some (.bool false) := R3.out.1.cell 1
 have d2_v3 : v3.cell? ⟨w.heap.size, 2, none⟩ = some (.slice A1 n1 c1) := R3.out.1.cell 2
 have d3_v3 : v3.cell? ⟨w.heap.size, 3, none⟩ = some (.slice A2 n2 c2) := R3.out.1.cell 3
 have d4_v3 : v3.cell? ⟨w.heap.size, 4, none⟩ = some (.slice A3 n3 c3) := R3.out.1.cell 4
 have d5_v3 : v3.cell? ⟨w.heap.size, 5, none⟩ = some (.int .i64 cursor) := R3.out.1.cell 5
 go_wp2_with fail
 refine (written_put x2 R3.out (Nat.le_succ _) (Nat.le_refl _) (by omega) (by omega)).mono ?_
 rintro e u3 ⟨rfl, hs⟩
 have S4 := Lib.hid hs
 have HT4 := Lib.hid (putW_text _ x2 200000 HT3.out hx2)
 have hl4 : (putW W3 x2).length ≤ W3.length + 1 := putW_len _ _
 generalize hW4 : putW W3 x2 = W4 at *
 have HW4 := Lib.hid hW4
 clear hs hW4
 have d0_u3 : u3.cell? ⟨w.heap.size, 0, none⟩ = some (.bool true) := S4.out.1.cell 0
 have d1_u3 : u3.cell? ⟨w.heap.size, 1, none⟩ = some (.bool false) := S4.out.1.cell 1
 have d2_u3 : u3.cell? ⟨w.heap.size, 2, none⟩ = some (.slice A1 n1 c1) := S4.out.1.cell 2
 have d3_u3 : u3.cell? ⟨w.heap.size, 3, none⟩ = some (.slice A2 n2 c2) := S4.out.1.cell 3
 have d4_u3 : u3.cell? ⟨w.heap.size, 4, none⟩ = some (.slice A3 n3 c3) := S4.out.1.cell 4
 have d5_u3 : u3.cell? ⟨w.heap.size, 5, none⟩ = some (.int .i64 cursor) := S4.out.1.cell 5
 go_wp2_with fail
 refine (written_put [125] S4.out (Nat.le_succ _) (Nat.le_refl _) (by omega) (by omega)).mono ?_
 rintro e u4 ⟨rfl, hs⟩
 have S5 := Lib.hid hs
 have HT5 := Lib.hid (putW_text _ [125] 200000 HT4.out (by decide))
 have hl5 : (putW W4 [125]).length ≤ W4.length + 1 := putW_len _ _
 generalize hW5 : putW W4 [125] = W5 at *
 have HW5 := Lib.hid hW5
 clear hs hW5
 have d0_u4 : u4.cell? ⟨w.heap.size, 0, none⟩ = some (.bool true) := S5.out.1.cell 0
 have d1_u4 : u4.cell? ⟨w.heap.size, 1, none⟩ = some (.bool false) := S5.out.1.cell 1
 have d2_u4 : u4.cell? ⟨w.heap.size, 2, none⟩ = some (.slice A1 n1 c1) := S5.out.1.cell 2
 have d3_u4 : u4.cell? ⟨w.heap.size, 3, none⟩ = some (.slice A2 n2 c2) := S5.out.1.cell 3
 have d4_u4 : u4.cell? ⟨w.heap.size, 4, none⟩ = some (.slice A3 n3 c3) := S5.out.1.cell 4
 have d5_u4 : u4.cell? ⟨w.heap.size, 5, none⟩ = some (.int .i64 cursor) := S5.out.1.cell 5
 go_wp2_with fail
 refine (I3.out _ S5.out.2.2).mono ?_
 rintro e v5 ⟨rfl, hb⟩
 have R5 := Lib.hid (written_below S5.out hb (Nat.le_refl _))
 clear hb
 have d0_v5 : v5.cell? ⟨w.heap.size, 0, none⟩ = some (.bool true) := R5.out.1.cell 0
 have d1_v5 : v5.cell? ⟨w.heap.size, 1, none⟩ = some (.bool false) := R5.out.1.cell 1
 have d2_v5 : v5.cell? ⟨w.heap.size, 2, none⟩ = some (.slice A1 n1 c1) := R5.out.1.cell 2
 have d3_v5 : v5.cell? ⟨w.heap.size, 3, none⟩ = some (.slice A2 n2 c2) := R5.out.1.cell 3
 have d4_v5 : v5.cell? ⟨w.heap.size, 4, none⟩ = some (.slice A3 n3 c3) := R5.out.1.cell 4
 have d5_v5 : v5.cell? ⟨w.heap.size, 5, none⟩ = some (.int .i64 cursor) := R5.out.1.cell 5
 go_wp2_with fail
 refine (written_put x3 R5.out (Nat.le_succ _) (Nat.le_refl _) (by omega) (by omega)).mono ?_
 rintro e u5 ⟨rfl, hs⟩
 have S6 := Lib.hid hs
 have HT6 := Lib.hid (putW_text _ x3 200000 HT5.out hx3)
 have hl6 : (putW W5 x3).length ≤ W5.length + 1 := putW_len _ _
 generalize hW6 : putW W5 x3 = W6 at *
 have HW6 := Lib.hid hW6
 clear hs hW6
 have d0_u5 : u5.cell? ⟨w.heap.size, 0, none⟩ = some (.bool true) := S6.out.1.cell 0
 have d1_u5 : u5.cell? ⟨w.heap.size, 1, none⟩ = some (.bool false) := S6.out.1.cell 1
 have d2_u5 : u5.cell? ⟨w.heap.size, 2, none⟩ = some (.slice A1 n1 c1) := S6.out.1.cell 2
 have d3_u5 : u5.cell? ⟨w.heap.size, 3, none⟩ = some (.slice A2 n2 c2) := S6.out.1.cell 3
 have d4_u5 : u5.cell? ⟨w.heap.size, 4, none⟩ = some (.slice A3 n3 c3) := S6.out.1.cell 4
 have d5_u5 : u5.cell? ⟨w.heap.size, 5, none⟩ = some (.int .i64 cursor) := S6.out.1.cell 5
 obtain ⟨_, ⟨v, hv, ho⟩, hbl⟩ := S6.out
 obtain ⟨A, c, rfl, _⟩ := own_form ho
 have g0 : u5.cell? ⟨w.heap.size + 1, 0, none⟩ = some _ := hv.cell 0
 have HC := Lib.hid (join_owned A _ c _ _ u5 ho rfl (by omega) (Nat.le_trans (join_len _ 200000 HT6.out) (Nat.le_trans (Nat.mul_le_mul_right _ (show W6.length ≤ 20 by omega)) (by decide))))
 have HBL := Lib.hid hbl
 clear hv ho hbl
 go_wp2_with fail
 refine HC.out.mono ?_
 rintro e w9 ⟨rfl, hb⟩
 have hb9 := HBL.out.trans (hb.mono HBL.out.size)
 clear hb
 go_wp2_with fail
 go_ret
 rw [HW1.out, HW2.out, HW3.out, HW4.out, HW5.out, HW6.out]
 exact ⟨rfl, hb9⟩
set_option maxRecDepth 100000 in
set_option maxHeartbeats 3200000 in
theorem written_sn (A1 A2 A3 : Option Addr) (n1 n2 c1 c2 c3 : Nat) (cursor : Int) (x1 x2 x3 : List UInt8) (w : World)
 (i1 : ∀ w', Below w.heap.size w w' → Calls Tryz.prog 108 #[.slice A1 n1 c1, .int .i64 (-1)] w' fun e w2 => e = .returned (.string ⟨x1.toArray⟩) ∧ Below w'.heap.size w' w2)
 (i2 : ∀ w', Below w.heap.size w w' → Calls Tryz.prog 108 #[.slice A2 n2 c2, .int .i64 cursor] w' fun e w2 => e = .returned (.string ⟨x2.toArray⟩) ∧ Below w'.heap.size w' w2)
 (i3 : ∀ w', Below w.heap.size w w' → Calls Tryz.prog 108 #[.slice A3 0 c3, .int .i64 (-1)] w' fun e w2 => e = .returned (.string ⟨x3.toArray⟩) ∧ Below w'.heap.size w' w2)
 (hx1 : x1.length ≤ 200000) (hx2 : x2.length ≤ 200000) (hx3 : x3.length ≤ 200000) :
 Calls Tryz.prog 66 #[.agg #[.bool true, .bool false, .slice A1 n1 c1, .slice A2 n2 c2, .slice A3 0 c3, .int .i64 cursor]] w fun e w' => e = .returned (.string ⟨(Lib.join (putW (putW (putW (putW (putW [] [94]) x1) [123]) x2) x3) [32]).toArray⟩) ∧ Below w.heap.size w w' := by
 have hs0 : WrittenAt w w.heap.size (w.heap.size + 1) w.heap.size #[.bool true, .bool false, .slice A1 n1 c1, .slice A2 n2 c2, .slice A3 0 c3, .int .i64 cursor] [] ((w.alloc (.cells #[.bool true, .bool false, .slice A1 n1 c1, .slice A2 n2 c2, .slice A3 0 c3, .int .i64 cursor] 96)).alloc (.cells #[.slice none 0 0] 108)) := by
  refine ⟨(Blk.new _ _ _).alloc _, ⟨.slice none 0 0, ?_, OwnT.nil _ _⟩, ((Below.refl _ _).alloc (Nat.le_refl _) _).alloc (by simp) _⟩
  have := Blk.new (w.alloc (.cells #[.bool true, .bool false, .slice A1 n1 c1, .slice A2 n2 c2, .slice A3 0 c3, .int .i64 cursor] 96)) 108 #[.slice none 0 0]
  simpa using this
 have I1 := Lib.hid i1
 have I2 := Lib.hid i2
 have I3 := Lib.hid i3
 have S0 := Lib.hid hs0
 clear i1 i2 i3 hs0
 have HT0 := Lib.hid (show ∀ y ∈ ([] : List (List UInt8)), y.length ≤ 200000 by simp)
 go_enter Tryz.func66, Tryz.ntmps66
 go_wp2_with fail
 refine (written_put [94] S0.out (Nat.le_succ _) (Nat.le_refl _) (by omega) (by simp)).mono ?_
 rintro e u0 ⟨rfl, hs⟩
 have S1 := Lib.hid hs
 have HT1 := Lib.hid (putW_text _ [94] 200000 HT0.out (by decide))
 have hl1 : (putW [] [94]).length ≤ 1 := putW_len _ _
 generalize hW1 : putW [] [94] = W1 at *
 have HW1 := Lib.hid hW1
 clear hs hW1
 have d0_u0 : u0.cell? ⟨w.heap.size, 0, none⟩ = some (.bool true) := S1.out.1.cell 0
 have d1_u0 : u0.cell? ⟨w.heap.size, 1, none⟩ = some (.bool false) := S1.out.1.cell 1
 have d2_u0 : u0.cell? ⟨w.heap.size, 2, none⟩ = some (.slice A1 n1 c1) := S1.out.1.cell 2
 have d3_u0 : u0.cell? ⟨w.heap.size, 3, none⟩ = some (.slice A2 n2 c2) := S1.out.1.cell 3
 have d4_u0 : u0.cell? ⟨w.heap.size, 4, none⟩ = some (.slice A3 0 c3) := S1.out.1.cell 4
 have d5_u0 : u0.cell? ⟨w.heap.size, 5, none⟩ = some (.int .i64 cursor) := S1.out.1.cell 5
 go_wp2_with fail
 refine (I1.out _ S1.out.2.2).mono ?_
 rintro e v1 ⟨rfl, hb⟩
 have R1 := Lib.hid (written_below S1.out hb (Nat.le_refl _))
 clear hb
 have d0_v1 : v1.cell? ⟨w.heap.size, 0, none⟩ = some (.bool true) := R1.out.1.cell 0
 have d1_v1 : v1.cell? ⟨w.heap.size, 1, none⟩ = some (.bool false) := R1.out.1.cell 1
 have d2_v1 : v1.cell? ⟨w.heap.size, 2, none⟩ = some (.slice A1 n1 c1) := R1.out.1.cell 2
 have d3_v1 : v1.cell? ⟨w.heap.size, 3, none⟩ = some (.slice A2 n2 c2) := R1.out.1.cell 3
 have d4_v1 : v1.cell? ⟨w.heap.size, 4, none⟩ = some (.slice A3 0 c3) := R1.out.1.cell 4
 have d5_v1 : v1.cell? ⟨w.heap.size, 5, none⟩ = some (.int .i64 cursor) := R1.out.1.cell 5
 go_wp2_with fail
 refine (written_put x1 R1.out (Nat.le_succ _) (Nat.le_refl _) (by omega) (by omega)).mono ?_
 rintro e u1 ⟨rfl, hs⟩
 have S2 := Lib.hid hs
 have HT2 := Lib.hid (putW_text _ x1 200000 HT1.out hx1)
 have hl2 : (putW W1 x1).length ≤ W1.length + 1 := putW_len _ _
 generalize hW2 : putW W1 x1 = W2 at *
 have HW2 := Lib.hid hW2
 clear hs hW2
 have d0_u1 : u1.cell? ⟨w.heap.size, 0, none⟩ = some (.bool true) := S2.out.1.cell 0
 have d1_u1 : u1.cell? ⟨w.heap.size, 1, none⟩ = some (.bool false) := S2.out.1.cell 1
 have d2_u1 : u1.cell? ⟨w.heap.size, 2, none⟩ = some (.slice A1 n1 c1) := S2.out.1.cell 2
 have d3_u1 : u1.cell? ⟨w.heap.size, 3, none⟩ = some (.slice A2 n2 c2) := S2.out.1.cell 3
 have d4_u1 : u1.cell? ⟨w.heap.size, 4, none⟩ = some (.slice A3 0 c3) := S2.out.1.cell 4
 have d5_u1 : u1.cell? ⟨w.heap.size, 5, none⟩ = some (.int .i64 cursor) := S2.out.1.cell 5
 go_wp2_with fail
 refine (written_put [123] S2.out (Nat.le_succ _) (Nat.le_refl _) (by omega) (by omega)).mono ?_
 rintro e u2 ⟨rfl, hs⟩
 have S3 := Lib.hid hs
 have HT3 := Lib.hid (putW_text _ [123] 200000 HT2.out (by decide))
 have hl3 : (putW W2 [123]).length ≤ W2.length + 1 := putW_len _ _
 generalize hW3 : putW W2 [123] = W3 at *
 have HW3 := Lib.hid hW3
 clear hs hW3
 have d0_u2 : u2.cell? ⟨w.heap.size, 0, none⟩ = some (.bool true) := S3.out.1.cell 0
 have d1_u2 : u2.cell? ⟨w.heap.size, 1, none⟩ = some (.bool false) := S3.out.1.cell 1
 have d2_u2 : u2.cell? ⟨w.heap.size, 2, none⟩ = some (.slice A1 n1 c1) := S3.out.1.cell 2
 have d3_u2 : u2.cell? ⟨w.heap.size, 3, none⟩ = some (.slice A2 n2 c2) := S3.out.1.cell 3
 have d4_u2 : u2.cell? ⟨w.heap.size, 4, none⟩ = some (.slice A3 0 c3) := S3.out.1.cell 4
 have d5_u2 : u2.cell? ⟨w.heap.size, 5, none⟩ = some (.int .i64 cursor) := S3.out.1.cell 5
 go_wp2_with fail
 refine (I2.out _ S3.out.2.2).mono ?_
 rintro e v3 ⟨rfl, hb⟩
 have R3 := Lib.hid (written_below S3.out hb (Nat.le_refl _))
 clear hb
 have d0_v3 : v3.cell? ⟨w.heap.size, 0, none⟩ = some (.bool true) := R3.out.1.cell 0
 have d1_v3 : v3.cell? ⟨w.heap.size, 1, none⟩ = some (.bool false) := R3.out.1.cell 1
 have d2_v3 : v3.cell? ⟨w.heap.size, 2, none⟩ = some (.slice A1 n1 c1) := R3.out.1.cell 2
 have d3_v3 : v3.cell? ⟨w.heap.size, 3, none⟩ = some (.slice A2 n2 c2) := R3.out.1.cell 3
 have d4_v3 : v3.cell? ⟨w.heap.size, 4, none⟩ = some (.slice A3 0 c3) := R3.out.1.cell 4
 have d5_v3 : v3.cell? ⟨w.heap.size, 5, none⟩ = some (.int .i64 cursor) := R3.out.1.cell 5
 go_wp2_with fail
 refine (written_put x2 R3.out (Nat.le_succ _) (Nat.le_refl _) (by omega) (by omega)).mono ?_
 rintro e u3 ⟨rfl, hs⟩
 have S4 := Lib.hid hs
 have HT4 := Lib.hid (putW_text _ x2 200000 HT3.out hx2)
 have hl4 : (putW W3 x2).length ≤ W3.length + 1 := putW_len _ _
 generalize hW4 : putW W3 x2 = W4 at *
 have HW4 := Lib.hid hW4
 clear hs hW4
 have d0_u3 : u3.cell? ⟨w.heap.size, 0, none⟩ = some (.bool true) := S4.out.1.cell 0
 have d1_u3 : u3.cell? ⟨w.heap.size, 1, none⟩ = some (.bool false) := S4.out.1.cell 1
 have d2_u3 : u3.cell? ⟨w.heap.size, 2, none⟩ = some (.slice A1 n1 c1) := S4.out.1.cell 2
 have d3_u3 : u3.cell? ⟨w.heap.size, 3, none⟩ = some (.slice A2 n2 c2) := S4.out.1.cell 3
 have d4_u3 : u3.cell? ⟨w.heap.size, 4, none⟩ = some (.slice A3 0 c3) := S4.out.1.cell 4
 have d5_u3 : u3.cell? ⟨w.heap.size, 5, none⟩ = some (.int .i64 cursor) := S4.out.1.cell 5
 go_wp2_with fail
 refine (I3.out _ S4.out.2.2).mono ?_
 rintro e v4 ⟨rfl, hb⟩
 have R4 := Lib.hid (written_below S4.out hb (Nat.le_refl _))
 clear hb
 have d0_v4 : v4.cell? ⟨w.heap.size, 0, none⟩ = some (.bool true) := R4.out.1.cell 0
 have d1_v4 : v4.cell? ⟨w.heap.size, 1, none⟩ = some (.bool false) := R4.out.1.cell 1
 have d2_v4 : v4.cell? ⟨w.heap.size, 2, none⟩ = some (.slice A1 n1 c1) := R4.out.1.cell 2
 have d3_v4 : v4.cell? ⟨w.heap.size, 3, none⟩ = some (.slice A2 n2 c2) := R4.out.1.cell 3
 have d4_v4 : v4.cell? ⟨w.heap.size, 4, none⟩ = some (.slice A3 0 c3) := R4.out.1.cell 4
 have d5_v4 : v4.cell? ⟨w.heap.size, 5, none⟩ = some (.int .i64 cursor) := R4.out.1.cell 5
 go_wp2_with fail
 refine (written_put x3 R4.out (Nat.le_succ _) (Nat.le_refl _) (by omega) (by omega)).mono ?_
 rintro e u4 ⟨rfl, hs⟩
 have S5 := Lib.hid hs
 have HT5 := Lib.hid (putW_text _ x3 200000 HT4.out hx3)
 have hl5 : (putW W4 x3).length ≤ W4.length + 1 := putW_len _ _
 generalize hW5 : putW W4 x3 = W5 at *
 have HW5 := Lib.hid hW5
 clear hs hW5
 have d0_u4 : u4.cell? ⟨w.heap.size, 0, none⟩ = some (.bool true) := S5.out.1.cell 0
 have d1_u4 : u4.cell? ⟨w.heap.size, 1, none⟩ = some (.bool false) := S5.out.1.cell 1
 have d2_u4 : u4.cell? ⟨w.heap.size, 2, none⟩ = some (.slice A1 n1 c1) := S5.out.1.cell 2
 have d3_u4 : u4.cell? ⟨w.heap.size, 3, none⟩ = some (.slice A2 n2 c2) := S5.out.1.cell 3
 have d4_u4 : u4.cell? ⟨w.heap.size, 4, none⟩ = some (.slice A3 0 c3) := S5.out.1.cell 4
 have d5_u4 : u4.cell? ⟨w.heap.size, 5, none⟩ = some (.int .i64 cursor) := S5.out.1.cell 5
 obtain ⟨_, ⟨v, hv, ho⟩, hbl⟩ := S5.out
 obtain ⟨A, c, rfl, _⟩ := own_form ho
 have g0 : u4.cell? ⟨w.heap.size + 1, 0, none⟩ = some _ := hv.cell 0
 have HC := Lib.hid (join_owned A _ c _ _ u4 ho rfl (by omega) (Nat.le_trans (join_len _ 200000 HT5.out) (Nat.le_trans (Nat.mul_le_mul_right _ (show W5.length ≤ 20 by omega)) (by decide))))
 have HBL := Lib.hid hbl
 clear hv ho hbl
 go_wp2_with fail
 refine HC.out.mono ?_
 rintro e w9 ⟨rfl, hb⟩
 have hb9 := HBL.out.trans (hb.mono HBL.out.size)
 clear hb
 go_wp2_with fail
 go_ret
 rw [HW1.out, HW2.out, HW3.out, HW4.out, HW5.out]
 exact ⟨rfl, hb9⟩
end Go.Proofs.YthnhbcohfoodlaaGreatDoor
