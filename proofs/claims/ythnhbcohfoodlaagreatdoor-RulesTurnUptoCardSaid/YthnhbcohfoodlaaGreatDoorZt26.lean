/- WrittenN + SideText -/
import Derived.Test.YthnhbcohfoodlaaGreatDoorZt22
import Derived.Test.YthnhbcohfoodlaaGreatDoorZt23
import Derived.Test.YthnhbcohfoodlaaGreatDoorZt24
import Derived.Test.YthnhbcohfoodlaaGreatDoorZt25
namespace Go.Proofs.YthnhbcohfoodlaaGreatDoor
open Go.RowKit Go.Shelf
set_option maxRecDepth 100000 in
set_option maxHeartbeats 3200000 in
theorem written_ns (A1 A2 A3 : Option Addr) (n2 n3 c1 c2 c3 : Nat) (cursor : Int) (x1 x2 x3 : List UInt8) (w : World)
 (i1 : ∀ w', Below w.heap.size w w' → Calls Tryz.prog 108 #[.slice A1 0 c1, .int .i64 (-1)] w' fun e w2 => e = .returned (.string ⟨x1.toArray⟩) ∧ Below w'.heap.size w' w2)
 (i2 : ∀ w', Below w.heap.size w w' → Calls Tryz.prog 108 #[.slice A2 n2 c2, .int .i64 cursor] w' fun e w2 => e = .returned (.string ⟨x2.toArray⟩) ∧ Below w'.heap.size w' w2)
 (i3 : ∀ w', Below w.heap.size w w' → Calls Tryz.prog 108 #[.slice A3 n3 c3, .int .i64 (-1)] w' fun e w2 => e = .returned (.string ⟨x3.toArray⟩) ∧ Below w'.heap.size w' w2)
 (hx1 : x1.length ≤ 200000) (hx2 : x2.length ≤ 200000) (hx3 : x3.length ≤ 200000) :
 Calls Tryz.prog 66 #[.agg #[.bool false, .bool true, .slice A1 0 c1, .slice A2 n2 c2, .slice A3 n3 c3, .int .i64 cursor]] w fun e w' => e = .returned (.string ⟨(Lib.join (putW (putW (putW (putW (putW [] x1) x2) [125]) x3) [36]) [32]).toArray⟩) ∧ Below w.heap.size w w' := by
 have hs0 : WrittenAt w w.heap.size (w.heap.size + 1) w.heap.size #[.bool false, .bool true, .slice A1 0 c1, .slice A2 n2 c2, .slice A3 n3 c3, .int .i64 cursor] [] ((w.alloc (.cells #[.bool false, .bool true, .slice A1 0 c1, .slice A2 n2 c2, .slice A3 n3 c3, .int .i64 cursor] 96)).alloc (.cells #[.slice none 0 0] 108)) := by
  refine ⟨(Blk.new _ _ _).alloc _, ⟨.slice none 0 0, ?_, OwnT.nil _ _⟩, ((Below.refl _ _).alloc (Nat.le_refl _) _).alloc (by simp) _⟩
  have := Blk.new (w.alloc (.cells #[.bool false, .bool true, .slice A1 0 c1, .slice A2 n2 c2, .slice A3 n3 c3, .int .i64 cursor] 96)) 108 #[.slice none 0 0]
  simpa using this
 have I1 := Lib.hid i1
 have I2 := Lib.hid i2
 have I3 := Lib.hid i3
 have S0 := Lib.hid hs0
 clear i1 i2 i3 hs0
 have HT0 := Lib.hid (show ∀ y ∈ ([] : List (List UInt8)), y.length ≤ 200000 by simp)
 go_enter Tryz.func66, Tryz.ntmps66
 go_wp2_with fail
 refine (I1.out _ S0.out.2.2).mono ?_
 rintro e v0 ⟨rfl, hb⟩
 have R0 := Lib.hid (written_below S0.out hb (Nat.le_refl _))
 clear hb
 have d0_v0 : v0.cell? ⟨w.heap.size, 0, none⟩ = some (.bool false) := R0.out.1.cell 0
 have d1_v0 : v0.cell? ⟨w.heap.size, 1, none⟩ = some (.bool true) := R0.out.1.cell 1
 have d2_v0 : v0.cell? ⟨w.heap.size, 2, none⟩ = some (.slice A1 0 c1) := R0.out.1.cell 2
 have d3_v0 : v0.cell? ⟨w.heap.size, 3, none⟩ = some (.slice A2 n2 c2) := R0.out.1.cell 3
 have d4_v0 : v0.cell? ⟨w.heap.size, 4, none⟩ = some (.slice A3 n3 c3) := R0.out.1.cell 4
 have d5_v0 : v0.cell? ⟨w.heap.size, 5, none⟩ = some (.int .i64 cursor) := R0.out.1.cell 5
 go_wp2_with fail
 refine (written_put x1 R0.out (Nat.le_succ _) (Nat.le_refl _) (by omega) (by simp)).mono ?_
 rintro e u0 ⟨rfl, hs⟩
 have S1 := Lib.hid hs
 have HT1 := Lib.hid (putW_text _ x1 200000 HT0.out hx1)
 have hl1 : (putW [] x1).length ≤ 1 := putW_len _ _
 generalize hW1 : putW [] x1 = W1 at *
 have HW1 := Lib.hid hW1
 clear hs hW1
 have d0_u0 : u0.cell? ⟨w.heap.size, 0, none⟩ = some (.bool false) := S1.out.1.cell 0
 have d1_u0 : u0.cell? ⟨w.heap.size, 1, none⟩ = some (.bool true) := S1.out.1.cell 1
 have d2_u0 : u0.cell? ⟨w.heap.size, 2, none⟩ = some (.slice A1 0 c1) := S1.out.1.cell 2
 have d3_u0 : u0.cell? ⟨w.heap.size, 3, none⟩ = some (.slice A2 n2 c2) := S1.out.1.cell 3
 have d4_u0 : u0.cell? ⟨w.heap.size, 4, none⟩ = some (.slice A3 n3 c3) := S1.out.1.cell 4
 have d5_u0 : u0.cell? ⟨w.heap.size, 5, none⟩ = some (.int .i64 cursor) := S1.out.1.cell 5
 go_wp2_with fail
 refine (I2.out _ S1.out.2.2).mono ?_
 rintro e v1 ⟨rfl, hb⟩
 have R1 := Lib.hid (written_below S1.out hb (Nat.le_refl _))
 clear hb
 have d0_v1 : v1.cell? ⟨w.heap.size, 0, none⟩ = some (.bool false) := R1.out.1.cell 0
 have d1_v1 : v1.cell? ⟨w.heap.size, 1, none⟩ = some (.bool true) := R1.out.1.cell 1
 have d2_v1 : v1.cell? ⟨w.heap.size, 2, none⟩ = some (.slice A1 0 c1) := R1.out.1.cell 2
 have d3_v1 : v1.cell? ⟨w.heap.size, 3, none⟩ = some (.slice A2 n2 c2) := R1.out.1.cell 3
 have d4_v1 : v1.cell? ⟨w.heap.size, 4, none⟩ = some (.slice A3 n3 c3) := R1.out.1.cell 4
 have d5_v1 : v1.cell? ⟨w.heap.size, 5, none⟩ = some (.int .i64 cursor) := R1.out.1.cell 5
 go_wp2_with fail
 refine (written_put x2 R1.out (Nat.le_succ _) (Nat.le_refl _) (by omega) (by omega)).mono ?_
 rintro e u1 ⟨rfl, hs⟩
 have S2 := Lib.hid hs
 have HT2 := Lib.hid (putW_text _ x2 200000 HT1.out hx2)
 have hl2 : (putW W1 x2).length ≤ W1.length + 1 := putW_len _ _
 generalize hW2 : putW W1 x2 = W2 at *
 have HW2 := Lib.hid hW2
 clear hs hW2
 have d0_u1 : u1.cell? ⟨w.heap.size, 0, none⟩ = some (.bool false) := S2.out.1.cell 0
 have d1_u1 : u1.cell? ⟨w.heap.size, 1, none⟩ = some (.bool true) := S2.out.1.cell 1
 have d2_u1 : u1.cell? ⟨w.heap.size, 2, none⟩ = some (.slice A1 0 c1) := S2.out.1.cell 2
 have d3_u1 : u1.cell? ⟨w.heap.size, 3, none⟩ = some (.slice A2 n2 c2) := S2.out.1.cell 3
 have d4_u1 : u1.cell? ⟨w.heap.size, 4, none⟩ = some (.slice A3 n3 c3) := S2.out.1.cell 4
 have d5_u1 : u1.cell? ⟨w.heap.size, 5, none⟩ = some (.int .i64 cursor) := S2.out.1.cell 5
 go_wp2_with fail
 refine (written_put [125] S2.out (Nat.le_succ _) (Nat.le_refl _) (by omega) (by omega)).mono ?_
 rintro e u2 ⟨rfl, hs⟩
 have S3 := Lib.hid hs
 have HT3 := Lib.hid (putW_text _ [125] 200000 HT2.out (by decide))
 have hl3 : (putW W2 [125]).length ≤ W2.length + 1 := putW_len _ _
 generalize hW3 : putW W2 [125] = W3 at *
 have HW3 := Lib.hid hW3
 clear hs hW3
 have d0_u2 : u2.cell? ⟨w.heap.size, 0, none⟩ = some (.bool false) := S3.out.1.cell 0
 have d1_u2 : u2.cell? ⟨w.heap.size, 1, none⟩ = some (.bool true) := S3.out.1.cell 1
 have d2_u2 : u2.cell? ⟨w.heap.size, 2, none⟩ = some (.slice A1 0 c1) := S3.out.1.cell 2
 have d3_u2 : u2.cell? ⟨w.heap.size, 3, none⟩ = some (.slice A2 n2 c2) := S3.out.1.cell 3
 have d4_u2 : u2.cell? ⟨w.heap.size, 4, none⟩ = some (.slice A3 n3 c3) := S3.out.1.cell 4
 have d5_u2 : u2.cell? ⟨w.heap.size, 5, none⟩ = some (.int .i64 cursor) := S3.out.1.cell 5
 go_wp2_with fail
 refine (I3.out _ S3.out.2.2).mono ?_
 rintro e v3 ⟨rfl, hb⟩
 have R3 := Lib.hid (written_below S3.out hb (Nat.le_refl _))
 clear hb
 have d0_v3 : v3.cell? ⟨w.heap.size, 0, none⟩ = some (.bool false) := R3.out.1.cell 0
 have d1_v3 : v3.cell? ⟨w.heap.size, 1, none⟩ = some (.bool true) := R3.out.1.cell 1
 have d2_v3 : v3.cell? ⟨w.heap.size, 2, none⟩ = some (.slice A1 0 c1) := R3.out.1.cell 2
 have d3_v3 : v3.cell? ⟨w.heap.size, 3, none⟩ = some (.slice A2 n2 c2) := R3.out.1.cell 3
 have d4_v3 : v3.cell? ⟨w.heap.size, 4, none⟩ = some (.slice A3 n3 c3) := R3.out.1.cell 4
 have d5_v3 : v3.cell? ⟨w.heap.size, 5, none⟩ = some (.int .i64 cursor) := R3.out.1.cell 5
 go_wp2_with fail
 refine (written_put x3 R3.out (Nat.le_succ _) (Nat.le_refl _) (by omega) (by omega)).mono ?_
 rintro e u3 ⟨rfl, hs⟩
 have S4 := Lib.hid hs
 have HT4 := Lib.hid (putW_text _ x3 200000 HT3.out hx3)
 have hl4 : (putW W3 x3).length ≤ W3.length + 1 := putW_len _ _
 generalize hW4 : putW W3 x3 = W4 at *
 have HW4 := Lib.hid hW4
 clear hs hW4
 have d0_u3 : u3.cell? ⟨w.heap.size, 0, none⟩ = some (.bool false) := S4.out.1.cell 0
 have d1_u3 : u3.cell? ⟨w.heap.size, 1, none⟩ = some (.bool true) := S4.out.1.cell 1
 have d2_u3 : u3.cell? ⟨w.heap.size, 2, none⟩ = some (.slice A1 0 c1) := S4.out.1.cell 2
 have d3_u3 : u3.cell? ⟨w.heap.size, 3, none⟩ = some (.slice A2 n2 c2) := S4.out.1.cell 3
 have d4_u3 : u3.cell? ⟨w.heap.size, 4, none⟩ = some (.slice A3 n3 c3) := S4.out.1.cell 4
 have d5_u3 : u3.cell? ⟨w.heap.size, 5, none⟩ = some (.int .i64 cursor) := S4.out.1.cell 5
 go_wp2_with fail
 refine (written_put [36] S4.out (Nat.le_succ _) (Nat.le_refl _) (by omega) (by omega)).mono ?_
 rintro e u4 ⟨rfl, hs⟩
 have S5 := Lib.hid hs
 have HT5 := Lib.hid (putW_text _ [36] 200000 HT4.out (by decide))
 have hl5 : (putW W4 [36]).length ≤ W4.length + 1 := putW_len _ _
 generalize hW5 : putW W4 [36] = W5 at *
 have HW5 := Lib.hid hW5
 clear hs hW5
 have d0_u4 : u4.cell? ⟨w.heap.size, 0, none⟩ = some (.bool false) := S5.out.1.cell 0
 have d1_u4 : u4.cell? ⟨w.heap.size, 1, none⟩ = some (.bool true) := S5.out.1.cell 1
 have d2_u4 : u4.cell? ⟨w.heap.size, 2, none⟩ = some (.slice A1 0 c1) := S5.out.1.cell 2
 have d3_u4 : u4.cell? ⟨w.heap.size, 3, none⟩ = some (.slice A2 n2 c2) := S5.out.1.cell 3
 have d4_u4 : u4.cell? ⟨w.heap.size, 4, none⟩ = some (.slice A3 n3 c3) := S5.out.1.cell 4
 have d5_u4 : u4.cell? ⟨w.heap.size, 5, none⟩ = some (.int .i64 cursor) := S5.out.1.cell 5
 obtain ⟨_, ⟨v, hv, ho⟩, hbl⟩ := S5.out
 obtain ⟨A, c, rfl, _⟩ := own_form ho
 have g0 : u4.cell? ⟨w.heap.size + 1, 0, none⟩ = some _ := hv.cell 0
 have HC := Lib.hid (join_owned A _ c _ _ u4 ho rfl (by omega) (Nat.le_trans (join_len _ 200000 HT5.out) (Nat.le_trans (Nat.mul_le_mul_right _ (show W5.length ≤ 20 by omega)) (by decide))))
 have HBL := Lib.hid hbl
 clear hv ho hbl
 go_wp2_with fail
 refine HC.out.mono ?_
 rintro e w9 ⟨rfl, hb⟩
 have hb9 := HBL.out.trans (hb.mono HBL.out.size)
 clear hb
 go_wp2_with fail
 go_ret
 rw [HW1.out, HW2.out, HW3.out, HW4.out, HW5.out]
 exact ⟨rfl, hb9⟩
set_option maxRecDepth 100000 in
set_option maxHeartbeats 3200000 in
theorem written_nb (A1 A2 A3 : Option Addr) (n2 n3 c1 c2 c3 : Nat) (cursor : Int) (x1 x2 x3 : List UInt8) (w : World) (hn3 : 0 < n3)
 (i1 : ∀ w', Below w.heap.size w w' → Calls Tryz.prog 108 #[.slice A1 0 c1, .int .i64 (-1)] w' fun e w2 => e = .returned (.string ⟨x1.toArray⟩) ∧ Below w'.heap.size w' w2)
 (i2 : ∀ w', Below w.heap.size w w' → Calls Tryz.prog 108 #[.slice A2 n2 c2, .int .i64 cursor] w' fun e w2 => e = .returned (.string ⟨x2.toArray⟩) ∧ Below w'.heap.size w' w2)
 (i3 : ∀ w', Below w.heap.size w w' → Calls Tryz.prog 108 #[.slice A3 n3 c3, .int .i64 (-1)] w' fun e w2 => e = .returned (.string ⟨x3.toArray⟩) ∧ Below w'.heap.size w' w2)
 (hx1 : x1.length ≤ 200000) (hx2 : x2.length ≤ 200000) (hx3 : x3.length ≤ 200000) :
 Calls Tryz.prog 66 #[.agg #[.bool false, .bool false, .slice A1 0 c1, .slice A2 n2 c2, .slice A3 n3 c3, .int .i64 cursor]] w fun e w' => e = .returned (.string ⟨(Lib.join (putW (putW (putW (putW [] x1) x2) [125]) x3) [32]).toArray⟩) ∧ Below w.heap.size w w' := by
 have hs0 : WrittenAt w w.heap.size (w.heap.size + 1) w.heap.size #[.bool false, .bool false, .slice A1 0 c1, .slice A2 n2 c2, .slice A3 n3 c3, .int .i64 cursor] [] ((w.alloc (.cells #[.bool false, .bool false, .slice A1 0 c1, .slice A2 n2 c2, .slice A3 n3 c3, .int .i64 cursor] 96)).alloc (.cells #[.slice none 0 0] 108)) := by
  refine ⟨(Blk.new _ _ _).alloc _, ⟨.slice none 0 0, ?_, OwnT.nil _ _⟩, ((Below.refl _ _).alloc (Nat.le_refl _) _).alloc (by simp) _⟩
  have := Blk.new (w.alloc (.cells #[.bool false, .bool false, .slice A1 0 c1, .slice A2 n2 c2, .slice A3 n3 c3, .int .i64 cursor] 96)) 108 #[.slice none 0 0]
  simpa using this
 have I1 := Lib.hid i1
 have I2 := Lib.hid i2
 have I3 := Lib.hid i3
 have S0 := Lib.hid hs0
 clear i1 i2 i3 hs0
 have HT0 := Lib.hid (show ∀ y ∈ ([] : List (List UInt8)), y.length ≤ 200000 by simp)
 go_enter Tryz.func66, Tryz.ntmps66
 go_wp2_with fail
 refine (I1.out _ S0.out.2.2).mono ?_
 rintro e v0 ⟨rfl, hb⟩
 have R0 := Lib.hid (written_below S0.out hb (Nat.le_refl _))
 clear hb
 have d0_v0 : v0.cell? ⟨w.heap.size, 0, none⟩ = some (.bool false) := R0.out.1.cell 0
 have d1_v0 : v0.cell? ⟨w.heap.size, 1, none⟩ = some (.bool false) := R0.out.1.cell 1
 have d2_v0 : v0.cell? ⟨w.heap.size, 2, none⟩ = some (.slice A1 0 c1) := R0.out.1.cell 2
 have d3_v0 : v0.cell? ⟨w.heap.size, 3, none⟩ = some (.slice A2 n2 c2) := R0.out.1.cell 3
 have d4_v0 : v0.cell? ⟨w.heap.size, 4, none⟩ = some (.slice A3 n3 c3) := R0.out.1.cell 4
 have d5_v0 : v0.cell? ⟨w.heap.size, 5, none⟩ = some (.int .i64 cursor) := R0.out.1.cell 5
 go_wp2_with fail
 refine (written_put x1 R0.out (Nat.le_succ _) (Nat.le_refl _) (by omega) (by simp)).mono ?_
 rintro e u0 ⟨rfl, hs⟩
 have S1 := Lib.hid hs
 have HT1 := Lib.hid (putW_text _ x1 200000 HT0.out hx1)
 have hl1 : (putW [] x1).length ≤ 1 := putW_len _ _
 generalize hW1 : putW [] x1 = W1 at *
 have HW1 := Lib.hid hW1
 clear hs hW1
 have d0_u0 : u0.cell? ⟨w.heap.size, 0, none⟩ = some (.bool false) := S1.out.1.cell 0
 have d1_u0 : u0.cell? ⟨w.heap.size, 1, none⟩ = some (.bool false) := S1.out.1.cell 1
 have d2_u0 : u0.cell? ⟨w.heap.size, 2, none⟩ = some (.slice A1 0 c1) := S1.out.1.cell 2
 have d3_u0 : u0.cell? ⟨w.heap.size, 3, none⟩ = some (.slice A2 n2 c2) := S1.out.1.cell 3
 have d4_u0 : u0.cell? ⟨w.heap.size, 4, none⟩ = some (.slice A3 n3 c3) := S1.out.1.cell 4
 have d5_u0 : u0.cell? ⟨w.heap.size, 5, none⟩ = some (.int .i64 cursor) := S1.out.1.cell 5
 go_wp2_with fail
 refine (I2.out _ S1.out.2.2).mono ?_
 rintro e v1 ⟨rfl, hb⟩
 have R1 := Lib.hid (written_below S1.out hb (Nat.le_refl _))
 clear hb
 have d0_v1 : v1.cell? ⟨w.heap.size, 0, none⟩ = some (.bool false) := R1.out.1.cell 0
 have d1_v1 : v1.cell? ⟨w.heap.size, 1, none⟩ = some (.bool false) := R1.out.1.cell 1
 have d2_v1 : v1.cell? ⟨w.heap.size, 2, none⟩ = some (.slice A1 0 c1) := R1.out.1.cell 2
 have d3_v1 : v1.cell? ⟨w.heap.size, 3, none⟩ = some (.slice A2 n2 c2) := R1.out.1.cell 3
 have d4_v1 : v1.cell? ⟨w.heap.size, 4, none⟩ = some (.slice A3 n3 c3) := R1.out.1.cell 4
 have d5_v1 : v1.cell? ⟨w.heap.size, 5, none⟩ = some (.int .i64 cursor) := R1.out.1.cell 5
 go_wp2_with fail
 refine (written_put x2 R1.out (Nat.le_succ _) (Nat.le_refl _) (by omega) (by omega)).mono ?_
 rintro e u1 ⟨rfl, hs⟩
 have S2 := Lib.hid hs
 have HT2 := Lib.hid (putW_text _ x2 200000 HT1.out hx2)
 have hl2 : (putW W1 x2).length ≤ W1.length + 1 := putW_len _ _
 generalize hW2 : putW W1 x2 = W2 at *
 have HW2 := Lib.hid hW2
 clear hs hW2
 have d0_u1 : u1.cell? ⟨w.heap.size, 0, none⟩ = some (.bool false) := S2.out.1.cell 0
 have d1_u1 : u1.cell? ⟨w.heap.size, 1, none⟩ = some (.bool false) := S2.out.1.cell 1
 have d2_u1 : u1.cell? ⟨w.heap.size, 2, none⟩ = some (.slice A1 0 c1) := S2.out.1.cell 2
 have d3_u1 : u1.cell? ⟨w.heap.size, 3, none⟩ = some (.slice A2 n2 c2) := S2.out.1.cell 3
 have d4_u1 : u1.cell? ⟨w.heap.size, 4, none⟩ = some (.slice A3 n3 c3) := S2.out.1.cell 4
 have d5_u1 : u1.cell? ⟨w.heap.size, 5, none⟩ = some (.int .i64 cursor) := S2.out.1.cell 5
 go_wp2_with fail
 refine (written_put [125] S2.out (Nat.le_succ _) (Nat.le_refl _) (by omega) (by omega)).mono ?_
 rintro e u2 ⟨rfl, hs⟩
 have S3 := Lib.hid hs
 have HT3 := Lib.hid (putW_text _ [125] 200000 HT2.out (by decide))
 have hl3 : (putW W2 [125]).length ≤ W2.length + 1 := putW_len _ _
 generalize hW3 : putW W2 [125] = W3 at *
 have HW3 := Lib.hid hW3
 clear hs hW3
 have d0_u2 : u2.cell? ⟨w.heap.size, 0, none⟩ = some (.bool false) := S3.out.1.cell 0
 have d1_u2 : u2.cell? ⟨w.heap.size, 1, none⟩ = some (.bool false) := S3.out.1.cell 1
 have d2_u2 : u2.cell? ⟨w.heap.size, 2, none⟩ = some (.slice A1 0 c1) := S3.out.1.cell 2
 have d3_u2 : u2.cell? ⟨w.heap.size, 3, none⟩ = some (.slice A2 n2 c2) := S3.out.1.cell 3
 have d4_u2 : u2.cell? ⟨w.heap.size, 4, none⟩ = some (.slice A3 n3 c3) := S3.out.1.cell 4
 have d5_u2 : u2.cell? ⟨w.heap.size, 5, none⟩ = some (.int .i64 cursor) := S3.out.1.cell 5
 go_wp2_with fail
 refine (I3.out _ S3.out.2.2).mono ?_
 rintro e v3 ⟨rfl, hb⟩
 have R3 := Lib.hid (written_below S3.out hb (Nat.le_refl _))
 clear hb
 have d0_v3 : v3.cell? ⟨w.heap.size, 0, none⟩ = some (.bool false) := R3.out.1.cell 0
 have d1_v3 : v3.cell? ⟨w.heap.size, 1, none⟩ = some (.bool false) := R3.out.1.cell 1
 have d2_v3 : v3.cell? ⟨w.heap.size, 2, none⟩ = some (.slice A1 0 c1) := R3.out.1.cell 2
 have d3_v3 : v3.cell? ⟨w.heap.size, 3, none⟩ = some (.slice A2 n2 c2) := R3.out.1.cell 3
 have d4_v3 : v3.cell? ⟨w.heap.size, 4, none⟩ = some (.slice A3 n3 c3) := R3.out.1.cell 4
 have d5_v3 : v3.cell? ⟨w.heap.size, 5, none⟩ = some (.int .i64 cursor) := R3.out.1.cell 5
 go_wp2_with fail
 refine (written_put x3 R3.out (Nat.le_succ _) (Nat.le_refl _) (by omega) (by omega)).mono ?_
 rintro e u3 ⟨rfl, hs⟩
 have S4 := Lib.hid hs
 have HT4 := Lib.hid (putW_text _ x3 200000 HT3.out hx3)
 have hl4 : (putW W3 x3).length ≤ W3.length + 1 := putW_len _ _
 generalize hW4 : putW W3 x3 = W4 at *
 have HW4 := Lib.hid hW4
 clear hs hW4
 have d0_u3 : u3.cell? ⟨w.heap.size, 0, none⟩ = some (.bool false) := S4.out.1.cell 0
 have d1_u3 : u3.cell? ⟨w.heap.size, 1, none⟩ = some (.bool false) := S4.out.1.cell 1
 have d2_u3 : u3.cell? ⟨w.heap.size, 2, none⟩ = some (.slice A1 0 c1) := S4.out.1.cell 2
 have d3_u3 : u3.cell? ⟨w.heap.size, 3, none⟩ = some (.slice A2 n2 c2) := S4.out.1.cell 3
 have d4_u3 : u3.cell? ⟨w.heap.size, 4, none⟩ = some (.slice A3 n3 c3) := S4.out.1.cell 4
 have d5_u3 : u3.cell? ⟨w.heap.size, 5, none⟩ = some (.int .i64 cursor) := S4.out.1.cell 5
 obtain ⟨_, ⟨v, hv, ho⟩, hbl⟩ := S4.out
 obtain ⟨A, c, rfl, _⟩ := own_form ho
 have g0 : u3.cell? ⟨w.heap.size + 1, 0, none⟩ = some _ := hv.cell 0
 have HC := Lib.hid (join_owned A _ c _ _ u3 ho rfl (by omega) (Nat.le_trans (join_len _ 200000 HT4.out) (Nat.le_trans (Nat.mul_le_mul_right _ (show W4.length ≤ 20 by omega)) (by decide))))
 have HBL := Lib.hid hbl
 clear hv ho hbl
 go_wp2_with fail
 refine HC.out.mono ?_
 rintro e w9 ⟨rfl, hb⟩
 have hb9 := HBL.out.trans (hb.mono HBL.out.size)
 clear hb
 go_wp2_with fail
 go_ret
 rw [HW1.out, HW2.out, HW3.out, HW4.out]
 exact ⟨rfl, hb9⟩
set_option maxRecDepth 100000 in
set_option maxHeartbeats 3200000 in
theorem written_nn (A1 A2 A3 : Option Addr) (n2 c1 c2 c3 : Nat) (cursor : Int) (x1 x2 x3 : List UInt8) (w : World)
 (i1 : ∀ w', Below w.heap.size w w' → Calls Tryz.prog 108 #[.slice A1 0 c1, .int .i64 (-1)] w' fun e w2 => e = .returned (.string ⟨x1.toArray⟩) ∧ Below w'.heap.size w' w2)
 (i2 : ∀ w', Below w.heap.size w w' → Calls Tryz.prog 108 #[.slice A2 n2 c2, .int .i64 cursor] w' fun e w2 => e = .returned (.string ⟨x2.toArray⟩) ∧ Below w'.heap.size w' w2)
 (i3 : ∀ w', Below w.heap.size w w' → Calls Tryz.prog 108 #[.slice A3 0 c3, .int .i64 (-1)] w' fun e w2 => e = .returned (.string ⟨x3.toArray⟩) ∧ Below w'.heap.size w' w2)
 (hx1 : x1.length ≤ 200000) (hx2 : x2.length ≤ 200000) (hx3 : x3.length ≤ 200000) :
 Calls Tryz.prog 66 #[.agg #[.bool false, .bool false, .slice A1 0 c1, .slice A2 n2 c2, .slice A3 0 c3, .int .i64 cursor]] w fun e w' => e = .returned (.string ⟨(Lib.join (putW (putW (putW [] x1) x2) x3) [32]).toArray⟩) ∧ Below w.heap.size w w' := by
 have hs0 : WrittenAt w w.heap.size (w.heap.size + 1) w.heap.size #[.bool false, .bool false, .slice A1 0 c1, .slice A2 n2 c2, .slice A3 0 c3, .int .i64 cursor] [] ((w.alloc (.cells #[.bool false, .bool false, .slice A1 0 c1, .slice A2 n2 c2, .slice A3 0 c3, .int .i64 cursor] 96)).alloc (.cells #[.slice none 0 0] 108)) := by
  refine ⟨(Blk.new _ _ _).alloc _, ⟨.slice none 0 0, ?_, OwnT.nil _ _⟩, ((Below.refl _ _).alloc (Nat.le_refl _) _).alloc (by simp) _⟩
  have := Blk.new (w.alloc (.cells #[.bool false, .bool false, .slice A1 0 c1, .slice A2 n2 c2, .slice A3 0 c3, .int .i64 cursor] 96)) 108 #[.slice none 0 0]
  simpa using this
 have I1 := Lib.hid i1
 have I2 := Lib.hid i2
 have I3 := Lib.hid i3
 have S0 := Lib.hid hs0
 clear i1 i2 i3 hs0
 have HT0 := Lib.hid (show ∀ y ∈ ([] : List (List UInt8)), y.length ≤ 200000 by simp)
 go_enter Tryz.func66, Tryz.ntmps66
 go_wp2_with fail
 refine (I1.out _ S0.out.2.2).mono ?_
 rintro e v0 ⟨rfl, hb⟩
 have R0 := Lib.hid (written_below S0.out hb (Nat.le_refl _))
 clear hb
 have d0_v0 : v0.cell? ⟨w.heap.size, 0, none⟩ = some (.bool false) := R0.out.1.cell 0
 have d1_v0 : v0.cell? ⟨w.heap.size, 1, none⟩ = some (.bool false) := R0.out.1.cell 1
 have d2_v0 : v0.cell? ⟨w.heap.size, 2, none⟩ = some (.slice A1 0 c1) := R0.out.1.cell 2
 have d3_v0 : v0.cell? ⟨w.heap.size, 3, none⟩ = some (.slice A2 n2 c2) := R0.out.1.cell 3
 have d4_v0 : v0.cell? ⟨w.heap.size, 4, none⟩ = some (.slice A3 0 c3) := R0.out.1.cell 4
 have d5_v0 : v0.cell? ⟨w.heap.size, 5, none⟩ = some (.int .i64 cursor) := R0.out.1.cell 5
 go_wp2_with fail
 refine (written_put x1 R0.out (Nat.le_succ _) (Nat.le_refl _) (by omega) (by simp)).mono ?_
 rintro e u0 ⟨rfl, hs⟩
 have S1 := Lib.hid hs
 have HT1 := Lib.hid (putW_text _ x1 200000 HT0.out hx1)
 have hl1 : (putW [] x1).length ≤ 1 := putW_len _ _
 generalize hW1 : putW [] x1 = W1 at *
 have HW1 := Lib.hid hW1
 clear hs hW1
 have d0_u0 : u0.cell? ⟨w.heap.size, 0, none⟩ = some (.bool false) := S1.out.1.cell 0
 have d1_u0 : u0.cell? ⟨w.heap.size, 1, none⟩ = some (.bool false) := S1.out.1.cell 1
 have d2_u0 : u0.cell? ⟨w.heap.size, 2, none⟩ = some (.slice A1 0 c1) := S1.out.1.cell 2
 have d3_u0 : u0.cell? ⟨w.heap.size, 3, none⟩ = some (.slice A2 n2 c2) := S1.out.1.cell 3
 have d4_u0 : u0.cell? ⟨w.heap.size, 4, none⟩ = some (.slice A3 0 c3) := S1.out.1.cell 4
 have d5_u0 : u0.cell? ⟨w.heap.size, 5, none⟩ = some (.int .i64 cursor) := S1.out.1.cell 5
 go_wp2_with fail
 refine (I2.out _ S1.out.2.2).mono ?_
 rintro e v1 ⟨rfl, hb⟩
 have R1 := Lib.hid (written_below S1.out hb (Nat.le_refl _))
 clear hb
 have d0_v1 : v1.cell? ⟨w.heap.size, 0, none⟩ = some (.bool false) := R1.out.1.cell 0
 have d1_v1 : v1.cell? ⟨w.heap.size, 1, none⟩ = some (.bool false) := R1.out.1.cell 1
 have d2_v1 : v1.cell? ⟨w.heap.size, 2, none⟩ = some (.slice A1 0 c1) := R1.out.1.cell 2
 have d3_v1 : v1.cell? ⟨w.heap.size, 3, none⟩ = some (.slice A2 n2 c2) := R1.out.1.cell 3
 have d4_v1 : v1.cell? ⟨w.heap.size, 4, none⟩ = some (.slice A3 0 c3) := R1.out.1.cell 4
 have d5_v1 : v1.cell? ⟨w.heap.size, 5, none⟩ = some (.int .i64 cursor) := R1.out.1.cell 5
 go_wp2_with fail
 refine (written_put x2 R1.out (Nat.le_succ _) (Nat.le_refl _) (by omega) (by omega)).mono ?_
 rintro e u1 ⟨rfl, hs⟩
 have S2 := Lib.hid hs
 have HT2 := Lib.hid (putW_text _ x2 200000 HT1.out hx2)
 have hl2 : (putW W1 x2).length ≤ W1.length + 1 := putW_len _ _
 generalize hW2 : putW W1 x2 = W2 at *
 have HW2 := Lib.hid hW2
 clear hs hW2
 have d0_u1 : u1.cell? ⟨w.heap.size, 0, none⟩ = some (.bool false) := S2.out.1.cell 0
 have d1_u1 : u1.cell? ⟨w.heap.size, 1, none⟩ = some (.bool false) := S2.out.1.cell 1
 have d2_u1 : u1.cell? ⟨w.heap.size, 2, none⟩ = some (.slice A1 0 c1) := S2.out.1.cell 2
 have d3_u1 : u1.cell? ⟨w.heap.size, 3, none⟩ = some (.slice A2 n2 c2) := S2.out.1.cell 3
 have d4_u1 : u1.cell? ⟨w.heap.size, 4, none⟩ = some (.slice A3 0 c3) := S2.out.1.cell 4
 have d5_u1 : u1.cell? ⟨w.heap.size, 5, none⟩ = some (.int .i64 cursor) := S2.out.1.cell 5
 go_wp2_with fail
 refine (I3.out _ S2.out.2.2).mono ?_
 rintro e v2 ⟨rfl, hb⟩
 have R2 := Lib.hid (written_below S2.out hb (Nat.le_refl _))
 clear hb
 have d0_v2 : v2.cell? ⟨w.heap.size, 0, none⟩ = some (.bool false) := R2.out.1.cell 0
 have d1_v2 : v2.cell? ⟨w.heap.size, 1, none⟩ = some (.bool false) := R2.out.1.cell 1
 have d2_v2 : v2.cell? ⟨w.heap.size, 2, none⟩ = some (.slice A1 0 c1) := R2.out.1.cell 2
 have d3_v2 : v2.cell? ⟨w.heap.size, 3, none⟩ = some (.slice A2 n2 c2) := R2.out.1.cell 3
 have d4_v2 : v2.cell? ⟨w.heap.size, 4, none⟩ = some (.slice A3 0 c3) := R2.out.1.cell 4
 have d5_v2 : v2.cell? ⟨w.heap.size, 5, none⟩ = some (.int .i64 cursor) := R2.out.1.cell 5
 go_wp2_with fail
 refine (written_put x3 R2.out (Nat.le_succ _) (Nat.le_refl _) (by omega) (by omega)).mono ?_
 rintro e u2 ⟨rfl, hs⟩
 have S3 := Lib.hid hs
 have HT3 := Lib.hid (putW_text _ x3 200000 HT2.out hx3)
 have hl3 : (putW W2 x3).length ≤ W2.length + 1 := putW_len _ _
 generalize hW3 : putW W2 x3 = W3 at *
 have HW3 := Lib.hid hW3
 clear hs hW3
 have d0_u2 : u2.cell? ⟨w.heap.size, 0, none⟩ = some (.bool false) := S3.out.1.cell 0
 have d1_u2 : u2.cell? ⟨w.heap.size, 1, none⟩ = some (.bool false) := S3.out.1.cell 1
 have d2_u2 : u2.cell? ⟨w.heap.size, 2, none⟩ = some (.slice A1 0 c1) := S3.out.1.cell 2
 have d3_u2 : u2.cell? ⟨w.heap.size, 3, none⟩ = some (.slice A2 n2 c2) := S3.out.1.cell 3
 have d4_u2 : u2.cell? ⟨w.heap.size, 4, none⟩ = some (.slice A3 0 c3) := S3.out.1.cell 4
 have d5_u2 : u2.cell? ⟨w.heap.size, 5, none⟩ = some (.int .i64 cursor) := S3.out.1.cell 5
 obtain ⟨_, ⟨v, hv, ho⟩, hbl⟩ := S3.out
 obtain ⟨A, c, rfl, _⟩ := own_form ho
 have g0 : u2.cell? ⟨w.heap.size + 1, 0, none⟩ = some _ := hv.cell 0
 have HC := Lib.hid (join_owned A _ c _ _ u2 ho rfl (by omega) (Nat.le_trans (join_len _ 200000 HT3.out) (Nat.le_trans (Nat.mul_le_mul_right _ (show W3.length ≤ 20 by omega)) (by decide))))
 have HBL := Lib.hid hbl
 clear hv ho hbl
 go_wp2_with fail
 refine HC.out.mono ?_
 rintro e w9 ⟨rfl, hb⟩
 have hb9 := HBL.out.trans (hb.mono HBL.out.size)
 clear hb
 go_wp2_with fail
 go_ret
 rw [HW1.out, HW2.out, HW3.out]
 exact ⟨rfl, hb9⟩
end Go.Proofs.YthnhbcohfoodlaaGreatDoor

namespace Go.Proofs.YthnhbcohfoodlaaGreatDoor
open Go.RowKit Go.Shelf
theorem words_none {l : List ItemD} : wordsP l (-1) = [] ↔ l.length = 0 := by
 rw [← wordsGo_minus l 0]
 unfold wordsP
 simp
theorem J_small {l : List ItemD} {cursor : Int} (h : itemsP l = 0) : (J (wordsP l cursor)).length ≤ 200000 := by
 obtain ⟨h20, hall⟩ := items_ok h
 obtain ⟨h1, h2⟩ := wordsGo_ok cursor l 0 hall
 have := join_len (wordsP l cursor) 4300 h2
 have h3 : (wordsP l cursor).length * 4301 ≤ 41 * 4301 := Nat.mul_le_mul_right _ (by unfold wordsP; omega)
 unfold J
 omega
set_option maxHeartbeats 1000000 in
theorem rulesyn_written (s : SideD) (A1 A2 A3 : Option Addr) (n1 n2 n3 c1 c2 c3 : Nat) (w : World) (h1 : RdIt w w.heap.size A1 n1 s.before) (h2 : RdIt w w.heap.size A2 n2 s.source) (h3 : RdIt w w.heap.size A3 n3 s.after)
 (k1 : itemsP s.before = 0) (k2 : itemsP s.source = 0) (k3 : itemsP s.after = 0) (hd : w.cell? ⟨5, 15, none⟩ = some (.int .u8 4)) (hlt : 5 < w.heap.size) :
 Calls Tryz.prog 66 #[.agg #[.bool s.start, .bool s.fin, .slice A1 n1 c1, .slice A2 n2 c2, .slice A3 n3 c3, .int .i64 s.cursor]] w fun e w' => e = .returned (.string ⟨(J (sideW s)).toArray⟩) ∧ Below w.heap.size w w' := by
 obtain ⟨start, fin, before, source, after, cursor⟩ := s
 dsimp only at *
 have i1 := fun (w' : World) (hb : Below w.heap.size w w') => rulesyn_items A1 n1 c1 before (-1) w' (RdIt.weak (weak_of hb hb.size) h1) k1 ((hb.cell hlt).trans hd) (Nat.lt_of_lt_of_le hlt hb.size)
 have i2 := fun (w' : World) (hb : Below w.heap.size w w') => rulesyn_items A2 n2 c2 source cursor w' (RdIt.weak (weak_of hb hb.size) h2) k2 ((hb.cell hlt).trans hd) (Nat.lt_of_lt_of_le hlt hb.size)
 have i3 := fun (w' : World) (hb : Below w.heap.size w w') => rulesyn_items A3 n3 c3 after (-1) w' (RdIt.weak (weak_of hb hb.size) h3) k3 ((hb.cell hlt).trans hd) (Nat.lt_of_lt_of_le hlt hb.size)
 have hn1 := RdL.len h1
 have hn3 := RdL.len h3
 have X1 := solid_wordsP (cursor := -1) k1
 have X2 := solid_wordsP (cursor := cursor) k2
 have X3 := solid_wordsP (cursor := -1) k3
 have y1 := J_small (cursor := -1) k1
 have y2 := J_small (cursor := cursor) k2
 have y3 := J_small (cursor := -1) k3
 have e1 := words_none (l := before)
 have e3 := words_none (l := after)
 have c94 : ([94] : Word) ≠ [] := by simp
 have c123 : ([123] : Word) ≠ [] := by simp
 have c125 : ([125] : Word) ≠ [] := by simp
 have c36 : ([36] : Word) ≠ [] := by simp
 have done : ∀ (a b : List Word), Sim a b → sideW ⟨start, fin, before, source, after, cursor⟩ = b → Lib.join a [32] = J (sideW ⟨start, fin, before, source, after, cursor⟩) := fun a b h e => by rw [e]; exact h.1
 unfold J at y1 y2 y3
 cases start
 ·rcases Nat.eq_zero_or_pos n1 with p1 | p1
  ·subst p1
   cases fin
   ·rcases Nat.eq_zero_or_pos n3 with p3 | p3
    ·subst p3
     refine (written_nn A1 A2 A3 n2 c1 c2 c3 cursor _ _ _ w i1 i2 i3 y1 y2 y3).mono ?_
     rintro e w' ⟨rfl, hb⟩
     refine ⟨?_, hb⟩
     rw [done _ _ ((((Sim.refl ([] : List Word)).more X1).more X2).more X3) ?_]
     unfold sideW
     dsimp only
     have z1 : wordsP before (-1) = [] := e1.2 hn1
     have z3 : wordsP after (-1) = [] := e3.2 hn3
     simp [z1, z3, hn3]
    ·refine (written_nb A1 A2 A3 n2 n3 c1 c2 c3 cursor _ _ _ w p3 i1 i2 i3 y1 y2 y3).mono ?_
     rintro e w' ⟨rfl, hb⟩
     refine ⟨?_, hb⟩
     rw [done _ _ (((((Sim.refl ([] : List Word)).more X1).more X2).one c125).more X3) ?_]
     unfold sideW
     dsimp only
     have z1 : wordsP before (-1) = [] := e1.2 hn1
     have z3 : 0 < after.length := by omega
     simp [z1, z3]
   ·refine (written_ns A1 A2 A3 n2 n3 c1 c2 c3 cursor _ _ _ w i1 i2 i3 y1 y2 y3).mono ?_
    rintro e w' ⟨rfl, hb⟩
    refine ⟨?_, hb⟩
    rw [done _ _ ((((((Sim.refl ([] : List Word)).more X1).more X2).one c125).more X3).one c36) ?_]
    unfold sideW
    dsimp only
    have z1 : wordsP before (-1) = [] := e1.2 hn1
    simp [z1]
  ·cases fin
   ·rcases Nat.eq_zero_or_pos n3 with p3 | p3
    ·subst p3
     refine (written_bn A1 A2 A3 n1 n2 c1 c2 c3 cursor _ _ _ w p1 i1 i2 i3 y1 y2 y3).mono ?_
     rintro e w' ⟨rfl, hb⟩
     refine ⟨?_, hb⟩
     rw [done _ _ (((((Sim.refl ([] : List Word)).more X1).one c123).more X2).more X3) ?_]
     unfold sideW
     dsimp only
     have z1 : wordsP before (-1) ≠ [] := fun h => by have := e1.1 h; omega
     have z3 : wordsP after (-1) = [] := e3.2 hn3
     simp [z1, z3, hn3]
    ·refine (written_bb A1 A2 A3 n1 n2 n3 c1 c2 c3 cursor _ _ _ w p1 p3 i1 i2 i3 y1 y2 y3).mono ?_
     rintro e w' ⟨rfl, hb⟩
     refine ⟨?_, hb⟩
     rw [done _ _ ((((((Sim.refl ([] : List Word)).more X1).one c123).more X2).one c125).more X3) ?_]
     unfold sideW
     dsimp only
     have z1 : wordsP before (-1) ≠ [] := fun h => by have := e1.1 h; omega
     have z3 : 0 < after.length := by omega
     simp [z1, z3]
   ·refine (written_bs A1 A2 A3 n1 n2 n3 c1 c2 c3 cursor _ _ _ w p1 i1 i2 i3 y1 y2 y3).mono ?_
    rintro e w' ⟨rfl, hb⟩
    refine ⟨?_, hb⟩
    rw [done _ _ (((((((Sim.refl ([] : List Word)).more X1).one c123).more X2).one c125).more X3).one c36) ?_]
    unfold sideW
    dsimp only
    have z1 : wordsP before (-1) ≠ [] := fun h => by have := e1.1 h; omega
    simp [z1]
 ·cases fin
  ·rcases Nat.eq_zero_or_pos n3 with p3 | p3
   ·subst p3
    refine (written_sn A1 A2 A3 n1 n2 c1 c2 c3 cursor _ _ _ w i1 i2 i3 y1 y2 y3).mono ?_
    rintro e w' ⟨rfl, hb⟩
    refine ⟨?_, hb⟩
    rw [done _ _ ((((((Sim.refl ([] : List Word)).one c94).more X1).one c123).more X2).more X3) ?_]
    unfold sideW
    dsimp only
    have z3 : wordsP after (-1) = [] := e3.2 hn3
    simp [z3, hn3]
   ·refine (written_sb A1 A2 A3 n1 n2 n3 c1 c2 c3 cursor _ _ _ w p3 i1 i2 i3 y1 y2 y3).mono ?_
    rintro e w' ⟨rfl, hb⟩
    refine ⟨?_, hb⟩
    rw [done _ _ (((((((Sim.refl ([] : List Word)).one c94).more X1).one c123).more X2).one c125).more X3) ?_]
    unfold sideW
    dsimp only
    have z3 : 0 < after.length := by omega
    simp [z3]
  ·refine (written_ss A1 A2 A3 n1 n2 n3 c1 c2 c3 cursor _ _ _ w i1 i2 i3 y1 y2 y3).mono ?_
   rintro e w' ⟨rfl, hb⟩
   refine ⟨?_, hb⟩
   rw [done _ _ ((((((((Sim.refl ([] : List Word)).one c94).more X1).one c123).more X2).one c125).more X3).one c36) ?_]
   unfold sideW
   dsimp only
   simp []
end Go.Proofs.YthnhbcohfoodlaaGreatDoor
