/- The walk of scriptlaw3.SetsynSigns. -/
import Derived.Test.YthnhbcohfoodlaaGreatDoorTurnsWalk
import Derived.Test.YthnhbcohfoodlaaGreatDoorSigns
namespace Go.Proofs.YthnhbcohfoodlaaGreatDoor
open Go.RowKit

set_option maxHeartbeats 6400000 in
set_option maxRecDepth 100000 in
theorem setsyn_signs (A B : Option Addr) (n c m d : Nat) (a b : Spans) (w : World) (hn : n ≤ 9223372036854775807) (hm : m ≤ 9223372036854775807) (hnc : n ≤ c) (hmd : m ≤ d) (hl : RdS w w.heap.size A n a) (hl2 : RdS w w.heap.size B m b) (hd : w.cell? ⟨5, 15, none⟩ = some (.int .u8 4)) (hlt : 5 < w.heap.size) :
    Calls Tryz.prog 5 #[.slice A n c, .slice B m d] w fun e w' => e = .returned (.bool true) ∧ Below w.heap.size w w' := by
  have HLA := Lib.hid hl
  have HLB := Lib.hid hl2
  have HD := Lib.hid hd
  have HLT := Lib.hid hlt
  have HNA := Lib.hid hl.len
  have HNB := Lib.hid hl2.len
  clear hl hl2 hd hlt
  go_enter Tryz.func5, Tryz.ntmps5
  go_wp2_with fail
  refine (law_alive _).mono ?_
  rintro e w1 ⟨rfl, hb1⟩
  have HB1 := Lib.hid hb1
  have HWA := Lib.hid (sets_wrong A n c a w1 hn ((HLA.out.below hb1).more hb1.size))
  clear hb1
  go_wp2_with fail
  refine HWA.out.mono ?_
  rintro e w2 ⟨rfl, hb2⟩
  have HB2 := Lib.hid (HB1.out.trans (hb2.mono HB1.out.size))
  have HWB := Lib.hid (sets_wrong B m d b w2 hm ((HLB.out.below HB2.out).more HB2.out.size))
  clear hb2
  by_cases hwa : wrongP a = 0
  case neg =>
    have q1 : (wrongP a != 0) = true := by simpa using hwa
    go_wp2_with fail
    go_ret
    exact ⟨rfl, HB2.out⟩
  have q1 : (wrongP a != 0) = false := by simpa using hwa
  go_wp2_with fail
  refine HWB.out.mono ?_
  rintro e w3 ⟨rfl, hb3⟩
  have HB3 := Lib.hid (HB2.out.trans (hb3.mono HB2.out.size))
  clear hb3
  by_cases hwb : wrongP b = 0
  case neg =>
    have q2 : (wrongP b != 0) = true := by simpa using hwb
    go_wp2_with fail
    go_ret
    exact ⟨rfl, HB3.out⟩
  have q2 : (wrongP b != 0) = false := by simpa using hwb
  have HRA := Lib.hid (right_set hwa)
  have HRB := Lib.hid (right_set hwb)
  by_cases hna : n ≤ 50
  case neg =>
    have q3 : (50 : Int) < (n : Int) := by omega
    go_wp2_with fail
    go_ret
    exact ⟨rfl, HB3.out⟩
  have q3 : ¬ (50 : Int) < (n : Int) := by omega
  by_cases hnb : m ≤ 50
  case neg =>
    have q4 : (50 : Int) < (m : Int) := by omega
    go_wp2_with fail
    go_ret
    exact ⟨rfl, HB3.out⟩
  have q4 : ¬ (50 : Int) < (m : Int) := by omega
  have HPA := Lib.hid (setsyn_print A n c a w3 (by omega) ((HLA.out.below HB3.out).more HB3.out.size) ((HB3.out.cell (p := ⟨5, 15, none⟩) HLT.out).trans HD.out) (Nat.lt_of_lt_of_le HLT.out HB3.out.size))
  rw [txt_print HRA.out, printP_ok HRA.out] at HPA
  go_wp2_with fail
  refine HPA.out.mono ?_
  rintro e w4 ⟨rfl, hb4⟩
  have HB4 := Lib.hid (HB3.out.trans (hb4.mono HB3.out.size))
  have HPB := Lib.hid (setsyn_print B m d b w4 (by omega) ((HLB.out.below HB4.out).more HB4.out.size) ((HB4.out.cell (p := ⟨5, 15, none⟩) HLT.out).trans HD.out) (Nat.lt_of_lt_of_le HLT.out HB4.out.size))
  rw [txt_print HRB.out, printP_ok HRB.out] at HPB
  clear hb4
  go_wp2_with fail
  refine HPB.out.mono ?_
  rintro e w5 ⟨rfl, hb5⟩
  have HB5 := Lib.hid (HB4.out.trans (hb5.mono HB4.out.size))
  have HSU := Lib.hid (sets_union A B n c m d a b w5 ⟨HRA.out, (HLA.out.below HB5.out).more HB5.out.size, hnc⟩ ⟨HRB.out, (HLB.out.below HB5.out).more HB5.out.size, hmd⟩)
  clear hb5
  go_wp2_with fail
  refine HSU.out.mono ?_
  rintro e w6 ⟨UA, un, uc, rfl, hu, _, _, hb6⟩
  have HB6 := Lib.hid (HB5.out.trans (hb6.mono HB5.out.size))
  have HU6 := Lib.hid (show RdS w6 w6.heap.size UA un (opP 124 a b).1 from hu.rd (fun _ _ h => h))
  have HSM := Lib.hid (sets_meet_top A B n c m d a b w6 ⟨HRA.out, (HLA.out.below HB6.out).more HB6.out.size, hnc⟩ ⟨HRB.out, (HLB.out.below HB6.out).more HB6.out.size, hmd⟩)
  clear hb6 hu
  go_wp2_with fail
  refine HSM.out.mono ?_
  rintro e w7 ⟨MA, mn, mc, rfl, hu, _, _, hb7⟩
  have HB7 := Lib.hid (HB6.out.trans (hb7.mono HB6.out.size))
  have HU7 := Lib.hid ((HU6.out.below hb7).more hb7.size)
  have HM7 := Lib.hid (show RdS w7 w7.heap.size MA mn (opP 38 a b).1 from hu.rd (fun _ _ h => h))
  have HSD := Lib.hid (sets_minus A B n c m d a b w7 ⟨HRA.out, (HLA.out.below HB7.out).more HB7.out.size, hnc⟩ ⟨HRB.out, (HLB.out.below HB7.out).more HB7.out.size, hmd⟩)
  clear hb7 hu HU6
  go_wp2_with fail
  refine HSD.out.mono ?_
  rintro e w8 ⟨DA, dn, dc, rfl, hu, _, _, hb8⟩
  have HB8 := Lib.hid (HB7.out.trans (hb8.mono HB7.out.size))
  have HU8 := Lib.hid ((HU7.out.below hb8).more hb8.size)
  have HM8 := Lib.hid ((HM7.out.below hb8).more hb8.size)
  have HD8 := Lib.hid (show RdS w8 w8.heap.size DA dn (opP 45 a b).1 from hu.rd (fun _ _ h => h))
  have HSN := Lib.hid (sets_not_top A n c a [] w8 ⟨HRA.out, (HLA.out.below HB8.out).more HB8.out.size, hnc⟩)
  clear hb8 hu HU7 HM7
  go_wp2_with fail
  refine HSN.out.mono ?_
  rintro e w9 ⟨NA, nn, nc, rfl, hu, hnn, _, hb9⟩
  have HB9 := Lib.hid (HB8.out.trans (hb9.mono HB8.out.size))
  have HU9 := Lib.hid ((HU8.out.below hb9).more hb9.size)
  have HM9 := Lib.hid ((HM8.out.below hb9).more hb9.size)
  have HD9 := Lib.hid ((HD8.out.below hb9).more hb9.size)
  have HN9 := Lib.hid (show RdS w9 w9.heap.size NA nn (opP 94 a []).1 from hu.rd (fun _ _ h => h))
  clear hb9 hu HU8 HM8 HD8 HSU HSM HSD HSN HPA HPB HWA HWB
  have hsa : (txt (printR a)).size ≤ 5000 := by rw [← txt_print HRA.out]; exact printP_size HRA.out
  have hsb : (txt (printR b)).size ≤ 5000 := by rw [← txt_print HRB.out]; exact printP_size HRB.out
  have r1 := fun w : World => run_string_add_sum (P := Tryz.prog) w { data := #[91] } (txt (printR a)) (by rw [show ({ data := #[91] } : ByteArray).size = 1 from rfl]; omega)
  go_wp2_with fail
  have la : a.length ≤ 50 := by rw [HNA.out]; exact hna
  have lb : b.length ≤ 50 := by rw [HNB.out]; exact hnb
  have HBK := Lib.hid (Blk.new w9 39 #[.string ({ data := #[91] } ++ txt (printR a) ++ txt (printR b) ++ { data := #[93] }), .slice UA un uc, .string ({ data := #[91] } ++ txt (printR a) ++ { data := #[38] } ++ txt (printR b) ++ { data := #[93] }), .slice MA mn mc, .string ({ data := #[91] } ++ txt (printR a) ++ { data := #[32, 45, 32] } ++ txt (printR b) ++ { data := #[93] }), .slice DA dn dc, .string ({ data := #[91, 94] } ++ txt (printR a) ++ { data := #[93] }), .slice NA nn nc, .string ({ data := #[32, 91, 91, 58, 97, 110, 121, 58, 93, 32, 45] } ++ txt (printR a) ++ { data := #[32, 93, 32] }), .slice NA nn nc])
  have HBW := Lib.hid (HB9.out.alloc HB9.out.size (.cells #[.string ({ data := #[91] } ++ txt (printR a) ++ txt (printR b) ++ { data := #[93] }), .slice UA un uc, .string ({ data := #[91] } ++ txt (printR a) ++ { data := #[38] } ++ txt (printR b) ++ { data := #[93] }), .slice MA mn mc, .string ({ data := #[91] } ++ txt (printR a) ++ { data := #[32, 45, 32] } ++ txt (printR b) ++ { data := #[93] }), .slice DA dn dc, .string ({ data := #[91, 94] } ++ txt (printR a) ++ { data := #[93] }), .slice NA nn nc, .string ({ data := #[32, 91, 91, 58, 97, 110, 121, 58, 93, 32, 45] } ++ txt (printR a) ++ { data := #[32, 93, 32] }), .slice NA nn nc] 39))
  have HW0 := Lib.hid ((Below.refl w9.heap.size w9).alloc (Nat.le_refl _) (.cells #[.string ({ data := #[91] } ++ txt (printR a) ++ txt (printR b) ++ { data := #[93] }), .slice UA un uc, .string ({ data := #[91] } ++ txt (printR a) ++ { data := #[38] } ++ txt (printR b) ++ { data := #[93] }), .slice MA mn mc, .string ({ data := #[91] } ++ txt (printR a) ++ { data := #[32, 45, 32] } ++ txt (printR b) ++ { data := #[93] }), .slice DA dn dc, .string ({ data := #[91, 94] } ++ txt (printR a) ++ { data := #[93] }), .slice NA nn nc, .string ({ data := #[32, 91, 91, 58, 97, 110, 121, 58, 93, 32, 45] } ++ txt (printR a) ++ { data := #[32, 93, 32] }), .slice NA nn nc] 39))
  have z1 : ({ data := #[91] } : ByteArray).size = 1 := rfl
  have z2 : ({ data := #[93] } : ByteArray).size = 1 := rfl
  have z3 : ({ data := #[38] } : ByteArray).size = 1 := rfl
  have z4 : ({ data := #[32, 45, 32] } : ByteArray).size = 3 := rfl
  have z5 : ({ data := #[91, 94] } : ByteArray).size = 2 := rfl
  have z6 : ({ data := #[32, 91, 91, 58, 97, 110, 121, 58, 93, 32, 45] } : ByteArray).size = 11 := rfl
  have z7 : ({ data := #[32, 93, 32] } : ByteArray).size = 3 := rfl
  have HS0 := Lib.hid (fun W : World => show Calls Tryz.prog 10 #[.string ({ data := #[91] } ++ txt (printR a) ++ txt (printR b) ++ { data := #[93] })] W (ReadPost W ((opP 124 a b).1, (0, 0))) from by
    have h := syn_read ({ data := #[91] } ++ txt (printR a) ++ txt (printR b) ++ { data := #[93] }) W (by simp only [ByteArray.size_append, z1, z2]; omega)
    rw [show runesOf ({ data := #[91] } ++ txt (printR a) ++ txt (printR b) ++ { data := #[93] }) 0 = runesOf (txt (signU a b)) 0 by rw [whole_u (printR a) (printR b)]; rfl, text_u HRA.out HRB.out la lb] at h
    exact h)
  have HS1 := Lib.hid (fun W : World => show Calls Tryz.prog 10 #[.string ({ data := #[91] } ++ txt (printR a) ++ { data := #[38] } ++ txt (printR b) ++ { data := #[93] })] W (ReadPost W ((opP 38 a b).1, (0, 0))) from by
    have h := syn_read ({ data := #[91] } ++ txt (printR a) ++ { data := #[38] } ++ txt (printR b) ++ { data := #[93] }) W (by simp only [ByteArray.size_append, z1, z2, z3]; omega)
    rw [show runesOf ({ data := #[91] } ++ txt (printR a) ++ { data := #[38] } ++ txt (printR b) ++ { data := #[93] }) 0 = runesOf (txt (signM a b)) 0 by rw [whole_m (printR a) (printR b)]; rfl, text_m HRA.out HRB.out la lb] at h
    exact h)
  have HS2 := Lib.hid (fun W : World => show Calls Tryz.prog 10 #[.string ({ data := #[91] } ++ txt (printR a) ++ { data := #[32, 45, 32] } ++ txt (printR b) ++ { data := #[93] })] W (ReadPost W ((opP 45 a b).1, (0, 0))) from by
    have h := syn_read ({ data := #[91] } ++ txt (printR a) ++ { data := #[32, 45, 32] } ++ txt (printR b) ++ { data := #[93] }) W (by simp only [ByteArray.size_append, z1, z2, z4]; omega)
    rw [show runesOf ({ data := #[91] } ++ txt (printR a) ++ { data := #[32, 45, 32] } ++ txt (printR b) ++ { data := #[93] }) 0 = runesOf (txt (signD a b)) 0 by rw [whole_d (printR a) (printR b)]; rfl, text_d HRA.out HRB.out la lb] at h
    exact h)
  have HS3 := Lib.hid (fun W : World => show Calls Tryz.prog 10 #[.string ({ data := #[91, 94] } ++ txt (printR a) ++ { data := #[93] })] W (ReadPost W ((opP 94 a []).1, (0, 0))) from by
    have h := syn_read ({ data := #[91, 94] } ++ txt (printR a) ++ { data := #[93] }) W (by simp only [ByteArray.size_append, z2, z5]; omega)
    rw [show runesOf ({ data := #[91, 94] } ++ txt (printR a) ++ { data := #[93] }) 0 = runesOf (txt (signN a)) 0 by rw [whole_n (printR a)]; rfl, text_n HRA.out la] at h
    exact h)
  have HS4 := Lib.hid (fun W : World => show Calls Tryz.prog 10 #[.string ({ data := #[32, 91, 91, 58, 97, 110, 121, 58, 93, 32, 45] } ++ txt (printR a) ++ { data := #[32, 93, 32] })] W (ReadPost W ((opP 94 a []).1, (0, 0))) from by
    have h := syn_read ({ data := #[32, 91, 91, 58, 97, 110, 121, 58, 93, 32, 45] } ++ txt (printR a) ++ { data := #[32, 93, 32] }) W (by simp only [ByteArray.size_append, z6, z7]; omega)
    rw [show runesOf ({ data := #[32, 91, 91, 58, 97, 110, 121, 58, 93, 32, 45] } ++ txt (printR a) ++ { data := #[32, 93, 32] }) 0 = runesOf (txt (signA a)) 0 by rw [whole_a (printR a)]; rfl, text_a HRA.out la] at h
    exact h)
  go_loopw [115] (fun i wr => ∃ k : Nat, k ≤ 5 ∧ i = .int .i64 k ∧ Blk wr w9.heap.size 39 #[.string ({ data := #[91] } ++ txt (printR a) ++ txt (printR b) ++ { data := #[93] }), .slice UA un uc, .string ({ data := #[91] } ++ txt (printR a) ++ { data := #[38] } ++ txt (printR b) ++ { data := #[93] }), .slice MA mn mc, .string ({ data := #[91] } ++ txt (printR a) ++ { data := #[32, 45, 32] } ++ txt (printR b) ++ { data := #[93] }), .slice DA dn dc, .string ({ data := #[91, 94] } ++ txt (printR a) ++ { data := #[93] }), .slice NA nn nc, .string ({ data := #[32, 91, 91, 58, 97, 110, 121, 58, 93, 32, 45] } ++ txt (printR a) ++ { data := #[32, 93, 32] }), .slice NA nn nc] ∧ Below w9.heap.size w9 wr) (fun i _ => 5 - (intOf i).toNat)
  case atStart => exact ⟨0, Nat.zero_le _, rfl, HBK.out, HW0.out⟩
  case round =>
    obtain ⟨k, hk, rfl, hbk, hb⟩ := hrel
    have HBB := Lib.hid hbk
    have HB := Lib.hid hb
    clear hb
    rcases Nat.lt_or_ge k 5 with hlt | hge
    · have hcases : k = 0 ∨ k = 1 ∨ k = 2 ∨ k = 3 ∨ k = 4 := by omega
      clear hlt hk
      rcases hcases with rfl | rfl | rfl | rfl | rfl
      · have c0 := hbk.cell 0
        have c1 := hbk.cell 1
        go_upto_if 16 with fail
        have HRW := Lib.hid (Blk.new wr 39 #[.string ({ data := #[91] } ++ txt (printR a) ++ txt (printR b) ++ { data := #[93] }), .slice UA un uc])
        have HBR := Lib.hid (HB.out.alloc HB.out.size (.cells #[.string ({ data := #[91] } ++ txt (printR a) ++ txt (printR b) ++ { data := #[93] }), .slice UA un uc] 39))
        have HBBR := Lib.hid (HBB.out.alloc (.cells #[.string ({ data := #[91] } ++ txt (printR a) ++ txt (printR b) ++ { data := #[93] }), .slice UA un uc] 39))
        refine (HS0.out _).mono ?_
        rintro e w10 ⟨⟨A2, n2, c2, rfl, hx, _⟩, hb10⟩
        have HR10 := Lib.hid ((HRW.out.below hb10 HRW.out.lt).alloc (.cells #[.int .i64 0, .int .i64 0] 25))
        have HB10 := Lib.hid ((HBR.out.trans (hb10.mono HBR.out.size)).alloc (Nat.le_trans HBR.out.size hb10.size) (.cells #[.int .i64 0, .int .i64 0] 25))
        have HBB10 := Lib.hid ((HBBR.out.below hb10 HBBR.out.lt).alloc (.cells #[.int .i64 0, .int .i64 0] 25))
        have HX := Lib.hid ((show RdS w10 w10.heap.size A2 n2 (opP 124 a b).1 from hx.rd (fun _ _ h => h)).below ((Below.refl _ _).alloc (Nat.le_refl _) (.cells #[.int .i64 0, .int .i64 0] 25)))
        have HSAME := Lib.hid (set_same A2 UA n2 un c2 uc (opP 124 a b).1 _ w10.heap.size w9.heap.size (by rw [← RdS.len HX.out]; have := (op_right 124 HRA.out HRB.out).size; omega) HX.out (HU9.out.below HB10.out))
        have x0 := (Blk.new w10 25 #[.int .i64 0, .int .i64 0]).cell 0
        have y0 := HR10.out.cell 0
        have y1 := HR10.out.cell 1
        clear hx hb10 c0 c1
        go_wp2_with fail
        refine HSAME.out.mono ?_
        rintro e w11 ⟨rfl, q, rfl⟩
        go_wp2_with fail
        exact ⟨⟨1, by omega, rfl, HBB10.out.drewN _, below_drewN HB10.out _⟩, by simp [intOf]⟩
      · have c0 := hbk.cell 2
        have c1 := hbk.cell 3
        go_upto_if 16 with fail
        have HRW := Lib.hid (Blk.new wr 39 #[.string ({ data := #[91] } ++ txt (printR a) ++ { data := #[38] } ++ txt (printR b) ++ { data := #[93] }), .slice MA mn mc])
        have HBR := Lib.hid (HB.out.alloc HB.out.size (.cells #[.string ({ data := #[91] } ++ txt (printR a) ++ { data := #[38] } ++ txt (printR b) ++ { data := #[93] }), .slice MA mn mc] 39))
        have HBBR := Lib.hid (HBB.out.alloc (.cells #[.string ({ data := #[91] } ++ txt (printR a) ++ { data := #[38] } ++ txt (printR b) ++ { data := #[93] }), .slice MA mn mc] 39))
        refine (HS1.out _).mono ?_
        rintro e w10 ⟨⟨A2, n2, c2, rfl, hx, _⟩, hb10⟩
        have HR10 := Lib.hid ((HRW.out.below hb10 HRW.out.lt).alloc (.cells #[.int .i64 0, .int .i64 0] 25))
        have HB10 := Lib.hid ((HBR.out.trans (hb10.mono HBR.out.size)).alloc (Nat.le_trans HBR.out.size hb10.size) (.cells #[.int .i64 0, .int .i64 0] 25))
        have HBB10 := Lib.hid ((HBBR.out.below hb10 HBBR.out.lt).alloc (.cells #[.int .i64 0, .int .i64 0] 25))
        have HX := Lib.hid ((show RdS w10 w10.heap.size A2 n2 (opP 38 a b).1 from hx.rd (fun _ _ h => h)).below ((Below.refl _ _).alloc (Nat.le_refl _) (.cells #[.int .i64 0, .int .i64 0] 25)))
        have HSAME := Lib.hid (set_same A2 MA n2 mn c2 mc (opP 38 a b).1 _ w10.heap.size w9.heap.size (by rw [← RdS.len HX.out]; have := (op_right 38 HRA.out HRB.out).size; omega) HX.out (HM9.out.below HB10.out))
        have x0 := (Blk.new w10 25 #[.int .i64 0, .int .i64 0]).cell 0
        have y0 := HR10.out.cell 0
        have y1 := HR10.out.cell 1
        clear hx hb10 c0 c1
        go_wp2_with fail
        refine HSAME.out.mono ?_
        rintro e w11 ⟨rfl, q, rfl⟩
        go_wp2_with fail
        exact ⟨⟨2, by omega, rfl, HBB10.out.drewN _, below_drewN HB10.out _⟩, by simp [intOf]⟩
      · have c0 := hbk.cell 4
        have c1 := hbk.cell 5
        go_upto_if 16 with fail
        have HRW := Lib.hid (Blk.new wr 39 #[.string ({ data := #[91] } ++ txt (printR a) ++ { data := #[32, 45, 32] } ++ txt (printR b) ++ { data := #[93] }), .slice DA dn dc])
        have HBR := Lib.hid (HB.out.alloc HB.out.size (.cells #[.string ({ data := #[91] } ++ txt (printR a) ++ { data := #[32, 45, 32] } ++ txt (printR b) ++ { data := #[93] }), .slice DA dn dc] 39))
        have HBBR := Lib.hid (HBB.out.alloc (.cells #[.string ({ data := #[91] } ++ txt (printR a) ++ { data := #[32, 45, 32] } ++ txt (printR b) ++ { data := #[93] }), .slice DA dn dc] 39))
        refine (HS2.out _).mono ?_
        rintro e w10 ⟨⟨A2, n2, c2, rfl, hx, _⟩, hb10⟩
        have HR10 := Lib.hid ((HRW.out.below hb10 HRW.out.lt).alloc (.cells #[.int .i64 0, .int .i64 0] 25))
        have HB10 := Lib.hid ((HBR.out.trans (hb10.mono HBR.out.size)).alloc (Nat.le_trans HBR.out.size hb10.size) (.cells #[.int .i64 0, .int .i64 0] 25))
        have HBB10 := Lib.hid ((HBBR.out.below hb10 HBBR.out.lt).alloc (.cells #[.int .i64 0, .int .i64 0] 25))
        have HX := Lib.hid ((show RdS w10 w10.heap.size A2 n2 (opP 45 a b).1 from hx.rd (fun _ _ h => h)).below ((Below.refl _ _).alloc (Nat.le_refl _) (.cells #[.int .i64 0, .int .i64 0] 25)))
        have HSAME := Lib.hid (set_same A2 DA n2 dn c2 dc (opP 45 a b).1 _ w10.heap.size w9.heap.size (by rw [← RdS.len HX.out]; have := (op_right 45 HRA.out HRB.out).size; omega) HX.out (HD9.out.below HB10.out))
        have x0 := (Blk.new w10 25 #[.int .i64 0, .int .i64 0]).cell 0
        have y0 := HR10.out.cell 0
        have y1 := HR10.out.cell 1
        clear hx hb10 c0 c1
        go_wp2_with fail
        refine HSAME.out.mono ?_
        rintro e w11 ⟨rfl, q, rfl⟩
        go_wp2_with fail
        exact ⟨⟨3, by omega, rfl, HBB10.out.drewN _, below_drewN HB10.out _⟩, by simp [intOf]⟩
      · have c0 := hbk.cell 6
        have c1 := hbk.cell 7
        go_upto_if 16 with fail
        have HRW := Lib.hid (Blk.new wr 39 #[.string ({ data := #[91, 94] } ++ txt (printR a) ++ { data := #[93] }), .slice NA nn nc])
        have HBR := Lib.hid (HB.out.alloc HB.out.size (.cells #[.string ({ data := #[91, 94] } ++ txt (printR a) ++ { data := #[93] }), .slice NA nn nc] 39))
        have HBBR := Lib.hid (HBB.out.alloc (.cells #[.string ({ data := #[91, 94] } ++ txt (printR a) ++ { data := #[93] }), .slice NA nn nc] 39))
        refine (HS3.out _).mono ?_
        rintro e w10 ⟨⟨A2, n2, c2, rfl, hx, _⟩, hb10⟩
        have HR10 := Lib.hid ((HRW.out.below hb10 HRW.out.lt).alloc (.cells #[.int .i64 0, .int .i64 0] 25))
        have HB10 := Lib.hid ((HBR.out.trans (hb10.mono HBR.out.size)).alloc (Nat.le_trans HBR.out.size hb10.size) (.cells #[.int .i64 0, .int .i64 0] 25))
        have HBB10 := Lib.hid ((HBBR.out.below hb10 HBBR.out.lt).alloc (.cells #[.int .i64 0, .int .i64 0] 25))
        have HX := Lib.hid ((show RdS w10 w10.heap.size A2 n2 (opP 94 a []).1 from hx.rd (fun _ _ h => h)).below ((Below.refl _ _).alloc (Nat.le_refl _) (.cells #[.int .i64 0, .int .i64 0] 25)))
        have HSAME := Lib.hid (set_same A2 NA n2 nn c2 nc (opP 94 a []).1 _ w10.heap.size w9.heap.size (by rw [← RdS.len HX.out]; have := (op_right 94 HRA.out right_nil).size; omega) HX.out (HN9.out.below HB10.out))
        have x0 := (Blk.new w10 25 #[.int .i64 0, .int .i64 0]).cell 0
        have y0 := HR10.out.cell 0
        have y1 := HR10.out.cell 1
        clear hx hb10 c0 c1
        go_wp2_with fail
        refine HSAME.out.mono ?_
        rintro e w11 ⟨rfl, q, rfl⟩
        go_wp2_with fail
        exact ⟨⟨4, by omega, rfl, HBB10.out.drewN _, below_drewN HB10.out _⟩, by simp [intOf]⟩
      · have c0 := hbk.cell 8
        have c1 := hbk.cell 9
        go_upto_if 16 with fail
        have HRW := Lib.hid (Blk.new wr 39 #[.string ({ data := #[32, 91, 91, 58, 97, 110, 121, 58, 93, 32, 45] } ++ txt (printR a) ++ { data := #[32, 93, 32] }), .slice NA nn nc])
        have HBR := Lib.hid (HB.out.alloc HB.out.size (.cells #[.string ({ data := #[32, 91, 91, 58, 97, 110, 121, 58, 93, 32, 45] } ++ txt (printR a) ++ { data := #[32, 93, 32] }), .slice NA nn nc] 39))
        have HBBR := Lib.hid (HBB.out.alloc (.cells #[.string ({ data := #[32, 91, 91, 58, 97, 110, 121, 58, 93, 32, 45] } ++ txt (printR a) ++ { data := #[32, 93, 32] }), .slice NA nn nc] 39))
        refine (HS4.out _).mono ?_
        rintro e w10 ⟨⟨A2, n2, c2, rfl, hx, _⟩, hb10⟩
        have HR10 := Lib.hid ((HRW.out.below hb10 HRW.out.lt).alloc (.cells #[.int .i64 0, .int .i64 0] 25))
        have HB10 := Lib.hid ((HBR.out.trans (hb10.mono HBR.out.size)).alloc (Nat.le_trans HBR.out.size hb10.size) (.cells #[.int .i64 0, .int .i64 0] 25))
        have HBB10 := Lib.hid ((HBBR.out.below hb10 HBBR.out.lt).alloc (.cells #[.int .i64 0, .int .i64 0] 25))
        have HX := Lib.hid ((show RdS w10 w10.heap.size A2 n2 (opP 94 a []).1 from hx.rd (fun _ _ h => h)).below ((Below.refl _ _).alloc (Nat.le_refl _) (.cells #[.int .i64 0, .int .i64 0] 25)))
        have HSAME := Lib.hid (set_same A2 NA n2 nn c2 nc (opP 94 a []).1 _ w10.heap.size w9.heap.size (by rw [← RdS.len HX.out]; have := (op_right 94 HRA.out right_nil).size; omega) HX.out (HN9.out.below HB10.out))
        have x0 := (Blk.new w10 25 #[.int .i64 0, .int .i64 0]).cell 0
        have y0 := HR10.out.cell 0
        have y1 := HR10.out.cell 1
        clear hx hb10 c0 c1
        go_wp2_with fail
        refine HSAME.out.mono ?_
        rintro e w11 ⟨rfl, q, rfl⟩
        go_wp2_with fail
        exact ⟨⟨5, by omega, rfl, HBB10.out.drewN _, below_drewN HB10.out _⟩, by simp [intOf]⟩
    · obtain rfl : k = 5 := by omega
      go_wp2_with fail
      go_ret
      exact ⟨rfl, HB9.out.trans (HB.out.mono HB9.out.size)⟩

end Go.Proofs.YthnhbcohfoodlaaGreatDoor
