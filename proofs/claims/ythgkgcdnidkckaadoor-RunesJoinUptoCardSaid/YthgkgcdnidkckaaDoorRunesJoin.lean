/- The walk of scriptlaw1.RunesJoin: for every two texts (of at most 2^40 bytes together) it returns true; nothing that was there is changed. -/
import Derived.Test.YthgkgcdnidkckaaDoorRunesAlive
import Derived.Test.YthgkgcdnidkckaaDoorSpoiltWalk
import Derived.Test.YthgkgcdnidkckaaDoorSame
namespace Go.Proofs.YthgkgcdnidkckaaDoor
open Go.RowKit

set_option maxRecDepth 100000 in
set_option maxHeartbeats 1600000 in
theorem runes_join (s t : ByteArray) (w : World) (hs : s.size + t.size ≤ 1099511627776) (hT : Tabs w) :
    Calls Tryd.prog 3 #[.string s, .string t] w fun e w' => e = .returned (.bool true) ∧ Below w.heap.size w w' := by
  obtain ⟨i0, hi, hz0, hz1, hz2⟩ := info_parts Tryd.info21
  have hle := spoilt_le s s.size 0 (by omega)
  have hst : (s ++ t).size = s.size + t.size := ByteArray.size_append
  have hadd := fun w : World => run_string_add_sum (P := Tryd.prog) w s t (by omega)
  by_cases h0 : spoilt s 0 = 0
  · obtain ⟨hj1, hj2⟩ := join_law s t s.size 0 (by omega) (by omega) h0
    have hsp0 : (((spoilt s 0 : Nat) : Int) != 0) = false := by rw [h0]; rfl
    have HST := Lib.hid hst
    clear hst
    generalize hu : s ++ t = u at *
    clear hu
    have hbu : u.size ≤ 1099511627776 := by rw [HST.out]; exact hs
    have hl1 := runesOf_length s
    have hl2 := runesOf_length t
    have HJ1 := Lib.hid hj1
    have HJ2 := Lib.hid hj2
    clear hj1 hj2 h0
    go_enter Tryd.func3, Tryd.ntmps3
    go_wp2_with fail
    refine (runes_alive w).mono ?_
    rintro e w0 ⟨rfl, hb0⟩
    have hz0' := hb0.size
    go_wp2_with fail
    refine (spoilt_any s w0 (by omega) (tabs_below hT hb0)).mono ?_
    rintro e w1 ⟨rfl, hb1⟩
    have hb01 := hb0.trans (hb1.mono hz0')
    have hz1' := hb01.size
    go_wp2_with fail
    refine (decode_any u w1 hbu).mono ?_
    rintro e w2 ⟨v13, rfl, ho13, hb2⟩
    have hz2' := hb2.size
    have hb02 := hb01.trans (hb2.mono hz1')
    have HE := Lib.hid (own_empty w2 21 1 w2.heap.size w2.heap.size rfl (Nat.le_refl _))
    go_wp2_with fail
    refine (decode_any s (w2.alloc (.cells #[] 21)) (by omega)).mono ?_
    rintro e w3 ⟨v16, rfl, ho16, hb3⟩
    simp only [World.size_alloc] at ho16 hb3
    have hz3' := hb3.size
    simp only [World.size_alloc] at hz3'
    have hE3 : w3.ownsRow w2.heap.size 21 1 (.slice (some ⟨w2.heap.size, 0, none⟩) 0 0) 0 [] := own_below HE.out (by simpa using hb3)
    have hb23 : Below w2.heap.size w2 w3 := ((Below.refl _ _).alloc (Nat.le_refl _) _).trans (hb3.mono (by omega))
    obtain ⟨A16, c16, rfl, _⟩ := own_form ho16
    have hrd16 : RdR w3 w3.heap.size A16 (runesOf s 0).length (runesOf s 0) := OwnR.rd ho16 rfl
    have HR16 := Lib.hid hrd16
    have HE3 := Lib.hid hE3
    clear hrd16 hE3 ho16
    go_wp2_with (at_builtin; refine wpList_append_rd _ rfl (.tmp 14) (.tmp 16) 25 rfl w2.heap.size 21 i0 _ 1 4 Tryd.underlying25 hi hz0 hz1 hz2 rfl (by decide) _ _ _ rfl HE3.out w3.heap.size A16 (runesOf s 0).length c16 (runeCells (runesOf s 0)) rfl HR16.out (runeCells_one _) (by simp only [maxLen]; omega) (by omega) (by omega) ?_)
    intro v17 w4 happ
    have ho17 : OwnR w4 w2.heap.size v17 (runesOf s 0) := OwnR.of happ (by simp) (by simp)
    have hb4 : Below w2.heap.size w2 w4 := hb23.trans (happ.below (by omega) HE3.out)
    clear happ
    have hz4' := hb4.size
    have HO17 := Lib.hid ho17
    clear ho17
    go_wp2_with fail
    refine (decode_any t w4 (by omega)).mono ?_
    rintro e w5 ⟨v19, rfl, ho19, hb5⟩
    have hb25 := hb4.trans (hb5.mono hz4')
    have hz5' := hb25.size
    have ho17 := own_below HO17.out hb5
    obtain ⟨A17, c17, rfl, _⟩ := own_form ho17
    obtain ⟨A19, c19, rfl, _⟩ := own_form ho19
    have hrd19 : RdR w5 w5.heap.size A19 (runesOf t 0).length (runesOf t 0) := OwnR.rd ho19 rfl
    have HR19 := Lib.hid hrd19
    have HO5 := Lib.hid ho17
    clear hrd19 ho17 ho19 HO17
    go_wp2_with (at_builtin; refine wpList_append_rd _ rfl (.tmp 17) (.tmp 19) 25 rfl w2.heap.size 21 i0 _ 1 4 Tryd.underlying25 hi hz0 hz1 hz2 rfl (by decide) _ _ _ rfl HO5.out w5.heap.size A19 (runesOf t 0).length c19 (runeCells (runesOf t 0)) rfl HR19.out (runeCells_one _) (by simp only [maxLen]; omega) (by omega) (by omega) ?_)
    intro v20 w6 happ
    have ho20 : OwnR w6 w2.heap.size v20 (runesOf s 0 ++ runesOf t 0) := OwnR.of happ (by simp) (by rw [runeCells_append])
    have hb6 : Below w2.heap.size w2 w6 := hb25.trans (happ.below (by omega) HO5.out)
    clear happ
    have hz6' := hb6.size
    have hb06 := hb02.trans (hb6.mono (by omega))
    rw [← HJ1.out] at ho20
    have hlu : (runesOf u 0).length ≤ u.size := runesOf_length u
    generalize runesOf u 0 = U at *
    obtain ⟨A13, c13, rfl, _⟩ := own_form ho13
    obtain ⟨A20, c20, rfl, _⟩ := own_form ho20
    have hx : RdR w6 w6.heap.size A13 U.length U := Rd.more (Rd.below (OwnR.rd ho13 rfl) hb6) hz6'
    have hy : RdR w6 w6.heap.size A20 U.length U := OwnR.rd ho20 rfl
    clear ho13 ho20
    have HX := Lib.hid hx
    have HY := Lib.hid hy
    clear hx hy
    go_wp2_with fail
    refine (ref_same A13 A20 U.length U.length c13 c20 U U w6 (by omega) HX.out HY.out).mono ?_
    rintro e w7 ⟨rfl, k7, rfl⟩
    rw [show (U == U) = true by simp]
    have hb07 := below_drewN hb06 k7
    have hz7 := hb07.size
    go_wp2_with fail
    refine (spoilt_any u _ (by omega) (tabs_below hT hb07)).mono ?_
    rintro e w8 ⟨rfl, hb8⟩
    have hb08 := hb07.trans (hb8.mono hz7)
    have hz8 := hb08.size
    go_wp2_with fail
    refine (spoilt_any t w8 (by omega) (tabs_below hT hb08)).mono ?_
    rintro e w9 ⟨rfl, hb9⟩
    rw [HJ2.out]
    go_wp2
    go_ret
    exact ⟨ret_bool (by simp), hb08.trans (hb9.mono hz8)⟩
  · have hsp0 : (((spoilt s 0 : Nat) : Int) != 0) = true := by rw [bne_iff_ne]; omega
    clear h0 hst hadd
    go_enter Tryd.func3, Tryd.ntmps3
    go_wp2_with fail
    refine (runes_alive w).mono ?_
    rintro e w0 ⟨rfl, hb0⟩
    have hz0' := hb0.size
    go_wp2_with fail
    refine (spoilt_any s w0 (by omega) (tabs_below hT hb0)).mono ?_
    rintro e w1 ⟨rfl, hb1⟩
    go_wp2
    go_ret
    exact ⟨rfl, hb0.trans (hb1.mono hz0')⟩

end Go.Proofs.YthgkgcdnidkckaaDoor
