/- The walk of scriptlaw1.RunesTurn: for any runes and every text (of at most 2^36 places, 2^40 bytes) it returns true; nothing that was there is changed. -/
import Derived.Test.YthgkgcdnidkckaaDoorRunesAlive
import Derived.Test.YthgkgcdnidkckaaDoorSpoiltWalk
import Derived.Test.YthgkgcdnidkckaaDoorSame
import Derived.Test.YthgkgcdnidkckaaDoorTurn
namespace Go.Proofs.YthgkgcdnidkckaaDoor
open Go.RowKit Go.Shelf

theorem nat_beq (n : Nat) : ((n == 0) == ((n : Int) == 0)) = true := by
  rw [beq_iff_eq, Bool.eq_iff_iff]
  simp

set_option maxRecDepth 100000 in
set_option maxHeartbeats 1600000 in
theorem runes_turn (A : Option Addr) (n c : Nat) (l : List Int) (s : ByteArray) (w : World) (hn : n ≤ 68719476736) (hs : s.size ≤ 1099511627776) (hl : RdR w w.heap.size A n l) (hT : Tabs w) :
    Calls Tryd.prog 4 #[.slice A n c, .string s] w fun e w' => e = .returned (.bool true) ∧ Below w.heap.size w w' := by
  obtain ⟨ht1, ht2⟩ := turn_text s
  generalize (⟨(bytesOf (runesOf s 0)).toArray⟩ : ByteArray) = t at ht1 ht2
  have hts : (t.toList == s.toList) = (spoilt s 0 == 0) := by
    rw [Bool.eq_iff_iff, beq_iff_eq, beq_iff_eq, ← ht2, ByteArray.toList_eq, ByteArray.toList_eq]
    exact ⟨fun h => ByteArray.ext (Array.toList_inj.1 h), fun h => by rw [h]⟩
  have HT1 := Lib.hid ht1
  have HTS := Lib.hid hts
  clear ht1 ht2 hts
  have hrl := runesOf_length s
  have HL := Lib.hid hl
  have HLEN := Lib.hid hl.len
  clear hl
  by_cases hall : l.all rightB = true
  · have he : encP l = (⟨(bytesOf l).toArray⟩, 0) := by unfold encP; rw [hall]; rfl
    obtain ⟨hu1, hu2⟩ := turn_runes l hall
    have hbl := bytesOf_len l
    rw [HLEN.out] at hbl
    have hus := mk_size (bytesOf l)
    generalize (⟨(bytesOf l).toArray⟩ : ByteArray) = u at *
    have hu3 : u.size ≤ 1099511627776 := by omega
    have HE := Lib.hid he
    have HU1 := Lib.hid hu1
    have HU2 := Lib.hid hu2
    clear he hu1 hu2 hall hus
    go_enter Tryd.func4, Tryd.ntmps4
    go_wp2_with fail
    refine (runes_alive w).mono ?_
    rintro e w0 ⟨rfl, hb0⟩
    have hz0 := hb0.size
    go_wp2_with fail
    refine (encode_any A n c l w0 (by omega) ((HL.out.below hb0).more hz0)).mono ?_
    rintro e w1 ⟨rfl, hb1⟩
    rw [HE.out]
    dsimp only
    have hb01 := hb0.trans (hb1.mono hz0)
    have hz1 := hb01.size
    go_wp2_with fail
    refine (decode_any u w1 hu3).mono ?_
    rintro e w2 ⟨v2, rfl, ho2, hb2⟩
    rw [HU1.out] at ho2
    obtain ⟨A2, c2, rfl, _⟩ := own_form ho2
    have hb02 := hb01.trans (hb2.mono hz1)
    have hz2 := hb02.size
    have hx : RdR w2 w2.heap.size A2 l.length l := OwnR.rd ho2 rfl
    rw [HLEN.out] at hx ⊢
    have HX := Lib.hid hx
    have HY := Lib.hid ((HL.out.below hb02).more hz2)
    clear hx ho2
    go_wp2_with fail
    refine (ref_same A2 A n n c2 c l l w2 (by omega) HX.out HY.out).mono ?_
    rintro e w3 ⟨rfl, k3, rfl⟩
    rw [show (l == l) = true by simp]
    have hb03 := below_drewN hb02 k3
    have hz3 := hb03.size
    go_wp2_with fail
    refine (spoilt_any u _ (by omega) (tabs_below hT hb03)).mono ?_
    rintro e w4 ⟨rfl, hb4⟩
    rw [HU2.out]
    have hbw := hb03.trans (hb4.mono hz3)
    clear hb0 hb1 hb2 hb4 hb01 hb02 hb03 hz0 hz1 hz2 hz3
    have hT1 := tabs_below hT hbw
    have hz1 := hbw.size
    go_wp2_with fail
    refine (decode_any s _ hs).mono ?_
    rintro e w5 ⟨v5, rfl, ho5, hb5⟩
    obtain ⟨A5, c5, rfl, _⟩ := own_form ho5
    have hrd5 : RdR w5 w5.heap.size A5 (runesOf s 0).length (runesOf s 0) := OwnR.rd ho5 rfl
    have HR5 := Lib.hid hrd5
    clear hrd5 ho5
    have hbw5 := hbw.trans (hb5.mono hz1)
    have hz5 := hbw5.size
    clear hb5
    go_wp2_with fail
    refine (encode_any A5 (runesOf s 0).length c5 (runesOf s 0) w5 (by omega) HR5.out).mono ?_
    rintro e w6 ⟨rfl, hb6⟩
    rw [HT1.out]
    dsimp only
    have hbw6 := hbw5.trans (hb6.mono hz5)
    have hz6 := hbw6.size
    clear hb6
    go_wp2_with fail
    refine (spoilt_any s w6 (by omega) (tabs_below hT hbw6)).mono ?_
    rintro e w7 ⟨rfl, hb7⟩
    rw [HTS.out]
    go_wp2
    all_goals go_ret
    all_goals refine ⟨ret_bool ?_, hbw6.trans (hb7.mono hz6)⟩
    all_goals exact nat_beq _
  · have he : encP l = (⟨#[]⟩, 3) := by unfold encP; rw [if_neg hall]
    have HE := Lib.hid he
    clear he hall
    go_enter Tryd.func4, Tryd.ntmps4
    go_wp2_with fail
    refine (runes_alive w).mono ?_
    rintro e w0 ⟨rfl, hb0⟩
    have hz0 := hb0.size
    go_wp2_with fail
    refine (encode_any A n c l w0 (by omega) ((HL.out.below hb0).more hz0)).mono ?_
    rintro e w1 ⟨rfl, hb1⟩
    rw [HE.out]
    dsimp only
    have hbw := hb0.trans (hb1.mono hz0)
    clear hb0 hb1 hz0
    have hT1 := tabs_below hT hbw
    have hz1 := hbw.size
    go_wp2_with fail
    refine (decode_any s _ hs).mono ?_
    rintro e w5 ⟨v5, rfl, ho5, hb5⟩
    obtain ⟨A5, c5, rfl, _⟩ := own_form ho5
    have hrd5 : RdR w5 w5.heap.size A5 (runesOf s 0).length (runesOf s 0) := OwnR.rd ho5 rfl
    have HR5 := Lib.hid hrd5
    clear hrd5 ho5
    have hbw5 := hbw.trans (hb5.mono hz1)
    have hz5 := hbw5.size
    clear hb5
    go_wp2_with fail
    refine (encode_any A5 (runesOf s 0).length c5 (runesOf s 0) w5 (by omega) HR5.out).mono ?_
    rintro e w6 ⟨rfl, hb6⟩
    rw [HT1.out]
    dsimp only
    have hbw6 := hbw5.trans (hb6.mono hz5)
    have hz6 := hbw6.size
    clear hb6
    go_wp2_with fail
    refine (spoilt_any s w6 (by omega) (tabs_below hT hbw6)).mono ?_
    rintro e w7 ⟨rfl, hb7⟩
    rw [HTS.out]
    go_wp2
    all_goals go_ret
    all_goals refine ⟨ret_bool ?_, hbw6.trans (hb7.mono hz6)⟩
    all_goals exact nat_beq _

end Go.Proofs.YthgkgcdnidkckaaDoor
