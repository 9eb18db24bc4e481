/- The walk of scriptlaw1.RunesTell: for every text, any runes and any number it returns true; nothing that was there is changed. -/
import Derived.Test.YthgkgcdnidkckaaDoorWalk
import Derived.Test.YthgkgcdnidkckaaDoorRefEncode
import Derived.Test.YthgkgcdnidkckaaDoorSpoiltWalk
import Derived.Test.YthgkgcdnidkckaaDoorSame
namespace Go.Proofs.YthgkgcdnidkckaaDoor
open Go.RowKit Go.Shelf

set_option maxRecDepth 100000 in
set_option maxHeartbeats 1600000 in
theorem runes_tell (s : ByteArray) (A : Option Addr) (n c : Nat) (l : List Int) (r : Int) (w : World) (hn : n ≤ 1099511627776) (hs : s.size ≤ 1099511627776) (hl : RdR w w.heap.size A n l) (hT : Tabs w) :
    Calls Tryd.prog 5 #[.string s, .slice A n c, .int .i32 r] w fun e w' => e = .returned (.bool true) ∧ Below w.heap.size w w' := by
  have HL := Lib.hid hl
  have hrl := runesOf_length s
  have hpl := places_runes s 0
  clear hl
  go_enter Tryd.func5, Tryd.ntmps5
  go_wp2_with fail
  refine (walk_any s w hs).mono ?_
  rintro e w1 ⟨v1, v2, rfl, ho1, ho2, hb1⟩
  have hz1 := hb1.size
  obtain ⟨A1, c1, rfl, _⟩ := own_form ho1
  obtain ⟨A2, c2, rfl, _⟩ := own_form ho2
  have hr1 := OwnR.rd ho1 rfl
  have hr2 := OwnI.rd ho2 rfl
  clear ho1 ho2
  go_wp2_with fail
  refine (places_any s w1 hs).mono ?_
  rintro e w2 ⟨v3, rfl, ho3, hb2⟩
  have hb02 := hb1.trans (hb2.mono hz1)
  have hz2 := hb02.size
  obtain ⟨A3, c3, rfl, _⟩ := own_form ho3
  have hr3 := OwnI.rd ho3 rfl
  have hr1 := Rd.more (Rd.below hr1 hb2) hb2.size
  have hr2 := Rd.more (Rd.below hr2 hb2) hb2.size
  clear ho3
  go_wp2_with fail
  refine (decode_any s w2 hs).mono ?_
  rintro e w3 ⟨v4, rfl, ho4, hb3⟩
  have hb03 := hb02.trans (hb3.mono hz2)
  have hz3 := hb03.size
  obtain ⟨A4, c4, rfl, _⟩ := own_form ho4
  have hr4 := OwnR.rd ho4 rfl
  have hr1 : RdR w3 w3.heap.size A1 _ _ := Rd.more (Rd.below hr1 hb3) hb3.size
  have hr2 : RdI w3 w3.heap.size A2 _ _ := Rd.more (Rd.below hr2 hb3) hb3.size
  have hr3 : RdI w3 w3.heap.size A3 _ _ := Rd.more (Rd.below hr3 hb3) hb3.size
  clear ho4
  have hPl : (placesOf s 0 ++ [(s.size : Int)]).length = (runesOf s 0).length + 1 := by simp [places_runes]
  rw [hPl] at hr2 hr3
  generalize placesOf s 0 ++ [(s.size : Int)] = P at *
  generalize runesOf s 0 = R at *
  have HR1 := Lib.hid hr1
  have HR2 := Lib.hid hr2
  have HR3 := Lib.hid hr3
  have HR4 := Lib.hid hr4
  have HPL := Lib.hid hPl
  clear hr1 hr2 hr3 hr4 hPl hpl
  go_wp2_with fail
  refine (ref_same A4 A1 R.length R.length c4 c1 R R w3 (by omega) HR4.out HR1.out).mono ?_
  rintro e w4 ⟨rfl, k4, rfl⟩
  rw [show (R == R) = true by simp]
  have hb04 := below_drewN hb03 k4
  have hz4 := hb04.size
  go_wp2_with fail
  refine (spoilt_any s _ (by omega) (tabs_below hT hb04)).mono ?_
  rintro e w5 ⟨rfl, hb5⟩
  have hb35 : Below w3.heap.size w3 w5 := (below_drewN (Below.refl _ _) k4).trans hb5
  have hb05 := hb03.trans (hb35.mono hz3)
  have hz5 := hb05.size
  have hr2 := Rd.below HR2.out hb35
  have hr3 := Rd.below HR3.out hb35
  clear hb5 hb1 hb2 hb3 hb02 hb03 hb04
  have HR2' := Lib.hid hr2
  have HR3' := Lib.hid hr3
  clear hr2 hr3
  go_wp2_with (first | (go_at_call 13; refine (runes_right _ _).mono ?_; rintro e w' ⟨rfl, rfl⟩) | (go_at_call 14; refine (ref_right _ _).mono ?_; rintro e w' ⟨rfl, rfl⟩))
  go_loopw [51] (fun i wr => ∃ j q : Nat, j ≤ R.length + 1 ∧ i = .int .i64 j ∧ wr = w5.drewN q) (fun i _ => R.length + 1 - (intOf i).toNat)
  case atStart => exact ⟨0, 0, Nat.zero_le _, rfl, rfl⟩
  case round =>
    obtain ⟨j, q, hj, rfl, rfl⟩ := hrel
    by_cases hlt : j < R.length + 1
    · obtain ⟨x, hx⟩ : ∃ x, P[j]? = some x := ⟨_, List.getElem?_eq_getElem (by rw [HPL.out]; omega)⟩
      obtain ⟨b1, o1, rfl, _, cx⟩ := RdI.at HR2'.out hx
      obtain ⟨b2, o2, rfl, _, cy⟩ := RdI.at HR3'.out hx
      have HX := Lib.hid hx
      clear hx
      go_wp2_with fail
      go_quiet (fail)
      go_wp2_with fail
      exact ⟨⟨j + 1, _, by omega, by go_num, rfl⟩, by simp [intOf]; omega⟩
    · have hb5q := below_drewN hb05 q
      have hz5q := hb5q.size
      go_wp2_with fail
      refine (encode_any A n c l _ hn (Rd.more (HL.out.below hb5q) hz5q)).mono ?_
      rintro e w6 ⟨rfl, hb6⟩
      have hb06 := hb5q.trans (hb6.mono hz5q)
      have hz6 := hb06.size
      go_wp2_with fail
      refine (ref_encode A n c l w6 hn (Rd.more (HL.out.below hb06) hz6)).mono ?_
      rintro e w7 ⟨rfl, hb7⟩
      go_wp2
      go_ret
      exact ⟨ret_bool (by simp), hb06.trans (hb7.mono hz6)⟩

end Go.Proofs.YthgkgcdnidkckaaDoor
