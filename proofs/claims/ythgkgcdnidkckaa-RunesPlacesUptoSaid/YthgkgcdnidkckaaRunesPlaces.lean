/- The walk of scriptlaw1.RunesPlaces: for every text (of at most 2^40 bytes) it returns true; nothing that was there is changed. -/
import Derived.Test.YthgkgcdnidkckaaRunesAlive
import Derived.Deep.QuietTactic
import Derived.BigQuiet
namespace Go.Proofs.Ythgkgcdnidkckaa
open Go.RowKit

set_option maxRecDepth 100000 in
set_option maxHeartbeats 800000 in
theorem runes_places (s : ByteArray) (w : World) (hs : s.size ≤ 1099511627776) :
    Calls Try.prog 3 #[.string s] w fun e w' => e = .returned (.bool true) ∧ Below w.heap.size w w' := by
  go_enter Try.func3, Try.ntmps3
  go_wp2_with fail
  refine (runes_alive w).mono ?_
  rintro e w0 ⟨rfl, hb0⟩
  go_wp2_with fail
  refine (places_any s w0 hs).mono ?_
  rintro e w1 ⟨v1, rfl, hown1, hb1⟩
  go_wp2_with fail
  refine (decode_any s w1 hs).mono ?_
  rintro e w2 ⟨v2, rfl, hown2, hb2⟩
  have hz0 := hb0.size
  have hz1 := hb1.size
  have hz2 := hb2.size
  obtain ⟨h0, hrise⟩ := places_rise s s.size 0 (by omega) (by omega)
  have hbd := places_bound s s.size 0 (by omega) (by omega)
  have hlen : (placesOf s 0 ++ [(s.size : Int)]).length = (runesOf s 0).length + 1 := by simp [places_runes]
  have hlast : (placesOf s 0 ++ [(s.size : Int)])[(runesOf s 0).length]? = some (s.size : Int) := by rw [← places_runes]; simp
  generalize placesOf s 0 ++ [(s.size : Int)] = P at *
  have hlr := runesOf_length s
  generalize hL : runesOf s 0 = L at *
  clear hL
  obtain ⟨A1, c1, rfl, hc1⟩ := own_form hown1
  obtain ⟨A2, c2, rfl, hc2⟩ := own_form hown2
  have hrd := Rd.below (OwnI.rd hown1 rfl) hb2
  rw [hlen] at hrd hc1 ⊢
  generalize L.length = m at *
  obtain ⟨b, off, rfl, hbb, hcell0⟩ := RdI.at hrd h0
  obtain ⟨b', off', e1, _, hcelll⟩ := RdI.at hrd hlast
  cases e1
  simp at hcell0
  have HB : Hid (Below w.heap.size w w2) := (hb0.trans (hb1.mono hz0)).trans (hb2.mono (by omega))
  have HRD := Lib.hid hrd
  have HRI := Lib.hid hrise
  have HBD := Lib.hid hbd
  have HLEN := Lib.hid hlen
  clear hrd hrise hbd hlen hown1 hown2 hb0 hb1 hb2 h0 hlast
  go_wp2
  go_loopw [5] (fun i wr => ∃ j q : Nat, j ≤ m ∧ i = .int .i64 ((j : Int) + 1) ∧ wr = w2.drewN q) (fun i _ => m + 2 - (intOf i).toNat)
  case atStart => exact ⟨0, 0, Nat.zero_le _, rfl, rfl⟩
  case round =>
    obtain ⟨j, q, hj, rfl, rfl⟩ := hrel
    clear hcell0 hcelll
    by_cases hlt : j < m
    · obtain ⟨x, hx⟩ : ∃ x, P[j]? = some x := ⟨_, List.getElem?_eq_getElem (by rw [HLEN.out]; omega)⟩
      obtain ⟨y, hy⟩ : ∃ y, P[j + 1]? = some y := ⟨_, List.getElem?_eq_getElem (by rw [HLEN.out]; omega)⟩
      obtain ⟨hxy, hyx⟩ := HRI.out j x y hx hy
      obtain ⟨hx0, hxs⟩ := HBD.out x (List.mem_of_getElem? hx)
      obtain ⟨b1, o1, e1, _, cx⟩ := RdI.at HRD.out hx
      cases e1
      obtain ⟨b1, o1, e1, _, cy⟩ := RdI.at HRD.out hy
      cases e1
      have HX := Lib.hid hx
      have HY := Lib.hid hy
      clear hx hy
      have hd1 : decide (y ≤ x) = false := by simp; omega
      have hd2 : decide (x + 4 < y) = false := by simp; omega
      go_wp2
      go_quiet (fail)
      go_wp2
      exact ⟨⟨j + 1, _, by omega, by go_num, rfl⟩, by simp [intOf]; omega⟩
    · go_wp2
      go_ret
      exact ⟨rfl, below_drewN HB.out _⟩

end Go.Proofs.Ythgkgcdnidkckaa
