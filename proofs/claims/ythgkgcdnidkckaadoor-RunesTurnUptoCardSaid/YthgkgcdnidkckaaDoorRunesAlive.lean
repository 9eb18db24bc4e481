/- The closed fact that the laws of chapter 1 ask first. The walk of scriptlaw1.alive. -/
import Derived.Test.YthgkgcdnidkckaaDoorDecode
import Derived.Test.YthgkgcdnidkckaaDoorRight
namespace Go.Proofs.YthgkgcdnidkckaaDoor
open Go.RowKit

theorem decode_alive : runesOf ⟨#[97, 195, 169, 255]⟩ 0 = [97, 233, 65533] := by decide +kernel

set_option maxHeartbeats 400000 in
theorem runes_alive (w : World) : Calls Tryd.prog 6 #[] w fun e w' => e = .returned (.bool true) ∧ Below w.heap.size w w' := by
  have hr97 : rightB 97 = true := by decide
  go_enter Tryd.func6, Tryd.ntmps6
  go_wp2_with fail
  refine (decode_any ⟨#[97, 195, 169, 255]⟩ w (by decide)).mono ?_
  rintro e w1 ⟨v, rfl, hown, hb⟩
  rw [decode_alive] at hown
  obtain ⟨A, c, rfl, hc⟩ := own_form hown
  have hrd := hown.rd rfl
  obtain ⟨b, off, rfl, _, _⟩ := hrd.at (k := 0) (by simp)
  obtain ⟨b1, off1, e1, _, c1⟩ := hrd.at (k := 1) (by simp)
  obtain ⟨b2, off2, e2, _, c2⟩ := hrd.at (k := 2) (by simp)
  cases e1
  cases e2
  simp at c1 c2
  have HO := Lib.hid hown
  have HR := Lib.hid hrd
  clear hown hrd
  go_wp2_with (go_at_call 13; refine (runes_right _ _).mono ?_; rintro e w' ⟨rfl, rfl⟩)
  go_ret
  exact ⟨rfl, hb⟩

end Go.Proofs.YthgkgcdnidkckaaDoor
