/- Plain: whether a rune stands for itself. -/
import Derived.Test.YthnhbcohfoodlaaGreatDoorCurSkip
namespace Go.Proofs.YthnhbcohfoodlaaGreatDoor
open Go.RowKit

/-- Runes as texts have them, and the end. -/
def runeOk (r : Int) : Prop := r = -1 ∨ Utf8.valid r = true
def specialS : ByteArray := ⟨#[91, 93, 38, 45, 94, 92, 58, 36, 40, 41, 123, 125, 60, 62, 124, 59, 35, 39, 34, 61, 44]⟩
theorem special_any (r : Int) : (specialS.data.toList.any fun b => decide ((b.toNat : Int) = r)) = specialL.contains r := by
  rw [Bool.eq_iff_iff]
  simp [specialS, specialL]
  omega

set_option maxHeartbeats 1600000 in
theorem syn_plain (r : Int) (w : World) (hr : runeOk r) :
    Calls Tryz.prog 128 #[.int .i32 r] w fun e w' => e = .returned (.bool (plainB r)) ∧ Below w.heap.size w w' := by
  have HS := Lib.hid (show Calls Tryz.prog 154 #[.string specialS, .int .i32 r] w fun e w' => e = .returned (.bool (specialL.contains r)) ∧ Below w.heap.size w w' by
    have := contains_rune specialS r w (by decide) (by decide) (by decide) hr
    rw [special_any] at this
    exact this)
  clear hr
  unfold plainB
  by_cases h0 : 0 ≤ r
  · have hd : decide (0 ≤ r) = true := decide_eq_true h0
    rw [hd]
    cases hb : blankB r
    · go_enter Tryz.func128, Tryz.ntmps128
      go_wp2_with fail
      refine (syn_blank _ _).mono ?_
      rintro e w1 ⟨rfl, hw⟩
      rw [hw, hb]
      go_wp2_with fail
      refine HS.out.mono ?_
      rintro e w2 ⟨rfl, hb2⟩
      go_wp2_with fail
      go_ret
      exact ⟨by simp, hb2⟩
    · go_enter Tryz.func128, Tryz.ntmps128
      go_wp2_with fail
      refine (syn_blank _ _).mono ?_
      rintro e w1 ⟨rfl, hw⟩
      rw [hw, hb]
      go_wp2_with fail
      go_ret
      exact ⟨by simp, Below.refl _ _⟩
  · have hd : decide (0 ≤ r) = false := decide_eq_false h0
    rw [hd]
    go_enter Tryz.func128, Tryz.ntmps128
    go_wp2_with fail
    go_ret
    exact ⟨by simp, Below.refl _ _⟩

end Go.Proofs.YthnhbcohfoodlaaGreatDoor
