/- Right + Pass -/
import Derived.Test.YthnhbcohfoodlaaGreatDoorRows
import Derived.Test.YthnhbcohfoodlaaGreatDoorZk4
namespace Go.Proofs.YthnhbcohfoodlaaGreatDoor
open Go.RowKit
def rightB (r : Int) : Bool := decide ((0 ≤ r ∧ r < 55296) ∨ (57343 < r ∧ r ≤ 1114111))
theorem valid_rune (r : Int) (w : World) :
    Calls Tryz.prog 141 #[.int .i32 r] w fun e w' => e = .returned (.bool (rightB r)) ∧ w = w' := by
  go_enter Tryz.func141, Tryz.ntmps141
  go_wp2
  all_goals go_ret
  all_goals refine ⟨ret_bool ?_, rfl⟩
  all_goals (rw [Bool.eq_iff_iff]; simp [rightB]; try omega)
theorem runes_right (r : Int) (w : World) :
    Calls Tryz.prog 87 #[.int .i32 r] w fun e w' => e = .returned (.bool (rightB r)) ∧ w = w' := by
  go_enter Tryz.func87, Tryz.ntmps87
  go_wp2_with (go_at_call 141; refine (valid_rune _ _).mono ?_; rintro e w' ⟨rfl, rfl⟩)
  go_ret
  exact ⟨rfl, rfl⟩
end Go.Proofs.YthnhbcohfoodlaaGreatDoor

namespace Go.Proofs.YthnhbcohfoodlaaGreatDoor
open Go.RowKit
def nmLower : ByteArray := ⟨#[108, 111, 119, 101, 114]⟩
def nmNull : ByteArray := ⟨#[110, 117, 108, 108]⟩
def nmRemove : ByteArray := ⟨#[114, 101, 109, 111, 118, 101]⟩
def nmUpper : ByteArray := ⟨#[117, 112, 112, 101, 114]⟩
def isOne (s : ByteArray) (l : List ByteArray) : Bool := l.any fun t => s.toList == t.toList
def passB (s : ByteArray) : Bool := isOne s [nmLower, nmNull, nmRemove, nmUpper]
theorem one_cons (s t : ByteArray) (l : List ByteArray) : isOne s (t :: l) = ((s.toList == t.toList) || isOne s l) := rfl
theorem drop_get {α : Type} {l : List α} {j : Nat} {x : α} (h : l[j]? = some x) : l.drop j = x :: l.drop (j + 1) := by
  obtain ⟨hj, rfl⟩ := List.getElem?_eq_some_iff.1 h
  exact List.drop_eq_getElem_cons hj
def IxRel (W : World) (s : ByteArray) (l : List ByteArray) (n : Nat) (i : Value) (wr : World) : Prop :=
  ∃ k : Nat, k ≤ n ∧ i = .int .i64 k ∧ isOne s l = isOne s (l.drop k) ∧ wr = W
set_option maxRecDepth 100000 in
set_option maxHeartbeats 800000 in
theorem str_index (b off n c : Nat) (s : ByteArray) (l : List ByteArray) (hn : l.length = n) (hm : n ≤ 9223372036854775807) (w : World) (hl : ∀ k t, l[k]? = some t → w.cell? ⟨b, off + k, none⟩ = some (.string t)) :
    Calls Tryz.prog 146 #[.slice (some ⟨b, off, none⟩) n c, .string s] w fun e w' => (∃ z : Int, e = .returned (.int .i64 z) ∧ decide (0 ≤ z) = isOne s l) ∧ w = w' := by
  have HL := Lib.hid hl
  have HN := Lib.hid hn
  clear hl hn
  go_enter Tryz.func146, Tryz.ntmps146
  go_wp2_with fail
  go_loopw [8] (IxRel w s l n) (fun i _ => n - (intOf i).toNat)
  case atStart => exact ⟨0, Nat.zero_le _, rfl, rfl, rfl⟩
  case round =>
    obtain ⟨k, hk, rfl, hgo, rfl⟩ := hrel
    by_cases hlt : k < n
    · obtain ⟨t, ht⟩ : ∃ z, l[k]? = some z := ⟨_, List.getElem?_eq_getElem (by rw [HN.out]; exact hlt)⟩
      have d0 := HL.out k t ht
      rw [drop_get ht, one_cons] at hgo
      cases he : s.toList == t.toList
      · rw [he, Bool.false_or] at hgo
        have HG := Lib.hid hgo
        clear hgo
        go_wp2_with fail
        exact ⟨⟨k + 1, by omega, by go_num, HG.out, rfl⟩, by simp [intOf]; omega⟩
      · rw [he, Bool.true_or] at hgo
        have HG := Lib.hid hgo
        clear hgo
        go_wp2_with fail
        go_ret
        exact ⟨⟨_, rfl, by rw [HG.out]; simp⟩, rfl⟩
    · obtain rfl : k = n := by omega
      rw [List.drop_of_length_le (by rw [HN.out]; omega)] at hgo
      have HG := Lib.hid (hgo.trans (show isOne s [] = false from rfl))
      clear hgo
      go_wp2_with fail
      go_ret
      exact ⟨⟨_, rfl, by rw [HG.out]; simp⟩, rfl⟩
theorem str_has (b off n c : Nat) (s : ByteArray) (l : List ByteArray) (hn : l.length = n) (hm : n ≤ 9223372036854775807) (w : World) (hl : ∀ k t, l[k]? = some t → w.cell? ⟨b, off + k, none⟩ = some (.string t)) :
    Calls Tryz.prog 96 #[.slice (some ⟨b, off, none⟩) n c, .string s] w fun e w' => e = .returned (.bool (isOne s l)) ∧ w = w' := by
  have H := Lib.hid (str_index b off n c s l hn hm w hl)
  clear hl hn
  go_enter Tryz.func96, Tryz.ntmps96
  go_wp2_with fail
  refine H.out.mono ?_
  rintro e w2 ⟨⟨z, rfl, hz⟩, rfl⟩
  have HZ := Lib.hid hz
  clear hz
  go_wp2_with fail
  go_ret
  exact ⟨ret_bool HZ.out, rfl⟩
theorem rulesyn_passes (w : World) :
    Calls Tryz.prog 97 #[] w fun e w' => e = .returned (.slice (some ⟨w.heap.size, 0, none⟩) 4 4) ∧ w' = w.alloc (.cells #[.string nmLower, .string nmNull, .string nmRemove, .string nmUpper] 9) := by
  go_enter Tryz.func97, Tryz.ntmps97
  go_wp2_with fail
  go_ret
  exact ⟨rfl, rfl⟩
theorem pass_has (b : Nat) (s : ByteArray) (v : Bool) (hv : passB s = v) (w : World) (h : Blk w b 9 #[.string nmLower, .string nmNull, .string nmRemove, .string nmUpper]) :
    Calls Tryz.prog 96 #[.slice (some ⟨b, 0, none⟩) 4 4, .string s] w fun e w' => e = .returned (.bool v) ∧ w = w' := by
  subst hv
  refine str_has b 0 4 4 s [nmLower, nmNull, nmRemove, nmUpper] rfl (by decide) w fun k t hk => ?_
  rw [Nat.zero_add, h.cell]
  match k, hk with
  | 0, hk => cases hk; rfl
  | 1, hk => cases hk; rfl
  | 2, hk => cases hk; rfl
  | 3, hk => cases hk; rfl
end Go.Proofs.YthnhbcohfoodlaaGreatDoor
