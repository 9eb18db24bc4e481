/- The walks of analyse.Sure and scriptref9.Sure: they tell sureP. -/
import Derived.Test.YtfmebbnccjaadaaAlignP
namespace Go.Proofs.Ytfmebbnccjaadaa
open Go.RowKit

theorem sure_cons (r : RuleD) (l : List RuleD) : sureP (r :: l) = ((r.cursor == (r.target.length : Int)) && sureP l) := rfl
def SureRel (w : World) (l : List RuleD) (n : Nat) (i : Value) (wr : World) : Prop :=
  ∃ k : Nat, k ≤ n ∧ i = .int .i64 k ∧ sureP l = sureP (l.drop k) ∧ Below w.heap.size w wr
theorem sure_one (r : RuleD) (A1 A2 A3 A4 : Option Addr) (n1 c1 n2 c2 n3 c3 n4 c4 : Nat) (w : World) (h4 : r.target.length = n4) :
    Calls Try.prog 81 #[.agg #[.bool r.start, .bool r.fin, .slice A1 n1 c1, .slice A2 n2 c2, .slice A3 n3 c3, .slice A4 n4 c4, .int .i64 r.cursor]] w fun e w' => e = .returned (.bool (!(r.cursor == (r.target.length : Int)))) ∧ Below w.heap.size w w' := by
  subst h4
  go_enter Try.func81, Try.ntmps81
  go_wp2_with fail
  go_ret
  exact ⟨rfl, (Below.refl _ _).alloc (Nat.le_refl _) _⟩

set_option maxRecDepth 100000 in
set_option maxHeartbeats 1600000 in
theorem sure_index (X : Nat → Prop) (A : Option Addr) (n c : Nat) (l : List RuleD) (w : World) (hl : ListX (RuleC w X) w X 7 A n l) (hn : n ≤ maxLen) :
    Calls Try.prog 99 #[.slice A n c, .func (.func 81) #[] #[]] w fun e w' => (∃ z : Int, e = .returned (.int .i64 z) ∧ (decide (0 ≤ z) = !sureP l)) ∧ Below w.heap.size w w' := by
  have HLEN := Lib.hid (show l.length = n from hl.len)
  have HL := Lib.hid hl
  clear hl
  simp only [maxLen] at hn
  go_enter Try.func99, Try.ntmps99
  go_wp2_with fail
  go_loopw [8] (SureRel w l n) (fun i _ => n - (intOf i).toNat)
  case atStart => exact ⟨0, Nat.zero_le _, rfl, rfl, Below.refl _ _⟩
  case round =>
    obtain ⟨k, hk, rfl, hgo, hb⟩ := hrel
    by_cases hlt : k < n
    · obtain ⟨r, hr⟩ : ∃ z, l[k]? = some z := ⟨_, List.getElem?_eq_getElem (by rw [HLEN.out]; exact hlt)⟩
      obtain ⟨b, off, A1, A2, A3, A4, n1, c1, n2, c2, n3, c3, n4, c4, rfl, _, hbb, ⟨d0, d1, d2, d3, d4, d5, d6⟩, s1, s2, s3, s4, hn4⟩ := rule_at (HL.out.keep (Keeps.any hb) (fun _ _ => RuleC.keep (Keeps.any hb))) hr
      have ht4 : r.target.length = n4 := by have := s4.1; rw [runeCells_length] at this; omega
      have HM := Lib.hid (sure_one r A1 A2 A3 A4 n1 c1 n2 c2 n3 c3 n4 c4 wr ht4)
      rw [drop_at hr, sure_cons] at hgo
      have HGO := Lib.hid hgo
      have HB := Lib.hid hb
      clear hgo hr hb s1 s2 s3 s4 hn4 ht4
      go_wp2_with fail
      refine HM.out.mono ?_
      rintro e w9 ⟨rfl, hb9⟩
      have HB9 := Lib.hid (HB.out.trans (hb9.mono HB.out.size))
      clear hb9
      cases hh : (r.cursor == (r.target.length : Int))
      · have HG := Lib.hid (HGO.out.trans (by rw [hh, Bool.false_and]))
        clear hh
        go_wp2_with fail
        go_ret
        exact ⟨⟨_, rfl, by rw [HG.out]; simp⟩, HB9.out⟩
      · have HG := Lib.hid (HGO.out.trans (by rw [hh, Bool.true_and]))
        clear hh
        go_wp2_with fail
        exact ⟨⟨k + 1, by omega, by go_num, HG.out, HB9.out⟩, by simp [intOf]; omega⟩
    · obtain rfl : k = n := by omega
      rw [List.drop_of_length_le (by rw [HLEN.out]; omega)] at hgo
      have HG := Lib.hid (hgo.trans (show sureP [] = true from rfl))
      clear hgo
      go_wp2_with fail
      go_ret
      exact ⟨⟨_, rfl, by rw [HG.out]; simp⟩, hb⟩

set_option maxRecDepth 100000 in
theorem sure_has (X : Nat → Prop) (A : Option Addr) (n c : Nat) (l : List RuleD) (w : World) (hl : ListX (RuleC w X) w X 7 A n l) (hn : n ≤ maxLen) :
    Calls Try.prog 80 #[.slice A n c, .func (.func 81) #[] #[]] w fun e w' => e = .returned (.bool (!sureP l)) ∧ Below w.heap.size w w' := by
  have H := Lib.hid (sure_index X A n c l w hl hn)
  clear hl
  go_enter Try.func80, Try.ntmps80
  go_wp2_with fail
  refine H.out.mono ?_
  rintro e w2 ⟨⟨z, rfl, hz⟩, hb⟩
  have HZ := Lib.hid hz
  clear hz
  go_wp2_with fail
  go_ret
  exact ⟨ret_bool HZ.out, hb⟩
theorem analyse_sure (X : Nat → Prop) (A : Option Addr) (n c : Nat) (l : List RuleD) (w : World) (hl : ListX (RuleC w X) w X 7 A n l) (hn : n ≤ maxLen) :
    Calls Try.prog 47 #[.slice A n c] w fun e w' => e = .returned (.bool (sureP l)) ∧ Below w.heap.size w w' := by
  have H := Lib.hid (sure_has X A n c l w hl hn)
  clear hl
  go_enter Try.func47, Try.ntmps47
  go_wp2_with fail
  refine H.out.mono ?_
  rintro e w2 ⟨rfl, hb⟩
  go_wp2_with fail
  go_ret
  exact ⟨ret_bool (by simp), hb⟩

set_option maxRecDepth 100000 in
set_option maxHeartbeats 1600000 in
theorem ref9_sure (X : Nat → Prop) (A : Option Addr) (n c : Nat) (l : List RuleD) (w : World) (hl : ListX (RuleC w X) w X 7 A n l) (hn : n ≤ maxLen) :
    Calls Try.prog 48 #[.slice A n c] w fun e w' => e = .returned (.bool (sureP l)) ∧ Below w.heap.size w w' := by
  have HLEN := Lib.hid (show l.length = n from hl.len)
  have HL := Lib.hid hl
  clear hl
  simp only [maxLen] at hn
  go_enter Try.func48, Try.ntmps48
  go_wp2_with fail
  go_loopw [7] (SureRel w l n) (fun i _ => n - (intOf i).toNat)
  case atStart => exact ⟨0, Nat.zero_le _, rfl, rfl, Below.refl _ _⟩
  case round =>
    obtain ⟨k, hk, rfl, hgo, hb⟩ := hrel
    by_cases hlt : k < n
    · obtain ⟨r, hr⟩ : ∃ z, l[k]? = some z := ⟨_, List.getElem?_eq_getElem (by rw [HLEN.out]; exact hlt)⟩
      obtain ⟨b, off, A1, A2, A3, A4, n1, c1, n2, c2, n3, c3, n4, c4, rfl, _, hbb, ⟨d0, d1, d2, d3, d4, d5, d6⟩, s1, s2, s3, s4, hn4⟩ := rule_at (HL.out.keep (Keeps.any hb) (fun _ _ => RuleC.keep (Keeps.any hb))) hr
      have ht4 : r.target.length = n4 := by have := s4.1; rw [runeCells_length] at this; omega
      rw [drop_at hr, sure_cons] at hgo
      have HGO := Lib.hid hgo
      have hz := hb.size
      have HB9 := Lib.hid (hb.alloc hz (.cells #[.bool r.start, .bool r.fin, .slice A1 n1 c1, .slice A2 n2 c2, .slice A3 n3 c3, .slice A4 n4 c4, .int .i64 r.cursor] 79))
      clear hgo hr hb s1 s2 s3 s4 hn4
      subst ht4
      cases hh : (r.cursor == (r.target.length : Int))
      · have HG := Lib.hid (HGO.out.trans (by rw [hh, Bool.false_and]))
        have hne : (r.cursor != (r.target.length : Int)) = true := by rw [bne, hh]; rfl
        clear hh
        go_wp2_with fail
        go_ret
        exact ⟨ret_bool HG.out.symm, HB9.out⟩
      · have HG := Lib.hid (HGO.out.trans (by rw [hh, Bool.true_and]))
        have hne : (r.cursor != (r.target.length : Int)) = false := by rw [bne, hh]; rfl
        clear hh
        go_wp2_with fail
        exact ⟨⟨k + 1, by omega, by go_num, HG.out, HB9.out⟩, by simp [intOf]; omega⟩
    · obtain rfl : k = n := by omega
      rw [List.drop_of_length_le (by rw [HLEN.out]; omega)] at hgo
      have HG := Lib.hid (hgo.trans (show sureP [] = true from rfl))
      clear hgo
      go_wp2_with fail
      go_ret
      exact ⟨ret_bool HG.out.symm, hb⟩

end Go.Proofs.Ytfmebbnccjaadaa
