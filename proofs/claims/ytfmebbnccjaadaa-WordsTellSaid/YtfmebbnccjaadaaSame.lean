/- Same: two lists of runes are the same. The walk of scriptref1.Same. -/
import Derived.Test.YtfmebbnccjaadaaRows
import Derived.Test.YtfmebbnccjaadaaMem
import Derived.Deep.QuietTactic
import Derived.BigQuiet
namespace Go.Proofs.Ytfmebbnccjaadaa
open Go.RowKit

theorem same_no {xs ys : List Int} {k : Nat} (h : (xs[k]?.getD 0 != ys[k]?.getD 0) = true) : false = (xs == ys) := by
  symm
  rw [beq_eq_false_iff_ne]
  rintro rfl
  simp at h
theorem same_step {xs ys : List Int} {k : Nat} (hx : k < xs.length) (hy : k < ys.length) (he : xs.take k = ys.take k) (h : (xs[k]?.getD 0 != ys[k]?.getD 0) = false) : xs.take (k + 1) = ys.take (k + 1) := by
  rw [List.take_succ_eq_append_getElem hx, List.take_succ_eq_append_getElem hy, he]
  simp [List.getElem?_eq_getElem hx, List.getElem?_eq_getElem hy] at h
  rw [h]
theorem same_yes {xs ys : List Int} {n : Nat} (hx : xs.length = n) (hy : ys.length = n) (he : xs.take n = ys.take n) : true = (xs == ys) := by
  rw [List.take_of_length_le (by omega), List.take_of_length_le (by omega)] at he
  simp [he]

set_option maxHeartbeats 400000 in
theorem ref_same (A C : Option Addr) (n m c d : Nat) (xs ys : List Int) (w : World) (hn : n ≤ 9223372036854775807)
    (hx : RdR w w.heap.size A n xs) (hy : RdR w w.heap.size C m ys) :
    Calls Try.prog 14 #[.slice A n c, .slice C m d] w fun e w' => e = .returned (.bool (xs == ys)) ∧ ∃ k, w' = w.drewN k := by
  have lx := hx.len
  have ly := hy.len
  by_cases hnm : n = m
  · subst hnm
    go_enter Try.func14, Try.ntmps14
    go_wp2
    go_loopw [13] (fun i wr => ∃ k q : Nat, k ≤ n ∧ i = .int .i64 k ∧ wr = w.drewN q ∧ xs.take k = ys.take k) (fun i _ => n - (intOf i).toNat)
    case atStart => exact ⟨0, 0, Nat.zero_le _, rfl, rfl, rfl⟩
    case round =>
      obtain ⟨k, q, hk, rfl, rfl, heq⟩ := hrel
      have HE := Lib.hid heq
      clear heq
      by_cases hlt : k < n
      · obtain ⟨b1, o1, rfl, hb1, hc1⟩ := hx.at hlt
        obtain ⟨b2, o2, rfl, hb2, hc2⟩ := hy.at hlt
        have HX := Lib.hid hx
        have HY := Lib.hid hy
        have LX := Lib.hid lx
        have LY := Lib.hid ly
        clear hx hy lx ly
        go_wp2
        go_quiet (fail)
        go_wp2
        · have hd : (xs[k]?.getD 0 != ys[k]?.getD 0) = true := by assumption
          go_ret
          exact ⟨ret_bool (same_no hd), _, World.drewN_drewN _ _ _⟩
        · have hd : (xs[k]?.getD 0 != ys[k]?.getD 0) = false := by assumption
          refine ⟨⟨k + 1, _, by omega, by go_num, rfl, same_step (by rw [LX.out]; exact hlt) (by rw [LY.out]; exact hlt) HE.out hd⟩, by simp [intOf]; omega⟩
      · obtain rfl : k = n := by omega
        go_wp2
        go_ret
        exact ⟨ret_bool (same_yes lx ly HE.out), _, rfl⟩
  · have hne : ((n : Int) != (m : Int)) = true := by rw [bne_iff_ne]; omega
    go_enter Try.func14, Try.ntmps14
    go_wp2
    go_ret
    refine ⟨ret_bool ?_, 0, rfl⟩
    symm
    rw [beq_eq_false_iff_ne]
    intro e
    rw [e] at lx
    omega

end Go.Proofs.Ytfmebbnccjaadaa
