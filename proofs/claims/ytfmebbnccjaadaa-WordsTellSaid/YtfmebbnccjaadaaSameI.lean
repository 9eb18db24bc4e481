/- Two lists of numbers are the same: the walks of scriptref9.Same and of slices.Equal at numbers. -/
import Derived.Test.YtfmebbnccjaadaaRuleFoot
import Derived.Deep.QuietTactic
import Derived.BigQuiet
namespace Go.Proofs.Ytfmebbnccjaadaa
open Go.RowKit

theorem sameI_no {xs ys : List Int} {k : Nat} {x y : Int} (hx : xs[k]? = some x) (hy : ys[k]? = some y) (h : x ≠ y) : false = (xs == ys) := by
  symm
  rw [beq_eq_false_iff_ne]
  rintro rfl
  rw [hx] at hy
  cases hy
  exact h rfl
theorem sameI_step {xs ys : List Int} {k : Nat} {x : Int} (hx : xs[k]? = some x) (hy : ys[k]? = some x) (he : xs.take k = ys.take k) : xs.take (k + 1) = ys.take (k + 1) := by
  rw [List.take_add_one, List.take_add_one, he, hx, hy]
theorem sameI_yes {xs ys : List Int} {n : Nat} (hx : xs.length = n) (hy : ys.length = n) (he : xs.take n = ys.take n) : true = (xs == ys) := by
  rw [List.take_of_length_le (by omega), List.take_of_length_le (by omega)] at he
  simp [he]

set_option maxHeartbeats 800000 in
theorem ref9_same (A C : Option Addr) (n m c d : Nat) (xs ys : List Int) (w : World) (hn : n ≤ 9223372036854775807) (hx : RdI w w.heap.size A n xs) (hy : RdI w w.heap.size C m ys) :
    Calls Try.prog 45 #[.slice A n c, .slice C m d] w fun e w' => e = .returned (.bool (xs == ys)) ∧ ∃ k, w' = w.drewN k := by
  have LX := Lib.hid hx.len
  have LY := Lib.hid hy.len
  have HX := Lib.hid hx
  have HY := Lib.hid hy
  clear hx hy
  by_cases hnm : n = m
  · subst hnm
    go_enter Try.func45, Try.ntmps45
    go_wp2_with fail
    go_loopw [13] (fun i wr => ∃ k q : Nat, k ≤ n ∧ i = .int .i64 k ∧ wr = w.drewN q ∧ xs.take k = ys.take k) (fun i _ => n - (intOf i).toNat)
    case atStart => exact ⟨0, 0, Nat.zero_le _, rfl, rfl, rfl⟩
    case round =>
      obtain ⟨k, q, hk, rfl, rfl, heq⟩ := hrel
      have HE := Lib.hid heq
      clear heq
      by_cases hlt : k < n
      · obtain ⟨x, hx⟩ : ∃ z, xs[k]? = some z := ⟨_, List.getElem?_eq_getElem (by rw [LX.out]; exact hlt)⟩
        obtain ⟨y, hy⟩ : ∃ z, ys[k]? = some z := ⟨_, List.getElem?_eq_getElem (by rw [LY.out]; exact hlt)⟩
        obtain ⟨b1, o1, rfl, hb1, hc1⟩ := HX.out.at hx
        obtain ⟨b2, o2, rfl, hb2, hc2⟩ := HY.out.at hy
        have HX1 := Lib.hid hx
        have HY1 := Lib.hid hy
        clear hx hy
        by_cases he : x = y
        · subst he
          go_wp2_with fail
          go_quiet (fail)
          go_wp2_with fail
          exact ⟨⟨k + 1, _, by omega, by go_num, rfl, sameI_step HX1.out HY1.out HE.out⟩, by simp [intOf]; omega⟩
        · have hd : (x != y) = true := by rw [bne_iff_ne]; exact he
          go_wp2_with fail
          go_quiet (fail)
          go_wp2_with fail
          go_ret
          exact ⟨ret_bool (sameI_no HX1.out HY1.out he), _, World.drewN_drewN _ _ _⟩
      · obtain rfl : k = n := by omega
        go_wp2_with fail
        go_ret
        exact ⟨ret_bool (sameI_yes LX.out LY.out HE.out), _, rfl⟩
  · have hne : ((n : Int) != (m : Int)) = true := by rw [bne_iff_ne]; omega
    go_enter Try.func45, Try.ntmps45
    go_wp2_with fail
    go_ret
    refine ⟨ret_bool ?_, 0, rfl⟩
    symm
    rw [beq_eq_false_iff_ne]
    intro e
    have h1 := LX.out
    have h2 := LY.out
    rw [e] at h1
    omega

set_option maxHeartbeats 800000 in
theorem slices_equal (A C : Option Addr) (n m c d : Nat) (xs ys : List Int) (w : World) (hn : n ≤ 9223372036854775807) (hx : RdI w w.heap.size A n xs) (hy : RdI w w.heap.size C m ys) :
    Calls Try.prog 94 #[.slice A n c, .slice C m d] w fun e w' => e = .returned (.bool (xs == ys)) ∧ ∃ k, w' = w.drewN k := by
  have LX := Lib.hid hx.len
  have LY := Lib.hid hy.len
  have HX := Lib.hid hx
  have HY := Lib.hid hy
  clear hx hy
  by_cases hnm : n = m
  · subst hnm
    go_enter Try.func94, Try.ntmps94
    go_wp2_with fail
    go_loopw [13] (fun i wr => ∃ k q : Nat, k ≤ n ∧ i = .int .i64 k ∧ wr = w.drewN q ∧ xs.take k = ys.take k) (fun i _ => n - (intOf i).toNat)
    case atStart => exact ⟨0, 0, Nat.zero_le _, rfl, rfl, rfl⟩
    case round =>
      obtain ⟨k, q, hk, rfl, rfl, heq⟩ := hrel
      have HE := Lib.hid heq
      clear heq
      by_cases hlt : k < n
      · obtain ⟨x, hx⟩ : ∃ z, xs[k]? = some z := ⟨_, List.getElem?_eq_getElem (by rw [LX.out]; exact hlt)⟩
        obtain ⟨y, hy⟩ : ∃ z, ys[k]? = some z := ⟨_, List.getElem?_eq_getElem (by rw [LY.out]; exact hlt)⟩
        obtain ⟨b1, o1, rfl, hb1, hc1⟩ := HX.out.at hx
        obtain ⟨b2, o2, rfl, hb2, hc2⟩ := HY.out.at hy
        have HX1 := Lib.hid hx
        have HY1 := Lib.hid hy
        clear hx hy
        by_cases he : x = y
        · subst he
          go_wp2_with fail
          go_quiet (fail)
          go_wp2_with fail
          exact ⟨⟨k + 1, _, by omega, by go_num, rfl, sameI_step HX1.out HY1.out HE.out⟩, by simp [intOf]; omega⟩
        · have hd : (x != y) = true := by rw [bne_iff_ne]; exact he
          go_wp2_with fail
          go_quiet (fail)
          go_wp2_with fail
          go_ret
          exact ⟨ret_bool (sameI_no HX1.out HY1.out he), _, World.drewN_drewN _ _ _⟩
      · obtain rfl : k = n := by omega
        go_wp2_with fail
        go_ret
        exact ⟨ret_bool (sameI_yes LX.out LY.out HE.out), _, rfl⟩
  · have hne : ((n : Int) != (m : Int)) = true := by rw [bne_iff_ne]; omega
    go_enter Try.func94, Try.ntmps94
    go_wp2_with fail
    go_ret
    refine ⟨ret_bool ?_, 0, rfl⟩
    symm
    rw [beq_eq_false_iff_ne]
    intro e
    have h1 := LX.out
    have h2 := LY.out
    rw [e] at h1
    omega

end Go.Proofs.Ytfmebbnccjaadaa
