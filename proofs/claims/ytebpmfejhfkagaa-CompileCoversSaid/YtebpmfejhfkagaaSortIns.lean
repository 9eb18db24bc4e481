/- slices.insertionSortOrdered at runes. -/
import Derived.Test.YtebpmfejhfkagaaSortBase
namespace Go.Proofs.Ytebpmfejhfkagaa
open Go.RowKit Go.Sort

section
variable {α : Type} [Inhabited α] (lt : α → α → Bool)
theorem ins_more (a j : Nat) (d : Array α) (hj : a < j) (hl : lt d[j]! d[j - 1]! = true) : insInner lt a j d = insInner lt a (j - 1) (swp d j (j - 1)) := by
  cases j with
  | zero => omega
  | succ k =>
    rw [insInner]
    simp only [Nat.add_sub_cancel] at hl ⊢
    rw [hl]
    simp [hj]
theorem ins_end (a j : Nat) (d : Array α) (h : j ≤ a ∨ lt d[j]! d[j - 1]! = false) : insInner lt a j d = d := by
  cases j with
  | zero => rw [insInner]
  | succ k =>
    rw [insInner]
    simp only [Nat.add_sub_cancel] at h
    rcases h with h | h
    · simp [show ¬ a < k + 1 by omega]
    · simp [h]
theorem ins_next (a b i : Nat) (d : Array α) (h : i < b) : insOuter lt a b i d = insOuter lt a b (i + 1) (insInner lt a i d) := by
  rw [insOuter, if_pos h]
theorem ins_all (a b i : Nat) (d : Array α) (h : ¬ i < b) : insOuter lt a b i d = d := by rw [insOuter, if_neg h]
end
/-- The outer loop at i. -/
def InsO (w : World) (blk off a b : Nat) (d : Array Int) (vi : Value) (wr : World) : Prop :=
  ∃ (i : Nat) (dk : Array Int), vi = .int .i64 i ∧ a < i ∧ i ≤ b + 1 ∧ dk.size = d.size ∧ RowIs w blk off dk wr ∧ insOuter ltInt a b i dk = insertionSort ltInt d a b
/-- The inner loop at j. -/
def InsI (w : World) (blk off a i : Nat) (d dk : Array Int) (vj : Value) (wr : World) : Prop :=
  ∃ (j : Nat) (dj : Array Int), vj = .int .i64 j ∧ a ≤ j ∧ j ≤ i ∧ dj.size = d.size ∧ RowIs w blk off dj wr ∧ insInner ltInt a j dj = insInner ltInt a i dk
set_option maxRecDepth 100000 in
set_option maxHeartbeats 1600000 in
theorem sort_ins (blk off cap a b : Nat) (d : Array Int) (w : World) (hH : RowAt w blk off d) (hab : a ≤ b) (hb : b ≤ d.size) (hsz : d.size < 4611686018427387904) :
    Calls Try.prog 34 #[.slice (some ⟨blk, off, none⟩) d.size cap, .int .i64 a, .int .i64 b] w fun e w' => e = .returned (.tuple #[]) ∧ RowIs w blk off (insertionSort ltInt d a b) w' := by
  have HH := Lib.hid hH
  clear hH
  go_enter Try.func34, Try.ntmps34
  go_wp2
  go_loopw [6] (InsO w blk off a b d) (fun vi _ => b + 1 - (intOf vi).toNat)
  case atStart => exact ⟨a + 1, d, by go_num, by omega, by omega, rfl, RowIs.start HH.out, rfl⟩
  case round =>
    obtain ⟨i, dk, rfl, hai, hib, hsk, hrow, hO⟩ := hrel
    have HR := Lib.hid hrow
    have HO := Lib.hid hO
    clear hrow hO
    by_cases hlt : i < b
    · go_wp2
      go_loopw [7] (InsI w blk off a i d dk) (fun vj _ => (intOf vj).toNat)
      case atStart => exact ⟨i, dk, rfl, by omega, Nat.le_refl _, hsk, HR.out, rfl⟩
      case round =>
        obtain ⟨j, dj, rfl, haj, hji, hsj, hrow, hI⟩ := hrel
        obtain ⟨G, hG, hcw, hfw⟩ := hrow.cells hsj
        have HR2 := Lib.hid hrow
        have HG := Lib.hid hG
        have HI := Lib.hid hI
        clear hrow hG hI
        go_wp2
        by_cases hja : a < j
        · go_quiet (first | (go_at_call 40; refine Calls.quiet_of_same (cmp_less _ _ _)))
          cases hl : ltInt (G j) (G (j - 1)) with
          | true =>
            have hd : ltInt dj[j]! dj[j - 1]! = true := by rw [← HG.out, ← HG.out]; exact hl
            have HM := Lib.hid (ins_more ltInt a j dj hja hd)
            go_wp2
            go_region
            all_goals go_wp2
            all_goals
              refine ⟨⟨j - 1, swp dj j (j - 1), by go_num, by omega, by omega, by rw [Sort.swp_size]; exact hsj, (HR2.out.drewN (nq + 1)).swap HG.out (by omega) (by omega), by rw [← HM.out]; exact HI.out⟩, by simp only [intOf]; omega⟩
          | false =>
            have hd : ltInt dj[j]! dj[j - 1]! = false := by rw [← HG.out, ← HG.out]; exact hl
            have HM := Lib.hid (ins_end ltInt a j dj (.inr hd))
            go_wp2
            exact ⟨⟨i + 1, dj, by go_num, by omega, by omega, hsj, HR2.out.drewN nq, by rw [← HO.out, ins_next ltInt a b i dk hlt, ← HI.out, HM.out]⟩, by simp only [intOf]; omega⟩
        · have HM := Lib.hid (ins_end ltInt a j dj (.inl (by omega)))
          have hdf : decide ((a : Int) < (j : Int)) = false := by simp; omega
          go_quiet (first | (go_at_call 40; refine Calls.quiet_of_same (cmp_less _ _ _)))
          go_wp2
          exact ⟨⟨i + 1, dj, by go_num, by omega, by omega, hsj, HR2.out.drewN nq, by rw [← HO.out, ins_next ltInt a b i dk hlt, ← HI.out, HM.out]⟩, by simp only [intOf]; omega⟩
    · have HM := Lib.hid (ins_all ltInt a b i dk hlt)
      go_wp2
      go_end0
      exact ⟨rfl, by rw [← HO.out, HM.out]; exact HR.out⟩

end Go.Proofs.Ytebpmfejhfkagaa
