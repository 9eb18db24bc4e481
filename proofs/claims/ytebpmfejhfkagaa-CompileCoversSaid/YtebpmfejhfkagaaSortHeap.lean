/- slices.reverseRangeOrdered, siftDownOrdered, heapSortOrdered at runes. -/
import Derived.Test.YtebpmfejhfkagaaSortIns
import Derived.Deep.DeepCutAuto
namespace Go.Proofs.Ytebpmfejhfkagaa
open Go.RowKit Go.Sort

def RvRel (w : World) (blk off a b : Nat) (d : Array Int) (vi vj : Value) (wr : World) : Prop :=
  ∃ (i j : Nat) (dk : Array Int), vi = .int .i64 i ∧ vj = .int .i64 j ∧ a ≤ i ∧ i ≤ b ∧ j < b ∧ dk.size = d.size ∧ RowIs w blk off dk wr ∧ reverseLoop i j dk = reverseRange d a b
set_option maxRecDepth 100000 in
set_option maxHeartbeats 1600000 in
theorem sort_rev (blk off cap a b : Nat) (d : Array Int) (w : World) (hH : RowAt w blk off d) (hab : a < b) (hb : b ≤ d.size) (hsz : d.size < 4611686018427387904) :
    Calls Try.prog 38 #[.slice (some ⟨blk, off, none⟩) d.size cap, .int .i64 a, .int .i64 b] w fun e w' => e = .returned (.tuple #[]) ∧ RowIs w blk off (reverseRange d a b) w' := by
  have HH := Lib.hid hH
  clear hH
  go_enter Try.func38, Try.ntmps38
  go_wp2
  go_loopw [6, 7] (RvRel w blk off a b d) (fun vi _ _ => b - (intOf vi).toNat)
  case atStart => exact ⟨a, b - 1, d, rfl, by go_num, Nat.le_refl _, by omega, by omega, rfl, RowIs.start HH.out, rfl⟩
  case round =>
    obtain ⟨i, j, dk, rfl, rfl, hai, hib, hjb, hsk, hrow, hO⟩ := hrel
    have HR := Lib.hid hrow
    by_cases hij : i < j
    · obtain ⟨G, hG, hcw, hfw⟩ := hrow.cells hsk
      have HG := Lib.hid hG
      have HM := Lib.hid (show reverseLoop (i + 1) (j - 1) (swp dk i j) = reverseRange d a b by rw [← hO]; conv => rhs; rw [reverseLoop]; simp [hij])
      clear hrow hO hG
      go_wp2
      go_region
      all_goals go_wp2
      all_goals
        exact ⟨⟨i + 1, j - 1, swp dk i j, by go_num, by go_num, by omega, by omega, by omega, by rw [Sort.swp_size]; exact hsk, (HR.out.drewN _).swap HG.out (by omega) (by omega), HM.out⟩, by simp only [intOf]; omega⟩
    · have HM := Lib.hid (show dk = reverseRange d a b by rw [← hO, reverseLoop, if_neg hij])
      clear hrow hO
      go_wp2
      go_end0
      exact ⟨rfl, by rw [← HM.out]; exact HR.out⟩

section
variable {α : Type} [Inhabited α] {lt : α → α → Bool} {hi F r : Nat} {d : Array α}
theorem sift_far (h : ¬ 2 * r + 1 ≥ hi) (h2 : 2 * r + 1 + 1 < hi) (hl : lt d[F + (2 * r + 1)]! d[F + (2 * r + 1) + 1]! = true) : siftDown lt hi F r d = if lt d[F + r]! d[F + (2 * r + 2)]! = true then siftDown lt hi F (2 * r + 2) (swp d (F + r) (F + (2 * r + 2))) else d := by
  rw [siftDown, dif_neg h, if_pos (by rw [hl]; simpa using h2), dif_pos (by omega)]
  cases lt d[F + r]! d[F + (2 * r + 2)]! <;> simp
theorem sift_near (h : ¬ 2 * r + 1 ≥ hi) (hl : ¬ (2 * r + 1 + 1 < hi ∧ lt d[F + (2 * r + 1)]! d[F + (2 * r + 1) + 1]! = true)) : siftDown lt hi F r d = if lt d[F + r]! d[F + (2 * r + 1)]! = true then siftDown lt hi F (2 * r + 1) (swp d (F + r) (F + (2 * r + 1))) else d := by
  rw [siftDown, dif_neg h, if_neg (by simpa using hl)]
  cases lt d[F + r]! d[F + (2 * r + 1)]! <;> simp
end
def SfRel (w : World) (blk off lo hi first : Nat) (d : Array Int) (vr : Value) (wr : World) : Prop :=
  ∃ (r : Nat) (dk : Array Int), vr = .int .i64 r ∧ r ≤ hi ∧ dk.size = d.size ∧ RowIs w blk off dk wr ∧ siftDown ltInt hi first r dk = siftDown ltInt hi first lo d
set_option maxRecDepth 100000 in
set_option maxHeartbeats 3200000 in
theorem sort_sift (blk off cap lo hi first : Nat) (d : Array Int) (w : World) (hH : RowAt w blk off d) (hlo : lo ≤ hi) (hb : first + hi ≤ d.size) (hsz : d.size < 2305843009213693952) :
    Calls Try.prog 49 #[.slice (some ⟨blk, off, none⟩) d.size cap, .int .i64 lo, .int .i64 hi, .int .i64 first] w fun e w' => e = .returned (.tuple #[]) ∧ RowIs w blk off (siftDown ltInt hi first lo d) w' := by
  have HH := Lib.hid hH
  clear hH
  go_enter Try.func49, Try.ntmps49
  go_wp2
  go_loopw [8] (SfRel w blk off lo hi first d) (fun vr _ => hi - (intOf vr).toNat)
  case atStart => exact ⟨lo, d, rfl, hlo, rfl, RowIs.start HH.out, rfl⟩
  case round =>
    obtain ⟨r, dk, rfl, hrh, hsk, hrow, hO⟩ := hrel
    have HR := Lib.hid hrow
    by_cases hch : 2 * r + 1 ≥ hi
    · have HM := Lib.hid (show dk = siftDown ltInt hi first lo d by rw [← hO, siftDown, dif_pos hch])
      clear hrow hO
      go_wp2
      go_end0
      exact ⟨rfl, by rw [← HM.out]; exact HR.out⟩
    · obtain ⟨G, hG, hcw, hfw⟩ := hrow.cells hsk
      have HG := Lib.hid hG
      have HO := Lib.hid hO
      clear hrow hO hG
      have hr1 : r < hi := by omega
      by_cases h2 : 2 * r + 1 + 1 < hi
      · go_wp2
        have hdt : decide (2 * (r : Int) + 1 + 1 < (hi : Int)) = true := by simp; omega
        go_quiet (first | (go_at_call 40; refine Calls.quiet_of_same (cmp_less _ _ _)))
        cases hl : ltInt (G (first + 2 * r + 1)) (G (first + 2 * r + 2)) with
        | true =>
          have hcq : ∀ t, t < d.size → (wr.drewN nq).cell? ⟨blk, off + t, none⟩ = some (.int .i32 (G t)) := hcw
          have hfq : ∀ t, t < d.size → (wr.drewN nq).frozen? ⟨blk, off + t, none⟩ = false := hfw
          have HRQ := Lib.hid (HR.out.drewN nq)
          generalize wr.drewN nq = wq at *
          clear hcw hfw HR
          have HE := Lib.hid (sift_far (lt := ltInt) (F := first) (d := dk) hch h2 (by rw [← HG.out, ← HG.out]; exact hl))
          go_wp2
          go_quiet (first | (go_at_call 40; refine Calls.quiet_of_same (cmp_less _ _ _)))
          cases hs : ltInt (G (first + r)) (G (first + 2 * r + 2)) with
          | true =>
            have HM := Lib.hid (show siftDown ltInt hi first (2 * r + 2) (swp dk (first + r) (first + (2 * r + 2))) = siftDown ltInt hi first lo d by rw [← HO.out, HE.out, if_pos (by rw [← HG.out, ← HG.out]; exact hs)])
            go_wp2
            go_region
            all_goals go_wp2
            all_goals
              exact ⟨⟨(2 * r + 2), swp dk (first + r) (first + (2 * r + 2)), by go_num, by omega, by rw [Sort.swp_size]; exact hsk, (HRQ.out.drewN _).swap HG.out (by omega) (by omega), HM.out⟩, by simp only [intOf]; omega⟩
          | false =>
            have HM := Lib.hid (show dk = siftDown ltInt hi first lo d by rw [← HO.out, HE.out, if_neg (by rw [← HG.out, ← HG.out, show first + (2 * r + 2) = first + 2 * r + 2 by omega, hs]; simp)])
            go_wp2
            refine bodyPost_ret (results_none (by rfl) _ _ _) (by rfl) ⟨rfl, ?_⟩
            rw [← HM.out]
            exact HRQ.out.drewN _
        | false =>
          have hcq : ∀ t, t < d.size → (wr.drewN nq).cell? ⟨blk, off + t, none⟩ = some (.int .i32 (G t)) := hcw
          have hfq : ∀ t, t < d.size → (wr.drewN nq).frozen? ⟨blk, off + t, none⟩ = false := hfw
          have HRQ := Lib.hid (HR.out.drewN nq)
          generalize wr.drewN nq = wq at *
          clear hcw hfw HR
          have HE := Lib.hid (sift_near (lt := ltInt) (F := first) (d := dk) hch (by rw [← HG.out, ← HG.out]; intro h; have := hl.symm.trans h.2; cases this))
          go_wp2
          go_quiet (first | (go_at_call 40; refine Calls.quiet_of_same (cmp_less _ _ _)))
          cases hs : ltInt (G (first + r)) (G (first + 2 * r + 1)) with
          | true =>
            have HM := Lib.hid (show siftDown ltInt hi first (2 * r + 1) (swp dk (first + r) (first + (2 * r + 1))) = siftDown ltInt hi first lo d by rw [← HO.out, HE.out, if_pos (by rw [← HG.out, ← HG.out]; exact hs)])
            go_wp2
            go_region
            all_goals go_wp2
            all_goals
              exact ⟨⟨(2 * r + 1), swp dk (first + r) (first + (2 * r + 1)), by go_num, by omega, by rw [Sort.swp_size]; exact hsk, (HRQ.out.drewN _).swap HG.out (by omega) (by omega), HM.out⟩, by simp only [intOf]; omega⟩
          | false =>
            have HM := Lib.hid (show dk = siftDown ltInt hi first lo d by rw [← HO.out, HE.out, if_neg (by rw [← HG.out, ← HG.out, show first + (2 * r + 1) = first + 2 * r + 1 by omega, hs]; simp)])
            go_wp2
            refine bodyPost_ret (results_none (by rfl) _ _ _) (by rfl) ⟨rfl, ?_⟩
            rw [← HM.out]
            exact HRQ.out.drewN _
      · go_wp2
        have hdt : decide (2 * (r : Int) + 1 + 1 < (hi : Int)) = false := by simp; omega
        go_quiet (first | (go_at_call 40; refine Calls.quiet_of_same (cmp_less _ _ _)))
        have hcq : ∀ t, t < d.size → (wr.drewN nq).cell? ⟨blk, off + t, none⟩ = some (.int .i32 (G t)) := hcw
        have hfq : ∀ t, t < d.size → (wr.drewN nq).frozen? ⟨blk, off + t, none⟩ = false := hfw
        have HRQ := Lib.hid (HR.out.drewN nq)
        generalize wr.drewN nq = wq at *
        clear hcw hfw HR
        have HE := Lib.hid (sift_near (lt := ltInt) (F := first) (d := dk) hch (fun h => h2 h.1))
        go_wp2
        go_quiet (first | (go_at_call 40; refine Calls.quiet_of_same (cmp_less _ _ _)))
        cases hs : ltInt (G (first + r)) (G (first + 2 * r + 1)) with
        | true =>
          have HM := Lib.hid (show siftDown ltInt hi first (2 * r + 1) (swp dk (first + r) (first + (2 * r + 1))) = siftDown ltInt hi first lo d by rw [← HO.out, HE.out, if_pos (by rw [← HG.out, ← HG.out]; exact hs)])
          go_wp2
          go_region
          all_goals go_wp2
          all_goals
            exact ⟨⟨(2 * r + 1), swp dk (first + r) (first + (2 * r + 1)), by go_num, by omega, by rw [Sort.swp_size]; exact hsk, (HRQ.out.drewN _).swap HG.out (by omega) (by omega), HM.out⟩, by simp only [intOf]; omega⟩
        | false =>
          have HM := Lib.hid (show dk = siftDown ltInt hi first lo d by rw [← HO.out, HE.out, if_neg (by rw [← HG.out, ← HG.out, show first + (2 * r + 1) = first + 2 * r + 1 by omega, hs]; simp)])
          go_wp2
          refine bodyPost_ret (results_none (by rfl) _ _ _) (by rfl) ⟨rfl, ?_⟩
          rw [← HM.out]
          exact HRQ.out.drewN _

end Go.Proofs.Ytebpmfejhfkagaa
