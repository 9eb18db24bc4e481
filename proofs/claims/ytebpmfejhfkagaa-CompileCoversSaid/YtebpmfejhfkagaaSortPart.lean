/- slices.partialInsertionSortOrdered at runes. -/
import Derived.Test.YtebpmfejhfkagaaSortPivot
import Derived.Deep.CutBlock
namespace Go.Proofs.Ytebpmfejhfkagaa
open Go.RowKit Go.Sort

section
variable {α : Type} [Inhabited α] (lt : α → α → Bool)
theorem shd_size : ∀ (j : Nat) (d : Array α), (shiftDown lt j d).size = d.size := by
  intro j
  induction j with
  | zero => intro d; rfl
  | succ j ih =>
    intro d
    rw [shiftDown]
    by_cases h : (!lt d[j + 1]! d[j]!) = true
    · rw [if_pos h]
    · rw [if_neg h, ih, Sort.swp_size]
theorem shu_size (b : Nat) : ∀ (n j : Nat) (d : Array α), b - j ≤ n → (shiftUp lt b j d).size = d.size := by
  intro n
  induction n with
  | zero => intro j d h; rw [shiftUp, if_neg (by omega)]
  | succ n ih =>
    intro j d h
    rw [shiftUp]
    by_cases hj : j < b
    · rw [if_pos hj]
      by_cases h : (!lt d[j]! d[j - 1]!) = true
      · rw [if_pos h]
      · rw [if_neg h, ih _ _ (by omega), Sort.swp_size]
    · rw [if_neg hj]
theorem shd_more {j : Nat} {d : Array α} (hj : 1 ≤ j) (hl : lt d[j]! d[j - 1]! = true) : shiftDown lt j d = shiftDown lt (j - 1) (swp d j (j - 1)) := by
  obtain ⟨k, rfl⟩ : ∃ k, j = k + 1 := ⟨j - 1, by omega⟩
  simp only [Nat.add_sub_cancel] at hl ⊢
  rw [shiftDown, if_neg (by rw [hl]; simp)]
theorem shd_end {j : Nat} {d : Array α} (h : j < 1 ∨ lt d[j]! d[j - 1]! = false) : shiftDown lt j d = d := by
  cases j with
  | zero => rfl
  | succ k =>
    simp only [Nat.add_sub_cancel] at h
    rcases h with h | h
    · omega
    · rw [shiftDown, if_pos (by rw [h]; rfl)]
theorem shu_more {b j : Nat} {d : Array α} (hj : j < b) (hl : lt d[j]! d[j - 1]! = true) : shiftUp lt b j d = shiftUp lt b (j + 1) (swp d j (j - 1)) := by
  rw [shiftUp, if_pos hj, if_neg (by rw [hl]; simp)]
theorem shu_end {b j : Nat} {d : Array α} (h : ¬ j < b ∨ lt d[j]! d[j - 1]! = false) : shiftUp lt b j d = d := by
  rw [shiftUp]
  by_cases hj : j < b
  · rw [if_pos hj, if_pos (by rw [h.resolve_left (fun h => h hj)]; rfl)]
  · rw [if_neg hj]
end
/-- The loop that looks for what does not ascend. -/
def ScRel (w : World) (blk off a b i0 : Nat) (dk : Array Int) (vi : Value) (wr : World) : Prop :=
  ∃ i : Nat, vi = .int .i64 i ∧ a < i ∧ i0 ≤ i ∧ i ≤ b ∧ RowIs w blk off dk wr ∧ scanSorted ltInt dk b i = scanSorted ltInt dk b i0
def SdRel (w : World) (blk off b i0 sz : Nat) (d1 : Array Int) (vj : Value) (wr : World) : Prop :=
  ∃ (j : Nat) (dj : Array Int), vj = .int .i64 j ∧ j < b ∧ dj.size = sz ∧ RowIs w blk off dj wr ∧ shiftDown ltInt j dj = shiftDown ltInt (i0 - 1) d1
def SuRel (w : World) (blk off b i0 sz : Nat) (d1 : Array Int) (vj : Value) (wr : World) : Prop :=
  ∃ (j : Nat) (dj : Array Int), vj = .int .i64 j ∧ 1 ≤ j ∧ j ≤ b ∧ dj.size = sz ∧ RowIs w blk off dj wr ∧ shiftUp ltInt b j dj = shiftUp ltInt b (i0 + 1) d1
/-- The outer loop. -/
def PiRel (w : World) (blk off a b : Nat) (d : Array Int) (vi vj : Value) (wr : World) : Prop :=
  ∃ (s i : Nat) (v : Int) (dk : Array Int), vi = .int .i64 i ∧ vj = .int .i64 v ∧ v + s = 5 ∧ 0 ≤ v ∧ a < i ∧ i ≤ b ∧ dk.size = d.size ∧ RowIs w blk off dk wr ∧ partialIns ltInt a b s i dk = partialInsertionSort ltInt d a b
set_option maxRecDepth 100000 in
set_option maxHeartbeats 3200000 in
theorem sort_part (blk off cap a b : Nat) (d : Array Int) (w : World) (hH : RowAt w blk off d) (hab : a < b) (hb : b ≤ d.size) (hsz : d.size < 2305843009213693952) :
    Calls Try.prog 39 #[.slice (some ⟨blk, off, none⟩) d.size cap, .int .i64 a, .int .i64 b] w fun e w' => e = .returned (.bool (partialInsertionSort ltInt d a b).2) ∧ RowIs w blk off (partialInsertionSort ltInt d a b).1 w' := by
  have HH := Lib.hid hH
  clear hH
  go_enter Try.func39, Try.ntmps39
  go_wp2
  go_loopw [7, 8] (PiRel w blk off a b d) (fun _ vj _ => (5 - (intOf vj)).toNat)
  case atStart => exact ⟨5, a + 1, 0, d, by go_num, rfl, by omega, by omega, by omega, by omega, rfl, RowIs.start HH.out, rfl⟩
  case round =>
    obtain ⟨s, i, v, dk, rfl, rfl, hv, hv0, hai, hib, hsk, hrow, hO⟩ := hrel
    have HR := Lib.hid hrow
    have HO := Lib.hid hO
    clear hrow hO
    cases s with
    | zero =>
      have hv5 : ¬ v < 5 := by omega
      have HM := Lib.hid (show partialInsertionSort ltInt d a b = (dk, false) by rw [← HO.out, partialIns])
      clear hv
      go_wp2_with fail
      go_ret
      rw [HM.out]
      exact ⟨rfl, HR.out⟩
    | succ s =>
      have hv5 : v < 5 := by omega
      have hv6 : v + s ≤ 4 := by omega
      have hv7 : 4 ≤ v + s := by omega
      clear hv
      go_upto_block 2 with fail
      go_cut [7] (fun s7 wx => ∃ i2 : Nat, s7 = .int .i64 i2 ∧ a < i2 ∧ i2 ≤ b ∧ RowIs w blk off dk wx ∧ scanSorted ltInt dk b i = i2)
      case first =>
        go_wp2
        go_loopw [7] (ScRel w blk off a b i dk) (fun vi _ => b - (intOf vi).toNat)
        case atStart => exact ⟨i, rfl, hai, Nat.le_refl _, hib, HR.out, rfl⟩
        case round =>
          obtain ⟨i2, rfl, hai2, hi2, hib2, hrow, hS⟩ := hrel
          obtain ⟨G, hG, hcw, hfw⟩ := hrow.cells hsk
          have HR2 := Lib.hid hrow
          have HG := Lib.hid hG
          have HS := Lib.hid hS
          clear hrow hG hS
          go_wp2
          by_cases hlt : i2 < b
          · go_quiet (first | (go_at_call 40; refine Calls.quiet_of_same (cmp_less _ _ _)))
            cases hl : ltInt (G i2) (G (i2 - 1)) with
            | false =>
              have HM := Lib.hid (show scanSorted ltInt dk b (i2 + 1) = scanSorted ltInt dk b i by rw [← HS.out]; conv => rhs; rw [scanSorted]; rw [if_pos (by rw [← HG.out, ← HG.out, hl]; simpa using hlt)])
              go_wp2
              exact ⟨⟨i2 + 1, by go_num, by omega, by omega, by omega, HR2.out.drewN _, HM.out⟩, by simp only [intOf]; omega⟩
            | true =>
              have HM := Lib.hid (show scanSorted ltInt dk b i = i2 by rw [← HS.out, scanSorted, if_neg (by rw [← HG.out, ← HG.out, hl]; simp)])
              go_wp2
              go_meet
              exact ⟨i2, rfl, hai2, hib2, HR2.out.drewN _, HM.out⟩
          · have HM := Lib.hid (show scanSorted ltInt dk b i = i2 by rw [← HS.out, scanSorted, if_neg (by simpa using fun h => absurd h hlt)])
            have hdf : decide ((i2 : Int) < (b : Int)) = false := by simp; omega
            go_quiet (first | (go_at_call 40; refine Calls.quiet_of_same (cmp_less _ _ _)))
            go_wp2
            go_meet
            exact ⟨i2, rfl, hai2, hib2, HR2.out.drewN _, HM.out⟩
      case rest =>
      obtain ⟨i2, rfl, hai2, hib2, hrow, hS⟩ := hcut
      have HR2 := Lib.hid hrow
      by_cases hib3 : i2 = b
      · have HM := Lib.hid (show partialInsertionSort ltInt d a b = (dk, true) by rw [← HO.out, partialIns]; simp only [hS]; rw [if_pos hib3])
        have hbi1 : ((i2 : Int) == (b : Int)) = true := by simp; omega
        clear hS hrow hib3
        go_wp2_with fail
        go_ret
        rw [HM.out]
        exact ⟨rfl, HR2.out⟩
      · have hbi1 : ((i2 : Int) == (b : Int)) = false := by simp; omega
        have hib4 : i2 < b := by omega
        by_cases h50 : b - a < 50
        · have HM := Lib.hid (show partialInsertionSort ltInt d a b = (dk, false) by rw [← HO.out, partialIns]; simp only [hS]; rw [if_neg hib3, if_pos h50])
          have h51 : (b : Int) - (a : Int) < 50 := by omega
          clear hS hrow hib3
          go_wp2_with fail
          go_ret
          rw [HM.out]
          exact ⟨rfl, HR2.out⟩
        · have HMO := Lib.hid (show partialIns ltInt a b s i2 (if b - i2 ≥ 2 then shiftUp ltInt b (i2 + 1) (if i2 - a ≥ 2 then shiftDown ltInt (i2 - 1) (swp dk i2 (i2 - 1)) else swp dk i2 (i2 - 1)) else (if i2 - a ≥ 2 then shiftDown ltInt (i2 - 1) (swp dk i2 (i2 - 1)) else swp dk i2 (i2 - 1))) = partialInsertionSort ltInt d a b by rw [← HO.out]; conv => rhs; rw [partialIns]; simp only [hS]; rw [if_neg hib3, if_neg h50])
          have h51 : ¬ (b : Int) - (a : Int) < 50 := by omega
          obtain ⟨G, hG, hcw, hfw⟩ := hrow.cells hsk
          have HG := Lib.hid hG
          clear hS hrow hib3 hG
          go_upto_region 11 with fail
          go_cut [] (fun wx => RowIs w blk off (swp dk i2 (i2 - 1)) wx)
          case first =>
            go_region
            all_goals
              go_wp2
              go_meet
              exact (HR2.out.drewN _).swap HG.out (by omega) (by omega)
          case rest =>
          have hs1 : (swp dk i2 (i2 - 1)).size = d.size := by rw [Sort.swp_size]; exact hsk
          have HR3 := Lib.hid hcut
          clear hcut hcw hfw HR2 HG
          generalize swp dk i2 (i2 - 1) = d1 at *
          go_upto_if 61 with fail
          go_cut [] (fun wx => RowIs w blk off (if i2 - a ≥ 2 then shiftDown ltInt (i2 - 1) d1 else d1) wx)
          case first =>
            by_cases h2 : i2 - a ≥ 2
            · have HIF := Lib.hid (show (if i2 - a ≥ 2 then shiftDown ltInt (i2 - 1) d1 else d1) = shiftDown ltInt (i2 - 1) d1 from if_pos h2)
              have h3 : 2 ≤ (i2 : Int) - (a : Int) := by omega
              clear h2
              go_wp2
              go_loopw [9] (SdRel w blk off b i2 d.size d1) (fun vj _ => (intOf vj).toNat)
              case atStart => exact ⟨i2 - 1, d1, by go_num, by omega, hs1, HR3.out, rfl⟩
              case round =>
                obtain ⟨j, dj, rfl, hjb, hsj, hrow, hS⟩ := hrel
                have HRJ := Lib.hid hrow
                have HSJ := Lib.hid hS
                by_cases hj : 1 ≤ j
                · obtain ⟨G, hG, hcw, hfw⟩ := hrow.cells hsj
                  have HG := Lib.hid hG
                  clear hrow hS hG
                  go_wp2
                  go_quiet (first | (go_at_call 40; refine Calls.quiet_of_same (cmp_less _ _ _)))
                  have hcq : ∀ t, t < d.size → (wr.drewN nq).cell? ⟨blk, off + t, none⟩ = some (.int .i32 (G t)) := hcw
                  have hfq : ∀ t, t < d.size → (wr.drewN nq).frozen? ⟨blk, off + t, none⟩ = false := hfw
                  have HRQ := Lib.hid (HRJ.out.drewN nq)
                  generalize wr.drewN nq = wq at *
                  clear hcw hfw HRJ
                  cases hl : ltInt (G j) (G (j - 1)) with
                  | true =>
                    have HM := Lib.hid ((shd_more ltInt (d := dj) hj (by rw [← HG.out, ← HG.out]; exact hl)).symm.trans HSJ.out)
                    go_wp2
                    go_region
                    all_goals go_wp2
                    all_goals
                      exact ⟨⟨j - 1, swp dj j (j - 1), by go_num, by omega, by rw [Sort.swp_size]; exact hsj, (HRQ.out.drewN _).swap HG.out (by omega) (by omega), HM.out⟩, by simp only [intOf]; omega⟩
                  | false =>
                    have HM := Lib.hid ((shd_end ltInt (d := dj) (.inr (by rw [← HG.out, ← HG.out]; exact hl))).symm.trans HSJ.out)
                    go_wp2
                    go_meet
                    rw [HIF.out, ← HM.out]
                    exact HRQ.out
                · have HM := Lib.hid ((shd_end ltInt (d := dj) (.inl (by omega))).symm.trans HSJ.out)
                  clear hrow hS
                  go_wp2
                  go_meet
                  rw [HIF.out, ← HM.out]
                  exact HRJ.out
            · have HIF := Lib.hid (show (if i2 - a ≥ 2 then shiftDown ltInt (i2 - 1) d1 else d1) = d1 from if_neg h2)
              have h3 : ¬ (2 ≤ (i2 : Int) - (a : Int)) := by omega
              clear h2
              go_wp2
              go_meet
              rw [HIF.out]
              exact HR3.out
          case rest =>
          have HR4 := Lib.hid hcut
          clear hcut HR3
          have hs2 : (if i2 - a ≥ 2 then shiftDown ltInt (i2 - 1) d1 else d1).size = d.size := by
            by_cases h2 : i2 - a ≥ 2
            · rw [if_pos h2, shd_size]; exact hs1
            · rw [if_neg h2]; exact hs1
          generalize (if i2 - a ≥ 2 then shiftDown ltInt (i2 - 1) d1 else d1) = d2 at *
          go_upto_if 98 with fail
          by_cases h2 : b - i2 ≥ 2
          · have HIF := Lib.hid (show (if b - i2 ≥ 2 then shiftUp ltInt b (i2 + 1) d2 else d2) = shiftUp ltInt b (i2 + 1) d2 from if_pos h2)
            have h3 : 2 ≤ (b : Int) - (i2 : Int) := by omega
            clear h2
            go_wp2
            go_loopw [10] (SuRel w blk off b i2 d.size d2) (fun vj _ => b - (intOf vj).toNat)
            case atStart => exact ⟨i2 + 1, d2, by go_num, by omega, by omega, hs2, HR4.out, rfl⟩
            case round =>
              obtain ⟨j, dj, rfl, hj1, hjb, hsj, hrow, hS⟩ := hrel
              have HRJ := Lib.hid hrow
              have HSJ := Lib.hid hS
              by_cases hj : j < b
              · obtain ⟨G, hG, hcw, hfw⟩ := hrow.cells hsj
                have HG := Lib.hid hG
                clear hrow hS hG
                go_wp2
                go_quiet (first | (go_at_call 40; refine Calls.quiet_of_same (cmp_less _ _ _)))
                have hcq : ∀ t, t < d.size → (wr.drewN nq).cell? ⟨blk, off + t, none⟩ = some (.int .i32 (G t)) := hcw
                have hfq : ∀ t, t < d.size → (wr.drewN nq).frozen? ⟨blk, off + t, none⟩ = false := hfw
                have HRQ := Lib.hid (HRJ.out.drewN nq)
                generalize wr.drewN nq = wq at *
                clear hcw hfw HRJ
                cases hl : ltInt (G j) (G (j - 1)) with
                | true =>
                  have HM := Lib.hid ((shu_more ltInt (d := dj) hj (by rw [← HG.out, ← HG.out]; exact hl)).symm.trans HSJ.out)
                  go_wp2
                  go_region
                  all_goals go_wp2
                  all_goals
                    exact ⟨⟨j + 1, swp dj j (j - 1), by go_num, by omega, by omega, by rw [Sort.swp_size]; exact hsj, (HRQ.out.drewN _).swap HG.out (by omega) (by omega), HM.out⟩, by simp only [intOf]; omega⟩
                | false =>
                  have HM := Lib.hid ((shu_end ltInt (d := dj) (.inr (by rw [← HG.out, ← HG.out]; exact hl))).symm.trans HSJ.out)
                  go_wp2
                  exact ⟨⟨s, i2, v + 1, dj, rfl, rfl, by omega, by omega, hai2, hib2, hsj, HRQ.out, by rw [HM.out, ← HIF.out]; exact HMO.out⟩, by simp only [intOf]; omega⟩
              · have HM := Lib.hid ((shu_end ltInt (d := dj) (.inl (by omega))).symm.trans HSJ.out)
                clear hrow hS
                go_wp2
                exact ⟨⟨s, i2, v + 1, dj, rfl, rfl, by omega, by omega, hai2, hib2, hsj, HRJ.out, by rw [HM.out, ← HIF.out]; exact HMO.out⟩, by simp only [intOf]; omega⟩
          · have HIF := Lib.hid (show (if b - i2 ≥ 2 then shiftUp ltInt b (i2 + 1) d2 else d2) = d2 from if_neg h2)
            have h3 : ¬ (2 ≤ (b : Int) - (i2 : Int)) := by omega
            clear h2
            go_wp2
            exact ⟨⟨s, i2, v + 1, d2, rfl, rfl, by omega, by omega, hai2, hib2, hs2, HR4.out, by have := HMO.out; rw [HIF.out] at this; exact this⟩, by simp only [intOf]; omega⟩

end Go.Proofs.Ytebpmfejhfkagaa
