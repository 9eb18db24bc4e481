/- slices.partitionEqualOrdered at runes. -/
import Derived.Test.YtebpmfejhfkagaaSortParts
namespace Go.Proofs.Ytebpmfejhfkagaa
open Go.RowKit Go.Sort

set_option maxRecDepth 100000 in
set_option maxHeartbeats 3200000 in
theorem sort_parteq (blk off cap a b pv : Nat) (d : Array Int) (w : World) (hH : RowAt w blk off d) (hp1 : a ≤ pv) (hp2 : pv < b) (hb : b ≤ d.size) (hsz : d.size < 2305843009213693952) :
    Calls Try.prog 41 #[.slice (some ⟨blk, off, none⟩) d.size cap, .int .i64 a, .int .i64 b, .int .i64 pv] w fun e w' => e = .returned (.int .i64 (partitionEqual ltInt d a b pv).1) ∧ RowIs w blk off (partitionEqual ltInt d a b pv).2 w' := by
  have HR0 := Lib.hid (RowIs.start hH)
  obtain ⟨j0, hj1, hj2⟩ : ∃ j0, j0 + 1 ≤ b ∧ b ≤ j0 + 1 := ⟨b - 1, by omega, by omega⟩
  have hjb : b - 1 = j0 := by omega
  have HPA := Lib.hid (show partitionEqual ltInt d a b pv = partEqLoop ltInt a (a + 1) j0 (swp d a pv) by unfold partitionEqual; rw [hjb])
  clear hH hjb
  go_enter Try.func41, Try.ntmps41
  obtain ⟨G, hG, hcw, hfw⟩ := HR0.out.cells rfl
  have HG := Lib.hid hG
  clear hG
  have hcx : (w.setCell ⟨blk, off + a, none⟩ (.int .i32 (G pv))).cell? ⟨blk, off + pv, none⟩ = some (.int .i32 (G pv)) := set_row hcw (by omega) (by omega)
  have hcy : (w.setCell ⟨blk, off + a, none⟩ (.int .i32 (G pv))).drew.cell? ⟨blk, off + pv, none⟩ = some (.int .i32 (G pv)) := hcx
  go_upto_region 1 with fail
  go_cut [] (fun wx => RowIs w blk off (swp d a pv) wx)
  case first =>
    go_region
    all_goals
      go_wp2
      go_meet
      exact (HR0.out.drewN _).swap HG.out (j := a) (k := pv) (by omega) (by omega)
  case rest =>
  have HR1 := Lib.hid hcut
  clear hcut hcw hfw hcx hcy HG
  have hsD : (swp d a pv).size = d.size := by rw [Sort.swp_size]
  generalize hpl : partEqLoop ltInt a (a + 1) j0 (swp d a pv) = res at HPA
  generalize swp d a pv = d1 at *
  have HPL := Lib.hid hpl
  clear hpl HR0
  have hbj : ((b : Int) - 1) = (j0 : Int) := by omega
  go_wp2
  go_loopw [9, 10] (PeRel w blk off a b d.size res) (fun vi vj _ => ((intOf vj) + 1 - (intOf vi)).toNat)
  case atStart => exact ⟨a + 1, j0, d1, by go_num, by go_num, by omega, by omega, by omega, hsD, HR1.out, HPL.out⟩
  case round =>
    obtain ⟨i, j, dj, rfl, rfl, hai, hij1, hjb, hsD, hrow, hP⟩ := hrel
    have HRA := Lib.hid hrow
    have HP := Lib.hid hP
    clear hrow hP
    go_upto_block 2 with fail
    go_cut [9] (fun s wx => ∃ x : Nat, s = .int .i64 x ∧ i ≤ x ∧ x ≤ j + 2 ∧ RowIs w blk off dj wx ∧ scanUp (fun x => !ltInt dj[a]! x) dj j i = x)
    case first =>
      go_wp2
      go_loopw [9] (fun vi wx => ∃ x : Nat, vi = .int .i64 x ∧ i ≤ x ∧ x ≤ j + 2 ∧ RowIs w blk off dj wx ∧ scanUp (fun x => !ltInt dj[a]! x) dj j x = scanUp (fun x => !ltInt dj[a]! x) dj j i) (fun vi _ => j + 1 - (intOf vi).toNat)
      case atStart => exact ⟨i, rfl, Nat.le_refl _, by omega, HRA.out, rfl⟩
      case round =>
        obtain ⟨x, rfl, hx1, hx2, hrow, hS⟩ := hrel
        obtain ⟨G, hG, hcw, hfw⟩ := hrow.cells hsD
        have HRX := Lib.hid hrow
        have HG := Lib.hid hG
        have HS := Lib.hid hS
        clear hrow hG hS
        go_wp2
        by_cases hij : x ≤ j
        · go_quiet (first | (go_at_call 40; refine Calls.quiet_of_same (cmp_less _ _ _)))
          cases hl : ltInt (G a) (G x) with
          | false =>
            have HM := Lib.hid ((su_more (p := (fun x => !ltInt dj[a]! x)) (d := dj) hij (by show (!ltInt dj[a]! dj[x]!) = true; rw [← HG.out, ← HG.out, hl]; rfl)).symm.trans HS.out)
            go_wp2
            exact ⟨⟨x + 1, by go_num, by omega, by omega, HRX.out.drewN _, HM.out⟩, by simp only [intOf]; omega⟩
          | true =>
            have HM := Lib.hid ((HS.out.symm.trans (su_end (p := (fun x => !ltInt dj[a]! x)) (d := dj) (.inr (by show (!ltInt dj[a]! dj[x]!) = false; rw [← HG.out, ← HG.out, hl]; rfl)))))
            go_wp2
            go_meet
            exact ⟨x, rfl, hx1, hx2, HRX.out.drewN _, HM.out⟩
        · have hdf : decide ((x : Int) ≤ (j : Int)) = false := by simp; omega
          have HM := Lib.hid ((HS.out.symm.trans (su_end (p := (fun x => !ltInt dj[a]! x)) (d := dj) (.inl hij))))
          go_quiet (first | (go_at_call 40; refine Calls.quiet_of_same (cmp_less _ _ _)))
          go_wp2
          go_meet
          exact ⟨x, rfl, hx1, hx2, HRX.out.drewN _, HM.out⟩
    case rest =>
    obtain ⟨i3, rfl, hi31, hi32, hrow, hi3S⟩ := hcut
    have HRB := Lib.hid hrow
    clear hrow
    go_upto_block 4 with fail
    go_cut [10] (fun s wx => ∃ x : Nat, s = .int .i64 x ∧ i3 ≤ x + 2 ∧ x ≤ j ∧ RowIs w blk off dj wx ∧ scanDown (fun x => ltInt dj[a]! x) dj i3 j = x)
    case first =>
      go_wp2
      go_loopw [10] (fun vi wx => ∃ x : Nat, vi = .int .i64 x ∧ i3 ≤ x + 2 ∧ x ≤ j ∧ RowIs w blk off dj wx ∧ scanDown (fun x => ltInt dj[a]! x) dj i3 x = scanDown (fun x => ltInt dj[a]! x) dj i3 j) (fun vi _ => (intOf vi).toNat)
      case atStart => exact ⟨j, rfl, by omega, Nat.le_refl _, HRB.out, rfl⟩
      case round =>
        obtain ⟨x, rfl, hx1, hx2, hrow, hS⟩ := hrel
        obtain ⟨G, hG, hcw, hfw⟩ := hrow.cells hsD
        have HRX := Lib.hid hrow
        have HG := Lib.hid hG
        have HS := Lib.hid hS
        clear hrow hG hS
        go_wp2
        by_cases hij : i3 ≤ x
        · go_quiet (first | (go_at_call 40; refine Calls.quiet_of_same (cmp_less _ _ _)))
          cases hl : ltInt (G a) (G x) with
          | true =>
            have HM := Lib.hid ((sdn_more (p := (fun x => ltInt dj[a]! x)) (d := dj) hij (by omega) (by show ltInt dj[a]! dj[x]! = true; rw [← HG.out, ← HG.out, hl])).symm.trans HS.out)
            go_wp2
            exact ⟨⟨x - 1, by go_num, by omega, by omega, HRX.out.drewN _, HM.out⟩, by simp only [intOf]; omega⟩
          | false =>
            have HM := Lib.hid ((HS.out.symm.trans (sdn_end (p := (fun x => ltInt dj[a]! x)) (d := dj) (.inr (by show ltInt dj[a]! dj[x]! = false; rw [← HG.out, ← HG.out, hl])))))
            go_wp2
            go_meet
            exact ⟨x, rfl, hx1, hx2, HRX.out.drewN _, HM.out⟩
        · have hdf : decide ((i3 : Int) ≤ (x : Int)) = false := by simp; omega
          have HM := Lib.hid ((HS.out.symm.trans (sdn_end (p := (fun x => ltInt dj[a]! x)) (d := dj) (.inl hij))))
          go_quiet (first | (go_at_call 40; refine Calls.quiet_of_same (cmp_less _ _ _)))
          go_wp2
          go_meet
          exact ⟨x, rfl, hx1, hx2, HRX.out.drewN _, HM.out⟩
    case rest =>
    obtain ⟨j3, rfl, hj31, hj32, hrow, hj3S⟩ := hcut
    have HRC := Lib.hid hrow
    clear hrow
    by_cases hgt3 : j3 < i3
    · have HM := Lib.hid (show partitionEqual ltInt d a b pv = (i3, dj) by rw [HPA.out, ← HP.out]; exact pe_end hi3S hj3S hgt3)
      clear hi3S hj3S
      go_wp2_with fail
      go_ret
      rw [HM.out]
      exact ⟨rfl, HRC.out⟩
    · have HM := Lib.hid (show partEqLoop ltInt a (i3 + 1) (j3 - 1) (swp dj i3 j3) = res by rw [← HP.out]; exact (pe_more hi3S hj3S hgt3 hi31 hj32).symm)
      clear hi3S hj3S
      obtain ⟨G, hG, hcw, hfw⟩ := HRC.out.cells hsD
      have HG := Lib.hid hG
      clear hG
      have hcx : (wc.setCell ⟨blk, off + i3, none⟩ (.int .i32 (G j3))).cell? ⟨blk, off + j3, none⟩ = some (.int .i32 (G j3)) := set_row hcw (by omega) (by omega)
      have hcy : (wc.setCell ⟨blk, off + i3, none⟩ (.int .i32 (G j3))).drew.cell? ⟨blk, off + j3, none⟩ = some (.int .i32 (G j3)) := hcx
      go_upto_region 8 with fail
      go_cut [] (fun wx => RowIs w blk off (swp dj i3 j3) wx)
      case first =>
        go_region
        all_goals
          go_wp2
          go_meet
          exact (HRC.out.drewN _).swap HG.out (j := i3) (k := j3) (by omega) (by omega)
      case rest =>
      have HRD := Lib.hid hcut
      clear hcut hcw hfw hcx hcy HG
      have hsE : (swp dj i3 j3).size = d.size := by rw [Sort.swp_size]; exact hsD
      go_wp2_with fail
      exact ⟨⟨i3 + 1, j3 - 1, _, by go_num, by go_num, by omega, by omega, by omega, hsE, HRD.out, HM.out⟩, by simp only [intOf]; omega⟩

end Go.Proofs.Ytebpmfejhfkagaa
