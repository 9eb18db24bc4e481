/- slices.partitionOrdered and partitionEqualOrdered at runes. -/
import Derived.Test.YtebpmfejhfkagaaSortPart
namespace Go.Proofs.Ytebpmfejhfkagaa
open Go.RowKit Go.Sort

section
variable {p : Int → Bool} {d : Array Int} {i j x : Nat}
theorem su_more (h : x ≤ j) (hp : p d[x]! = true) : scanUp p d j x = scanUp p d j (x + 1) := by
  conv => lhs; rw [scanUp]
  rw [if_pos (by rw [hp]; simpa using h)]
theorem su_end (h : ¬ x ≤ j ∨ p d[x]! = false) : scanUp p d j x = x := by
  rw [scanUp]
  rcases h with h | h
  · rw [if_neg (by simp [h])]
  · rw [if_neg (by simp [h])]
theorem sdn_more (h : i ≤ x) (h1 : 1 ≤ x) (hp : p d[x]! = true) : scanDown p d i x = scanDown p d i (x - 1) := by
  obtain ⟨k, rfl⟩ : ∃ k, x = k + 1 := ⟨x - 1, by omega⟩
  rw [Nat.add_sub_cancel]
  conv => lhs; rw [scanDown]
  rw [if_pos (by rw [hp]; simpa using h)]
theorem sdn_end (h : ¬ i ≤ x ∨ p d[x]! = false) : scanDown p d i x = x := by
  cases x with
  | zero => rfl
  | succ k =>
    rw [scanDown]
    rcases h with h | h
    · rw [if_neg (by simp [h])]
    · rw [if_neg (by simp [h])]
end
section
variable {lt : Int → Int → Bool} {a i j i3 j3 : Nat} {d : Array Int}
theorem pl_end (h1 : scanUp (fun x => lt x d[a]!) d j i = i3) (h2 : scanDown (fun x => !lt x d[a]!) d i3 j = j3) (h : i3 > j3) : partLoop lt a i j d = (j3, d) := by
  rw [partLoop]
  simp only [h1, h2]
  rw [if_pos h]
theorem pl_more (h1 : scanUp (fun x => lt x d[a]!) d j i = i3) (h2 : scanDown (fun x => !lt x d[a]!) d i3 j = j3) (h : ¬ i3 > j3) (hi : i ≤ i3) (hj : j3 ≤ j) : partLoop lt a i j d = partLoop lt a (i3 + 1) (j3 - 1) (swp d i3 j3) := by
  rw [partLoop]
  simp only [h1, h2]
  rw [if_neg h, dif_pos (by omega)]
theorem pe_end (h1 : scanUp (fun x => !lt d[a]! x) d j i = i3) (h2 : scanDown (fun x => lt d[a]! x) d i3 j = j3) (h : i3 > j3) : partEqLoop lt a i j d = (i3, d) := by
  rw [partEqLoop]
  simp only [h1, h2]
  rw [if_pos h]
theorem pe_more (h1 : scanUp (fun x => !lt d[a]! x) d j i = i3) (h2 : scanDown (fun x => lt d[a]! x) d i3 j = j3) (h : ¬ i3 > j3) (hi : i ≤ i3) (hj : j3 ≤ j) : partEqLoop lt a i j d = partEqLoop lt a (i3 + 1) (j3 - 1) (swp d i3 j3) := by
  rw [partEqLoop]
  simp only [h1, h2]
  rw [if_neg h, dif_pos (by omega)]
end
def PlRel (w : World) (blk off a b sz : Nat) (res : Nat × Array Int) (vi vj : Value) (wr : World) : Prop :=
  ∃ (i j : Nat) (dj : Array Int), vi = .int .i64 i ∧ vj = .int .i64 j ∧ a + 1 < i ∧ i ≤ j + 2 ∧ j < b ∧ dj.size = sz ∧ RowIs w blk off dj wr ∧ partLoop ltInt a i j dj = res
def PeRel (w : World) (blk off a b sz : Nat) (res : Nat × Array Int) (vi vj : Value) (wr : World) : Prop :=
  ∃ (i j : Nat) (dj : Array Int), vi = .int .i64 i ∧ vj = .int .i64 j ∧ a < i ∧ i ≤ j + 2 ∧ j < b ∧ dj.size = sz ∧ RowIs w blk off dj wr ∧ partEqLoop ltInt a i j dj = res
theorem set_row {wr : World} {blk off n u v : Nat} {G : Nat → Int} (hcw : ∀ t, t < n → wr.cell? ⟨blk, off + t, none⟩ = some (.int .i32 (G t))) (hu : u < n) (hv : v < n) : (wr.setCell ⟨blk, off + u, none⟩ (.int .i32 (G v))).cell? ⟨blk, off + v, none⟩ = some (.int .i32 (G v)) := by
  by_cases h : u = v
  · subst h
    exact World.cell?_setCell_same _ _ _ (hcw u hu)
  · rw [World.cell?_setCell_other _ _ _ _ (by intro e; injection e with _ h2 _; omega)]
    exact hcw v hv
set_option maxRecDepth 100000 in
set_option maxHeartbeats 3200000 in
theorem sort_partition (blk off cap a b pv : Nat) (d : Array Int) (w : World) (hH : RowAt w blk off d) (hp1 : a ≤ pv) (hp2 : pv < b) (hb : b ≤ d.size) (hsz : d.size < 2305843009213693952) :
    Calls Try.prog 42 #[.slice (some ⟨blk, off, none⟩) d.size cap, .int .i64 a, .int .i64 b, .int .i64 pv] w fun e w' => e = .returned (.tuple #[.int .i64 (partition ltInt d a b pv).1, .bool (partition ltInt d a b pv).2.1]) ∧ RowIs w blk off (partition ltInt d a b pv).2.2 w' := by
  have HR0 := Lib.hid (RowIs.start hH)
  obtain ⟨j0, hj1, hj2⟩ : ∃ j0, j0 + 1 ≤ b ∧ b ≤ j0 + 1 := ⟨b - 1, by omega, by omega⟩
  have hjb : b - 1 = j0 := by omega
  have HJB := Lib.hid hjb
  clear hH hjb
  go_enter Try.func42, Try.ntmps42
  obtain ⟨G, hG, hcw, hfw⟩ := HR0.out.cells rfl
  have HG := Lib.hid hG
  clear hG
  have hcx : (w.setCell ⟨blk, off + a, none⟩ (.int .i32 (G pv))).cell? ⟨blk, off + pv, none⟩ = some (.int .i32 (G pv)) := set_row hcw (by omega) (by omega)
  have hcy : (w.setCell ⟨blk, off + a, none⟩ (.int .i32 (G pv))).drew.cell? ⟨blk, off + pv, none⟩ = some (.int .i32 (G pv)) := hcx
  go_upto_region 1 with fail
  go_cut [] (fun wx => RowIs w blk off (swp d a pv) wx)
  case first =>
    go_region
    all_goals
      go_wp2
      go_meet
      exact (HR0.out.drewN _).swap HG.out (j := a) (k := pv) (by omega) (by omega)
  case rest =>
  have HR1 := Lib.hid hcut
  clear hcut hcw hfw hcx hcy HG
  have hsD : (swp d a pv).size = d.size := by rw [Sort.swp_size]
  generalize hd1 : swp d a pv = d1 at *
  have HDD := Lib.hid hd1
  clear hd1 HR0
  have hbj : ((b : Int) - 1) = (j0 : Int) := by omega
  go_upto_block 0 with fail
  go_cut [10] (fun s wx => ∃ x : Nat, s = .int .i64 x ∧ (a + 1) ≤ x ∧ x ≤ j0 + 1 ∧ RowIs w blk off d1 wx ∧ scanUp (fun x => ltInt x d1[a]!) d1 j0 (a + 1) = x)
  case first =>
    go_wp2
    go_loopw [10] (fun vi wx => ∃ x : Nat, vi = .int .i64 x ∧ (a + 1) ≤ x ∧ x ≤ j0 + 1 ∧ RowIs w blk off d1 wx ∧ scanUp (fun x => ltInt x d1[a]!) d1 j0 x = scanUp (fun x => ltInt x d1[a]!) d1 j0 (a + 1)) (fun vi _ => j0 + 1 - (intOf vi).toNat)
    case atStart => exact ⟨(a + 1), rfl, Nat.le_refl _, by omega, HR1.out, rfl⟩
    case round =>
      obtain ⟨x, rfl, hx1, hx2, hrow, hS⟩ := hrel
      obtain ⟨G, hG, hcw, hfw⟩ := hrow.cells hsD
      have HRX := Lib.hid hrow
      have HG := Lib.hid hG
      have HS := Lib.hid hS
      clear hrow hG hS
      go_wp2
      by_cases hij : x ≤ j0
      · go_quiet (first | (go_at_call 40; refine Calls.quiet_of_same (cmp_less _ _ _)))
        cases hl : ltInt (G x) (G a) with
        | true =>
          have HM := Lib.hid ((su_more (p := (fun x => ltInt x d1[a]!)) (d := d1) hij (by show ltInt d1[x]! d1[a]! = true; rw [← HG.out, ← HG.out, hl])).symm.trans HS.out)
          go_wp2
          exact ⟨⟨x + 1, by go_num, by omega, by omega, HRX.out.drewN _, HM.out⟩, by simp only [intOf]; omega⟩
        | false =>
          have HM := Lib.hid ((HS.out.symm.trans (su_end (p := (fun x => ltInt x d1[a]!)) (d := d1) (.inr (by show ltInt d1[x]! d1[a]! = false; rw [← HG.out, ← HG.out, hl])))))
          go_wp2
          go_meet
          exact ⟨x, rfl, hx1, hx2, HRX.out.drewN _, HM.out⟩
      · have hdf : decide ((x : Int) ≤ (j0 : Int)) = false := by simp; omega
        have HM := Lib.hid ((HS.out.symm.trans (su_end (p := (fun x => ltInt x d1[a]!)) (d := d1) (.inl hij))))
        go_quiet (first | (go_at_call 40; refine Calls.quiet_of_same (cmp_less _ _ _)))
        go_wp2
        go_meet
        exact ⟨x, rfl, hx1, hx2, HRX.out.drewN _, HM.out⟩
  case rest =>
  obtain ⟨i2, rfl, hi21, hi22, hrow, hi2S⟩ := hcut
  have HR2 := Lib.hid hrow
  clear hrow
  go_upto_block 2 with fail
  go_cut [11] (fun s wx => ∃ x : Nat, s = .int .i64 x ∧ i2 ≤ x + 1 ∧ x ≤ j0 ∧ RowIs w blk off d1 wx ∧ scanDown (fun x => !ltInt x d1[a]!) d1 i2 j0 = x)
  case first =>
    go_wp2
    go_loopw [11] (fun vi wx => ∃ x : Nat, vi = .int .i64 x ∧ i2 ≤ x + 1 ∧ x ≤ j0 ∧ RowIs w blk off d1 wx ∧ scanDown (fun x => !ltInt x d1[a]!) d1 i2 x = scanDown (fun x => !ltInt x d1[a]!) d1 i2 j0) (fun vi _ => (intOf vi).toNat)
    case atStart => exact ⟨j0, rfl, by omega, Nat.le_refl _, HR2.out, rfl⟩
    case round =>
      obtain ⟨x, rfl, hx1, hx2, hrow, hS⟩ := hrel
      obtain ⟨G, hG, hcw, hfw⟩ := hrow.cells hsD
      have HRX := Lib.hid hrow
      have HG := Lib.hid hG
      have HS := Lib.hid hS
      clear hrow hG hS
      go_wp2
      by_cases hij : i2 ≤ x
      · go_quiet (first | (go_at_call 40; refine Calls.quiet_of_same (cmp_less _ _ _)))
        cases hl : ltInt (G x) (G a) with
        | false =>
          have HM := Lib.hid ((sdn_more (p := (fun x => !ltInt x d1[a]!)) (d := d1) hij (by omega) (by show (!ltInt d1[x]! d1[a]!) = true; rw [← HG.out, ← HG.out, hl]; rfl)).symm.trans HS.out)
          go_wp2
          exact ⟨⟨x - 1, by go_num, by omega, by omega, HRX.out.drewN _, HM.out⟩, by simp only [intOf]; omega⟩
        | true =>
          have HM := Lib.hid ((HS.out.symm.trans (sdn_end (p := (fun x => !ltInt x d1[a]!)) (d := d1) (.inr (by show (!ltInt d1[x]! d1[a]!) = false; rw [← HG.out, ← HG.out, hl]; rfl)))))
          go_wp2
          go_meet
          exact ⟨x, rfl, hx1, hx2, HRX.out.drewN _, HM.out⟩
      · have hdf : decide ((i2 : Int) ≤ (x : Int)) = false := by simp; omega
        have HM := Lib.hid ((HS.out.symm.trans (sdn_end (p := (fun x => !ltInt x d1[a]!)) (d := d1) (.inl hij))))
        go_quiet (first | (go_at_call 40; refine Calls.quiet_of_same (cmp_less _ _ _)))
        go_wp2
        go_meet
        exact ⟨x, rfl, hx1, hx2, HRX.out.drewN _, HM.out⟩
  case rest =>
  obtain ⟨j2, rfl, hj21, hj22, hrow, hj2S⟩ := hcut
  have HR3 := Lib.hid hrow
  clear hrow
  have HPA := Lib.hid (show partition ltInt d a b pv = if i2 > j2 then (j2, true, swp d1 j2 a) else ((partLoop ltInt a (i2 + 1) (j2 - 1) (swp d1 i2 j2)).1, false, swp (partLoop ltInt a (i2 + 1) (j2 - 1) (swp d1 i2 j2)).2 (partLoop ltInt a (i2 + 1) (j2 - 1) (swp d1 i2 j2)).1 a) by unfold partition; simp only [HDD.out, HJB.out, hi2S, hj2S])
  clear hi2S hj2S HR2 HR1
  by_cases hgt : j2 < i2
  · have HPB := Lib.hid (HPA.out.trans (if_pos hgt))
    obtain ⟨G, hG, hcw, hfw⟩ := HR3.out.cells hsD
    have HG := Lib.hid hG
    clear hG
    have hcx : (wc.setCell ⟨blk, off + j2, none⟩ (.int .i32 (G a))).cell? ⟨blk, off + a, none⟩ = some (.int .i32 (G a)) := set_row hcw (by omega) (by omega)
    have hcy : (wc.setCell ⟨blk, off + j2, none⟩ (.int .i32 (G a))).drew.cell? ⟨blk, off + a, none⟩ = some (.int .i32 (G a)) := hcx
    go_upto_region 8 with fail
    go_region
    all_goals
      have HRE := Lib.hid (show RowIs w blk off (swp d1 j2 a) _ from (HR3.out.drewN 1).swap HG.out (j := j2) (k := a) (by omega) (by omega))
      go_wp2_with fail
      refine bodyPost_ret (v := .tuple #[.int .i64 j2, .bool true]) (by simp [results, Try.results42, go_sem]) (by rfl) ?_
      rw [HPB.out]
      exact ⟨rfl, HRE.out⟩
  · have HPB := Lib.hid (HPA.out.trans (if_neg hgt))
    obtain ⟨G, hG, hcw, hfw⟩ := HR3.out.cells hsD
    have HG := Lib.hid hG
    clear hG
    have hcx : (wc.setCell ⟨blk, off + i2, none⟩ (.int .i32 (G j2))).cell? ⟨blk, off + j2, none⟩ = some (.int .i32 (G j2)) := set_row hcw (by omega) (by omega)
    have hcy : (wc.setCell ⟨blk, off + i2, none⟩ (.int .i32 (G j2))).drew.cell? ⟨blk, off + j2, none⟩ = some (.int .i32 (G j2)) := hcx
    go_upto_region 10 with fail
    go_cut [] (fun wx => RowIs w blk off (swp d1 i2 j2) wx)
    case first =>
      go_region
      all_goals
        go_wp2
        go_meet
        exact (HR3.out.drewN _).swap HG.out (j := i2) (k := j2) (by omega) (by omega)
    case rest =>
    have HR4 := Lib.hid hcut
    clear hcut hcw hfw hcx hcy HG
    have hsD : (swp d1 i2 j2).size = d.size := by rw [Sort.swp_size]; exact hsD
    generalize hpl : partLoop ltInt a (i2 + 1) (j2 - 1) (swp d1 i2 j2) = res at HPB
    generalize swp d1 i2 j2 = d2 at *
    have HPL := Lib.hid hpl
    clear hpl
    go_upto_block 4 with fail
    go_cut [11] (fun s11 wx => ∃ (jf : Nat) (df : Array Int), s11 = .int .i64 jf ∧ a ≤ jf ∧ jf < b ∧ df.size = d.size ∧ RowIs w blk off df wx ∧ res = (jf, df))
    case first =>
      go_wp2
      go_loopw [10, 11] (PlRel w blk off a b d.size res) (fun vi vj _ => ((intOf vj) + 1 - (intOf vi)).toNat)
      case atStart => exact ⟨i2 + 1, j2 - 1, d2, by go_num, by go_num, by omega, by omega, by omega, hsD, HR4.out, HPL.out⟩
      case round =>
        obtain ⟨i, j, dj, rfl, rfl, hai, hij1, hjb, hsD, hrow, hP⟩ := hrel
        have HRA := Lib.hid hrow
        have HP := Lib.hid hP
        clear hrow hP
        go_upto_block 6 with fail
        go_cut [10] (fun s wx => ∃ x : Nat, s = .int .i64 x ∧ i ≤ x ∧ x ≤ j + 2 ∧ RowIs w blk off dj wx ∧ scanUp (fun x => ltInt x dj[a]!) dj j i = x)
        case first =>
          go_wp2
          go_loopw [10] (fun vi wx => ∃ x : Nat, vi = .int .i64 x ∧ i ≤ x ∧ x ≤ j + 2 ∧ RowIs w blk off dj wx ∧ scanUp (fun x => ltInt x dj[a]!) dj j x = scanUp (fun x => ltInt x dj[a]!) dj j i) (fun vi _ => j + 1 - (intOf vi).toNat)
          case atStart => exact ⟨i, rfl, Nat.le_refl _, by omega, HRA.out, rfl⟩
          case round =>
            obtain ⟨x, rfl, hx1, hx2, hrow, hS⟩ := hrel
            obtain ⟨G, hG, hcw, hfw⟩ := hrow.cells hsD
            have HRX := Lib.hid hrow
            have HG := Lib.hid hG
            have HS := Lib.hid hS
            clear hrow hG hS
            go_wp2
            by_cases hij : x ≤ j
            · go_quiet (first | (go_at_call 40; refine Calls.quiet_of_same (cmp_less _ _ _)))
              cases hl : ltInt (G x) (G a) with
              | true =>
                have HM := Lib.hid ((su_more (p := (fun x => ltInt x dj[a]!)) (d := dj) hij (by show ltInt dj[x]! dj[a]! = true; rw [← HG.out, ← HG.out, hl])).symm.trans HS.out)
                go_wp2
                exact ⟨⟨x + 1, by go_num, by omega, by omega, HRX.out.drewN _, HM.out⟩, by simp only [intOf]; omega⟩
              | false =>
                have HM := Lib.hid ((HS.out.symm.trans (su_end (p := (fun x => ltInt x dj[a]!)) (d := dj) (.inr (by show ltInt dj[x]! dj[a]! = false; rw [← HG.out, ← HG.out, hl])))))
                go_wp2
                go_meet
                exact ⟨x, rfl, hx1, hx2, HRX.out.drewN _, HM.out⟩
            · have hdf : decide ((x : Int) ≤ (j : Int)) = false := by simp; omega
              have HM := Lib.hid ((HS.out.symm.trans (su_end (p := (fun x => ltInt x dj[a]!)) (d := dj) (.inl hij))))
              go_quiet (first | (go_at_call 40; refine Calls.quiet_of_same (cmp_less _ _ _)))
              go_wp2
              go_meet
              exact ⟨x, rfl, hx1, hx2, HRX.out.drewN _, HM.out⟩
        case rest =>
        obtain ⟨i3, rfl, hi31, hi32, hrow, hi3S⟩ := hcut
        have HRB := Lib.hid hrow
        clear hrow
        go_upto_block 8 with fail
        go_cut [11] (fun s wx => ∃ x : Nat, s = .int .i64 x ∧ i3 ≤ x + 2 ∧ x ≤ j ∧ RowIs w blk off dj wx ∧ scanDown (fun x => !ltInt x dj[a]!) dj i3 j = x)
        case first =>
          go_wp2
          go_loopw [11] (fun vi wx => ∃ x : Nat, vi = .int .i64 x ∧ i3 ≤ x + 2 ∧ x ≤ j ∧ RowIs w blk off dj wx ∧ scanDown (fun x => !ltInt x dj[a]!) dj i3 x = scanDown (fun x => !ltInt x dj[a]!) dj i3 j) (fun vi _ => (intOf vi).toNat)
          case atStart => exact ⟨j, rfl, by omega, Nat.le_refl _, HRB.out, rfl⟩
          case round =>
            obtain ⟨x, rfl, hx1, hx2, hrow, hS⟩ := hrel
            obtain ⟨G, hG, hcw, hfw⟩ := hrow.cells hsD
            have HRX := Lib.hid hrow
            have HG := Lib.hid hG
            have HS := Lib.hid hS
            clear hrow hG hS
            go_wp2
            by_cases hij : i3 ≤ x
            · go_quiet (first | (go_at_call 40; refine Calls.quiet_of_same (cmp_less _ _ _)))
              cases hl : ltInt (G x) (G a) with
              | false =>
                have HM := Lib.hid ((sdn_more (p := (fun x => !ltInt x dj[a]!)) (d := dj) hij (by omega) (by show (!ltInt dj[x]! dj[a]!) = true; rw [← HG.out, ← HG.out, hl]; rfl)).symm.trans HS.out)
                go_wp2
                exact ⟨⟨x - 1, by go_num, by omega, by omega, HRX.out.drewN _, HM.out⟩, by simp only [intOf]; omega⟩
              | true =>
                have HM := Lib.hid ((HS.out.symm.trans (sdn_end (p := (fun x => !ltInt x dj[a]!)) (d := dj) (.inr (by show (!ltInt dj[x]! dj[a]!) = false; rw [← HG.out, ← HG.out, hl]; rfl)))))
                go_wp2
                go_meet
                exact ⟨x, rfl, hx1, hx2, HRX.out.drewN _, HM.out⟩
            · have hdf : decide ((i3 : Int) ≤ (x : Int)) = false := by simp; omega
              have HM := Lib.hid ((HS.out.symm.trans (sdn_end (p := (fun x => !ltInt x dj[a]!)) (d := dj) (.inl hij))))
              go_quiet (first | (go_at_call 40; refine Calls.quiet_of_same (cmp_less _ _ _)))
              go_wp2
              go_meet
              exact ⟨x, rfl, hx1, hx2, HRX.out.drewN _, HM.out⟩
        case rest =>
        obtain ⟨j3, rfl, hj31, hj32, hrow, hj3S⟩ := hcut
        have HRC := Lib.hid hrow
        clear hrow
        by_cases hgt3 : j3 < i3
        · have HM := Lib.hid (show res = (j3, dj) by rw [← HP.out]; exact pl_end hi3S hj3S hgt3)
          clear hi3S hj3S
          go_wp2
          go_meet
          exact ⟨j3, dj, rfl, by omega, by omega, hsD, HRC.out, HM.out⟩
        · have HM := Lib.hid (show partLoop ltInt a (i3 + 1) (j3 - 1) (swp dj i3 j3) = res by rw [← HP.out]; exact (pl_more hi3S hj3S hgt3 hi31 hj32).symm)
          clear hi3S hj3S
          obtain ⟨G, hG, hcw, hfw⟩ := HRC.out.cells hsD
          have HG := Lib.hid hG
          clear hG
          have hcx : (wc.setCell ⟨blk, off + i3, none⟩ (.int .i32 (G j3))).cell? ⟨blk, off + j3, none⟩ = some (.int .i32 (G j3)) := set_row hcw (by omega) (by omega)
          have hcy : (wc.setCell ⟨blk, off + i3, none⟩ (.int .i32 (G j3))).drew.cell? ⟨blk, off + j3, none⟩ = some (.int .i32 (G j3)) := hcx
          go_upto_region 18 with fail
          go_cut [] (fun wx => RowIs w blk off (swp dj i3 j3) wx)
          case first =>
            go_region
            all_goals
              go_wp2
              go_meet
              exact (HRC.out.drewN _).swap HG.out (j := i3) (k := j3) (by omega) (by omega)
          case rest =>
          have HRD := Lib.hid hcut
          clear hcut hcw hfw hcx hcy HG
          have hsE : (swp dj i3 j3).size = d.size := by rw [Sort.swp_size]; exact hsD
          go_wp2_with fail
          exact ⟨⟨i3 + 1, j3 - 1, _, by go_num, by go_num, by omega, by omega, by omega, hsE, HRD.out, HM.out⟩, by simp only [intOf]; omega⟩
    case rest =>
    obtain ⟨jf, df, rfl, hjf1, hjf2, hsD, hrow, hres⟩ := hcut
    have HR5 := Lib.hid hrow
    have HPC := Lib.hid (show partition ltInt d a b pv = (jf, false, swp df jf a) by rw [HPB.out, hres])
    clear hrow hres
    obtain ⟨G, hG, hcw, hfw⟩ := HR5.out.cells hsD
    have HG := Lib.hid hG
    clear hG
    have hcx : (wc.setCell ⟨blk, off + jf, none⟩ (.int .i32 (G a))).cell? ⟨blk, off + a, none⟩ = some (.int .i32 (G a)) := set_row hcw (by omega) (by omega)
    have hcy : (wc.setCell ⟨blk, off + jf, none⟩ (.int .i32 (G a))).drew.cell? ⟨blk, off + a, none⟩ = some (.int .i32 (G a)) := hcx
    go_upto_region 21 with fail
    go_region
    all_goals
      have HRE := Lib.hid (show RowIs w blk off (swp df jf a) _ from (HR5.out.drewN 1).swap HG.out (j := jf) (k := a) (by omega) (by omega))
      go_wp2_with fail
      refine bodyPost_ret (v := .tuple #[.int .i64 jf, .bool false]) (by simp [results, Try.results42, go_sem]) (by rfl) ?_
      rw [HPC.out]
      exact ⟨rfl, HRE.out⟩

end Go.Proofs.Ytebpmfejhfkagaa
