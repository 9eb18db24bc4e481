/- slices.pdqsortOrdered at runes: it sorts. -/
import Derived.Test.YtebpmfejhfkagaaSortParts2
namespace Go.Proofs.Ytebpmfejhfkagaa
open Go.RowKit Go.Sort

/-- What is asked of breakPatternsOrdered. -/
def BreakSaid : Prop := ∀ (blk off cap a b sz : Nat) (d : Array Int) (w : World), d.size = sz → RowAt w blk off d → a + 12 < b → b ≤ sz → sz < 2305843009213693952 →
  Calls Try.prog 36 #[.slice (some ⟨blk, off, none⟩) sz cap, .int .i64 a, .int .i64 b] w fun e w' => e = .returned (.tuple #[]) ∧ ∃ d', PermIn a b d d' ∧ RowIs w blk off d' w'
/-- What is shown of pdqsortOrdered, for parts of m elements at most. -/
def PdqSaid (m : Nat) : Prop := ∀ (blk off cap a b lim sz : Nat) (d : Array Int) (w : World), b ≤ a + m → d.size = sz → RowAt w blk off d → a ≤ b → b ≤ sz → sz < 2305843009213693952 → lim < 2305843009213693952 → Sort.Below ltInt a b d →
  Calls Try.prog 25 #[.slice (some ⟨blk, off, none⟩) sz cap, .int .i64 a, .int .i64 b, .int .i64 lim] w fun e w' => e = .returned (.tuple #[]) ∧ ∃ d', PermIn a b d d' ∧ SortedIn ltInt a b d' ∧ RowIs w blk off d' w'
def PdRel (w : World) (blk off a b sz : Nat) (d : Array Int) (va vb vl v8 v9 : Value) (wr : World) : Prop :=
  ∃ (a1 b1 l1 : Nat) (wb wp : Bool) (d1 : Array Int), va = .int .i64 a1 ∧ vb = .int .i64 b1 ∧ vl = .int .i64 l1 ∧ v8 = .bool wb ∧ v9 = .bool wp ∧ a ≤ a1 ∧ a1 ≤ b1 ∧ b1 ≤ b ∧ d1.size = sz ∧ l1 < 2305843009213693952 ∧ Sort.Below ltInt a1 b1 d1 ∧ RowIs w blk off d1 wr ∧
    ∀ R, PermIn a1 b1 d1 R → SortedIn ltInt a1 b1 R → PermIn a b d R ∧ SortedIn ltInt a b R
theorem swo_int : SWO ltInt where
  irrefl := fun x => by simp [ltInt]
  trans := fun x y z h1 h2 => by simp [ltInt] at *; omega
  ntrans := fun x y z h1 h2 => by simp [ltInt] at *; omega

set_option maxRecDepth 100000 in
set_option maxHeartbeats 3200000 in
theorem pdq_step (hbp : BreakSaid) (m : Nat) (ih : ∀ k, k < m → PdqSaid k) : PdqSaid m := by
  intro blk off cap a b lim sz d w hm hs hH hab hb hsz hlim hB
  have HBP := Lib.hid hbp
  have HIH := Lib.hid ih
  have HR0 := Lib.hid (RowIs.start hH)
  have HB0 := Lib.hid hB
  have HS0 := Lib.hid hs
  clear hbp ih hH hB hs
  go_enter Try.func25, Try.ntmps25
  go_wp2
  go_loopw [1, 2, 3, 8, 9] (PdRel w blk off a b sz d) (fun va vb _ _ _ _ => ((intOf vb) - (intOf va)).toNat)
  case atStart => exact ⟨a, b, lim, true, true, d, rfl, rfl, rfl, rfl, rfl, Nat.le_refl _, hab, Nat.le_refl _, HS0.out, hlim, HB0.out, HR0.out, fun R h1 h2 => ⟨h1, h2⟩⟩
  case round =>
    obtain ⟨a1, b1, l1, wb, wp, d1, rfl, rfl, rfl, rfl, rfl, ha1, hab1, hb1, hs1, hl1, hbe, hrow, hR⟩ := hrel
    have HR1 := Lib.hid hrow
    have HBE := Lib.hid hbe
    have HRR := Lib.hid hR
    have HS1 := Lib.hid hs1
    clear hrow hbe hR hs1 HR0 HB0
    obtain ⟨n, hn1, hn2⟩ : ∃ n, a1 + n ≤ b1 ∧ b1 ≤ a1 + n := ⟨b1 - a1, by omega, by omega⟩
    have hba : ((b1 : Int) - (a1 : Int)) = (n : Int) := by omega
    by_cases h12 : n ≤ 12
    · have HI := Lib.hid (show Calls Try.prog 34 #[.slice (some ⟨blk, off, none⟩) sz cap, .int .i64 a1, .int .i64 b1] wr fun e w' => e = .returned (.tuple #[]) ∧ RowIs wr blk off (insertionSort ltInt d1 a1 b1) w' by
        have := sort_ins blk off cap a1 b1 d1 wr HR1.out.row hab1 (by rw [HS1.out]; omega) (by rw [HS1.out]; omega)
        rwa [HS1.out] at this)
      have hsp := insertionSort_holds (lt := ltInt) swo_int d1 a1 b1 hab1 (by rw [HS1.out]; omega)
      have HRES := Lib.hid (HRR.out _ hsp.1 hsp.2)
      have HSZ := Lib.hid hsp.1.1
      clear hsp
      go_wp2_with fail
      refine HI.out.mono ?_
      rintro e w2 ⟨rfl, hr⟩
      have HRF := Lib.hid (HR1.out.trans hr HSZ.out)
      clear hr
      go_wp2_with fail
      refine bodyPost_ret (results_none (by rfl) _ _ _) (by rfl) ⟨rfl, _, HRES.out.1, HRES.out.2, HRF.out⟩
    · by_cases hl0 : l1 = 0
      · have hl0' : ((l1 : Int) == 0) = true := by simp; omega
        have HI := Lib.hid (show Calls Try.prog 35 #[.slice (some ⟨blk, off, none⟩) sz cap, .int .i64 a1, .int .i64 b1] wr fun e w' => e = .returned (.tuple #[]) ∧ RowIs wr blk off (heapSort ltInt d1 a1 b1) w' by
          have := sort_heap blk off cap a1 b1 n d1 wr HR1.out.row (by omega) (by omega) (by rw [HS1.out]; omega) (by rw [HS1.out]; omega)
          rwa [HS1.out] at this)
        have hsp := heapSort_holds (lt := ltInt) swo_int d1 a1 b1 hab1 (by rw [HS1.out]; omega)
        have HRES := Lib.hid (HRR.out _ hsp.1 hsp.2)
        have HSZ := Lib.hid hsp.1.1
        clear hsp hl0
        go_wp2_with fail
        refine HI.out.mono ?_
        rintro e w2 ⟨rfl, hr⟩
        have HRF := Lib.hid (HR1.out.trans hr HSZ.out)
        clear hr
        go_wp2_with fail
        refine bodyPost_ret (results_none (by rfl) _ _ _) (by rfl) ⟨rfl, _, HRES.out.1, HRES.out.2, HRF.out⟩
      · have hl0' : ((l1 : Int) == 0) = false := by simp; omega
        have hlp : 1 ≤ l1 := by omega
        clear hl0
        go_upto_if 35 with fail
        go_cut [3] (fun s3 wx => ∃ (l2 : Nat) (d2 : Array Int), s3 = .int .i64 l2 ∧ l2 < 2305843009213693952 ∧ PermIn a1 b1 d1 d2 ∧ RowIs w blk off d2 wx)
        case first =>
          cases wb with
          | true =>
            go_wp2_with fail
            go_meet
            exact ⟨l1, d1, rfl, hl1, permIn_refl _ _ _, HR1.out⟩
          | false =>
            have HI := Lib.hid (HBP.out blk off cap a1 b1 sz d1 wr HS1.out HR1.out.row (by omega) (by omega) hsz)
            go_wp2_with fail
            refine HI.out.mono ?_
            rintro e w2 ⟨rfl, d2, hp2, hr⟩
            have HRF := Lib.hid (HR1.out.trans hr hp2.1)
            have HPF := Lib.hid hp2
            clear hr hp2
            go_wp2_with fail
            go_meet
            exact ⟨l1 - 1, d2, by go_num, by omega, HPF.out, HRF.out⟩
        case rest =>
        obtain ⟨l2, d2, rfl, hl2, hp2, hrow⟩ := hcut
        have HR2 := Lib.hid hrow
        have HP2 := Lib.hid hp2
        have HS2 := Lib.hid (hp2.1.trans HS1.out)
        clear hrow hp2
        have HCP := Lib.hid (sort_pivot blk off cap a1 b1 sz d2 wc HS2.out HR2.out.row (by omega) (by omega) hsz)
        go_wp2_with fail
        refine HCP.out.mono ?_
        rintro e w3 ⟨⟨pv, hnt, rfl, hpv1, hpv2⟩, hb3⟩
        have HR3 := Lib.hid (HR2.out.below hb3)
        clear hb3
        go_upto_if 50 with fail
        go_cut [11, 12] (fun s11 s12 wx => ∃ (p2 h2 : Nat) (d3 : Array Int), s11 = .int .i64 p2 ∧ s12 = .int .i64 h2 ∧ a1 ≤ p2 ∧ p2 < b1 ∧ PermIn a1 b1 d2 d3 ∧ RowIs w blk off d3 wx)
        case first =>
          by_cases hh : hnt = 2
          · have hh' : ((hnt : Int) == 2) = true := by simp; omega
            have HI := Lib.hid (show Calls Try.prog 38 #[.slice (some ⟨blk, off, none⟩) sz cap, .int .i64 a1, .int .i64 b1] w3 fun e w' => e = .returned (.tuple #[]) ∧ RowIs w3 blk off (reverseRange d2 a1 b1) w' by
              have := sort_rev blk off cap a1 b1 d2 w3 HR3.out.row (by omega) (by rw [HS2.out]; omega) (by rw [HS2.out]; omega)
              rwa [HS2.out] at this)
            have HPF := Lib.hid (reverseRange_holds d2 a1 b1 hab1 (by rw [HS2.out]; omega))
            clear hh
            go_wp2_with fail
            refine HI.out.mono ?_
            rintro e w4 ⟨rfl, hr⟩
            have HRF := Lib.hid (HR3.out.trans hr HPF.out.1)
            clear hr
            go_wp2_with fail
            go_meet
            exact ⟨b1 - 1 - (pv - a1), 1, _, by congr 1; omega, rfl, by omega, by omega, HPF.out, HRF.out⟩
          · have hh' : ((hnt : Int) == 2) = false := by simp; omega
            clear hh
            go_wp2_with fail
            go_meet
            exact ⟨pv, hnt, d2, rfl, rfl, hpv1, hpv2, permIn_refl _ _ _, HR3.out⟩
        case rest =>
        obtain ⟨p2, h2, d3, rfl, rfl, hp21, hp22, hp3, hrow⟩ := hcut
        have HR4 := Lib.hid hrow
        have HP3 := Lib.hid (permIn_trans _ _ _ _ _ HP2.out hp3)
        have HS3 := Lib.hid (hp3.1.trans HS2.out)
        have HB3 := Lib.hid (HBE.out.perm (by rw [HS1.out]; omega) HP3.out)
        clear hrow hp3 HR2 HR3 HP2 HCP HS2
        go_upto_region 15 with fail
        go_cut [68] (fun s68 wx => ∃ q : Bool, s68 = .bool q ∧ wx = wc)
        case first =>
          by_cases hh : h2 = 1
          · have hh' : ((h2 : Int) == 1) = true := by simp; omega
            clear hh
            cases wb <;> cases wp
            all_goals
              go_wp2_with fail
              go_meet
              exact ⟨_, rfl, rfl⟩
          · have hh' : ((h2 : Int) == 1) = false := by simp; omega
            clear hh
            cases wb <;> cases wp
            all_goals
              go_wp2_with fail
              go_meet
              exact ⟨_, rfl, rfl⟩
        case rest =>
        obtain ⟨q, rfl, rfl⟩ := hcut
        go_upto_if 68 with fail
        go_cut [] (fun wx => ∃ d4 : Array Int, PermIn a1 b1 d3 d4 ∧ RowIs w blk off d4 wx)
        case first =>
          cases q with
          | false =>
            go_wp2_with fail
            go_meet
            exact ⟨d3, permIn_refl _ _ _, HR4.out⟩
          | true =>
            have HI := Lib.hid (show Calls Try.prog 39 #[.slice (some ⟨blk, off, none⟩) sz cap, .int .i64 a1, .int .i64 b1] wc fun e w' => e = .returned (.bool (partialInsertionSort ltInt d3 a1 b1).2) ∧ RowIs wc blk off (partialInsertionSort ltInt d3 a1 b1).1 w' by
              have := sort_part blk off cap a1 b1 d3 wc HR4.out.row (by omega) (by rw [HS3.out]; omega) (by rw [HS3.out]; omega)
              rwa [HS3.out] at this)
            have HSP := Lib.hid (partialInsertionSort_holds (lt := ltInt) swo_int d3 a1 b1 (by omega) (by rw [HS3.out]; omega) HB3.out)
            generalize partialInsertionSort ltInt d3 a1 b1 = res at *
            obtain ⟨d4, fin⟩ := res
            dsimp only at *
            go_wp2_with fail
            refine HI.out.mono ?_
            rintro e w5 ⟨rfl, hr⟩
            have HRF := Lib.hid (HR4.out.trans hr HSP.out.1.1)
            clear hr HI
            cases fin with
            | true =>
              have HRES := Lib.hid (HRR.out d4 (permIn_trans _ _ _ _ _ HP3.out HSP.out.1) (HSP.out.2 rfl))
              go_wp2_with fail
              refine bodyPost_ret (results_none (by rfl) _ _ _) (by rfl) ⟨rfl, _, HRES.out.1, HRES.out.2, HRF.out⟩
            | false =>
              go_wp2_with fail
              go_meet
              exact ⟨d4, HSP.out.1, HRF.out⟩
        case rest =>
        obtain ⟨d4, hp4, hrow⟩ := hcut
        have HR5 := Lib.hid hrow
        have HP4 := Lib.hid (permIn_trans _ _ _ _ _ HP3.out hp4)
        have HS4 := Lib.hid (hp4.1.trans HS3.out)
        have HB4 := Lib.hid (HBE.out.perm (by rw [HS1.out]; omega) HP4.out)
        clear hrow hp4 HR4 HP3 HS3 HB3
        go_upto_region 17 with fail
        go_cut [87] (fun s87 wx => ∃ q : Bool, s87 = .bool q ∧ RowIs w blk off d4 wx ∧ (q = true → 0 < a1 ∧ ltInt d4[a1 - 1]! d4[p2]! = false))
        case first =>
          obtain ⟨G, hG, hcw, hfw⟩ := HR5.out.cells HS4.out
          have HG := Lib.hid hG
          clear hG
          by_cases ha0 : 0 < a1
          · have hdf : decide ((0 : Int) < (a1 : Int)) = true := by simp; omega
            go_quiet (first | (go_at_call 40; refine Calls.quiet_of_same (cmp_less _ _ _)))
            go_wp2
            go_meet
            refine ⟨!(ltInt (G (a1 - 1)) (G p2)), rfl, HR5.out.drewN _, fun h => ⟨ha0, ?_⟩⟩
            rw [← HG.out, ← HG.out]
            simpa using h
          · have hdf : decide ((0 : Int) < (a1 : Int)) = false := by simp; omega
            go_quiet (first | (go_at_call 40; refine Calls.quiet_of_same (cmp_less _ _ _)))
            go_wp2
            go_meet
            exact ⟨false, rfl, HR5.out.drewN _, fun h => by cases h⟩
        case rest =>
        obtain ⟨q, rfl, hrow, hq⟩ := hcut
        have HR6 := Lib.hid hrow
        clear hrow HR5
        cases q with
        | true =>
          obtain ⟨ha0, hnl⟩ := hq rfl
          have HI := Lib.hid (show Calls Try.prog 41 #[.slice (some ⟨blk, off, none⟩) sz cap, .int .i64 a1, .int .i64 b1, .int .i64 p2] wc fun e w' => e = .returned (.int .i64 (partitionEqual ltInt d4 a1 b1 p2).1) ∧ RowIs wc blk off (partitionEqual ltInt d4 a1 b1 p2).2 w' by
            have := sort_parteq blk off cap a1 b1 p2 d4 wc HR6.out.row hp21 hp22 (by rw [HS4.out]; omega) (by rw [HS4.out]; omega)
            rwa [HS4.out] at this)
          generalize hx : partitionEqual ltInt d4 a1 b1 p2 = res at *
          obtain ⟨mid, d5⟩ := res
          dsimp only at *
          have hre := round_eq swo_int (partitionEqual_holds ltInt) ha0 hp21 hp22 (by rw [HS4.out]; omega) HB4.out hnl hx
          obtain ⟨hm1, hm2, hs5, hb5, hr5⟩ := hre
          have HS5 := Lib.hid (hs5.trans HS4.out)
          have HS54 := Lib.hid hs5
          have HB5 := Lib.hid hb5
          have HRN := Lib.hid (fun R h1 h2 => HRR.out R (permIn_trans _ _ _ _ _ HP4.out (hr5 R h1 h2).1) (hr5 R h1 h2).2)
          clear hx hs5 hb5 hr5 hq hnl
          go_wp2_with fail
          refine HI.out.mono ?_
          rintro e w5 ⟨rfl, hr⟩
          have HRF := Lib.hid (HR6.out.trans hr HS54.out)
          clear hr
          go_wp2_with fail
          exact ⟨⟨mid, b1, l2, wb, wp, d5, rfl, rfl, rfl, rfl, rfl, by omega, hm2, hb1, HS5.out, hl2, HB5.out, HRF.out, HRN.out⟩, by simp only [intOf]; omega⟩
        | false =>
          have HI := Lib.hid (show Calls Try.prog 42 #[.slice (some ⟨blk, off, none⟩) sz cap, .int .i64 a1, .int .i64 b1, .int .i64 p2] wc fun e w' => e = .returned (.tuple #[.int .i64 (partition ltInt d4 a1 b1 p2).1, .bool (partition ltInt d4 a1 b1 p2).2.1]) ∧ RowIs wc blk off (partition ltInt d4 a1 b1 p2).2.2 w' by
            have := sort_partition blk off cap a1 b1 p2 d4 wc HR6.out.row hp21 hp22 (by rw [HS4.out]; omega) (by rw [HS4.out]; omega)
            rwa [HS4.out] at this)
          generalize hx : partition ltInt d4 a1 b1 p2 = res at *
          obtain ⟨mid, ap, d5⟩ := res
          dsimp only at *
          have hre := round_part swo_int (partition_holds ltInt) hp21 hp22 (by rw [HS4.out]; omega) HB4.out hx
          obtain ⟨hm1, hm2, hs5, hbl, hbr, htl, htr⟩ := hre
          have HS5 := Lib.hid (hs5.trans HS4.out)
          have HS54 := Lib.hid hs5
          have HBL := Lib.hid hbl
          have HBR := Lib.hid hbr
          have HTL := Lib.hid htl
          have HTR := Lib.hid htr
          clear hx hs5 hbl hbr htl htr hq
          go_wp2_with fail
          refine HI.out.mono ?_
          rintro e w5 ⟨rfl, hr⟩
          have HRF := Lib.hid (HR6.out.trans hr HS54.out)
          clear hr
          by_cases hlr : mid - a1 < b1 - mid
          · have hdl : (mid : Int) - (a1 : Int) < (b1 : Int) - (mid : Int) := by omega
            obtain ⟨q8, h81, h82⟩ : ∃ q8, 8 * q8 ≤ n ∧ n ≤ 8 * q8 + 7 := ⟨n / 8, by omega, by omega⟩
            have hq8 : (n : Int) / 8 = (q8 : Int) := by omega
            have HREC := Lib.hid (fun (va : Int) (hva : va = ((a1 : Nat) : Int)) (w' : World) (hw : RowAt w' blk off d5) => (show Calls Try.prog 25 #[.slice (some ⟨blk, off, none⟩) sz cap, .int .i64 va, .int .i64 mid, .int .i64 l2] w' fun e w2 => e = .returned (.tuple #[]) ∧ ∃ d', PermIn (a1) mid d5 d' ∧ SortedIn ltInt (a1) mid d' ∧ RowIs w' blk off d' w2 by subst hva; exact HIH.out (mid - a1) (by omega) blk off cap (a1) mid l2 sz d5 w' (by omega) HS5.out hw (by omega) (by omega) hsz hl2 HBL.out))
            clear hlr
            go_wp2_with fail
            refine (HREC.out _ (by first | rfl | omega) _ HRF.out.row).mono ?_
            rintro e w6 ⟨rfl, d6, hp6, hso6, hr6⟩
            have HRF2 := Lib.hid (HRF.out.trans hr6 hp6.1)
            have HS6 := Lib.hid (hp6.1.trans HS5.out)
            obtain ⟨hb6, hr7⟩ := HTL.out d6 hp6 hso6
            have HB6 := Lib.hid hb6
            have HRN := Lib.hid (fun R h1 h2 => HRR.out R (permIn_trans _ _ _ _ _ HP4.out (hr7 R h1 h2).1) (hr7 R h1 h2).2)
            clear hp6 hso6 hr6 hb6 hr7
            go_wp2_with fail
            exact ⟨⟨mid + 1, b1, l2, _, ap, d6, by go_num, rfl, rfl, rfl, rfl, by omega, by omega, hb1, HS6.out, hl2, HB6.out, HRF2.out, HRN.out⟩, by simp only [intOf]; omega⟩
          · have hdl : ¬ (mid : Int) - (a1 : Int) < (b1 : Int) - (mid : Int) := by omega
            obtain ⟨q8, h81, h82⟩ : ∃ q8, 8 * q8 ≤ n ∧ n ≤ 8 * q8 + 7 := ⟨n / 8, by omega, by omega⟩
            have hq8 : (n : Int) / 8 = (q8 : Int) := by omega
            have HREC := Lib.hid (fun (va : Int) (hva : va = ((mid + 1 : Nat) : Int)) (w' : World) (hw : RowAt w' blk off d5) => (show Calls Try.prog 25 #[.slice (some ⟨blk, off, none⟩) sz cap, .int .i64 va, .int .i64 b1, .int .i64 l2] w' fun e w2 => e = .returned (.tuple #[]) ∧ ∃ d', PermIn (mid + 1) b1 d5 d' ∧ SortedIn ltInt (mid + 1) b1 d' ∧ RowIs w' blk off d' w2 by subst hva; exact HIH.out (b1 - (mid + 1)) (by omega) blk off cap (mid + 1) b1 l2 sz d5 w' (by omega) HS5.out hw (by omega) (by omega) hsz hl2 HBR.out))
            clear hlr
            go_wp2_with fail
            refine (HREC.out _ (by first | rfl | omega) _ HRF.out.row).mono ?_
            rintro e w6 ⟨rfl, d6, hp6, hso6, hr6⟩
            have HRF2 := Lib.hid (HRF.out.trans hr6 hp6.1)
            have HS6 := Lib.hid (hp6.1.trans HS5.out)
            obtain ⟨hb6, hr7⟩ := HTR.out d6 hp6 hso6
            have HB6 := Lib.hid hb6
            have HRN := Lib.hid (fun R h1 h2 => HRR.out R (permIn_trans _ _ _ _ _ HP4.out (hr7 R h1 h2).1) (hr7 R h1 h2).2)
            clear hp6 hso6 hr6 hb6 hr7
            go_wp2_with fail
            exact ⟨⟨a1, mid, l2, _, ap, d6, rfl, rfl, rfl, rfl, rfl, ha1, by omega, by omega, HS6.out, hl2, HB6.out, HRF2.out, HRN.out⟩, by simp only [intOf]; omega⟩
theorem sort_pdq (hbp : BreakSaid) : ∀ m, PdqSaid m := by
  intro m
  induction m using Nat.strongRecOn with
  | _ m ih => exact pdq_step hbp m (fun k hk => ih k hk)

end Go.Proofs.Ytebpmfejhfkagaa
