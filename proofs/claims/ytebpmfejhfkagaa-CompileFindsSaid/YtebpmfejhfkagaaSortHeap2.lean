/- slices.heapSortOrdered at runes. -/
import Derived.Test.YtebpmfejhfkagaaSortHeap
namespace Go.Proofs.Ytebpmfejhfkagaa
open Go.RowKit Go.Sort

theorem sift_size (lt : Int → Int → Bool) (hi F : Nat) : ∀ (n r : Nat) (d : Array Int), hi - r ≤ n → (siftDown lt hi F r d).size = d.size := by
  intro n
  induction n with
  | zero =>
    intro r d h
    rw [siftDown, dif_pos (by omega)]
  | succ n ih =>
    intro r d h
    by_cases hc : 2 * r + 1 ≥ hi
    · rw [siftDown, dif_pos hc]
    · by_cases hl : 2 * r + 1 + 1 < hi ∧ lt d[F + (2 * r + 1)]! d[F + (2 * r + 1) + 1]! = true
      · rw [sift_far hc hl.1 hl.2]
        by_cases hs : lt d[F + r]! d[F + (2 * r + 2)]! = true
        · rw [if_pos hs, ih _ _ (by omega), Sort.swp_size]
        · rw [if_neg hs]
      · rw [sift_near hc hl]
        by_cases hs : lt d[F + r]! d[F + (2 * r + 1)]! = true
        · rw [if_pos hs, ih _ _ (by omega), Sort.swp_size]
        · rw [if_neg hs]
def HbRel (w : World) (blk off a n : Nat) (d : Array Int) (vi : Value) (wr : World) : Prop :=
  ∃ (k : Nat) (v : Int) (dk : Array Int), vi = .int .i64 v ∧ v = (k : Int) - 1 ∧ k ≤ (n - 1) / 2 + 1 ∧ dk.size = d.size ∧ RowIs w blk off dk wr ∧ heapBuild ltInt n a k dk = heapBuild ltInt n a ((n - 1) / 2 + 1) d
def HpRel (w : World) (blk off a n : Nat) (d : Array Int) (vi : Value) (wr : World) : Prop :=
  ∃ (k : Nat) (v : Int) (dk : Array Int), vi = .int .i64 v ∧ v = (k : Int) - 1 ∧ k ≤ n ∧ dk.size = d.size ∧ RowIs w blk off dk wr ∧ heapPop ltInt a k dk = heapPop ltInt a n (heapBuild ltInt n a ((n - 1) / 2 + 1) d)
set_option maxRecDepth 100000 in
set_option maxHeartbeats 800000 in
theorem sort_heap (blk off cap a b n : Nat) (d : Array Int) (w : World) (hH : RowAt w blk off d) (hn : 0 < n) (hbn : b = a + n) (hb : a + n ≤ d.size) (hsz : d.size < 2305843009213693952) :
    Calls Try.prog 35 #[.slice (some ⟨blk, off, none⟩) d.size cap, .int .i64 a, .int .i64 b] w fun e w' => e = .returned (.tuple #[]) ∧ RowIs w blk off (heapSort ltInt d a b) w' := by
  have HH := Lib.hid hH
  clear hH
  have HFIN := Lib.hid (show heapSort ltInt d a b = heapPop ltInt a n (heapBuild ltInt n a ((n - 1) / 2 + 1) d) by unfold heapSort; rw [hbn, Nat.add_sub_cancel_left])
  have HSF := Lib.hid (fun (k hi : Nat) (dk : Array Int) (w' : World) (hs : dk.size = d.size) (h : RowAt w' blk off dk) (hk : k ≤ hi) (hh : hi ≤ n) => (show Calls Try.prog 49 #[.slice (some ⟨blk, off, none⟩) d.size cap, .int .i64 k, .int .i64 hi, .int .i64 a] w' fun e w2 => e = .returned (.tuple #[]) ∧ RowIs w' blk off (siftDown ltInt hi a k dk) w2 by have := sort_sift blk off cap k hi a dk w' h hk (by omega) (by omega); rw [hs] at this; exact this))
  have hbn1 : b ≤ a + n := by omega
  have hbn2 : a + n ≤ b := by omega
  clear hbn
  go_enter Try.func35, Try.ntmps35
  go_wp2
  simp only [show ((b : Int) - (a : Int)) = (n : Int) by omega]
  go_loopw [9] (HbRel w blk off a n d) (fun vi _ => ((intOf vi) + 1).toNat)
  case atStart =>
    exact ⟨(n - 1) / 2 + 1, _, d, rfl, by omega, Nat.le_refl _, rfl, RowIs.start HH.out, rfl⟩
  case round =>
    obtain ⟨k, v, dk, rfl, hv, hk, hsk, hrow, hO⟩ := hrel
    have HR := Lib.hid hrow
    have HO := Lib.hid hO
    clear hrow hO
    cases k with
    | zero =>
      have hv0 : v < 0 := by omega
      clear hv
      have HO2 := Lib.hid (show dk = heapBuild ltInt n a ((n - 1) / 2 + 1) d by rw [← HO.out, heapBuild])
      go_wp2
      go_loopw [10] (HpRel w blk off a n d) (fun vi _ => ((intOf vi) + 1).toNat)
      case atStart =>
        exact ⟨n, _, dk, rfl, rfl, Nat.le_refl _, hsk, HR.out, by rw [← HO2.out]⟩
      case round =>
        obtain ⟨k, v2, dj, rfl, hv2, hk, hsj, hrow, hP⟩ := hrel
        cases k with
        | zero =>
          have hv0 : v2 < 0 := by omega
          clear hv2
          have HM := Lib.hid (show dj = heapSort ltInt d a b by rw [HFIN.out, ← hP, heapPop])
          have HR2 := Lib.hid hrow
          clear hrow hP
          go_wp2
          go_end0
          exact ⟨rfl, by rw [← HM.out]; exact HR2.out⟩
        | succ k =>
          obtain rfl : v2 = (k : Int) := by omega
          clear hv2
          obtain ⟨G, hG, hcw, hfw⟩ := hrow.cells hsj
          have HR2 := Lib.hid hrow
          have HG := Lib.hid hG
          have HP := Lib.hid hP
          clear hrow hP hG
          have HM := Lib.hid (show heapPop ltInt a k (siftDown ltInt k a 0 (swp dj a (a + k))) = heapPop ltInt a n (heapBuild ltInt n a ((n - 1) / 2 + 1) d) by rw [← HP.out]; rfl)
          have hcx : (wr.setCell ⟨blk, off + a, none⟩ (.int .i32 (G (a + k)))).cell? ⟨blk, off + (a + k), none⟩ = some (.int .i32 (G (a + k))) := by
            rcases Nat.eq_zero_or_pos k with hk0 | hk0
            · subst hk0
              exact World.cell?_setCell_same _ _ _ (hcw a (by omega))
            · rw [World.cell?_setCell_other _ _ _ _ (by intro h; injection h with _ h2 _; omega)]
              exact hcw (a + k) (by omega)
          have hcy : (wr.setCell ⟨blk, off + a, none⟩ (.int .i32 (G (a + k)))).drew.cell? ⟨blk, off + (a + k), none⟩ = some (.int .i32 (G (a + k))) := hcx
          go_wp2
          go_region
          all_goals
            have HR3 := Lib.hid (show RowIs w blk off (swp dj a (a + k)) _ from (HR2.out.drewN 1).swap HG.out (j := a) (k := a + k) (by omega) (by omega))
            go_wp2_with fail
            refine (HSF.out 0 k (swp dj a (a + k)) _ (by rw [Sort.swp_size]; exact hsj) HR3.out.row (by omega) (by omega)).mono ?_
            rintro e w1 ⟨rfl, h1⟩
            have HR1 := Lib.hid (HR3.out.trans h1 (sift_size ltInt k a _ 0 _ (Nat.le_refl _)))
            have hs1 : (siftDown ltInt k a 0 (swp dj a (a + k))).size = d.size := by rw [sift_size ltInt k a _ 0 _ (Nat.le_refl _), Sort.swp_size]; exact hsj
            clear h1
            go_wp2_with fail
            exact ⟨⟨k, _, _, rfl, by omega, by omega, hs1, HR1.out, HM.out⟩, by simp only [intOf]; omega⟩
    | succ k =>
      obtain rfl : v = (k : Int) := by omega
      clear hv
      have HM := Lib.hid (show heapBuild ltInt n a k (siftDown ltInt n a k dk) = heapBuild ltInt n a ((n - 1) / 2 + 1) d by rw [← HO.out]; rfl)
      go_wp2_with fail
      refine (HSF.out k n dk _ hsk HR.out.row (by omega) (Nat.le_refl _)).mono ?_
      rintro e w1 ⟨rfl, h1⟩
      have HR1 := Lib.hid (HR.out.trans h1 (sift_size ltInt n a _ k dk (Nat.le_refl _)))
      have hs1 : (siftDown ltInt n a k dk).size = d.size := by rw [sift_size ltInt n a _ k dk (Nat.le_refl _)]; exact hsk
      clear h1
      go_wp2_with fail
      exact ⟨⟨k, _, _, rfl, by omega, by omega, hs1, HR1.out, HM.out⟩, by simp only [intOf]; omega⟩

end Go.Proofs.Ytebpmfejhfkagaa
