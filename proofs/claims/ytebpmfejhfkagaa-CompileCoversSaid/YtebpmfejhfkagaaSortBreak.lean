/- slices.breakPatternsOrdered at runes: it permutes. -/
import Derived.Test.YtebpmfejhfkagaaSortPdq
import Derived.Test.YtebpmfejhfkagaaShelf
import Derived.Lib.ItoaNum
namespace Go.Proofs.Ytebpmfejhfkagaa
open Go.RowKit Go.Sort

theorem wrap_u64 {x : Int} (h0 : 0 ≤ x) (h1 : x < 18446744073709551616) : IntKind.u64.wrap x = x := by
  simp [IntKind.wrap, IntKind.bits, IntKind.signed]
  omega
set_option maxRecDepth 100000 in
set_option maxHeartbeats 800000 in
theorem next_pow (n : Nat) (w : World) (h1 : 0 < n) (h2 : n < 2305843009213693952) : Calls Try.prog 50 #[.int .i64 n] w fun e w' => (∃ p : Nat, e = .returned (.int .u64 p) ∧ 1 ≤ p ∧ p ≤ 2 * n) ∧ w' = w := by
  have HL := Lib.hid (Try.bits_Len (n : Int) w (by omega) (by omega))
  obtain ⟨b1, b2, b3⟩ := Lib.bitLenAux_bounds 64 n (by omega) (by omega)
  obtain ⟨p, hp⟩ : ∃ p : Nat, p = 2 ^ Lib.bitLen n := ⟨_, rfl⟩
  have hk : Lib.bitLen n ≤ 61 := Lib.bitLen_le n 61 (by omega) (by omega)
  have hpb : p ≤ 2 * n := by
    have e : Lib.bitLen n = (Lib.bitLen n - 1) + 1 := by
      have : 1 ≤ Lib.bitLen n := b1
      omega
    rw [hp, e, Nat.pow_succ]
    have : 2 ^ (Lib.bitLen n - 1) ≤ n := b2
    omega
  have hp1 : 1 ≤ p := by rw [hp]; exact Nat.one_le_two_pow
  have HW := Lib.hid (show IntKind.u64.wrap ((2 : Int) ^ min (Lib.bitLen n) 64) = (p : Int) by
    rw [show min (Lib.bitLen n) 64 = Lib.bitLen n by omega]
    have e : ((2 : Int) ^ Lib.bitLen n) = (p : Int) := by rw [hp]; push_cast; rfl
    rw [e]
    exact wrap_u64 (by omega) (by omega))
  clear b1 b2 b3 hp hk
  go_enter Try.func50, Try.ntmps50
  go_wp2_with fail
  refine HL.out.mono ?_
  rintro e w1 ⟨rfl, rfl⟩
  go_wp2_with fail
  go_ret
  exact ⟨⟨p, by rw [HW.out]; rfl, hp1, hpb⟩, rfl⟩
set_option maxRecDepth 100000 in
set_option maxHeartbeats 800000 in
theorem xor_next (rb : Nat) (v : Int) (w : World) (hb : Blk w rb 78 #[.int .u64 v]) : Calls Try.prog 51 #[.pointer (some ⟨rb, 0, none⟩)] w fun e w' => ∃ r : Int, e = .returned (.int .u64 r) ∧ Blk w' rb 78 #[.int .u64 r] ∧ Rest w rb w' := by
  have HB := Lib.hid hb
  have HT := Lib.hid (Rest.refl w rb)
  clear hb
  go_enter Try.func51, Try.ntmps51
  go_upto_region 1 with fail
  go_cut [] (fun wx => ∃ r : Int, Blk wx rb 78 #[.int .u64 r] ∧ Rest w rb wx)
  case first =>
    have c0 : w.cell? ⟨rb, 0, none⟩ = some (.int .u64 v) := HB.out.cell 0
    have f0 := HB.out.frozen 0
    go_region
    all_goals
      go_wp2
      go_meet
      exact ⟨_, (HB.out.drewN 1).put 0 _, Rest.set (Rest.drewN HT.out 1)⟩
  case rest =>
  clear HB HT
  obtain ⟨v, hb, ht⟩ := hcut
  have HB := Lib.hid hb
  have HT := Lib.hid ht
  clear hb ht
  go_upto_region 2 with fail
  go_cut [] (fun wx => ∃ r : Int, Blk wx rb 78 #[.int .u64 r] ∧ Rest w rb wx)
  case first =>
    have c0 : wc.cell? ⟨rb, 0, none⟩ = some (.int .u64 v) := HB.out.cell 0
    have f0 := HB.out.frozen 0
    go_region
    all_goals
      go_wp2
      go_meet
      exact ⟨_, (HB.out.drewN 1).put 0 _, Rest.set (Rest.drewN HT.out 1)⟩
  case rest =>
  clear HB HT
  obtain ⟨v, hb, ht⟩ := hcut
  have HB := Lib.hid hb
  have HT := Lib.hid ht
  clear hb ht
  go_upto_region 3 with fail
  go_cut [] (fun wx => ∃ r : Int, Blk wx rb 78 #[.int .u64 r] ∧ Rest w rb wx)
  case first =>
    have c0 : wc.cell? ⟨rb, 0, none⟩ = some (.int .u64 v) := HB.out.cell 0
    have f0 := HB.out.frozen 0
    go_region
    all_goals
      go_wp2
      go_meet
      exact ⟨_, (HB.out.drewN 1).put 0 _, Rest.set (Rest.drewN HT.out 1)⟩
  case rest =>
  clear HB HT
  obtain ⟨v, hb, ht⟩ := hcut
  have HB := Lib.hid hb
  have HT := Lib.hid ht
  clear hb ht
  have c0 : wc.cell? ⟨rb, 0, none⟩ = some (.int .u64 v) := HB.out.cell 0
  go_wp2_with fail
  go_ret
  exact ⟨v, rfl, HB.out, HT.out⟩

theorem RowIs.rest2 {w wr w2 : World} {blk off rb : Nat} {d : Array Int} (h : RowIs w blk off d wr) (h2 : Rest wr rb w2) (h3 : w.heap.size ≤ rb) (h4 : blk < w.heap.size) : RowIs w blk off d w2 := by
  obtain ⟨c, c', e, g1, g2, g3, g4, g5, g6⟩ := h
  exact ⟨c, c', e, g1, (h2.2.2.2.2 blk g2.lt (by omega)).trans g2, g3, g4, g5, Nat.le_trans g6.1 h2.1, h2.2.1.trans g6.2.1, h2.2.2.1.trans g6.2.2.1, h2.2.2.2.1.trans g6.2.2.2.1, fun k hk hne => (h2.2.2.2.2 k (by have := g6.1; omega) (by omega)).trans (g6.2.2.2.2 k hk hne)⟩
theorem and_range (r : Int) {m : Nat} (hm : m < 18446744073709551616) : 0 ≤ bits .and .u64 r m ∧ bits .and .u64 r m ≤ m := by
  have h1 : (BitVec.ofInt 64 r &&& BitVec.ofInt 64 (m : Int)).toNat ≤ (BitVec.ofInt 64 (m : Int)).toNat := by
    rw [BitVec.toNat_and]
    exact Nat.and_le_right
  have h2 : (BitVec.ofInt 64 (m : Int)).toNat = m := by
    rw [BitVec.toNat_ofInt]
    omega
  have h3 : bits .and .u64 r m = ((BitVec.ofInt 64 r &&& BitVec.ofInt 64 (m : Int)).toNat : Int) := by
    show IntKind.u64.wrap ((BitVec.ofInt 64 r &&& BitVec.ofInt 64 (m : Int)).toNat : Int) = _
    exact wrap_u64 (by omega) (by omega)
  rw [h3]
  omega
theorem blk_set_ne2 {w : World} {g g2 i : Nat} {u : Value} {t : TypeId} {cs : Array Value} (h : Blk w g2 t cs) (hne : g2 ≠ g) : Blk (w.setCell ⟨g, i, none⟩ u) g2 t cs := by
  unfold Blk at h ⊢
  rw [Below.heap_setCell _ _ _ _ hne]
  exact h
/-- The loop's state: three rounds, at idx = i0 .. i0 + 2. -/
def BkRel (w : World) (blk off a b sz rb i0 : Nat) (d : Array Int) (vi : Value) (wr : World) : Prop :=
  ∃ (t i : Nat) (d1 : Array Int), vi = .int .i64 i ∧ i + t = i0 + 3 ∧ i0 ≤ i ∧ d1.size = sz ∧ PermIn a b d d1 ∧ RowIs w blk off d1 wr ∧ ∃ v : Int, Blk wr rb 78 #[.int .u64 v]
set_option maxRecDepth 100000 in
set_option maxHeartbeats 1600000 in
theorem sort_break : BreakSaid := by
  intro blk off cap a b sz d w hs hH hab hb hsz
  obtain ⟨l, hl1, hl2⟩ : ∃ l, b ≤ a + l ∧ a + l ≤ b := ⟨b - a, by omega, by omega⟩
  obtain ⟨q, hq1, hq2⟩ : ∃ q, 4 * q ≤ l ∧ l ≤ 4 * q + 3 := ⟨l / 4, by omega, by omega⟩
  have hba : ((b : Int) - (a : Int)) = (l : Int) := by omega
  have hlq : ((l : Int) / 4) = (q : Int) := by omega
  obtain ⟨i0, hi1, hi2⟩ : ∃ i0, i0 + 1 ≤ a + q * 2 ∧ a + q * 2 ≤ i0 + 1 := ⟨a + q * 2 - 1, by omega, by omega⟩
  have HS := Lib.hid hs
  have hblt := (show blk < w.heap.size by obtain ⟨c, e, h1, _⟩ := hH; exact h1.lt)
  have HR0 := Lib.hid (RowIs.start hH)
  have HNP := Lib.hid (fun w' => next_pow l w' (by omega) (by omega))
  clear hs hH
  go_enter Try.func36, Try.ntmps36
  go_wp2_with fail
  refine (HNP.out _).mono ?_
  rintro e w1 ⟨⟨p, rfl, hp1, hp2⟩, rfl⟩
  have HRA := Lib.hid (HR0.out.below ((Below.refl w.heap.size w).alloc (Nat.le_refl _) (.cells #[.int .u64 l] 78)))
  have HBA := Lib.hid (Blk.new w 78 #[.int .u64 l])
  clear HR0 HNP
  go_wp2_with fail
  go_loopw [9] (BkRel w blk off a b sz w.heap.size i0 d) (fun vi _ => i0 + 3 - (intOf vi).toNat)
  case atStart => exact ⟨3, i0, d, by congr 1; omega, by omega, Nat.le_refl _, HS.out, permIn_refl _ _ _, HRA.out, _, HBA.out⟩
  case round =>
    obtain ⟨t, i, d1, rfl, hit, hi0, hs1, hp, hrow, v, hb1⟩ := hrel
    have HR1 := Lib.hid hrow
    have HP1 := Lib.hid hp
    have HS1 := Lib.hid hs1
    have HX := Lib.hid (xor_next w.heap.size v wr hb1)
    clear hrow hp hs1 hb1
    by_cases ht : t = 0
    · have hgt : i0 + 3 ≤ i := by omega
      clear hit ht
      go_wp2_with fail
      go_end0
      exact ⟨rfl, d1, HP1.out, HR1.out⟩
    · have hlt : i ≤ i0 + 2 := by omega
      clear ht
      go_wp2_with fail
      refine HX.out.mono ?_
      rintro e w2 ⟨r, rfl, hb2, hr2⟩
      have HR2 := Lib.hid (HR1.out.rest2 hr2 (Nat.le_refl _) hblt)
      have HB2 := Lib.hid hb2
      clear hb2 hr2
      obtain ⟨pm, hpm1, hpm2⟩ : ∃ pm, pm + 1 ≤ p ∧ p ≤ pm + 1 := ⟨p - 1, by omega, by omega⟩
      have hpe : ((p : Int) - 1) = (pm : Int) := by omega
      have hra := and_range r (m := pm) (by omega)
      obtain ⟨o, ho⟩ : ∃ o : Nat, bits .and .u64 r (pm : Int) = (o : Int) := ⟨(bits .and .u64 r (pm : Int)).toNat, by omega⟩
      have hol : o < 2 * l := by omega
      clear hra
      go_upto_if 43 with fail
      go_cut [10] (fun s10 wx => ∃ o1 : Nat, s10 = .int .i64 o1 ∧ o1 < l ∧ wx = w2)
      case first =>
        by_cases hge : l ≤ o
        · go_wp2_with fail
          go_meet
          exact ⟨o - l, by congr 1; omega, by omega, rfl⟩
        · go_wp2_with fail
          go_meet
          exact ⟨o, rfl, by omega, rfl⟩
      case rest =>
      obtain ⟨o1, rfl, ho1, rfl⟩ := hcut
      clear ho hpe
      obtain ⟨G, hG, hcw, hfw⟩ := HR2.out.cells HS1.out
      have HG := Lib.hid hG
      clear hG
      have hcx : (wc.setCell ⟨blk, off + i, none⟩ (.int .i32 (G (a + o1)))).cell? ⟨blk, off + (a + o1), none⟩ = some (.int .i32 (G (a + o1))) := set_row hcw (by omega) (by omega)
      have hcy : (wc.setCell ⟨blk, off + i, none⟩ (.int .i32 (G (a + o1)))).drew.cell? ⟨blk, off + (a + o1), none⟩ = some (.int .i32 (G (a + o1))) := hcx
      go_upto_region 10 with fail
      have HPS := Lib.hid (permIn_trans _ _ _ _ _ HP1.out (swp_permIn d1 a b i (a + o1) (by omega) (by omega) (by omega) (by omega) (by rw [HS1.out]; omega)))
      have HSS := Lib.hid (show (swp d1 i (a + o1)).size = sz by rw [Sort.swp_size]; exact HS1.out)
      go_region
      all_goals
        have HRE := Lib.hid (show RowIs w blk off (swp d1 i (a + o1)) _ from (HR2.out.drewN 1).swap HG.out (j := i) (k := a + o1) (by have := HS1.out; omega) (by have := HS1.out; omega))
        have HBE := Lib.hid (blk_set_ne2 (blk_set_ne2 (HB2.out.drewN 1) (g := blk) (i := off + i) (u := .int .i32 (G (a + o1))) (by omega)) (g := blk) (i := off + (a + o1)) (u := .int .i32 (G i)) (by omega))
        go_wp2_with fail
        exact ⟨⟨t - 1, i + 1, _, by go_num, by omega, by omega, HSS.out, HPS.out, HRE.out, r, HBE.out⟩, by simp only [intOf]; omega⟩

end Go.Proofs.Ytebpmfejhfkagaa
