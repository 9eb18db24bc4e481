/- slices.order2Ordered, medianOrdered, medianAdjacentOrdered, choosePivotOrdered at runes: which places they may name. -/
import Derived.Test.YtebpmfejhfkagaaSortHeap2
namespace Go.Proofs.Ytebpmfejhfkagaa
open Go.RowKit Go.Sort

/-- The world w but for the number in block sb. -/
def SwIs (w : World) (sb : Nat) (wr : World) : Prop := (∃ v : Int, Blk wr sb 3 #[.int .i64 v]) ∧ Rest w sb wr
theorem SwIs.trans {w wr w2 : World} {sb : Nat} (h : SwIs w sb wr) (h2 : SwIs wr sb w2) : SwIs w sb w2 := ⟨h2.1, h.2.trans h2.2⟩
theorem Rest.row {w wr : World} {sb blk off : Nat} {d : Array Int} (h : Rest w sb wr) (hr : RowAt w blk off d) (hne : blk ≠ sb) : RowAt wr blk off d := by
  obtain ⟨c, e, h1, h2⟩ := hr
  exact ⟨c, e, (h.2.2.2.2 blk h1.lt hne).trans h1, h2⟩
theorem Rest.drewN {w wr : World} {sb : Nat} (h : Rest w sb wr) (q : Nat) : Rest w sb (wr.drewN q) := h
theorem Rest.set {w wr : World} {sb i : Nat} {v : Value} (h : Rest w sb wr) : Rest w sb (wr.setCell ⟨sb, i, none⟩ v) :=
  ⟨by simpa using h.1, h.2.1, h.2.2.1, h.2.2.2.1, fun k hk hne => by rw [Below.heap_setCell _ _ _ _ hne]; exact h.2.2.2.2 k hk hne⟩
set_option maxRecDepth 100000 in
set_option maxHeartbeats 800000 in
theorem sort_order (blk off cap a b sb sz : Nat) (d : Array Int) (w : World) (hs : d.size = sz) (hH : RowAt w blk off d) (ha : a < sz) (hb : b < sz) (hv : ∃ v : Int, Blk w sb 3 #[.int .i64 v]) :
    Calls Try.prog 56 #[.slice (some ⟨blk, off, none⟩) sz cap, .int .i64 a, .int .i64 b, .pointer (some ⟨sb, 0, none⟩)] w fun e w' => ∃ x y : Nat, e = .returned (.tuple #[.int .i64 x, .int .i64 y]) ∧ (x = a ∧ y = b ∨ x = b ∧ y = a) ∧ SwIs w sb w' := by
  obtain ⟨G, hG, hcw, hfw⟩ := (RowIs.start hH).cells hs
  obtain ⟨v, hv⟩ := hv
  have c0 : w.cell? ⟨sb, 0, none⟩ = some (.int .i64 v) := hv.cell 0
  have f0 := hv.frozen 0
  have HV := Lib.hid hv
  clear hG hH hv hs
  go_enter Try.func56, Try.ntmps56
  go_wp2
  go_quiet (first | (go_at_call 40; refine Calls.quiet_of_same (cmp_less _ _ _)))
  cases hl : ltInt (G b) (G a) with
  | true =>
    go_wp2
    refine bodyPost_ret (v := .tuple #[.int .i64 b, .int .i64 a]) (by simp [results, Try.results56, go_sem]) (by rfl) ?_
    exact ⟨b, a, rfl, .inr ⟨rfl, rfl⟩, ⟨_, HV.out.put 0 _⟩, Rest.set (Rest.refl w sb)⟩
  | false =>
    go_wp2
    refine bodyPost_ret (v := .tuple #[.int .i64 a, .int .i64 b]) (by simp [results, Try.results56, go_sem]) (by rfl) ?_
    exact ⟨a, b, rfl, .inl ⟨rfl, rfl⟩, ⟨_, HV.out⟩, Rest.refl w sb⟩
set_option maxRecDepth 100000 in
set_option maxHeartbeats 800000 in
theorem sort_median (blk off cap a b c sb sz : Nat) (d : Array Int) (w : World) (hs : d.size = sz) (hH : RowAt w blk off d) (ha : a < sz) (hb : b < sz) (hc : c < sz) (hv : ∃ v : Int, Blk w sb 3 #[.int .i64 v]) (hne : blk ≠ sb) :
    Calls Try.prog 53 #[.slice (some ⟨blk, off, none⟩) sz cap, .int .i64 a, .int .i64 b, .int .i64 c, .pointer (some ⟨sb, 0, none⟩)] w fun e w' => ∃ x : Nat, e = .returned (.int .i64 x) ∧ (x = a ∨ x = b ∨ x = c) ∧ SwIs w sb w' := by
  have HO := Lib.hid (fun (a b : Nat) (w' : World) (ha : a < sz) (hb : b < sz) (h : SwIs w sb w') => sort_order blk off cap a b sb sz d w' hs (Rest.row h.2 hH hne) ha hb h.1)
  have HS := Lib.hid (show SwIs w sb w from ⟨hv, Rest.refl _ _⟩)
  clear hs hH hv
  go_enter Try.func53, Try.ntmps53
  go_wp2_with fail
  refine (HO.out a b _ ha hb HS.out).mono ?_
  rintro e w1 ⟨a1, b1, rfl, h1, hs1⟩
  have HS1 := Lib.hid (HS.out.trans hs1)
  clear hs1
  have ha1 : a1 < sz := by omega
  have hb1 : b1 < sz := by omega
  have h1' : (a1 ≤ a ∧ a ≤ a1 ∧ b1 ≤ b ∧ b ≤ b1) ∨ (a1 ≤ b ∧ b ≤ a1 ∧ b1 ≤ a ∧ a ≤ b1) := by omega
  clear h1
  go_wp2_with fail
  refine (HO.out b1 c _ hb1 hc HS1.out).mono ?_
  rintro e w2 ⟨b2, c2, rfl, h2, hs2⟩
  have HS2 := Lib.hid (HS1.out.trans hs2)
  clear hs2
  have hb2 : b2 < sz := by omega
  have h2' : (b2 ≤ b1 ∧ b1 ≤ b2) ∨ (b2 ≤ c ∧ c ≤ b2) := by omega
  clear h2
  go_wp2_with fail
  refine (HO.out a1 b2 _ ha1 hb2 HS2.out).mono ?_
  rintro e w3 ⟨a3, b3, rfl, h3, hs3⟩
  have HS3 := Lib.hid (HS2.out.trans hs3)
  clear hs3
  have h3' : b3 = a ∨ b3 = b ∨ b3 = c := by omega
  have H3 := Lib.hid h3'
  clear h3 h3'
  go_wp2_with fail
  go_ret
  exact ⟨b3, rfl, H3.out, HS3.out⟩
set_option maxRecDepth 100000 in
set_option maxHeartbeats 800000 in
theorem sort_adj (blk off cap a sb sz : Nat) (d : Array Int) (w : World) (hs : d.size = sz) (hH : RowAt w blk off d) (ha : 1 ≤ a) (ha2 : a + 1 < sz) (hv : ∃ v : Int, Blk w sb 3 #[.int .i64 v]) (hne : blk ≠ sb) (hsz : sz < 2305843009213693952) :
    Calls Try.prog 52 #[.slice (some ⟨blk, off, none⟩) sz cap, .int .i64 a, .pointer (some ⟨sb, 0, none⟩)] w fun e w' => ∃ x : Nat, e = .returned (.int .i64 x) ∧ (a ≤ x + 1 ∧ x ≤ a + 1) ∧ SwIs w sb w' := by
  obtain ⟨p, hp1, hp2⟩ : ∃ p, p + 1 ≤ a ∧ a ≤ p + 1 := ⟨a - 1, by omega, by omega⟩
  have hm : ((a : Int) - 1) = (p : Int) := by omega
  have HO := Lib.hid (sort_median blk off cap p a (a + 1) sb sz d w hs hH (by omega) (by omega) ha2 hv hne)
  clear hs hH hv
  go_enter Try.func52, Try.ntmps52
  go_wp2_with fail
  first | rw [hm] | skip
  refine HO.out.mono ?_
  rintro e w1 ⟨x, rfl, h1, hs1⟩
  have H1 := Lib.hid (show a ≤ x + 1 ∧ x ≤ a + 1 by omega)
  have HS1 := Lib.hid hs1
  clear h1 hs1
  go_wp2_with fail
  go_ret
  exact ⟨x, rfl, H1.out, HS1.out⟩

set_option maxRecDepth 100000 in
set_option maxHeartbeats 1600000 in
theorem sort_pivot (blk off cap a b sz : Nat) (d : Array Int) (w : World) (hs : d.size = sz) (hH : RowAt w blk off d) (hab : a + 12 < b) (hb : b ≤ sz) (hsz : sz < 2305843009213693952) :
    Calls Try.prog 37 #[.slice (some ⟨blk, off, none⟩) sz cap, .int .i64 a, .int .i64 b] w fun e w' => (∃ p h : Nat, e = .returned (.tuple #[.int .i64 p, .int .i64 h]) ∧ a ≤ p ∧ p < b) ∧ Below w.heap.size w w' := by
  obtain ⟨l, hl1, hl2⟩ : ∃ l, b ≤ a + l ∧ a + l ≤ b := ⟨b - a, by omega, by omega⟩
  obtain ⟨q, hq1, hq2⟩ : ∃ q, 4 * q ≤ l ∧ l ≤ 4 * q + 3 := ⟨l / 4, by omega, by omega⟩
  have hba : ((b : Int) - (a : Int)) = (l : Int) := by omega
  have hlq : ((l : Int) / 4) = (q : Int) := by omega
  have hblt := (show blk < w.heap.size by obtain ⟨c, e, h1, _⟩ := hH; exact h1.lt)
  have hW : SwIs (w.alloc (.cells #[.int .i64 0] 3)) w.heap.size (w.alloc (.cells #[.int .i64 0] 3)) := ⟨⟨0, Blk.new _ _ _⟩, Rest.refl _ _⟩
  have hR : RowAt (w.alloc (.cells #[.int .i64 0] 3)) blk off d := by
    obtain ⟨c, e, h1, h2⟩ := hH
    exact ⟨c, e, Blk.alloc h1 _, h2⟩
  have hB : ∀ w', SwIs (w.alloc (.cells #[.int .i64 0] 3)) w.heap.size w' → Below w.heap.size w w' := fun w' h => by
    obtain ⟨_, h1, h2, h3, h4, h5⟩ := h
    have hz : (w.alloc (.cells #[.int .i64 0] 3)).heap.size = w.heap.size + 1 := by simp
    exact ⟨h2, h3, h4, by omega, fun k hk => (h5 k (by omega) (by omega)).trans (Below.heap_alloc w _ k hk)⟩
  have HA := Lib.hid (fun (x : Nat) (vx : Int) (hx : vx = x) (w' : World) (h1 : 1 ≤ x) (h2 : x + 1 < sz) (h : SwIs (w.alloc (.cells #[.int .i64 0] 3)) w.heap.size w') => (show Calls Try.prog 52 #[.slice (some ⟨blk, off, none⟩) sz cap, .int .i64 vx, .pointer (some ⟨w.heap.size, 0, none⟩)] w' fun e w2 => ∃ y : Nat, e = .returned (.int .i64 y) ∧ (x ≤ y + 1 ∧ y ≤ x + 1) ∧ SwIs w' w.heap.size w2 by subst hx; exact sort_adj blk off cap x w.heap.size sz d w' hs (Rest.row h.2 hR (by omega)) h1 h2 h.1 (by omega) hsz))
  have HM := Lib.hid (fun (x y z : Nat) (vx vy vz : Int) (hx : vx = x) (hy : vy = y) (hz : vz = z) (w' : World) (h1 : x < sz) (h2 : y < sz) (h3 : z < sz) (h : SwIs (w.alloc (.cells #[.int .i64 0] 3)) w.heap.size w') => (show Calls Try.prog 53 #[.slice (some ⟨blk, off, none⟩) sz cap, .int .i64 vx, .int .i64 vy, .int .i64 vz, .pointer (some ⟨w.heap.size, 0, none⟩)] w' fun e w2 => ∃ u : Nat, e = .returned (.int .i64 u) ∧ (u = x ∨ u = y ∨ u = z) ∧ SwIs w' w.heap.size w2 by subst hx hy hz; exact sort_median blk off cap x y z w.heap.size sz d w' hs (Rest.row h.2 hR (by omega)) h1 h2 h3 h.1 (by omega)))
  have HW := Lib.hid hW
  have HB := Lib.hid hB
  clear hs hH hW hR hB
  go_enter Try.func37, Try.ntmps37
  by_cases h50 : 50 ≤ l
  · go_wp2_with fail
    refine (HA.out (a + q) _ (by omega) _ (by omega) (by omega) HW.out).mono ?_
    rintro e w1 ⟨i1, rfl, hi1, hs1⟩
    have HS1 := Lib.hid (HW.out.trans hs1)
    clear hs1
    go_wp2_with fail
    refine (HA.out (a + q * 2) _ (by omega) _ (by omega) (by omega) HS1.out).mono ?_
    rintro e w2 ⟨i2, rfl, hi2, hs2⟩
    have HS2 := Lib.hid (HS1.out.trans hs2)
    clear hs2
    go_wp2_with fail
    refine (HA.out (a + q * 3) _ (by omega) _ (by omega) (by omega) HS2.out).mono ?_
    rintro e w3 ⟨i3, rfl, hi3, hs3⟩
    have HS3 := Lib.hid (HS2.out.trans hs3)
    clear hs3
    go_wp2_with fail
    refine (HM.out i1 i2 i3 _ _ _ rfl rfl rfl _ (by omega) (by omega) (by omega) HS3.out).mono ?_
    rintro e w4 ⟨p, rfl, hp, hs4⟩
    have HSN := Lib.hid (HS3.out.trans hs4)
    clear hs4
    have hpa : a ≤ p := by omega
    have hpb : p < b := by omega
    obtain ⟨⟨v, hv⟩, _⟩ := HSN.out
    have hcv : w4.cell? ⟨w.heap.size, 0, none⟩ = some (.int .i64 v) := hv.cell 0
    clear hv
    by_cases h0 : v = 0
    · have k0 : (v == 0) = true := by simpa using h0
      clear h0
      go_wp2_with fail
      refine bodyPost_ret (v := .tuple #[.int .i64 p, .int .i64 1]) (by simp [results, Try.results37, go_sem]) (by rfl) ⟨⟨p, 1, rfl, hpa, hpb⟩, HB.out _ HSN.out⟩
    · have k0 : (v == 0) = false := by simpa using h0
      clear h0
      by_cases h12 : v = 12
      · have k1 : (v == 12) = true := by simpa using h12
        clear h12
        go_wp2_with fail
        refine bodyPost_ret (v := .tuple #[.int .i64 p, .int .i64 2]) (by simp [results, Try.results37, go_sem]) (by rfl) ⟨⟨p, 2, rfl, hpa, hpb⟩, HB.out _ HSN.out⟩
      · have k1 : (v == 12) = false := by simpa using h12
        clear h12
        go_wp2_with fail
        refine bodyPost_ret (v := .tuple #[.int .i64 p, .int .i64 0]) (by simp [results, Try.results37, go_sem]) (by rfl) ⟨⟨p, 0, rfl, hpa, hpb⟩, HB.out _ HSN.out⟩
  · go_wp2_with fail
    refine (HM.out (a + q) (a + q * 2) (a + q * 3) _ _ _ (by omega) (by omega) (by omega) _ (by omega) (by omega) (by omega) HW.out).mono ?_
    rintro e w4 ⟨p, rfl, hp, hs4⟩
    have HSN := Lib.hid (HW.out.trans hs4)
    clear hs4
    have hpa : a ≤ p := by omega
    have hpb : p < b := by omega
    obtain ⟨⟨v, hv⟩, _⟩ := HSN.out
    have hcv : w4.cell? ⟨w.heap.size, 0, none⟩ = some (.int .i64 v) := hv.cell 0
    clear hv
    by_cases h0 : v = 0
    · have k0 : (v == 0) = true := by simpa using h0
      clear h0
      go_wp2_with fail
      refine bodyPost_ret (v := .tuple #[.int .i64 p, .int .i64 1]) (by simp [results, Try.results37, go_sem]) (by rfl) ⟨⟨p, 1, rfl, hpa, hpb⟩, HB.out _ HSN.out⟩
    · have k0 : (v == 0) = false := by simpa using h0
      clear h0
      by_cases h12 : v = 12
      · have k1 : (v == 12) = true := by simpa using h12
        clear h12
        go_wp2_with fail
        refine bodyPost_ret (v := .tuple #[.int .i64 p, .int .i64 2]) (by simp [results, Try.results37, go_sem]) (by rfl) ⟨⟨p, 2, rfl, hpa, hpb⟩, HB.out _ HSN.out⟩
      · have k1 : (v == 12) = false := by simpa using h12
        clear h12
        go_wp2_with fail
        refine bodyPost_ret (v := .tuple #[.int .i64 p, .int .i64 0]) (by simp [results, Try.results37, go_sem]) (by rfl) ⟨⟨p, 0, rfl, hpa, hpb⟩, HB.out _ HSN.out⟩

end Go.Proofs.Ytebpmfejhfkagaa
