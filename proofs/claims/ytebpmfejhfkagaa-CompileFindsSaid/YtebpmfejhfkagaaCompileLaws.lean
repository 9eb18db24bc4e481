/- The walks of scriptlaw10.CompileCovers and scriptlaw10.CompileFinds: for every list of rules (and every rune) they return true; nothing that was there is changed. -/
import Derived.Test.YtebpmfejhfkagaaCompileAlive
import Derived.Test.YtebpmfejhfkagaaFind
namespace Go.Proofs.Ytebpmfejhfkagaa
open Go.RowKit

/-- What compP tells where nothing is wrong. -/
theorem comp_ok {l : List RuleD} (h : (compP l).2.1 = 0) : (compP l).1 = headsP l (edgeP l) ∧ RightRules l ∧ (compP l).1.length ≤ 400 := by
  unfold compP at h ⊢
  by_cases h1 : (rulesW l).1 = 0
  · rw [if_neg (by rw [h1]; decide)] at h ⊢
    by_cases h2 : 400 < (headsP l (edgeP l)).length
    · rw [if_pos h2] at h; cases h
    · rw [if_neg h2]
      exact ⟨rfl, right_rules h1, by show (headsP l (edgeP l)).length ≤ 400; omega⟩
  · rw [if_pos h1] at h
    exact absurd h h1
theorem comp_bad {l : List RuleD} (h : (compP l).2.1 ≠ 0) : (compP l).1 = [] := by
  unfold compP at h ⊢
  by_cases h1 : (rulesW l).1 = 0
  · rw [if_neg (by rw [h1]; decide)] at h ⊢
    by_cases h2 : 400 < (headsP l (edgeP l)).length
    · rw [if_pos h2]
    · rw [if_neg h2] at h; exact absurd rfl h
  · rw [if_pos h1]
theorem comp_cover {l : List RuleD} (h : (compP l).2.1 = 0) : Cover l (compP l).1 1114112 := by
  obtain ⟨h1, h2, _⟩ := comp_ok h
  rw [h1]
  exact cover_all h2.set
theorem Cover.rise {l : List RuleD} {hs : List HeadD} {lo : Int} (h : Cover l hs lo) : ∀ (d i : Nat) (x y : HeadD), hs[i]? = some x → hs[i + d]? = some y → x.high ≤ y.high ∧ (0 < d → x.high < y.low) := by
  intro d
  induction d with
  | zero => intro i x y hx hy; rw [Nat.add_zero, hx] at hy; cases hy; exact ⟨Int.le_refl _, fun h => absurd h (Nat.lt_irrefl 0)⟩
  | succ d ih =>
    intro i x y hx hy
    obtain ⟨z, hz⟩ : ∃ z, hs[i + d]? = some z := ⟨_, List.getElem?_eq_getElem (by have := (List.getElem?_eq_some_iff.1 hy).1; omega)⟩
    have h1 := ih i x z hx hz
    have h2 := (h.next (i + d) z y hz hy).1
    have h3 := (h.each y (List.mem_of_getElem? hy)).1
    omega
theorem Cover.rises {l : List RuleD} {hs : List HeadD} {lo : Int} (h : Cover l hs lo) : Rises hs := by
  intro i j x y hij hx hy
  obtain ⟨d, rfl⟩ : ∃ d, j = i + d := ⟨j - i, by omega⟩
  exact (h.rise d i x y hx hy).1
theorem Cover.found {l : List RuleD} {hs : List HeadD} (h : Cover l hs 1114112) {r : Int} {k : Nat} (h1 : ∀ t x, t < k → hs[t]? = some x → x.high < r) (h2 : ∀ t x, k ≤ t → hs[t]? = some x → r ≤ x.high) :
    (0 ≤ r → r ≤ 1114111 → foundAt hs r k = beginP l r) ∧ (r < 0 ∨ 1114111 < r → foundAt hs r k = []) := by
  have hne : hs ≠ [] := fun e => absurd (h.none e) (by decide)
  have hlast : ∀ x, hs.getLast? = some x → x.high = 1114111 := fun x hx => by have := h.fin x hx; omega
  have hlen := List.length_pos_iff.2 hne
  obtain ⟨z, hz⟩ : ∃ z, hs[hs.length - 1]? = some z := ⟨_, List.getElem?_eq_getElem (by omega)⟩
  have hzl : z.high = 1114111 := hlast z (by rw [List.getLast?_eq_getElem?]; exact hz)
  have hlow : ∀ (k : Nat) (x : HeadD), hs[k]? = some x → 0 ≤ x.low ∧ x.high ≤ 1114111 := by
    intro k x hx
    obtain ⟨x0, hx0⟩ : ∃ z, hs[0]? = some z := ⟨_, List.getElem?_eq_getElem (by omega)⟩
    have h0 := h.start x0 hx0
    have h00 := (h.each x0 (List.mem_of_getElem? hx0)).1
    have hk := (List.getElem?_eq_some_iff.1 hx).1
    have ha := h.rise k 0 x0 x hx0 (by rw [Nat.zero_add]; exact hx)
    have hb := h.rise (hs.length - 1 - k) k x z hx (by rw [show k + (hs.length - 1 - k) = hs.length - 1 by omega]; exact hz)
    refine ⟨?_, by omega⟩
    rcases Nat.eq_zero_or_pos k with rfl | hk0
    · rw [hx0] at hx; cases hx; omega
    · have := ha.2 hk0; omega
  refine ⟨fun hr0 hr1 => ?_, fun hr => ?_⟩
  · have hk : k < hs.length := by
      rcases Nat.lt_or_ge k hs.length with hlt | hge
      · exact hlt
      · have := h1 (hs.length - 1) z (by omega) hz
        omega
    obtain ⟨x, hx⟩ : ∃ z, hs[k]? = some z := ⟨_, List.getElem?_eq_getElem hk⟩
    have hrx := h2 k x (Nat.le_refl _) hx
    have hlx : x.low ≤ r := by
      cases k with
      | zero => rw [h.start x hx]; exact hr0
      | succ k =>
        obtain ⟨y, hy⟩ : ∃ z, hs[k]? = some z := ⟨_, List.getElem?_eq_getElem (by omega)⟩
        have := (h.next k y x hy hx).1
        have := h1 k y (by omega) hy
        omega
    unfold foundAt
    rw [hx]
    simp only
    rw [if_neg (by omega)]
    exact ((h.each x (List.mem_of_getElem? hx)).2 r hlx hrx).symm
  · unfold foundAt
    cases hx : hs[k]? with
    | none => rfl
    | some x =>
      have h3 := hlow k x hx
      have h4 := h2 k x (Nat.le_refl _) hx
      simp only
      rw [if_pos (by omega)]
theorem begin_len (l : List RuleD) (r : Int) : (beginP l r).length ≤ l.length := beginUpto_len l r _
theorem Cover.small {l : List RuleD} {hs : List HeadD} {lo : Int} (h : Cover l hs lo) (hl : l.length ≤ 200) : ∀ x ∈ hs, x.rules.length ≤ 200 := by
  intro x hx
  have := h.each x hx
  rw [← this.2 x.low (Int.le_refl _) this.1]
  have := begin_len l x.low
  omega

/-! ### Covers -/
def CvRel (w1 : World) (hs : List HeadD) (n : Nat) (s5 i : Value) (wr : World) : Prop :=
  ∃ (k : Nat) (a : Int), k ≤ n ∧ i = .int .i64 k ∧ s5 = .int .i32 a ∧ (∀ x, hs[k]? = some x → x.low = a) ∧ (k = n → a = 1114112) ∧ Below w1.heap.size w1 wr

set_option maxRecDepth 100000 in
set_option maxHeartbeats 3200000 in
theorem compile_covers (A : Option Addr) (n c : Nat) (l : List RuleD) (w : World) (hn : n ≤ maxLen) (hl : ListX (RuleC w Any0) w Any0 7 A n l) :
    Calls Try.prog 4 #[.slice A n c] w fun e w' => e = .returned (.bool true) ∧ Below w.heap.size w w' := by
  have H1 := Lib.hid (fun (w1 : World) (hb : Below w.heap.size w w1) => compile_heads Any0 l A n c w1 hn (hl.keep (Keeps.any hb) (fun _ _ => RuleC.keep (Keeps.any hb))))
  clear hl
  have HOK := Lib.hid (@comp_cover l)
  have HLN := Lib.hid (@comp_ok l)
  generalize compP l = R at *
  obtain ⟨hs, r1, r2⟩ := R
  dsimp only at *
  go_enter Try.func4, Try.ntmps4
  go_wp2_with fail
  refine (compile_alive _).mono ?_
  rintro e w0 ⟨rfl, hb0⟩
  have HB0 := Lib.hid hb0
  clear hb0
  go_wp2_with fail
  refine (H1.out _ HB0.out).mono ?_
  rintro e w1 ⟨⟨v, rfl, hv⟩, hb1⟩
  obtain ⟨A1, c1, rfl, h1, hn1⟩ := hv.form
  have HB1 := Lib.hid (HB0.out.trans (hb1.mono HB0.out.size))
  have HB2 := Lib.hid (HB1.out.alloc HB1.out.size (.cells #[.int .i64 r1, .int .i64 r2] 26))
  have hba := (Below.refl w1.heap.size w1).alloc (Nat.le_refl _) (.cells #[.int .i64 r1, .int .i64 r2] 26)
  have HL1 := Lib.hid (h1.keep (Keeps.below hba (fun _ _ _ => trivial)) (fun _ _ => HeadC.keep (X' := Any0) (Keeps.below hba (fun _ _ _ => trivial))))
  clear hv h1 hb1 hba
  by_cases hz : r1 = 0
  · subst hz
    have HCV := Lib.hid (HOK.out rfl)
    have hn4 : hs.length ≤ 400 := (HLN.out rfl).2.2
    have hne : hs ≠ [] := fun e => absurd (HCV.out.none e) (by decide)
    have hpos := List.length_pos_iff.2 hne
    have HLAST := Lib.hid (fun (x : HeadD) (hx : hs[hs.length - 1]? = some x) => show x.high = 1114111 by
      have := HCV.out.fin x (by rw [List.getLast?_eq_getElem?]; exact hx)
      omega)
    clear hne
    generalize hm : hs.length = m at *
    have HM := Lib.hid hm
    clear hm
    go_wp2_with fail
    generalize hW2 : w1.alloc (.cells #[.int .i64 0, .int .i64 r2] 26) = W2 at *
    clear hW2
    go_loopw [5, 20] (CvRel W2 hs m) (fun _ i _ => m - (intOf i).toNat)
    case atStart => exact ⟨0, 0, Nat.zero_le _, rfl, rfl, HCV.out.start, fun h => by omega, Below.refl _ _⟩
    case round =>
      obtain ⟨k, a, hk, rfl, rfl, hlow, hend, hb⟩ := hrel
      have HBW := Lib.hid (HB2.out.trans (hb.mono HB2.out.size))
      by_cases hlt : k < m
      · obtain ⟨x, hx⟩ : ∃ z, hs[k]? = some z := ⟨_, List.getElem?_eq_getElem (by rw [HM.out]; exact hlt)⟩
        obtain rfl : x.low = a := hlow x hx
        have hxe := HCV.out.each x (List.mem_of_getElem? hx)
        have hlh := hxe.1
        have hxr := HCV.out.rise (m - 1 - k) k x
        have hx3 : -2147483648 ≤ x.high ∧ x.high ≤ 1114111 := by
          obtain ⟨z, hz⟩ : ∃ z, hs[m - 1]? = some z := ⟨_, List.getElem?_eq_getElem (by rw [HM.out]; omega)⟩
          have h1 := HLAST.out z hz
          have h2 := (hxr z hx (by rw [show k + (m - 1 - k) = m - 1 by omega]; exact hz)).1
          have h3 : 0 ≤ x.low := by
            obtain ⟨x0, hx0⟩ : ∃ z, hs[0]? = some z := ⟨_, List.getElem?_eq_getElem (by rw [HM.out]; omega)⟩
            have h0 := HCV.out.start x0 hx0
            have h00 := (HCV.out.each x0 (List.mem_of_getElem? hx0)).1
            rcases Nat.eq_zero_or_pos k with rfl | hk0
            · rw [hx0] at hx; cases hx; omega
            · have := (HCV.out.rise k 0 x0 x hx0 (by rw [Nat.zero_add]; exact hx)).2 hk0
              omega
          omega
        obtain ⟨b, off, A', c', rfl, _, hbb, c0, c1, c2, hr0, _, hxl⟩ := head_at (HL1.out.keep (Keeps.any hb) (fun _ _ => HeadC.keep (Keeps.any hb))) hx
        have hba := (Below.refl wr.heap.size wr).alloc (Nat.le_refl _) (.cells #[.int .i32 x.low, .int .i32 x.high, .slice A' x.rules.length c'] 34)
        have HBX := Lib.hid (Blk.new wr 34 #[.int .i32 x.low, .int .i32 x.high, .slice A' x.rules.length c'])
        have HB3 := Lib.hid (hb.trans (hba.mono hb.size))
        have hi := hr0.below hba
        have HNX := Lib.hid (fun (y : HeadD) (hy : hs[k + 1]? = some y) => HCV.out.next k x y hx hy)
        have hedge : k + 1 = m → x.high + 1 = 1114112 := fun h => by
          have := HLAST.out x (by rw [show m - 1 = k by omega]; exact hx)
          omega
        have hns : ¬ x.high < x.low := by omega
        simp only [maxLen] at hxl
        rcases Nat.eq_zero_or_pos k with hk0 | hk0
        · have hg : decide (0 < k) = false := decide_eq_false (by omega)
          have HK0 := Lib.hid hk0
          clear hx hxe hxr hr0 hi hba hlow hend hb hlh hk0
          go_upto_region 10 with fail
          generalize hW3 : wr.alloc (.cells #[.int .i32 x.low, .int .i32 x.high, .slice A' x.rules.length c'] 34) = W3 at *
          have d0 := HBX.out.cell 0
          have d1 := HBX.out.cell 1
          have d2 := HBX.out.cell 2
          clear hW3
          go_quiet (fail)
          have e1 : (W3.drewN nq).cell? ⟨wr.heap.size, 1, none⟩ = some (.int .i32 x.high) := d1
          go_wp2_with fail
          exact ⟨⟨k + 1, x.high + 1, by omega, by go_num, rfl, fun y hy => (HNX.out y hy).1, fun h => hedge h, below_drewN HB3.out nq⟩, by simp [intOf]; omega⟩
        · obtain ⟨q, rfl⟩ : ∃ q, k = q + 1 := ⟨k - 1, by omega⟩
          obtain ⟨y, hy⟩ : ∃ z, hs[q]? = some z := ⟨_, List.getElem?_eq_getElem (by rw [HM.out]; omega)⟩
          obtain ⟨b', off', B', c2', e3, _, hbb', y0, y1, y2, hr1, _, hyl⟩ := head_at (HL1.out.keep (Keeps.any hb) (fun _ _ => HeadC.keep (Keeps.any hb))) hy
          cases e3
          have hne : (y.rules == x.rules) = false := by
            rw [beq_eq_false_iff_ne]
            have := HCV.out.next q y x hy hx
            exact this.2
          have k2 := (hba.cell (p := ⟨b, off + q * 3 + 2, none⟩) hbb).trans y2
          simp only [maxLen] at hyl
          have HSM := Lib.hid (fun (qq : Nat) => show Calls Try.prog 10 #[.slice B' y.rules.length c2', .slice A' x.rules.length c'] ((wr.alloc (.cells #[.int .i32 x.low, .int .i32 x.high, .slice A' x.rules.length c'] 34)).drewN qq) fun e w' => e = .returned (.bool false) ∧ ∃ k, w' = ((wr.alloc (.cells #[.int .i32 x.low, .int .i32 x.high, .slice A' x.rules.length c'] 34)).drewN qq).drewN k by
            have := ref9_same B' A' y.rules.length x.rules.length c2' c' y.rules x.rules ((wr.alloc (.cells #[.int .i32 x.low, .int .i32 x.high, .slice A' x.rules.length c'] 34)).drewN qq) (by omega) ((hr1.below hba).more hba.size) (hi.more hba.size)
            rwa [hne] at this)
          clear hx hxe hxr hr0 hi hba hlow hend hb hlh hy hr1 hne
          go_upto_region 10 with fail
          generalize hW3 : wr.alloc (.cells #[.int .i32 x.low, .int .i32 x.high, .slice A' x.rules.length c'] 34) = W3 at *
          have d0 := HBX.out.cell 0
          have d1 := HBX.out.cell 1
          have d2 := HBX.out.cell 2
          clear hW3
          go_quiet (first | (go_at_call 10; exact Calls.quiet_of (HSM.out _)))
          have e1 : (W3.drewN nq).cell? ⟨wr.heap.size, 1, none⟩ = some (.int .i32 x.high) := d1
          go_wp2_with fail
          exact ⟨⟨q + 1 + 1, x.high + 1, by omega, by go_num, rfl, fun y hy => (HNX.out y hy).1, fun h => hedge h, below_drewN HB3.out nq⟩, by simp [intOf]; omega⟩
      · obtain rfl : k = m := by omega
        obtain rfl := hend rfl
        clear hlow hend hb
        go_wp2_with fail
        go_ret
        exact ⟨rfl, HBW.out⟩
  · go_wp2_with fail
    go_ret
    exact ⟨rfl, HB2.out⟩

/-! ### Finds -/
set_option maxRecDepth 100000 in
set_option maxHeartbeats 3200000 in
theorem compile_finds (A : Option Addr) (n c : Nat) (l : List RuleD) (r : Int) (w : World) (hn : n ≤ maxLen) (hl : ListX (RuleC w Any0) w Any0 7 A n l) :
    Calls Try.prog 5 #[.slice A n c, .int .i32 r] w fun e w' => e = .returned (.bool true) ∧ Below w.heap.size w w' := by
  have H1 := Lib.hid (fun (w1 : World) (hb : Below w.heap.size w w1) => compile_heads Any0 l A n c w1 hn (hl.keep (Keeps.any hb) (fun _ _ => RuleC.keep (Keeps.any hb))))
  have H2 := Lib.hid (fun (hr : RightRules l) (w1 : World) (hb : Below w.heap.size w w1) => ref_begin Any0 l r A n c w1 hr (hl.keep (Keeps.any hb) (fun _ _ => RuleC.keep (Keeps.any hb))))
  have HLL := Lib.hid (show l.length = n from hl.len)
  clear hl
  have HOK := Lib.hid (@comp_cover l)
  have HLN := Lib.hid (@comp_ok l)
  have HBD := Lib.hid (@comp_bad l)
  generalize compP l = R at *
  obtain ⟨hs, r1, r2⟩ := R
  dsimp only at *
  go_enter Try.func5, Try.ntmps5
  go_wp2_with fail
  refine (compile_alive _).mono ?_
  rintro e w0 ⟨rfl, hb0⟩
  have HB0 := Lib.hid hb0
  clear hb0
  go_wp2_with fail
  refine (H1.out _ HB0.out).mono ?_
  rintro e w1 ⟨⟨v, rfl, hv⟩, hb1⟩
  obtain ⟨A1, c1, rfl, h1, hn1⟩ := hv.form
  have HB1 := Lib.hid (HB0.out.trans (hb1.mono HB0.out.size))
  have HB2 := Lib.hid (HB1.out.alloc HB1.out.size (.cells #[.int .i64 r1, .int .i64 r2] 26))
  have hba := (Below.refl w1.heap.size w1).alloc (Nat.le_refl _) (.cells #[.int .i64 r1, .int .i64 r2] 26)
  have HL1 := Lib.hid (h1.keep (Keeps.below hba (fun _ _ _ => trivial)) (fun _ _ => HeadC.keep (X' := Any0) (Keeps.below hba (fun _ _ _ => trivial))))
  clear hv h1 hb1 hba
  by_cases hz : r1 = 0
  · subst hz
    have HCV := Lib.hid (HOK.out rfl)
    have HRR := Lib.hid (HLN.out rfl).2.1
    have hn4 : hs.length ≤ 400 := (HLN.out rfl).2.2
    have HFD := Lib.hid (compile_find Any0 A1 hs.length c1 hs r _ hn4 HCV.out.rises (HCV.out.small HRR.out.size) HL1.out)
    by_cases hr : r < 0 ∨ 1114111 < r
    · have hg : (decide (r < 0) || decide (1114111 < r)) = true := by simp; omega
      rcases Int.lt_or_le r 0 with h0 | h0
      · have hd : decide (r < 0) = true := decide_eq_true h0
        go_wp2_with fail
        refine HFD.out.mono ?_
        rintro e w3 ⟨⟨k, k1, k2, _, v, rfl, hv⟩, hb3⟩
        rw [(HCV.out.found k1 k2).2 hr] at hv
        obtain ⟨A3, c3, rfl, _⟩ := hv.form
        have HB3 := Lib.hid (HB2.out.trans (hb3.mono HB2.out.size))
        clear hv hb3 k1 k2
        go_wp2_with fail
        go_ret
        exact ⟨rfl, HB3.out⟩
      · have hd : decide (r < 0) = false := decide_eq_false (by omega)
        have hd2 : decide (1114111 < r) = true := decide_eq_true (by omega)
        go_wp2_with fail
        refine HFD.out.mono ?_
        rintro e w3 ⟨⟨k, k1, k2, _, v, rfl, hv⟩, hb3⟩
        rw [(HCV.out.found k1 k2).2 hr] at hv
        obtain ⟨A3, c3, rfl, _⟩ := hv.form
        have HB3 := Lib.hid (HB2.out.trans (hb3.mono HB2.out.size))
        clear hv hb3 k1 k2
        go_wp2_with fail
        go_ret
        exact ⟨rfl, HB3.out⟩
    · have hd : decide (r < 0) = false := decide_eq_false (by omega)
      have hd2 : decide (1114111 < r) = false := decide_eq_false (by omega)
      go_wp2_with fail
      refine HFD.out.mono ?_
      rintro e w3 ⟨⟨k, k1, k2, _, v, rfl, hv⟩, hb3⟩
      rw [(HCV.out.found k1 k2).1 (by omega) (by omega)] at hv
      have HB3 := Lib.hid (HB2.out.trans (hb3.mono HB2.out.size))
      have HV := Lib.hid hv
      obtain ⟨A3, c3, rfl, _⟩ := hv.form
      clear hv hb3 k1 k2
      go_wp2_with fail
      refine (H2.out HRR.out _ HB3.out).mono ?_
      rintro e w4 ⟨⟨v, rfl, hv⟩, hb4⟩
      obtain ⟨A4, c4, rfl, i4, _, h4⟩ := hv.form
      obtain ⟨A3', c3', e3, i3, _, _⟩ := HV.out.form
      cases e3
      simp only [maxLen] at h4
      have HB4 := Lib.hid (HB3.out.trans (hb4.mono HB3.out.size))
      have HSM := Lib.hid (show Calls Try.prog 10 #[.slice A3 (beginP l r).length c3, .slice A4 (beginP l r).length c4] w4 fun e w' => e = .returned (.bool true) ∧ ∃ k, w' = w4.drewN k by
        have := ref9_same A3 A4 (beginP l r).length (beginP l r).length c3 c4 (beginP l r) (beginP l r) w4 (by omega) ((Rd.below i3 hb4).more hb4.size) i4
        rwa [show (beginP l r == beginP l r) = true by simp] at this)
      clear hv i3 i4 hb4
      go_wp2_with fail
      refine HSM.out.mono ?_
      rintro e w5 ⟨rfl, q, rfl⟩
      go_wp2_with fail
      go_ret
      exact ⟨rfl, below_drewN HB4.out q⟩
  · have hnil : hs = [] := HBD.out hz
    subst hnil
    go_wp2_with fail
    go_ret
    exact ⟨rfl, HB2.out⟩

end Go.Proofs.Ytebpmfejhfkagaa
