/- sets.merged: the walk. -/
import Derived.Test.YthnhbcohfoodlaaGreatDoorSetNot
import Derived.Test.YthnhbcohfoodlaaGreatDoorHeldTill
namespace Go.Proofs.YthnhbcohfoodlaaGreatDoor
open Go.RowKit

def InRange (s : Spans) : Prop := ∀ x ∈ s, 0 ≤ x.1 ∧ x.1 ≤ x.2 ∧ x.2 ≤ 1114111
theorem mergeStep_range {out : Spans} {x : Int × Int} (h : InRange out) (hx : 0 ≤ x.1 ∧ x.1 ≤ x.2 ∧ x.2 ≤ 1114111) : InRange (mergeStep out x) := by
  rcases List.eq_nil_or_concat out with rfl | ⟨i, k, rfl⟩
  · rw [mergeStep_nil]
    intro y hy; rw [List.mem_singleton.1 hy]; exact hx
  · rw [List.concat_eq_append] at h ⊢
    have hk := h k (by simp)
    rw [mergeStep_snoc]
    intro y hy
    split at hy
    · rcases List.mem_append.1 hy with hy | hy
      · exact h y (by simp [hy])
      · rw [List.mem_singleton.1 hy]; simp only; omega
    · rcases List.mem_append.1 hy with hy | hy
      · exact h y hy
      · rw [List.mem_singleton.1 hy]; exact hx
theorem spanCells_setHigh (i : Spans) (k : Int × Int) (y : Int) : (spanCells (i ++ [k])).set (i.length * 2 + 1) (.int .i32 y) = spanCells (i ++ [(k.1, y)]) := by
  rw [spanCells_append, spanCells_append, List.set_append_right _ _ (by rw [spanCells_length]; omega), spanCells_length, show i.length * 2 + 1 - i.length * 2 = 1 by omega]
  rfl
/-- What the loop of merged has done. -/
def SgRel (w : World) (l : Spans) (n : Nat) (out i : Value) (wr : World) : Prop :=
  ∃ (j k : Nat) (acc : Spans), j ≤ n ∧ i = .int .i64 j ∧ k ≤ j ∧ wr.ownsRow w.heap.size 74 2 out k (spanCells acc) ∧ acc.length = k ∧ InRange acc ∧ mergedP l = (l.drop j).foldl mergeStep acc ∧ Below w.heap.size w wr

set_option maxHeartbeats 3200000 in
set_option maxRecDepth 100000 in
theorem sets_merged (A : Option Addr) (n c : Nat) (l : Spans) (w : World) (hn : n ≤ 100000) (hr : InRange l) (hl : RdS w w.heap.size A n l) :
    Calls Tryz.prog 93 #[.slice A n c] w (SlicePost w (mergedP l) n) := by
  obtain ⟨i0, hi, z0, z1, z2⟩ := info_parts infoSpan
  have HLEN := Lib.hid hl.len
  have HL := Lib.hid hl
  have HR := Lib.hid hr
  clear hl hr
  go_enter Tryz.func93, Tryz.ntmps93
  go_wp2_with fail
  go_loopw [3, 9] (SgRel w l n) (fun _ i _ => n - (intOf i).toNat)
  case atStart => exact ⟨0, 0, [], Nat.zero_le _, rfl, Nat.le_refl _, World.ownsRow_nil _ _ _ _, rfl, (by intro x hx; simp at hx), rfl, Below.refl _ _⟩
  case round =>
    obtain ⟨j, k, acc, hj, rfl, hk, hown, hkl, hin, hgo, hb⟩ := hrel
    have hz := hb.size
    by_cases hlt : j < n
    · obtain ⟨⟨x, y⟩, hx⟩ : ∃ z, l[j]? = some z := ⟨_, List.getElem?_eq_getElem (by rw [HLEN.out]; exact hlt)⟩
      obtain ⟨b, off, rfl, hbb, c0, c1⟩ := HL.out.at hx
      have d0 := (hb.cell (p := ⟨b, off + j * 2, none⟩) hbb).trans c0
      have d1 := (hb.cell (p := ⟨b, off + j * 2 + 1, none⟩) hbb).trans c1
      have hxy := HR.out (x, y) (List.mem_of_getElem? hx)
      simp only at hxy
      have HIN := Lib.hid (mergeStep_range (x := (x, y)) hin hxy)
      rw [drop_at hx, List.foldl_cons] at hgo
      have HX := Lib.hid hx
      have HB1 := Lib.hid (hb.alloc hz (.cells #[.int .i32 x, .int .i32 y] 74))
      have HO1 := Lib.hid (World.ownsRow.alloc hown (.cells #[.int .i32 x, .int .i32 y] 74))
      have HOW := Lib.hid hown
      have HY := Lib.hid (Blk.new wr 74 #[.int .i32 x, .int .i32 y])
      have HN := Lib.hid (show Rd ((wr.alloc (.cells #[.int .i32 x, .int .i32 y] 74)).alloc (.cells #[.int .i32 x, .int .i32 y] 74)) (wr.heap.size + 1 + 1) 2 (some ⟨wr.heap.size + 1, 0, none⟩) 1 [.int .i32 x, .int .i32 y] by
        have := Rd.new (wr.alloc (.cells #[.int .i32 x, .int .i32 y] 74)) 74 2 1 [.int .i32 x, .int .i32 y] rfl
        simpa using this)
      have HO2 := Lib.hid (World.ownsRow.alloc HO1.out (.cells #[.int .i32 x, .int .i32 y] 74))
      have HB2 := Lib.hid (HB1.out.alloc HB1.out.size (.cells #[.int .i32 x, .int .i32 y] 74))
      clear hx c0 c1
      rcases List.eq_nil_or_concat acc with rfl | ⟨i, p, rfl⟩
      · obtain rfl : k = 0 := by simpa using hkl.symm
        have HG := Lib.hid hgo
        obtain ⟨Av, cv, rfl, hcv⟩ := own_form hown
        clear hgo hown hb hin
        have hw0 : IntKind.i64.wrap (((0 : Nat) : Int) - 1) = -1 := by decide
        go_wp2_with fail
        go_quiet (fail)
        go_wp2_with (at_builtin; refine wpList_append_rd _ rfl (.tmp 41) (.tmp 43) 22 rfl w.heap.size 74 i0 _ 2 8 Tryz.underlying22 hi z0 z1 z2 rfl (by decide) _ _ _ rfl HO2.out (wr.heap.size + 1 + 1) (some ⟨wr.heap.size + 1, 0, none⟩) 1 1 [.int .i32 x, .int .i32 y] rfl HN.out (span_one _ _) (by simp only [maxLen]; omega) (by omega) HB2.out.size ?_)
        intro v' w9 happ
        have HB9 := Lib.hid (((below_drewN HB1.out nq).alloc (below_drewN HB1.out nq).size (.cells #[.int .i32 x, .int .i32 y] 74)).trans (happ.below ((below_drewN HB1.out nq).alloc (below_drewN HB1.out nq).size (.cells #[.int .i32 x, .int .i32 y] 74)).size HO2.out))
        have HO9 := Lib.hid (show w9.ownsRow w.heap.size 74 2 v' 1 (spanCells [(x, y)]) from happ.own)
        clear happ
        go_wp2_with fail
        exact ⟨⟨j + 1, 1, [(x, y)], by omega, by go_num, by omega, HO9.out, rfl, HIN.out, HG.out, HB9.out⟩, by simp [intOf]; omega⟩
      · rw [List.concat_eq_append] at hown hkl hin hgo HIN
        rw [mergeStep_snoc] at hgo HIN
        simp only at hgo HIN
        obtain ⟨m, hm⟩ : ∃ m, i.length = m := ⟨_, rfl⟩
        obtain rfl : k = m + 1 := by rw [← hkl, List.length_append, hm]; rfl
        obtain ⟨p1, p2⟩ := p
        have hp := hin (p1, p2) (by simp)
        simp only at hp hgo HIN
        obtain ⟨g, cv, rfl, hcv, hg, hgl⟩ := own_some hown (by omega)
        have HIL := Lib.hid hm
        have hcell : (spanCells (i ++ [(p1, p2)]))[m * 2 + 1]? = some (.int .i32 p2) := (spanCells_at _ m p1 p2 (by rw [← hm]; simp)).2
        have e0 : (wr.alloc (.cells #[.int .i32 x, .int .i32 y] 74)).cell? ⟨g, m * 2 + 1, none⟩ = some (.int .i32 p2) := by rw [HO1.out.cellAt _ (by omega), List.concat_eq_append]; exact hcell
        have f0 : (wr.alloc (.cells #[.int .i32 x, .int .i32 y] 74)).frozen? ⟨g, m * 2 + 1, none⟩ = false := HO1.out.frozenAt _
        have hw1 : IntKind.i64.wrap (((m + 1 : Nat) : Int) - 1) = (m : Int) := by rw [wrap_small _ (by omega) (by omega)]; omega
        have hk0 : (0 : Int) ≤ (m : Int) := by omega
        have hk1 : (m : Int) < ((m + 1 : Nat) : Int) := by omega
        have hg0 : decide ((0 : Int) ≤ (m : Int)) = true := decide_eq_true hk0
        clear hcell hm hkl hown hin hb
        by_cases hle : x ≤ p2 + 1
        · rw [if_pos hle] at hgo HIN
          have HG := Lib.hid hgo
          have hd : decide (x ≤ p2 + 1) = true := decide_eq_true hle
          clear hgo
          go_wp2_with fail
          go_quiet (fail)
          go_wp2_with fail
          go_region
          have HMX := Lib.hid (show max p2 y = (if p2 < y then y else p2) by rw [Int.max_def]; split <;> split <;> omega)
          have HO3 := Lib.hid (show (((wr.alloc (.cells #[.int .i32 x, .int .i32 y] 74)).drewN (nq + 1)).setCell ⟨g, m * 2 + 1, none⟩ (.int .i32 (if p2 < y then y else p2))).ownsRow w.heap.size 74 2 (.slice (some ⟨g, 0, none⟩) (m + 1) cv) (m + 1) (spanCells (i ++ [(p1, max p2 y)])) by
            have h0 : ((wr.alloc (.cells #[.int .i32 x, .int .i32 y] 74)).drewN (nq + 1)).ownsRow w.heap.size 74 2 (.slice (some ⟨g, 0, none⟩) (m + 1) cv) (m + 1) (spanCells (i ++ [(p1, p2)])) := by
              have := HO1.out
              rw [List.concat_eq_append] at this
              exact this
            have := (h0.stored (m * 2 + 1) (.int .i32 (if p2 < y then y else p2))).1
            rw [← HIL.out, spanCells_setHigh] at this
            rw [← HIL.out, HMX.out]
            exact this)
          have HB3 := Lib.hid ((below_drewN HB1.out (nq + 1)).setCell (p := ⟨g, m * 2 + 1, none⟩) hg (.int .i32 (if p2 < y then y else p2)))
          go_wp2_with fail
          exact ⟨⟨j + 1, m + 1, i ++ [(p1, max p2 y)], by omega, by go_num, by omega, HO3.out, by simp [HIL.out], HIN.out, HG.out, HB3.out⟩, by simp [intOf]; omega⟩
        · rw [if_neg hle] at hgo HIN
          have HG := Lib.hid hgo
          have hd : decide (x ≤ p2 + 1) = false := decide_eq_false hle
          clear hgo
          go_wp2_with fail
          go_quiet (fail)
          go_wp2_with (at_builtin; refine wpList_append_rd _ rfl (.tmp 41) (.tmp 43) 22 rfl w.heap.size 74 i0 _ 2 8 Tryz.underlying22 hi z0 z1 z2 rfl (by decide) _ _ _ rfl HO2.out (wr.heap.size + 1 + 1) (some ⟨wr.heap.size + 1, 0, none⟩) 1 1 [.int .i32 x, .int .i32 y] rfl HN.out (span_one _ _) (by simp only [maxLen]; omega) (by omega) HB2.out.size ?_)
          intro v' w9 happ
          have HB9 := Lib.hid (((below_drewN HB1.out nq).alloc (below_drewN HB1.out nq).size (.cells #[.int .i32 x, .int .i32 y] 74)).trans (happ.below ((below_drewN HB1.out nq).alloc (below_drewN HB1.out nq).size (.cells #[.int .i32 x, .int .i32 y] 74)).size HO2.out))
          have HO9 := Lib.hid (show w9.ownsRow w.heap.size 74 2 v' (m + 1 + 1) (spanCells (i ++ [(p1, p2)] ++ [(x, y)])) by have := happ.own; rw [spanCells_snoc (i ++ [(p1, p2)])]; exact this)
          clear happ
          go_wp2_with fail
          exact ⟨⟨j + 1, m + 1 + 1, i ++ [(p1, p2)] ++ [(x, y)], by omega, by go_num, by omega, HO9.out, by simp [HIL.out], HIN.out, HG.out, HB9.out⟩, by simp [intOf]; omega⟩
    · obtain rfl : j = n := by omega
      rw [List.drop_of_length_le (by rw [HLEN.out]; exact Nat.le_refl _), List.foldl_nil] at hgo
      subst hgo
      obtain ⟨Av, cv, rfl, hcv⟩ := own_form hown
      have HO := Lib.hid hown
      clear hown hin
      go_wp2_with fail
      go_ret
      exact ⟨Av, k, cv, rfl, RdX.of_own HO.out (fun b hb => (own_lt HO.out hb).1), hk, hcv, hb⟩

end Go.Proofs.YthnhbcohfoodlaaGreatDoor
