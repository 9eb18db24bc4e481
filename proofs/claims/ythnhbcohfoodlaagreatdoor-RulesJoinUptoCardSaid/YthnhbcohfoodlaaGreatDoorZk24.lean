/- SetNot -/
import Derived.Test.YthnhbcohfoodlaaGreatDoorZk14
import Derived.Test.YthnhbcohfoodlaaGreatDoorZk22
import Derived.BigRegion
namespace Go.Proofs.YthnhbcohfoodlaaGreatDoor
open Go.RowKit
def SrRel (w : World) (n : Nat) (i : Value) (wr : World) : Prop := ∃ j : Nat, j ≤ n ∧ i = .int .i64 j ∧ Below w.heap.size w wr
set_option maxHeartbeats 1600000 in
theorem sets_right (X : Nat → Prop) (L : List Spans) (A : Option Addr) (n c : Nat) (w : World) (hn : n ≤ 1000) (hS : ∀ s ∈ L, RightSet s) (hL : ListX (SetC w X) w X 1 A n L) :
    Calls Tryz.prog 49 #[.slice A n c] w fun e w' => e = .returned (.int .i64 0) ∧ Below w.heap.size w w' := by
  have HLEN := Lib.hid (show L.length = n from hL.len)
  have HL := Lib.hid hL
  have HS := Lib.hid hS
  clear hL hS
  go_enter Tryz.func49, Tryz.ntmps49
  go_wp2_with fail
  go_loopw [8] (SrRel w n) (fun i _ => n - (intOf i).toNat)
  case atStart => exact ⟨0, Nat.zero_le _, rfl, Below.refl _ _⟩
  case round =>
    obtain ⟨j, hj, rfl, hb⟩ := hrel
    by_cases hlt : j < n
    · obtain ⟨s, hs⟩ : ∃ z, L[j]? = some z := ⟨_, List.getElem?_eq_getElem (by rw [HLEN.out]; exact hlt)⟩
      obtain ⟨b, off, A', n', c', rfl, _, hbb, hcx0, hrd, _, hnn⟩ := sets_at HL.out hs
      have hcx := (hb.cell (p := ⟨b, off + j, none⟩) hbb).trans hcx0
      simp only [maxLen] at hnn
      have HW := Lib.hid (show Calls Tryz.prog 16 #[.slice A' n' c'] wr fun e w' => e = .returned (.int .i64 0) ∧ Below wr.heap.size wr w' by
        have := sets_wrong A' n' c' s wr (by omega) ((Rd.below hrd hb).more hb.size)
        rwa [wrong_of (HS.out s (List.mem_of_getElem? hs))] at this)
      have HB := Lib.hid hb
      clear hs hrd hb hcx0
      go_wp2_with fail
      refine HW.out.mono ?_
      rintro e w1 ⟨rfl, hb1⟩
      have HB1 := Lib.hid (HB.out.trans (hb1.mono HB.out.size))
      go_wp2_with fail
      exact ⟨⟨j + 1, by omega, by go_num, HB1.out⟩, by simp [intOf]; omega⟩
    · obtain rfl : j = n := by omega
      go_wp2_with fail
      go_ret
      exact ⟨rfl, hb⟩
theorem sets_fit (A : Option Addr) (n c : Nat) (w : World) :
    Calls Tryz.prog 52 #[.slice A n c] w fun e w' => e = .returned (if 200 < n then .tuple #[.slice none 0 0, .int .i64 5] else .tuple #[.slice A n c, .int .i64 0]) ∧ w' = w := by
  by_cases h : 200 < n
  · rw [if_pos h]
    go_enter Tryz.func52, Tryz.ntmps52
    go_wp2_with fail
    go_ret2
    exact ⟨rfl, rfl⟩
  · rw [if_neg h]
    go_enter Tryz.func52, Tryz.ntmps52
    go_wp2_with fail
    go_ret2
    exact ⟨rfl, rfl⟩
def SlicePost (w : World) (s : Spans) (m : Nat) (e : Ending) (w' : World) : Prop := ∃ A' n' c', e = .returned (.slice A' n' c') ∧ RdX w' (fun b => w.heap.size ≤ b) 2 A' n' (spanCells s) ∧ n' ≤ m ∧ n' ≤ c' ∧ Below w.heap.size w w'
def SnRel (w : World) (s : Spans) (n : Nat) (out a i : Value) (wr : World) : Prop :=
  ∃ (j k : Nat) (x : Int) (acc : Spans), j ≤ n ∧ i = .int .i64 j ∧ a = .int .i32 x ∧ 0 ≤ x ∧ x ≤ 1114112 ∧ k ≤ j ∧ wr.ownsRow w.heap.size 74 2 out k (spanCells acc) ∧ acc.length = k ∧ notP s = acc ++ notGo x (s.drop j) ∧ Below w.heap.size w wr
set_option maxHeartbeats 1600000 in
set_option maxRecDepth 100000 in
theorem sets_not (A : Option Addr) (n c : Nat) (s : Spans) (w : World) (hn : n ≤ 200) (hs : RightSet s) (hl : RdS w w.heap.size A n s) :
    Calls Tryz.prog 54 #[.slice A n c] w (SlicePost w (notP s) 201) := by
  obtain ⟨i0, hi, z0, z1, z2⟩ := info_parts infoSpan
  have HLEN := Lib.hid hl.len
  have HL := Lib.hid hl
  have HS := Lib.hid hs
  clear hl hs
  go_enter Tryz.func54, Tryz.ntmps54
  go_wp2_with fail
  go_loopw [3, 4, 9] (SnRel w s n) (fun _ _ i _ => n - (intOf i).toNat)
  case atStart => exact ⟨0, 0, 0, [], Nat.zero_le _, rfl, rfl, by omega, by omega, by omega, World.ownsRow_nil _ _ _ _, rfl, rfl, Below.refl _ _⟩
  case round =>
    obtain ⟨j, k, a, acc, hj, rfl, rfl, ha0, ha1, hk, hown, hk2, hgo, hb⟩ := hrel
    have hz := hb.size
    have hb0 := hb
    obtain ⟨A3, c3, rfl, hc3⟩ := own_form hown
    by_cases hlt : j < n
    · obtain ⟨⟨x, y⟩, hx⟩ : ∃ z, s[j]? = some z := ⟨_, List.getElem?_eq_getElem (by rw [HLEN.out]; exact hlt)⟩
      obtain ⟨b, off, rfl, hbb, c0, c1⟩ := HL.out.at hx
      have d0 := (hb.cell (p := ⟨b, off + j * 2, none⟩) hbb).trans c0
      have d1 := (hb.cell (p := ⟨b, off + j * 2 + 1, none⟩) hbb).trans c1
      have hxy := HS.out.each (x, y) (List.mem_of_getElem? hx)
      simp only at hxy
      rw [drop_at hx, notGo] at hgo
      simp only at hgo
      have HX := Lib.hid hx
      have HB1 := Lib.hid (hb.alloc hz (.cells #[.int .i32 x, .int .i32 y] 74))
      have HO1 := Lib.hid (World.ownsRow.alloc hown (.cells #[.int .i32 x, .int .i32 y] 74))
      have HOW := Lib.hid hown
      have HY := Lib.hid (Blk.new wr 74 #[.int .i32 x, .int .i32 y])
      clear hx c0 c1 hown hb hb0
      by_cases hgt : a < x
      · rw [if_pos hgt] at hgo
        have HG := Lib.hid hgo
        have HO2 := Lib.hid (World.ownsRow.alloc HO1.out (.cells #[.int .i32 a, .int .i32 (x - 1)] 74))
        have HB2 := Lib.hid (HB1.out.alloc HB1.out.size (.cells #[.int .i32 a, .int .i32 (x - 1)] 74))
        have HN := Lib.hid (show Rd ((wr.alloc (.cells #[.int .i32 x, .int .i32 y] 74)).alloc (.cells #[.int .i32 a, .int .i32 (x - 1)] 74)) (wr.heap.size + 1 + 1) 2 (some ⟨wr.heap.size + 1, 0, none⟩) 1 [.int .i32 a, .int .i32 (x - 1)] by
          have := Rd.new (wr.alloc (.cells #[.int .i32 x, .int .i32 y] 74)) 74 2 1 [.int .i32 a, .int .i32 (x - 1)] rfl
          simpa using this)
        clear hgo
        go_wp2_with (at_builtin; refine wpList_append_rd _ rfl (.tmp 17) (.tmp 23) 22 rfl w.heap.size 74 i0 _ 2 8 Tryz.underlying22 hi z0 z1 z2 rfl (by decide) _ _ _ rfl HO2.out (wr.heap.size + 1 + 1) (some ⟨wr.heap.size + 1, 0, none⟩) 1 1 [.int .i32 a, .int .i32 (x - 1)] rfl HN.out (span_one _ _) (by simp only [maxLen]; omega) (by omega) HB2.out.size ?_)
        intro v' w9 happ
        have HB9 := Lib.hid (HB2.out.trans (happ.below HB2.out.size HO2.out))
        have HO9 := Lib.hid (show w9.ownsRow w.heap.size 74 2 v' (k + 1) (spanCells (acc ++ [(a, x - 1)])) by rw [spanCells_snoc]; exact happ.own)
        have hblk : Blk w9 wr.heap.size 74 #[.int .i32 x, .int .i32 y] := by
          have h1 : Blk ((wr.alloc (.cells #[.int .i32 x, .int .i32 y] 74)).alloc (.cells #[.int .i32 a, .int .i32 (x - 1)] 74)) wr.heap.size 74 #[.int .i32 x, .int .i32 y] := HY.out.alloc _
          unfold Blk at h1 ⊢
          rw [happ.2.1.block _ (by simp; omega) (fun e => ?_)]
          · exact h1
          · have := (own_lt HOW.out e.symm).2; omega
        have e1 := hblk.cell 1
        clear happ hblk
        go_wp2_with fail
        exact ⟨⟨j + 1, k + 1, y + 1, acc ++ [(a, x - 1)], by omega, by go_num, rfl, by omega, by omega, by omega, HO9.out, by simp; omega, by rw [HG.out]; simp, HB9.out⟩, by simp [intOf]; omega⟩
      · rw [if_neg hgt, List.nil_append] at hgo
        have HG := Lib.hid hgo
        clear hgo
        go_wp2_with fail
        exact ⟨⟨j + 1, k, y + 1, acc, by omega, by go_num, rfl, by omega, by omega, by omega, HO1.out, by omega, HG.out, HB1.out⟩, by simp [intOf]; omega⟩
    · obtain rfl : j = n := by omega
      rw [List.drop_of_length_le (by rw [HLEN.out]; omega), notGo] at hgo
      by_cases hle : a ≤ 1114111
      · rw [if_pos hle] at hgo
        have HG := Lib.hid hgo
        have HO2 := Lib.hid (World.ownsRow.alloc hown (.cells #[.int .i32 a, .int .i32 1114111] 74))
        have HB2 := Lib.hid (hb.alloc hb.size (.cells #[.int .i32 a, .int .i32 1114111] 74))
        have HN := Lib.hid (Rd.new wr 74 2 1 [.int .i32 a, .int .i32 1114111] rfl)
        clear hgo hown hb hb0
        go_wp2_with (at_builtin; refine wpList_append_rd _ rfl (.tmp 31) (.tmp 34) 22 rfl w.heap.size 74 i0 _ 2 8 Tryz.underlying22 hi z0 z1 z2 rfl (by decide) _ _ _ rfl HO2.out (wr.heap.size + 1) (some ⟨wr.heap.size, 0, none⟩) 1 1 [.int .i32 a, .int .i32 1114111] rfl HN.out (span_one _ _) (by simp only [maxLen]; omega) (by omega) HB2.out.size ?_)
        intro v' w9 happ
        have HB9 := Lib.hid (HB2.out.trans (happ.below HB2.out.size HO2.out))
        have HO9 := Lib.hid (show w9.ownsRow w.heap.size 74 2 v' (k + 1) (spanCells (notP s)) by rw [HG.out, spanCells_snoc]; exact happ.own)
        clear happ
        obtain ⟨A9, c9, rfl, hc9⟩ := own_form HO9.out
        go_wp2_with fail
        go_ret
        exact ⟨A9, k + 1, c9, rfl, RdX.of_own HO9.out (fun b hb => (own_lt HO9.out hb).1), by omega, hc9, HB9.out⟩
      · rw [if_neg hle, List.append_nil] at hgo
        have HO9 := Lib.hid (show wr.ownsRow w.heap.size 74 2 (.slice A3 k c3) k (spanCells (notP s)) by rw [hgo]; exact hown)
        clear hgo hown hb0
        go_wp2_with fail
        go_ret
        exact ⟨A3, k, c3, rfl, RdX.of_own HO9.out (fun b hb => (own_lt HO9.out hb).1), by omega, hc3, hb⟩
end Go.Proofs.YthnhbcohfoodlaaGreatDoor
