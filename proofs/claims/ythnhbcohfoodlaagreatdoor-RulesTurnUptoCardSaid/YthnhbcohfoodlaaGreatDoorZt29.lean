/- ClassSpan -/
import Derived.Test.YthnhbcohfoodlaaGreatDoorZt13
import Derived.Test.YthnhbcohfoodlaaGreatDoorZt1
import Derived.Deep.DeepCutAuto
namespace Go.Proofs.YthnhbcohfoodlaaGreatDoor
open Go.RowKit
def CsgRel (w : World) (s : Spans) (out i : Value) (wr : World) : Prop :=
 ∃ j : Nat, j ≤ s.length ∧ i = .int .i64 ((2 * j : Nat) : Int) ∧ wr.ownsRow w.heap.size 74 2 out j (spanCells (s.take j)) ∧ Below w.heap.size w wr
set_option maxHeartbeats 3200000 in
set_option maxRecDepth 100000 in
theorem class_span (b off c : Nat) (s : Spans) (N : Nat) (w : World) (hN : N = 2 * s.length) (hn : N ≤ 1000) (hb : b < w.heap.size) (hr : ∀ j u, (spanCells s)[j]? = some u → w.cell? ⟨b, off + j, none⟩ = some u) :
 Calls Tryz.prog 161 #[.slice (some ⟨b, off, none⟩) N c] w (SlicePost w s 1000) := by
 obtain ⟨i0, hi, z0, z1, z2⟩ := info_parts infoSpan
 have HR := Lib.hid hr
 have HNN := Lib.hid hN
 clear hr hN
 go_enter Tryz.func161, Tryz.ntmps161
 go_wp2_with fail
 go_loopw [3, 4] (CsgRel w s) (fun _ i _ => N - (intOf i).toNat)
 case atStart => exact ⟨0, Nat.zero_le _, rfl, World.ownsRow_nil _ _ _ _, Below.refl _ _⟩
 case round =>
  obtain ⟨j, hj, rfl, hown, hbl⟩ := hrel
  have hz := hbl.size
  obtain ⟨Av, cv, rfl, hcv⟩ := own_form hown
  by_cases hlt : j < s.length
  ·have hltN : 2 * j + 1 < N := by have := HNN.out; omega
   have hj1000 : j + 1 ≤ 1000 := by have := HNN.out; omega
   obtain ⟨⟨x, y⟩, hx⟩ : ∃ z, s[j]? = some z := ⟨_, List.getElem?_eq_getElem hlt⟩
   obtain ⟨q0, q1⟩ := spanCells_at s j x y hx
   rw [Nat.mul_comm j 2] at q0 q1
   have d0 := (hbl.cell (p := ⟨b, off + 2 * j, none⟩) hb).trans (HR.out _ _ q0)
   have d1 := (hbl.cell (p := ⟨b, off + (2 * j + 1), none⟩) hb).trans (HR.out _ _ q1)
   have HT := Lib.hid (show s.take (j + 1) = s.take j ++ [(x, y)] by rw [List.take_add_one, hx]; rfl)
   have HO1 := Lib.hid (World.ownsRow.alloc hown (.cells #[.int .i32 x, .int .i32 y] 74))
   have HB1 := Lib.hid (hbl.alloc hz (.cells #[.int .i32 x, .int .i32 y] 74))
   have HN := Lib.hid (Rd.new wr 74 2 1 [.int .i32 x, .int .i32 y] rfl)
   generalize hm : 2 * j = m at *
   have HM := Lib.hid hm
   clear hx q0 q1 hown hbl hm
   have hg : decide ((m : Int) < (N : Int)) = true := decide_eq_true (by omega)
   have hw1 : IntKind.i64.wrap ((m : Int) + 1) = ((m + 1 : Nat) : Int) := by rw [wrap_small _ (by omega) (by omega)]; omega
   have k0 : (0 : Int) ≤ (m : Int) := by omega
   have k1 : (m : Int) < (N : Int) := by omega
   have k2 : (0 : Int) ≤ (m : Int) + 1 := by omega
   have k3 : (m : Int) + 1 < (N : Int) := by omega
   go_upto_region 5 with fail
   refine wp_region_till (S := (fun w' => w'.cell? ⟨b, off + m, none⟩ = some (.int .i32 x) ∧ w'.cell? ⟨b, off + (m + 1), none⟩ = some (.int .i32 y))) [4, 9] (by kernel_rfl) ⟨d0, d1⟩ (fun hHeld => ?_)
   refine wpTill_pure (i := 0) (oi := ⟨some 11, _, _, _, _, _⟩) (v := ?_) rfl (by kernel_rfl) (by kernel_rfl) (by kernel_rfl) (fun _ _ _ h => h) (Or.inl ⟨by rfl, ?_⟩) ?_
   rotate_left 1
   ·intro wq _
    go_simp
    try with_reducible rfl
   try simp only [Act.put, List.setIfInBounds_toArray, List.set_cons_zero, List.set_cons_succ]
   refine wpTill_pure (i := 1) (oi := ⟨some 12, _, _, _, _, _⟩) (v := ?_) rfl (by kernel_rfl) (by kernel_rfl) (by kernel_rfl) (fun _ _ _ h => h) (Or.inl ⟨by rfl, ?_⟩) ?_
   rotate_left 1
   ·intro wq _
    go_simp
    try with_reducible rfl
   try simp only [Act.put, List.setIfInBounds_toArray, List.set_cons_zero, List.set_cons_succ]
   refine wpTill_pure (i := 2) (oi := ⟨some 13, _, _, _, _, _⟩) (v := ?_) rfl (by kernel_rfl) (by kernel_rfl) (by kernel_rfl) (fun _ _ _ h => h) (Or.inl ⟨by rfl, ?_⟩) ?_
   rotate_left 1
   ·intro wq _
    go_simp
    try with_reducible rfl
   try simp only [Act.put, List.setIfInBounds_toArray, List.set_cons_zero, List.set_cons_succ]
   refine wpTill_pure (i := 3) (oi := ⟨some 14, _, _, _, _, _⟩) (v := ?_) rfl (by kernel_rfl) (by kernel_rfl) (by kernel_rfl) (fun _ _ _ h => h) (Or.inl ⟨by rfl, ?_⟩) ?_
   rotate_left 1
   ·intro wq _
    go_simp
    try with_reducible rfl
   try simp only [Act.put, List.setIfInBounds_toArray, List.set_cons_zero, List.set_cons_succ]
   refine wpTill_take (i := 4) (oi := ⟨some 15, _, _, _, _, _⟩) (v := ?_) rfl (by kernel_rfl) (by kernel_rfl) (by kernel_rfl) (by kernel_rfl) (by kernel_rfl) (fun _ _ _ h => h) (Or.inl ⟨by rfl, ?_⟩) (by assumption) ?_
   rotate_left 1
   ·intro wq hSw
    (try dsimp only at hSw)
    go_simp
    try with_reducible rfl
   try simp only [Act.put, List.setIfInBounds_toArray, List.set_cons_zero, List.set_cons_succ]
   refine wpTill_pure (i := 5) (oi := ⟨some 16, _, _, _, _, _⟩) (v := ?_) rfl (by kernel_rfl) (by kernel_rfl) (by kernel_rfl) (fun _ _ _ h => h) (Or.inl ⟨by rfl, ?_⟩) ?_
   rotate_left 1
   ·intro wq _
    go_simp
    try with_reducible rfl
   try simp only [Act.put, List.setIfInBounds_toArray, List.set_cons_zero, List.set_cons_succ]
   refine wpTill_pure (i := 6) (oi := ⟨some 17, _, _, _, _, _⟩) (v := ?_) rfl (by kernel_rfl) (by kernel_rfl) (by kernel_rfl) (fun _ _ _ h => h) (Or.inl ⟨by rfl, ?_⟩) ?_
   rotate_left 1
   ·intro wq _
    go_simp
    try with_reducible rfl
   try simp only [Act.put, List.setIfInBounds_toArray, List.set_cons_zero, List.set_cons_succ]
   refine wpTill_pure (i := 7) (oi := ⟨some 18, _, _, _, _, _⟩) (v := ?_) rfl (by kernel_rfl) (by kernel_rfl) (by kernel_rfl) (fun _ _ _ h => h) (Or.inl ⟨by rfl, ?_⟩) ?_
   rotate_left 1
   ·intro wq _
    go_simp
    try with_reducible rfl
   try simp only [Act.put, List.setIfInBounds_toArray, List.set_cons_zero, List.set_cons_succ]
   refine wpTill_pure (i := 8) (oi := ⟨some 19, _, _, _, _, _⟩) (v := ?_) rfl (by kernel_rfl) (by kernel_rfl) (by kernel_rfl) (fun _ _ _ h => h) (Or.inl ⟨by rfl, ?_⟩) ?_
   rotate_left 1
   ·intro wq _
    go_simp
    try with_reducible rfl
   try simp only [Act.put, List.setIfInBounds_toArray, List.set_cons_zero, List.set_cons_succ]
   refine wpTill_take (i := 9) (oi := ⟨some 20, _, _, _, _, _⟩) (v := ?_) rfl (by kernel_rfl) (by kernel_rfl) (by kernel_rfl) (by kernel_rfl) (by kernel_rfl) (fun _ _ _ h => h) (Or.inl ⟨by rfl, ?_⟩) (by assumption) ?_
   rotate_left 1
   ·intro wq hSw
    (try dsimp only at hSw)
    go_simp
    try with_reducible rfl
   try simp only [Act.put, List.setIfInBounds_toArray, List.set_cons_zero, List.set_cons_succ]
   refine wpTill_pure (i := 10) (oi := ⟨some 21, _, _, _, _, _⟩) (v := ?_) rfl (by kernel_rfl) (by kernel_rfl) (by kernel_rfl) (fun _ _ _ h => h) (Or.inl ⟨by rfl, ?_⟩) ?_
   rotate_left 1
   ·intro wq _
    go_simp
    try with_reducible rfl
   try simp only [Act.put, List.setIfInBounds_toArray, List.set_cons_zero, List.set_cons_succ]
   refine wpTill_late (i := 11) (o := ⟨some 22, _, _, _, _, _⟩) (by kernel_rfl) rfl (by kernel_rfl) (fun K hK => ?_)
   go_simp
   try dsimp only
   refine hK.out _ _ ?_
   clear hK K
   try simp only [Act.put, List.setIfInBounds_toArray, List.set_cons_zero, List.set_cons_succ]
   refine wpTill_late (i := 12) (o := ⟨some 23, _, _, _, _, _⟩) (by kernel_rfl) rfl (by kernel_rfl) (fun K hK => ?_)
   refine step_append_rd _ rfl (.tmp 11) (.tmp 22) 22 rfl w.heap.size 74 i0 _ 2 8 Tryz.underlying22 hi z0 z1 z2 rfl (by decide) _ _ _ rfl HO1.out (wr.heap.size + 1) (some ⟨wr.heap.size, 0, none⟩) 1 1 [.int .i32 x, .int .i32 y] rfl HN.out (span_one _ _) (by simp only [maxLen]; omega) (by omega) HB1.out.size ?_
   intro v' w9 happ
   try dsimp only
   refine hK.out _ _ ?_
   clear hK K
   have HB9 := Lib.hid ((below_drew1 HB1.out).trans (happ.below (below_drew1 HB1.out).size HO1.out))
   have HO9 := Lib.hid (show w9.ownsRow w.heap.size 74 2 v' (j + 1) (spanCells (s.take (j + 1))) by rw [HT.out, spanCells_snoc]; exact happ.own)
   clear happ
   try simp only [Act.put, List.setIfInBounds_toArray, List.set_cons_zero, List.set_cons_succ]
   refine wpTill_pure (i := 13) (oi := ⟨some 3, _, _, _, _, _⟩) (v := ?_) rfl (by kernel_rfl) (by kernel_rfl) (by kernel_rfl) (fun _ _ _ h => h) (Or.inl ⟨by rfl, ?_⟩) ?_
   rotate_left 1
   ·intro wq _
    go_simp
    try with_reducible rfl
   try simp only [Act.put, List.setIfInBounds_toArray, List.set_cons_zero, List.set_cons_succ]
   refine wpTill_done (by kernel_rfl) ?_ _
   go_simp
   go_wp2_with fail
   exact ⟨⟨j + 1, by omega, by rw [show ((2 * (j + 1) : Nat) : Int) = (m : Int) + 2 by have := HM.out; omega], HO9.out, HB9.out⟩, by simp [intOf]; omega⟩
  ·obtain rfl : j = s.length := by omega
   have HF := Lib.hid (show wr.ownsRow w.heap.size 74 2 (.slice Av s.length cv) s.length (spanCells s) by have := hown; rwa [List.take_of_length_le (Nat.le_refl _)] at this)
   generalize hm : 2 * s.length = m at *
   have hg : decide (m < N) = false := decide_eq_false (by have := HNN.out; omega)
   have hsl : s.length ≤ 1000 := by have := HNN.out; omega
   generalize s.length = k at *
   clear hown hm
   go_wp2_with fail
   go_ret
   exact ⟨Av, _, cv, rfl, RdX.of_own HF.out (fun b hb => (own_lt HF.out hb).1), hsl, hcv, hbl⟩
end Go.Proofs.YthnhbcohfoodlaaGreatDoor
