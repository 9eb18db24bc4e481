/- The closure fail of resolve.ready: two empty scripts, and what is wrong at which part. -/
import Derived.Test.YthcjiainpaebfaaClose
import Derived.BigRegion
namespace Go.Proofs.Ythcjiainpaebfaa
open Go.RowKit

abbrev zeroScript : Array Value := #[.bool false, .slice none 0 0, .slice none 0 0]

set_option maxRecDepth 100000 in
set_option maxHeartbeats 1600000 in
theorem syn_fail (er i : Int) (g : Nat) (w : World) (hi : w.cell? ⟨g, 0, none⟩ = some (.int .i64 i)) :
    Calls Try.prog 24 #[.int .i64 er, .pointer (some ⟨g, 0, none⟩)] w fun e w' => e = .returned (.tuple #[.agg zeroScript, .agg zeroScript, .agg #[.int .i64 er, .int .i64 i]]) ∧ Below w.heap.size w w' := by
  have hg := World.block_lt_of_cell? w _ hi
  have z0 := Blk.alloc (Blk.alloc (Blk.new w 26 zeroScript) (.cells zeroScript 26)) (.cells #[.int .i64 0, .int .i64 0] 29)
  have z1 := Blk.alloc (Blk.new (w.alloc (.cells zeroScript 26)) 26 zeroScript) (.cells #[.int .i64 0, .int .i64 0] 29)
  have z2 := Blk.new ((w.alloc (.cells zeroScript 26)).alloc (.cells zeroScript 26)) 29 #[.int .i64 0, .int .i64 0]
  rw [show (w.alloc (.cells zeroScript 26)).heap.size = w.heap.size + 1 by simp] at z1
  rw [show ((w.alloc (.cells zeroScript 26)).alloc (.cells zeroScript 26)).heap.size = w.heap.size + 1 + 1 by simp] at z2
  have hb := (((Below.refl w.heap.size w).alloc (Nat.le_refl _) (.cells zeroScript 26)).alloc (by simp) (.cells zeroScript 26)).alloc (by simp; omega) (.cells #[.int .i64 0, .int .i64 0] 29)
  have hc : (((w.alloc (.cells zeroScript 26)).alloc (.cells zeroScript 26)).alloc (.cells #[.int .i64 0, .int .i64 0] 29)).cell? ⟨g, 0, none⟩ = some (.int .i64 i) := (hb.cell hg).trans hi
  have Z0 := Lib.hid z0
  have Z1 := Lib.hid z1
  have Z2 := Lib.hid z2
  have HB := Lib.hid hb
  have HC := Lib.hid hc
  clear z0 z1 z2 hb hc
  go_enter Try.func24, Try.ntmps24
  go_upto_region 1 with fail
  have z0 := Z0.out
  have z1 := Z1.out
  have z2 := Z2.out
  have hb := HB.out
  have hc := HC.out
  have hg0 : g ≠ w.heap.size := by simp only at hg; omega
  have hg1 : g ≠ w.heap.size + 1 := by simp only at hg; omega
  have hg2 : g ≠ w.heap.size + 1 + 1 := by simp only at hg; omega
  clear Z0 Z1 Z2 HB HC
  generalize ((w.alloc (.cells zeroScript 26)).alloc (.cells zeroScript 26)).alloc (.cells #[.int .i64 0, .int .i64 0] 29) = W3 at *
  have a0 : W3.cell? ⟨w.heap.size, 0, none⟩ = some (.bool false) := z0.cell 0
  have a1 : W3.cell? ⟨w.heap.size, 1, none⟩ = some (.slice none 0 0) := z0.cell 1
  have a2 : W3.cell? ⟨w.heap.size, 2, none⟩ = some (.slice none 0 0) := z0.cell 2
  have b0 : W3.cell? ⟨w.heap.size + 1, 0, none⟩ = some (.bool false) := z1.cell 0
  have b1 : W3.cell? ⟨w.heap.size + 1, 1, none⟩ = some (.slice none 0 0) := z1.cell 1
  have b2 : W3.cell? ⟨w.heap.size + 1, 2, none⟩ = some (.slice none 0 0) := z1.cell 2
  have c0 : W3.cell? ⟨w.heap.size + 1 + 1, 0, none⟩ = some (.int .i64 0) := z2.cell 0
  have c1 : W3.cell? ⟨w.heap.size + 1 + 1, 1, none⟩ = some (.int .i64 0) := z2.cell 1
  have d0 := z0.frozen 0
  have d1 := z0.frozen 1
  have d2 := z0.frozen 2
  have d3 := z1.frozen 0
  have d4 := z1.frozen 1
  have d5 := z1.frozen 2
  have d6 := z2.frozen 0
  have d7 := z2.frozen 1
  have HB2 := Lib.hid hb
  clear z0 z1 z2 hb
  go_region
  all_goals
    go_wp2_with fail
    have hbl := (((((((HB2.out.setCell (p := ⟨w.heap.size, 0, none⟩) (by simp) (.bool false)).setCell (p := ⟨w.heap.size, 1, none⟩) (by simp) (.slice none 0 0)).setCell (p := ⟨w.heap.size, 2, none⟩) (by simp) (.slice none 0 0)).setCell (p := ⟨w.heap.size + 1, 0, none⟩) (by simp) (.bool false)).setCell (p := ⟨w.heap.size + 1, 1, none⟩) (by simp) (.slice none 0 0)).setCell (p := ⟨w.heap.size + 1, 2, none⟩) (by simp) (.slice none 0 0)).setCell (p := ⟨w.heap.size + 1 + 1, 0, none⟩) (by simp; omega) (.int .i64 er)).setCell (p := ⟨w.heap.size + 1 + 1, 1, none⟩) (by simp; omega) (.int .i64 i)
    refine bodyPost_ret (v := .tuple #[.agg #[.bool false, .slice none 0 0, .slice none 0 0], .agg #[.bool false, .slice none 0 0, .slice none 0 0], .agg #[.int .i64 er, .int .i64 i]]) (by simp [results, Try.results24, go_sem, a0, a1, a2, b0, b1, b2, c0, c1]) rfl ⟨rfl, ?_⟩
    exact hbl.drew

end Go.Proofs.Ythcjiainpaebfaa
