/- resolve.ready: both scripts of a file. (Under way: the wrong file is done.) -/
import Derived.Test.YthcjiainpaebfaaReverse
namespace Go.Proofs.Ythcjiainpaebfaa
open Go.RowKit Go.Maps

/-- What ready tells. -/
def RdyPost (B lo : Nat) (w : World) (l : List PartD) (e : Ending) : Prop :=
  ∃ cs ds : List Value, cs.length = 3 ∧ ds.length = 3 ∧ e = .returned (.tuple #[.agg cs.toArray, .agg ds.toArray, .agg #[.int .i64 (readyP false l).2.1, .int .i64 (readyP false l).2.2]]) ∧
    ScriptC w (Fr B lo) (readyP false l).1 cs ∧ ScriptC w (Fr B lo) (readyP true l).1 ds
theorem no_script (w : World) (X : Nat → Prop) : ScriptC w X noScript [.bool false, .slice none 0 0, .slice none 0 0] :=
  ⟨_, _, rfl, ⟨none, 0, 0, rfl, ⟨rfl, fun h => absurd h (Nat.lt_irrefl 0)⟩, Nat.zero_le _⟩, ⟨none, 0, 0, rfl, ⟨[], rfl, rfl, by simp, by simp, rfl, fun h => absurd h (Nat.lt_irrefl 0)⟩, Nat.zero_le _⟩⟩
/-- The three result variables' cells. -/
def Res3 (w : World) (cf cb cr : Array Value) (wx : World) : Prop :=
  Blk wx w.heap.size 26 cf ∧ Blk wx (w.heap.size + 1) 26 cb ∧ Blk wx (w.heap.size + 2) 29 cr ∧ Below w.heap.size w wx
theorem Res3.below {w wx w2 : World} {cf cb cr : Array Value} (h : Res3 w cf cb cr wx) (hb : Below wx.heap.size wx w2) : Res3 w cf cb cr w2 :=
  ⟨Blk.below h.1 hb h.1.lt, Blk.below h.2.1 hb h.2.1.lt, Blk.below h.2.2.1 hb h.2.2.1.lt, h.2.2.2.trans (hb.mono h.2.2.2.size)⟩
theorem Res3.made (w : World) : Res3 w zeroScript zeroScript #[.int .i64 0, .int .i64 0] (((w.alloc (.cells zeroScript 26)).alloc (.cells zeroScript 26)).alloc (.cells #[.int .i64 0, .int .i64 0] 29)) := by
  refine ⟨Blk.alloc (Blk.alloc (Blk.new _ _ _) _) _, ?_, ?_, (((Below.refl _ _).alloc (Nat.le_refl _) _).alloc (by simp) _).alloc (by simp; omega) _⟩
  · have := Blk.alloc (Blk.new (w.alloc (.cells zeroScript 26)) 26 zeroScript) (.cells #[.int .i64 0, .int .i64 0] 29)
    simpa using this
  · have := Blk.new ((w.alloc (.cells zeroScript 26)).alloc (.cells zeroScript 26)) 29 #[.int .i64 0, .int .i64 0]
    simpa using this

set_option maxRecDepth 100000 in
set_option maxHeartbeats 3200000 in
theorem syn_ready_wrong (B : Nat) (A : Option Addr) (n c : Nat) (l : List PartD) (w : World) (hn : n ≤ maxLen) (hB : B ≤ w.heap.size) (hl : RdP w B A n l) (hw : (fileP l).1 ≠ 0) :
    Calls Try.prog 14 #[.slice A n c] w fun e w' => RdyPost B w.heap.size w' l e ∧ Below w.heap.size w w' := by
  have hrf : ∀ w', Below w.heap.size w w' → Calls Try.prog 22 #[.slice A n c] w' fun e w2 => e = .returned (.agg #[.int .i64 (fileP l).1, .int .i64 (fileP l).2]) ∧ Below w'.heap.size w' w2 :=
    fun w' hb => rulesyn_wrong A n c l w' hn (RdP.weak (weak_of (hb.mono hB) (Nat.le_trans hB hb.size)) hl)
  have hne : ((fileP l).1 != 0) = true := by simpa using hw
  have hp1 := Lib.hid (readyP_wrong (back := false) hw)
  have hp2 := Lib.hid (readyP_wrong (back := true) hw)
  clear hw hl hn
  generalize hF : fileP l = F at *
  obtain ⟨F1, F2⟩ := F
  dsimp only at *
  clear hF
  have HRF := Lib.hid hrf
  have HR0 := Lib.hid (Res3.made w)
  clear hrf
  go_enter Try.func14, Try.ntmps14
  go_wp2_with fail
  refine (HRF.out _ HR0.out.2.2.2).mono ?_
  rintro e w1 ⟨rfl, hb1⟩
  have hr := Res3.below HR0.out hb1
  have a0 : w1.cell? ⟨w.heap.size, 0, none⟩ = some (.bool false) := hr.1.cell 0
  have a1 : w1.cell? ⟨w.heap.size, 1, none⟩ = some (.slice none 0 0) := hr.1.cell 1
  have a2 : w1.cell? ⟨w.heap.size, 2, none⟩ = some (.slice none 0 0) := hr.1.cell 2
  have b0 : w1.cell? ⟨w.heap.size + 1, 0, none⟩ = some (.bool false) := hr.2.1.cell 0
  have b1 : w1.cell? ⟨w.heap.size + 1, 1, none⟩ = some (.slice none 0 0) := hr.2.1.cell 1
  have b2 : w1.cell? ⟨w.heap.size + 1, 2, none⟩ = some (.slice none 0 0) := hr.2.1.cell 2
  have c0 : w1.cell? ⟨w.heap.size + 2, 0, none⟩ = some (.int .i64 0) := hr.2.2.1.cell 0
  have c1 : w1.cell? ⟨w.heap.size + 2, 1, none⟩ = some (.int .i64 0) := hr.2.2.1.cell 1
  have d0 := hr.1.frozen 0
  have d1 := hr.1.frozen 1
  have d2 := hr.1.frozen 2
  have d3 := hr.2.1.frozen 0
  have d4 := hr.2.1.frozen 1
  have d5 := hr.2.1.frozen 2
  have d6 := hr.2.2.1.frozen 0
  have d7 := hr.2.2.1.frozen 1
  have HR := Lib.hid hr
  clear hb1 hr
  go_upto_region 3 with fail
  have hr3 : Res3 w zeroScript zeroScript #[.int .i64 F1, .int .i64 F2] ((w1.setCell ⟨w.heap.size + 1 + 1, 0, none⟩ (.int .i64 F1)).setCell ⟨w.heap.size + 1 + 1, 1, none⟩ (.int .i64 F2)) := by
    obtain ⟨g1, g2, g3, g4⟩ := HR.out
    refine ⟨blk_set_ne (blk_set_ne g1 (by omega)) (by omega), blk_set_ne (blk_set_ne g2 (by omega)) (by omega), ?_, (g4.setCell (by simp; omega) _).setCell (by simp; omega) _⟩
    have := (g3.put 0 (.int .i64 F1)).put 1 (.int .i64 F2)
    simpa using this
  clear a0 a1 a2 b0 b1 b2 c0 c1 d0 d1 d2 d3 d4 d5 d6 d7 HR
  generalize (w1.setCell ⟨w.heap.size + 1 + 1, 0, none⟩ (.int .i64 F1)).setCell ⟨w.heap.size + 1 + 1, 1, none⟩ (.int .i64 F2) = W3 at *
  have a0 : W3.cell? ⟨w.heap.size, 0, none⟩ = some (.bool false) := hr3.1.cell 0
  have a1 : W3.cell? ⟨w.heap.size, 1, none⟩ = some (.slice none 0 0) := hr3.1.cell 1
  have a2 : W3.cell? ⟨w.heap.size, 2, none⟩ = some (.slice none 0 0) := hr3.1.cell 2
  have b0 : W3.cell? ⟨w.heap.size + 1, 0, none⟩ = some (.bool false) := hr3.2.1.cell 0
  have b1 : W3.cell? ⟨w.heap.size + 1, 1, none⟩ = some (.slice none 0 0) := hr3.2.1.cell 1
  have b2 : W3.cell? ⟨w.heap.size + 1, 2, none⟩ = some (.slice none 0 0) := hr3.2.1.cell 2
  have c0 : W3.cell? ⟨w.heap.size + 1 + 1, 0, none⟩ = some (.int .i64 F1) := hr3.2.2.1.cell 0
  have c1 : W3.cell? ⟨w.heap.size + 1 + 1, 1, none⟩ = some (.int .i64 F2) := hr3.2.2.1.cell 1
  have d0 := hr3.1.frozen 0
  have d1 := hr3.1.frozen 1
  have d2 := hr3.1.frozen 2
  have d3 := hr3.2.1.frozen 0
  have d4 := hr3.2.1.frozen 1
  have d5 := hr3.2.1.frozen 2
  have d6 : W3.frozen? ⟨w.heap.size + 1 + 1, 0, none⟩ = false := hr3.2.2.1.frozen 0
  have d7 : W3.frozen? ⟨w.heap.size + 1 + 1, 1, none⟩ = false := hr3.2.2.1.frozen 1
  have HB2 := Lib.hid hr3.2.2.2
  clear hr3
  go_region
  all_goals
    go_wp2_with fail
    have hbl := (((((((HB2.out.setCell (p := ⟨w.heap.size, 0, none⟩) (by simp) (.bool false)).setCell (p := ⟨w.heap.size, 1, none⟩) (by simp) (.slice none 0 0)).setCell (p := ⟨w.heap.size, 2, none⟩) (by simp) (.slice none 0 0)).setCell (p := ⟨w.heap.size + 1, 0, none⟩) (by simp) (.bool false)).setCell (p := ⟨w.heap.size + 1, 1, none⟩) (by simp) (.slice none 0 0)).setCell (p := ⟨w.heap.size + 1, 2, none⟩) (by simp) (.slice none 0 0)).setCell (p := ⟨w.heap.size + 1 + 1, 0, none⟩) (by simp; omega) (.int .i64 F1)).setCell (p := ⟨w.heap.size + 1 + 1, 1, none⟩) (by simp; omega) (.int .i64 F2)
    refine bodyPost_ret (v := .tuple #[.agg #[.bool false, .slice none 0 0, .slice none 0 0], .agg #[.bool false, .slice none 0 0, .slice none 0 0], .agg #[.int .i64 F1, .int .i64 F2]]) (by simp [results, Try.results14, go_sem, a0, a1, a2, b0, b1, b2, c0, c1]) rfl ⟨⟨[.bool false, .slice none 0 0, .slice none 0 0], [.bool false, .slice none 0 0, .slice none 0 0], rfl, rfl, by rw [hp1.out], by rw [hp1.out]; exact no_script _ _, by rw [hp2.out]; exact no_script _ _⟩, ?_⟩
    exact hbl.drew

end Go.Proofs.Ythcjiainpaebfaa
