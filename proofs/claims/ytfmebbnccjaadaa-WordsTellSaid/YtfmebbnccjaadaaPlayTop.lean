/- The walk of vm.Play: it tells playP. -/
import Derived.Test.YtfmebbnccjaadaaPlay
namespace Go.Proofs.Ytfmebbnccjaadaa
open Go.RowKit

set_option maxRecDepth 100000 in
set_option maxHeartbeats 1600000 in
theorem vm_runs (X : Nat → Prop) (l : List RuleD) (Ar : Option Addr) (nr cr : Nat) (t : List Int) (At : Option Addr) (nt ct : Nat) (w : World) (hnr : nr ≤ maxLen) (hl : ListX (RuleC w X) w X 7 Ar nr l) (hnt : nt ≤ maxLen) (ht : RdR w w.heap.size At nt t) :
    Calls Try.prog 10 #[.slice Ar nr cr, .slice At nt ct] w fun e w' => PlayPost w.heap.size w' (playP l t) e ∧ Below w.heap.size w w' := by
  have hb0 := ((Below.refl w.heap.size w).alloc (Nat.le_refl _) (.cells #[.slice none 0 0, .int .i64 0, .int .i64 0] 25)).alloc (by simp) (.cells #[.int .i64 0, .int .i64 0] 28)
  have HX0 := Lib.hid (Blk.alloc (Blk.new w 25 #[.slice none 0 0, .int .i64 0, .int .i64 0]) (.cells #[.int .i64 0, .int .i64 0] 28))
  have HY0 := Lib.hid (show Blk ((w.alloc (.cells #[.slice none 0 0, .int .i64 0, .int .i64 0] 25)).alloc (.cells #[.int .i64 0, .int .i64 0] 28)) (w.heap.size + 1) 28 #[.int .i64 0, .int .i64 0] by
    have := Blk.new (w.alloc (.cells #[.slice none 0 0, .int .i64 0, .int .i64 0] 25)) 28 #[.int .i64 0, .int .i64 0]
    simpa using this)
  have HB0 := Lib.hid hb0
  have HP := Lib.hid (vm_play X l Ar nr cr t At nt ct _ hnr (hl.keep (Keeps.any hb0) (fun _ _ => RuleC.keep (Keeps.any hb0))) hnt ((Rd.below ht hb0).more hb0.size))
  clear hb0 hl ht
  go_enter Try.func10, Try.ntmps10
  go_wp2_with fail
  refine HP.out.mono ?_
  rintro e w1 ⟨⟨A, n, c, rfl, hr⟩, hb1⟩
  have hX := Blk.below HX0.out hb1 HX0.out.lt
  have hY := Blk.below HY0.out hb1 HY0.out.lt
  have HB1 := Lib.hid (HB0.out.trans (hb1.mono HB0.out.size))
  obtain ⟨o, f1, f2, ho⟩ : ∃ o f1 f2, playP l t = (o, (f1, f2)) := ⟨_, _, _, rfl⟩
  rw [ho] at hr ⊢
  have HR := Lib.hid hr
  have HOO := Lib.hid ho
  have x0 := hX.cell 0
  have x1 := hX.cell 1
  have x2 := hX.cell 2
  have y0 := hY.cell 0
  have y1 := hY.cell 1
  have p0 := hX.frozen 0
  have p1 := hX.frozen 1
  have p2 := hX.frozen 2
  have p3 := hY.frozen 0
  have p4 := hY.frozen 1
  have hbf := ((((HB1.out.setCell (p := ⟨w.heap.size, 0, none⟩) (by simp) (.slice A n c)).setCell (p := ⟨w.heap.size, 1, none⟩) (by simp) (.int .i64 o.steps)).setCell (p := ⟨w.heap.size, 2, none⟩) (by simp) (.int .i64 o.put)).setCell (p := ⟨w.heap.size + 1, 0, none⟩) (by simp) (.int .i64 f1)).setCell (p := ⟨w.heap.size + 1, 1, none⟩) (by simp) (.int .i64 f2)
  have HBF := Lib.hid hbf
  have hsz : (w.heap.size + 1 + 1) = w.heap.size + 2 := rfl
  have HQ := Lib.hid (show ∀ b, ((w.alloc (.cells #[.slice none 0 0, .int .i64 0, .int .i64 0] 25)).alloc (.cells #[.int .i64 0, .int .i64 0] 28)).heap.size ≤ b → w.heap.size + 2 ≤ b from fun b h => by simpa using h)
  have HRF := Lib.hid (HR.out.keep (X' := fun b => w.heap.size ≤ b) (((((Keeps.setCell (X' := fun b => w.heap.size + 2 ≤ b) (p := ⟨w.heap.size, 0, none⟩) (.slice A n c) (fun b h => by have := HQ.out b h; simp only; omega) (fun b h _ => HQ.out b h)).trans (Keeps.setCell (X' := fun b => w.heap.size + 2 ≤ b) (p := ⟨w.heap.size, 1, none⟩) (.int .i64 o.steps) (fun b h => by have h' : w.heap.size + 2 ≤ b := h; simp only; omega) (fun _ h _ => h))).trans (Keeps.setCell (X' := fun b => w.heap.size + 2 ≤ b) (p := ⟨w.heap.size, 2, none⟩) (.int .i64 o.put) (fun b h => by have h' : w.heap.size + 2 ≤ b := h; simp only; omega) (fun _ h _ => h))).trans (Keeps.setCell (X' := fun b => w.heap.size + 2 ≤ b) (p := ⟨w.heap.size + 1, 0, none⟩) (.int .i64 f1) (fun b h => by have h' : w.heap.size + 2 ≤ b := h; simp only; omega) (fun _ h _ => h))).trans (Keeps.setCell (p := ⟨w.heap.size + 1, 1, none⟩) (.int .i64 f2) (fun b h => by have h' : w.heap.size + 2 ≤ b := h; simp only; omega) (fun b h _ => by have h' : w.heap.size + 2 ≤ b := h; omega))))
  clear hX hY hbf hr hb1 ho HR HQ HP HX0 HY0 HB0 HB1
  go_wp2_with fail
  rw [HOO.out]
  exact bodyPost_ret (v := .tuple #[.agg #[.slice A n c, .int .i64 o.steps, .int .i64 o.put], .agg #[.int .i64 f1, .int .i64 f2]]) (by simp [results, Try.results10, go_sem, x0, x1, x2, y0, y1]) rfl ⟨⟨A, n, c, rfl, HRF.out⟩, HBF.out⟩

end Go.Proofs.Ytfmebbnccjaadaa
