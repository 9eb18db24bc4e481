/- The walk of scriptlaw6.ResolveTells: for every file it returns true; nothing that was there is changed. -/
import Derived.Test.YthcjiainpaebfaaForth
import Derived.Test.YthcjiainpaebfaaRefReady
namespace Go.Proofs.Ythcjiainpaebfaa
open Go.RowKit Go.Maps

theorem ref_ready (B : Nat) (A : Option Addr) (n c : Nat) (l : List PartD) (back : Bool) (w : World) (hn : n ≤ maxLen) (hB : B ≤ w.heap.size) (hl : RdP w B A n l) :
    Calls Try.prog 7 #[.slice A n c, .bool back] w fun e w' => RfPost B w.heap.size w' l back e ∧ Below w.heap.size w w' := by
  by_cases hw : (fileP l).1 = 0
  · exact ref_ready_ok B A n c l back w hn hB hl hw
  · exact ref_ready_wrong B A n c l back w hn hB hl hw

set_option maxRecDepth 100000 in
set_option maxHeartbeats 6400000 in
theorem resolve_tells (A : Option Addr) (n c : Nat) (l : List PartD) (w : World) (hn : n ≤ maxLen) (hl : RdP w w.heap.size A n l) :
    Calls Try.prog 3 #[.slice A n c] w fun e w' => e = .returned (.bool true) ∧ Below w.heap.size w w' := by
  have H1 := Lib.hid (fun (w' : World) (hb : Below w.heap.size w w') => syn_forth w.heap.size A n c l w' hn hb.size (RdP.weak (weak_of hb (Nat.le_refl _)) hl))
  have H2 := Lib.hid (fun (back : Bool) (w' : World) (hb : Below w.heap.size w w') => ref_ready w.heap.size A n c l back w' hn hb.size (RdP.weak (weak_of hb (Nat.le_refl _)) hl))
  have H3 := Lib.hid (fun (w' : World) (hb : Below w.heap.size w w') => syn_back w.heap.size A n c l w' hn hb.size (RdP.weak (weak_of hb (Nat.le_refl _)) hl))
  have HFE := Lib.hid (ready_fault l)
  clear hl
  go_enter Try.func3, Try.ntmps3
  go_wp2_with fail
  refine (H1.out _ (Below.refl _ _)).mono ?_
  rintro e w1 ⟨⟨cs, _, rfl, hcs⟩, hb1⟩
  obtain ⟨A1, n1, c1, A2, n2, c2, rfl⟩ := script_form hcs
  obtain ⟨hq0, hq1, hq2, hq3⟩ := two_new w1 26 29 #[.bool (readyP false l).1.only?, .slice A1 n1 c1, .slice A2 n2 c2] #[.int .i64 (readyP false l).2.1, .int .i64 (readyP false l).2.2]
  have HQ0 := Lib.hid hq0
  have HQ1 := Lib.hid hq1
  have HB1 := Lib.hid (hb1.trans (hq2.mono hb1.size))
  have hw01 := hb1.size
  have HCS := Lib.hid (hcs.keep (Keeps.below (X' := Fr w.heap.size w.heap.size) hq2 (fun _ h _ => h)))
  clear hq0 hq1 hq2 hq3 hcs hb1
  go_wp2_with fail
  refine (H2.out false _ HB1.out).mono ?_
  rintro e w2 ⟨⟨ds, _, rfl, hds⟩, hb2⟩
  obtain ⟨B1, m1, d1, B2, m2, d2, rfl⟩ := script_form hds
  obtain ⟨hq0, hq1, hq2, hq3⟩ := two_new w2 26 29 #[.bool (readyP false l).1.only?, .slice B1 m1 d1, .slice B2 m2 d2] #[.int .i64 (readyP false l).2.1, .int .i64 (readyP false l).2.2]
  have hb3 := hb2.trans (hq2.mono hb2.size)
  have hz1 := HQ1.out.lt
  have hz2 := hb2.size
  have HA0 := Lib.hid (Blk.below HQ0.out hb3 HQ0.out.lt)
  have HA1 := Lib.hid (Blk.below HQ1.out hb3 HQ1.out.lt)
  have HB0 := Lib.hid hq0
  have HB1' := Lib.hid hq1
  have HBL := Lib.hid (HB1.out.trans (hb3.mono HB1.out.size))
  have HCS2 := Lib.hid (HCS.out.keep (Keeps.below (X' := fun _ => True) hb3 (fun _ _ _ => trivial)))
  have HDS2 := Lib.hid (hds.keep (Keeps.below (X' := fun _ => True) hq2 (fun _ _ _ => trivial)))
  clear hq0 hq1 hq2 hq3 hds hb2 hb3 HCS HQ0 HQ1 HB1
  go_upto_region 3 with fail
  have ha0 := HA0.out
  have ha1 := HA1.out
  have hb0 := HB0.out
  have hb1 := HB1'.out
  have hbl := HBL.out
  have hcs2 := HCS2.out
  have hds2 := HDS2.out
  have hzz : ((w2.alloc (.cells #[.bool (readyP false l).1.only?, .slice B1 m1 d1, .slice B2 m2 d2] 26)).alloc (.cells #[.int .i64 (readyP false l).2.1, .int .i64 (readyP false l).2.2] 29)).heap.size = w2.heap.size + 2 := by simp
  clear HA0 HA1 HB0 HB1' HBL HCS2 HDS2
  generalize (w2.alloc (.cells #[.bool (readyP false l).1.only?, .slice B1 m1 d1, .slice B2 m2 d2] 26)).alloc (.cells #[.int .i64 (readyP false l).2.1, .int .i64 (readyP false l).2.2] 29) = W2 at *
  have HSM := Lib.hid (script_same _ _ _ W2 _ _ hcs2 hds2)
  clear hcs2 hds2
  generalize hFF : (readyP false l).2 = FF at *
  generalize (readyP false l).1.only? = oa at *
  obtain ⟨F1, F2⟩ := FF
  dsimp only at *
  have x0 : W2.cell? ⟨w1.heap.size, 0, none⟩ = some (.bool oa) := ha0.cell 0
  have x1 : W2.cell? ⟨w1.heap.size, 1, none⟩ = some (.slice A1 n1 c1) := ha0.cell 1
  have x2 : W2.cell? ⟨w1.heap.size, 2, none⟩ = some (.slice A2 n2 c2) := ha0.cell 2
  have x3 : W2.cell? ⟨w1.heap.size + 1, 0, none⟩ = some (.int .i64 F1) := ha1.cell 0
  have x4 : W2.cell? ⟨w1.heap.size + 1, 1, none⟩ = some (.int .i64 F2) := ha1.cell 1
  have y0 : W2.cell? ⟨w2.heap.size, 0, none⟩ = some (.bool oa) := hb0.cell 0
  have y1 : W2.cell? ⟨w2.heap.size, 1, none⟩ = some (.slice B1 m1 d1) := hb0.cell 1
  have y2 : W2.cell? ⟨w2.heap.size, 2, none⟩ = some (.slice B2 m2 d2) := hb0.cell 2
  have y3 : W2.cell? ⟨w2.heap.size + 1, 0, none⟩ = some (.int .i64 F1) := hb1.cell 0
  have y4 : W2.cell? ⟨w2.heap.size + 1, 1, none⟩ = some (.int .i64 F2) := hb1.cell 1
  have HA0 := Lib.hid ha0
  have HA1 := Lib.hid ha1
  have HB0 := Lib.hid hb0
  have HB1 := Lib.hid hb1
  have HBL := Lib.hid hbl
  have HF0 := Lib.hid hFF
  clear ha0 ha1 hb0 hb1 hbl hFF hzz
  go_wp2_with fail
  refine HSM.out.mono ?_
  rintro e w3 ⟨rfl, hb3⟩
  have HA03 := Lib.hid (Blk.below HA0.out hb3 HA0.out.lt)
  have HA13 := Lib.hid (Blk.below HA1.out hb3 HA1.out.lt)
  have HB03 := Lib.hid (Blk.below HB0.out hb3 HB0.out.lt)
  have HB13 := Lib.hid (Blk.below HB1.out hb3 HB1.out.lt)
  have HBL3 := Lib.hid (HBL.out.trans (hb3.mono HBL.out.size))
  have hl2 := HB1.out.lt
  have hz3 := hb3.size
  clear hb3 HA0 HA1 HB0 HB1 HBL HSM x0 x1 x2 x3 x4 y0 y1 y2 y3 y4
  go_wp2_with fail
  refine (H3.out _ HBL3.out).mono ?_
  rintro e w4 ⟨⟨es, _, he, hes⟩, hb4⟩
  rw [HFE.out] at he
  dsimp only at he
  subst he
  obtain ⟨E1, p1, q1, E2, p2, q2, rfl⟩ := script_form hes
  generalize hob : (readyP true l).1.only? = ob at *
  have HOB := Lib.hid hob
  have ha0 := Blk.below HA03.out hb4 HA03.out.lt
  have ha1 := Blk.below HA13.out hb4 HA13.out.lt
  have HB04 := Lib.hid (blk_set_ne (g := w1.heap.size + 1) (i := 1) (u := .int .i64 F2) (blk_set_ne (g := w1.heap.size + 1) (i := 0) (u := .int .i64 F1) (blk_set_ne (g := w1.heap.size) (i := 2) (u := .slice E2 p2 q2) (blk_set_ne (g := w1.heap.size) (i := 1) (u := .slice E1 p1 q1) (blk_set_ne (g := w1.heap.size) (i := 0) (u := .bool ob) (Blk.below HB03.out hb4 HB03.out.lt) (by omega)) (by omega)) (by omega)) (by omega)) (by omega))
  have HB14 := Lib.hid (blk_set_ne (g := w1.heap.size + 1) (i := 1) (u := .int .i64 F2) (blk_set_ne (g := w1.heap.size + 1) (i := 0) (u := .int .i64 F1) (blk_set_ne (g := w1.heap.size) (i := 2) (u := .slice E2 p2 q2) (blk_set_ne (g := w1.heap.size) (i := 1) (u := .slice E1 p1 q1) (blk_set_ne (g := w1.heap.size) (i := 0) (u := .bool ob) (Blk.below HB13.out hb4 HB13.out.lt) (by omega)) (by omega)) (by omega)) (by omega)) (by omega))
  have hA0 : Blk (((((w4.setCell ⟨w1.heap.size, 0, none⟩ (.bool ob)).setCell ⟨w1.heap.size, 1, none⟩ (.slice E1 p1 q1)).setCell ⟨w1.heap.size, 2, none⟩ (.slice E2 p2 q2)).setCell ⟨w1.heap.size + 1, 0, none⟩ (.int .i64 F1)).setCell ⟨w1.heap.size + 1, 1, none⟩ (.int .i64 F2)) w1.heap.size 26 #[.bool ob, .slice E1 p1 q1, .slice E2 p2 q2] := blk_set_ne (blk_set_ne (((ha0.put 0 (.bool ob)).put 1 (.slice E1 p1 q1)).put 2 (.slice E2 p2 q2)) (by omega)) (by omega)
  have hA1 : Blk (((((w4.setCell ⟨w1.heap.size, 0, none⟩ (.bool ob)).setCell ⟨w1.heap.size, 1, none⟩ (.slice E1 p1 q1)).setCell ⟨w1.heap.size, 2, none⟩ (.slice E2 p2 q2)).setCell ⟨w1.heap.size + 1, 0, none⟩ (.int .i64 F1)).setCell ⟨w1.heap.size + 1, 1, none⟩ (.int .i64 F2)) (w1.heap.size + 1) 29 #[.int .i64 F1, .int .i64 F2] := ((blk_set_ne (blk_set_ne (blk_set_ne ha1 (by omega)) (by omega)) (by omega)).put 0 (.int .i64 F1)).put 1 (.int .i64 F2)
  have HA0 := Lib.hid hA0
  have HA1 := Lib.hid hA1
  have HBL4 := Lib.hid (((((((HBL3.out.trans (hb4.mono HBL3.out.size)).setCell (p := ⟨w1.heap.size, 0, none⟩) (by dsimp only; omega) (.bool ob)).setCell (p := ⟨w1.heap.size, 1, none⟩) (by dsimp only; omega) (.slice E1 p1 q1)).setCell (p := ⟨w1.heap.size, 2, none⟩) (by dsimp only; omega) (.slice E2 p2 q2)).setCell (p := ⟨w1.heap.size + 1, 0, none⟩) (by dsimp only; omega) (.int .i64 F1)).setCell (p := ⟨w1.heap.size + 1, 1, none⟩) (by dsimp only; omega) (.int .i64 F2)))
  have HES := Lib.hid (hes.keep (((((fr_set (B := w.heap.size) (s := w3.heap.size) (g := w1.heap.size) (i := 0) (u := .bool ob) (by omega) (by omega)).trans (fr_set (g := w1.heap.size) (i := 1) (u := .slice E1 p1 q1) (by omega) (by omega))).trans (fr_set (g := w1.heap.size) (i := 2) (u := .slice E2 p2 q2) (by omega) (by omega))).trans (fr_set (g := w1.heap.size + 1) (i := 0) (u := .int .i64 F1) (by omega) (by omega))).trans (fr_set (g := w1.heap.size + 1) (i := 1) (u := .int .i64 F2) (by omega) (by omega))))
  have x0 : w4.cell? ⟨w1.heap.size, 0, none⟩ = some (.bool oa) := ha0.cell 0
  have x1 : w4.cell? ⟨w1.heap.size, 1, none⟩ = some (.slice A1 n1 c1) := ha0.cell 1
  have x2 : w4.cell? ⟨w1.heap.size, 2, none⟩ = some (.slice A2 n2 c2) := ha0.cell 2
  have x3 : w4.cell? ⟨w1.heap.size + 1, 0, none⟩ = some (.int .i64 F1) := ha1.cell 0
  have x4 : w4.cell? ⟨w1.heap.size + 1, 1, none⟩ = some (.int .i64 F2) := ha1.cell 1
  have f0 := ha0.frozen 0
  have f1 := ha0.frozen 1
  have f2 := ha0.frozen 2
  have f3 := ha1.frozen 0
  have f4 := ha1.frozen 1
  clear hes hb4 ha0 ha1 hA0 hA1 hob HA03 HA13 HB03 HB13 HBL3
  go_upto_region 6 with fail
  have hA0 := HA0.out
  have hA1 := HA1.out
  have hB0 := HB04.out
  have hB1 := HB14.out
  have hbl := HBL4.out
  have hes := HES.out
  clear HA0 HA1 HB04 HB14 HBL4 HES x0 x1 x2 x3 x4 f0 f1 f2 f3 f4
  generalize ((((w4.setCell ⟨w1.heap.size, 0, none⟩ (.bool ob)).setCell ⟨w1.heap.size, 1, none⟩ (.slice E1 p1 q1)).setCell ⟨w1.heap.size, 2, none⟩ (.slice E2 p2 q2)).setCell ⟨w1.heap.size + 1, 0, none⟩ (.int .i64 F1)).setCell ⟨w1.heap.size + 1, 1, none⟩ (.int .i64 F2) = W4 at *
  have HA0 := Lib.hid hA0
  have HA1 := Lib.hid hA1
  have HB0 := Lib.hid hB0
  have HB1 := Lib.hid hB1
  have HBL := Lib.hid hbl
  have HES := Lib.hid hes
  have hl4 := hB1.lt
  have hl5 := hA1.lt
  clear hA0 hA1 hB0 hB1 hbl hes
  go_wp2_with fail
  refine (H2.out true _ HBL.out).mono ?_
  rintro e w5 ⟨⟨ks, _, he, hks⟩, hb5⟩
  rw [HFE.out] at he
  dsimp only at he
  subst he
  obtain ⟨K1, r1, s1, K2, r2, s2, rfl⟩ := script_form hks
  rw [HOB.out] at hks ⊢
  have hzz := hb5.size
  have ha0 := Blk.below HA0.out hb5 HA0.out.lt
  have ha1 := Blk.below HA1.out hb5 HA1.out.lt
  have hb0 := Blk.below HB0.out hb5 HB0.out.lt
  have hb1 := Blk.below HB1.out hb5 HB1.out.lt
  have HA05 := Lib.hid (blk_set_ne (g := w2.heap.size + 1) (i := 1) (u := .int .i64 F2) (blk_set_ne (g := w2.heap.size + 1) (i := 0) (u := .int .i64 F1) (blk_set_ne (g := w2.heap.size) (i := 2) (u := .slice K2 r2 s2) (blk_set_ne (g := w2.heap.size) (i := 1) (u := .slice K1 r1 s1) (blk_set_ne (g := w2.heap.size) (i := 0) (u := .bool ob) ha0 (by omega)) (by omega)) (by omega)) (by omega)) (by omega))
  have HA15 := Lib.hid (blk_set_ne (g := w2.heap.size + 1) (i := 1) (u := .int .i64 F2) (blk_set_ne (g := w2.heap.size + 1) (i := 0) (u := .int .i64 F1) (blk_set_ne (g := w2.heap.size) (i := 2) (u := .slice K2 r2 s2) (blk_set_ne (g := w2.heap.size) (i := 1) (u := .slice K1 r1 s1) (blk_set_ne (g := w2.heap.size) (i := 0) (u := .bool ob) ha1 (by omega)) (by omega)) (by omega)) (by omega)) (by omega))
  have HB05 := Lib.hid (show Blk (((((w5.setCell ⟨w2.heap.size, 0, none⟩ (.bool ob)).setCell ⟨w2.heap.size, 1, none⟩ (.slice K1 r1 s1)).setCell ⟨w2.heap.size, 2, none⟩ (.slice K2 r2 s2)).setCell ⟨w2.heap.size + 1, 0, none⟩ (.int .i64 F1)).setCell ⟨w2.heap.size + 1, 1, none⟩ (.int .i64 F2)) w2.heap.size 26 #[.bool ob, .slice K1 r1 s1, .slice K2 r2 s2] from blk_set_ne (blk_set_ne (((hb0.put 0 (.bool ob)).put 1 (.slice K1 r1 s1)).put 2 (.slice K2 r2 s2)) (by omega)) (by omega))
  have HB15 := Lib.hid (show Blk (((((w5.setCell ⟨w2.heap.size, 0, none⟩ (.bool ob)).setCell ⟨w2.heap.size, 1, none⟩ (.slice K1 r1 s1)).setCell ⟨w2.heap.size, 2, none⟩ (.slice K2 r2 s2)).setCell ⟨w2.heap.size + 1, 0, none⟩ (.int .i64 F1)).setCell ⟨w2.heap.size + 1, 1, none⟩ (.int .i64 F2)) (w2.heap.size + 1) 29 #[.int .i64 F1, .int .i64 F2] from ((blk_set_ne (blk_set_ne (blk_set_ne hb1 (by omega)) (by omega)) (by omega)).put 0 (.int .i64 F1)).put 1 (.int .i64 F2))
  have hwz : w.heap.size ≤ w1.heap.size := hw01
  have HBL5 := Lib.hid (((((((HBL.out.trans (hb5.mono HBL.out.size)).setCell (p := ⟨w2.heap.size, 0, none⟩) (by dsimp only; omega) (.bool ob)).setCell (p := ⟨w2.heap.size, 1, none⟩) (by dsimp only; omega) (.slice K1 r1 s1)).setCell (p := ⟨w2.heap.size, 2, none⟩) (by dsimp only; omega) (.slice K2 r2 s2)).setCell (p := ⟨w2.heap.size + 1, 0, none⟩) (by dsimp only; omega) (.int .i64 F1)).setCell (p := ⟨w2.heap.size + 1, 1, none⟩) (by dsimp only; omega) (.int .i64 F2)))
  have fchain : ∀ s, w2.heap.size + 1 < s → Keeps w5 (Fr w.heap.size s) (((((w5.setCell ⟨w2.heap.size, 0, none⟩ (.bool ob)).setCell ⟨w2.heap.size, 1, none⟩ (.slice K1 r1 s1)).setCell ⟨w2.heap.size, 2, none⟩ (.slice K2 r2 s2)).setCell ⟨w2.heap.size + 1, 0, none⟩ (.int .i64 F1)).setCell ⟨w2.heap.size + 1, 1, none⟩ (.int .i64 F2)) (Fr w.heap.size s) := fun s hs => ((((fr_set (by omega) (by omega)).trans (fr_set (by omega) (by omega))).trans (fr_set (by omega) (by omega))).trans (fr_set (by omega) (by omega))).trans (fr_set (by omega) (by omega))
  have HSM := Lib.hid (script_same _ _ _ (((((w5.setCell ⟨w2.heap.size, 0, none⟩ (.bool ob)).setCell ⟨w2.heap.size, 1, none⟩ (.slice K1 r1 s1)).setCell ⟨w2.heap.size, 2, none⟩ (.slice K2 r2 s2)).setCell ⟨w2.heap.size + 1, 0, none⟩ (.int .i64 F1)).setCell ⟨w2.heap.size + 1, 1, none⟩ (.int .i64 F2)) _ _ ((HES.out.keep (Keeps.below (X' := Fr w.heap.size w3.heap.size) hb5 (fun _ h _ => h))).keep (fchain _ (by omega))) (hks.keep (fchain _ (by omega))))
  have y0 : w5.cell? ⟨w2.heap.size, 0, none⟩ = some (.bool oa) := hb0.cell 0
  have y1 : w5.cell? ⟨w2.heap.size, 1, none⟩ = some (.slice B1 m1 d1) := hb0.cell 1
  have y2 : w5.cell? ⟨w2.heap.size, 2, none⟩ = some (.slice B2 m2 d2) := hb0.cell 2
  have y3 : w5.cell? ⟨w2.heap.size + 1, 0, none⟩ = some (.int .i64 F1) := hb1.cell 0
  have y4 : w5.cell? ⟨w2.heap.size + 1, 1, none⟩ = some (.int .i64 F2) := hb1.cell 1
  have f0 := hb0.frozen 0
  have f1 := hb0.frozen 1
  have f2 := hb0.frozen 2
  have f3 := hb1.frozen 0
  have f4 := hb1.frozen 1
  clear hks hb5 ha0 ha1 hb0 hb1 fchain HA0 HA1 HB0 HB1 HBL HES
  go_upto_region 7 with fail
  have hA0 := HA05.out
  have hA1 := HA15.out
  have hB0 := HB05.out
  have hB1 := HB15.out
  have hbl := HBL5.out
  have hsm := HSM.out
  clear HA05 HA15 HB05 HB15 HBL5 HSM y0 y1 y2 y3 y4 f0 f1 f2 f3 f4
  generalize ((((w5.setCell ⟨w2.heap.size, 0, none⟩ (.bool ob)).setCell ⟨w2.heap.size, 1, none⟩ (.slice K1 r1 s1)).setCell ⟨w2.heap.size, 2, none⟩ (.slice K2 r2 s2)).setCell ⟨w2.heap.size + 1, 0, none⟩ (.int .i64 F1)).setCell ⟨w2.heap.size + 1, 1, none⟩ (.int .i64 F2) = W5 at *
  have x0 : W5.cell? ⟨w1.heap.size, 0, none⟩ = some (.bool ob) := hA0.cell 0
  have x1 : W5.cell? ⟨w1.heap.size, 1, none⟩ = some (.slice E1 p1 q1) := hA0.cell 1
  have x2 : W5.cell? ⟨w1.heap.size, 2, none⟩ = some (.slice E2 p2 q2) := hA0.cell 2
  have x3 : W5.cell? ⟨w1.heap.size + 1, 0, none⟩ = some (.int .i64 F1) := hA1.cell 0
  have x4 : W5.cell? ⟨w1.heap.size + 1, 1, none⟩ = some (.int .i64 F2) := hA1.cell 1
  have y0 : W5.cell? ⟨w2.heap.size, 0, none⟩ = some (.bool ob) := hB0.cell 0
  have y1 : W5.cell? ⟨w2.heap.size, 1, none⟩ = some (.slice K1 r1 s1) := hB0.cell 1
  have y2 : W5.cell? ⟨w2.heap.size, 2, none⟩ = some (.slice K2 r2 s2) := hB0.cell 2
  have y3 : W5.cell? ⟨w2.heap.size + 1, 0, none⟩ = some (.int .i64 F1) := hB1.cell 0
  have y4 : W5.cell? ⟨w2.heap.size + 1, 1, none⟩ = some (.int .i64 F2) := hB1.cell 1
  have HBL := Lib.hid hbl
  have HSM := Lib.hid hsm
  clear hA0 hA1 hB0 hB1 hbl hsm
  go_wp2_with fail
  refine HSM.out.mono ?_
  rintro e w6 ⟨rfl, hb6⟩
  have HBL6 := Lib.hid (HBL.out.trans (hb6.mono HBL.out.size))
  clear hb6
  go_wp2_with fail
  go_ret
  exact ⟨rfl, HBL6.out⟩

end Go.Proofs.Ythcjiainpaebfaa
