/- resolve.Forth and resolve.Back. -/
import Derived.Test.YthcjiainpaebfaaReadyOk
import Derived.Test.YthcjiainpaebfaaRefWrong
namespace Go.Proofs.Ythcjiainpaebfaa
open Go.RowKit Go.Maps

theorem syn_ready (B : Nat) (A : Option Addr) (n c : Nat) (l : List PartD) (w : World) (hn : n ≤ maxLen) (hB : B ≤ w.heap.size) (hl : RdP w B A n l) :
    Calls Try.prog 14 #[.slice A n c] w fun e w' => RdyPost B w.heap.size w' l e ∧ Below w.heap.size w w' := by
  by_cases hw : (fileP l).1 = 0
  · exact syn_ready_ok B A n c l w hn hB hl hw
  · exact syn_ready_wrong B A n c l w hn hB hl hw
theorem ready_fault (l : List PartD) : (readyP true l).2 = (readyP false l).2 := by
  by_cases hw : (fileP l).1 = 0
  · rcases upto_both l l.length with ⟨s, t, h1, h2, _⟩ | ⟨e, h1, h2⟩
    · rw [readyP_ok hw h1, readyP_ok hw h2]
    · rw [readyP_error hw (Nat.le_refl _) h1, readyP_error hw (Nat.le_refl _) h2]
  · rw [readyP_wrong hw, readyP_wrong hw]
theorem script_form {w : World} {X : Nat → Prop} {s : ScriptD} {cs : List Value} (h : ScriptC w X s cs) : ∃ A1 n1 c1 A2 n2 c2, cs = [.bool s.only?, .slice A1 n1 c1, .slice A2 n2 c2] := by
  obtain ⟨u, v, rfl, ⟨A1, n1, c1, rfl, _⟩, ⟨A2, n2, c2, rfl, _⟩⟩ := h
  exact ⟨_, _, _, _, _, _, rfl⟩
theorem two_new (w : World) (t1 t2 : TypeId) (c1 c2 : Array Value) : Blk ((w.alloc (.cells c1 t1)).alloc (.cells c2 t2)) w.heap.size t1 c1 ∧ Blk ((w.alloc (.cells c1 t1)).alloc (.cells c2 t2)) (w.heap.size + 1) t2 c2 ∧ Below w.heap.size w ((w.alloc (.cells c1 t1)).alloc (.cells c2 t2)) ∧ ((w.alloc (.cells c1 t1)).alloc (.cells c2 t2)).heap.size = w.heap.size + 2 :=
  ⟨Blk.alloc (Blk.new _ _ _) _, by simpa using Blk.new (w.alloc (.cells c1 t1)) t2 c2, ((Below.refl _ _).alloc (Nat.le_refl _) _).alloc (by simp) _, by simp⟩
set_option maxRecDepth 100000 in
set_option maxHeartbeats 3200000 in
theorem syn_forth (B : Nat) (A : Option Addr) (n c : Nat) (l : List PartD) (w : World) (hn : n ≤ maxLen) (hB : B ≤ w.heap.size) (hl : RdP w B A n l) :
    Calls Try.prog 6 #[.slice A n c] w fun e w' => RfPost B w.heap.size w' l false e ∧ Below w.heap.size w w' := by
  have HRD := Lib.hid (fun (w' : World) (hb : Below w.heap.size w w') => syn_ready B A n c l w' hn (Nat.le_trans hB hb.size) (RdP.weak (weak_of (hb.mono hB) (Nat.le_refl _)) hl))
  have HR0 := Lib.hid (show Blk ((w.alloc (.cells zeroScript 26)).alloc (.cells #[.int .i64 0, .int .i64 0] 29)) w.heap.size 26 zeroScript ∧ Blk ((w.alloc (.cells zeroScript 26)).alloc (.cells #[.int .i64 0, .int .i64 0] 29)) (w.heap.size + 1) 29 #[.int .i64 0, .int .i64 0] ∧ Below w.heap.size w ((w.alloc (.cells zeroScript 26)).alloc (.cells #[.int .i64 0, .int .i64 0] 29)) from
    ⟨Blk.alloc (Blk.new _ _ _) _, by simpa using Blk.new (w.alloc (.cells zeroScript 26)) 29 #[.int .i64 0, .int .i64 0], ((Below.refl _ _).alloc (Nat.le_refl _) _).alloc (by simp) _⟩)
  clear hl hn
  go_enter Try.func6, Try.ntmps6
  go_wp2_with fail
  refine (HRD.out _ HR0.out.2.2).mono ?_
  rintro e w1 ⟨⟨cs, ds, _, _, rfl, hcs, hds⟩, hb1⟩
  obtain ⟨A1, n1, c1, A2, n2, c2, rfl⟩ := script_form hcs
  obtain ⟨B1, m1, d1, B2, m2, d2, rfl⟩ := script_form hds
  rw [show ((w.alloc (.cells zeroScript 26)).alloc (.cells #[.int .i64 0, .int .i64 0] 29)).heap.size = w.heap.size + 2 by simp] at hcs hds
  have HCS := Lib.hid hcs
  have HXX := Lib.hid (And.intro (Blk.below HR0.out.1 hb1 HR0.out.1.lt) (And.intro (Blk.below HR0.out.2.1 hb1 HR0.out.2.1.lt) (HR0.out.2.2.trans (hb1.mono HR0.out.2.2.size))))
  have hgt := Nat.lt_of_lt_of_le HR0.out.2.1.lt hb1.size
  clear hcs hds hb1
  go_upto_region 2 with fail
  obtain ⟨hx, hy, hbl⟩ := HXX.out
  have hcs := HCS.out
  have HFE := Lib.hid (ready_fault l)
  clear HXX HCS HRD HR0
  have HPO : Hid (∀ (w' : World) (cs : List Value), cs.length = 3 → ScriptC w' (Fr B w.heap.size) (readyP false l).1 cs → RfPost B w.heap.size w' l false (.returned (.tuple #[.agg cs.toArray, .agg #[.int .i64 (readyP false l).2.1, .int .i64 (readyP false l).2.2]]))) := fun w' cs h3 h => ⟨cs, h3, rfl, h⟩
  generalize hRA : readyP false l = RA at *
  generalize hRB : readyP true l = RB at *
  have hb3 : Below w1.heap.size w1 (((w1.alloc (.cells #[.bool RA.1.only?, .slice A1 n1 c1, .slice A2 n2 c2] 26)).alloc (.cells #[.bool RB.1.only?, .slice B1 m1 d1, .slice B2 m2 d2] 26)).alloc (.cells #[.int .i64 RA.2.1, .int .i64 RA.2.2] 29)) := (((Below.refl _ _).alloc (Nat.le_refl _) _).alloc (by simp) _).alloc (by simp; omega) _
  have hq0 := Blk.alloc (Blk.alloc (Blk.new w1 26 #[.bool RA.1.only?, .slice A1 n1 c1, .slice A2 n2 c2]) (.cells #[.bool RB.1.only?, .slice B1 m1 d1, .slice B2 m2 d2] 26)) (.cells #[.int .i64 RA.2.1, .int .i64 RA.2.2] 29)
  have hq1 := Blk.alloc (Blk.new (w1.alloc (.cells #[.bool RA.1.only?, .slice A1 n1 c1, .slice A2 n2 c2] 26)) 26 #[.bool RB.1.only?, .slice B1 m1 d1, .slice B2 m2 d2]) (.cells #[.int .i64 RA.2.1, .int .i64 RA.2.2] 29)
  have hq2 := Blk.new ((w1.alloc (.cells #[.bool RA.1.only?, .slice A1 n1 c1, .slice A2 n2 c2] 26)).alloc (.cells #[.bool RB.1.only?, .slice B1 m1 d1, .slice B2 m2 d2] 26)) 29 #[.int .i64 RA.2.1, .int .i64 RA.2.2]
  rw [show (w1.alloc (.cells #[.bool RA.1.only?, .slice A1 n1 c1, .slice A2 n2 c2] 26)).heap.size = w1.heap.size + 1 by simp] at hq1
  rw [show ((w1.alloc (.cells #[.bool RA.1.only?, .slice A1 n1 c1, .slice A2 n2 c2] 26)).alloc (.cells #[.bool RB.1.only?, .slice B1 m1 d1, .slice B2 m2 d2] 26)).heap.size = w1.heap.size + 1 + 1 by simp] at hq2
  have hx3 := Blk.below hx hb3 hx.lt
  have hy3 := Blk.below hy hb3 hy.lt
  have hbl3 := hbl.trans (hb3.mono hbl.size)
  have hcs3 := hcs.keep (Keeps.below (X' := Fr B (w.heap.size + 2)) hb3 (fun _ h _ => h))
  clear hx hy hbl hcs hb3
  generalize ((w1.alloc (.cells #[.bool RA.1.only?, .slice A1 n1 c1, .slice A2 n2 c2] 26)).alloc (.cells #[.bool RB.1.only?, .slice B1 m1 d1, .slice B2 m2 d2] 26)).alloc (.cells #[.int .i64 RA.2.1, .int .i64 RA.2.2] 29) = W3 at *
  have a0 : W3.cell? ⟨w.heap.size, 0, none⟩ = some (.bool false) := hx3.cell 0
  have a1 : W3.cell? ⟨w.heap.size, 1, none⟩ = some (.slice none 0 0) := hx3.cell 1
  have a2 : W3.cell? ⟨w.heap.size, 2, none⟩ = some (.slice none 0 0) := hx3.cell 2
  have b0 : W3.cell? ⟨w.heap.size + 1, 0, none⟩ = some (.int .i64 0) := hy3.cell 0
  have b1 : W3.cell? ⟨w.heap.size + 1, 1, none⟩ = some (.int .i64 0) := hy3.cell 1
  have e0 : W3.cell? ⟨w1.heap.size, 0, none⟩ = some (.bool RA.1.only?) := hq0.cell 0
  have e1 : W3.cell? ⟨w1.heap.size, 1, none⟩ = some (.slice A1 n1 c1) := hq0.cell 1
  have e2 : W3.cell? ⟨w1.heap.size, 2, none⟩ = some (.slice A2 n2 c2) := hq0.cell 2
  have g0 : W3.cell? ⟨w1.heap.size + 1 + 1, 0, none⟩ = some (.int .i64 RA.2.1) := hq2.cell 0
  have g1 : W3.cell? ⟨w1.heap.size + 1 + 1, 1, none⟩ = some (.int .i64 RA.2.2) := hq2.cell 1
  have f0 := hx3.frozen 0
  have f1 := hx3.frozen 1
  have f2 := hx3.frozen 2
  have f3 := hy3.frozen 0
  have f4 := hy3.frozen 1
  have n0 : ¬ w.heap.size = w1.heap.size := by omega
  have n1' : ¬ w.heap.size = w1.heap.size + 1 := by omega
  have n2' : ¬ w.heap.size = w1.heap.size + 1 + 1 := by omega
  have n3 : ¬ w.heap.size + 1 = w1.heap.size := by omega
  have n4 : ¬ w.heap.size + 1 = w1.heap.size + 1 := by omega
  have n5 : ¬ w.heap.size + 1 = w1.heap.size + 1 + 1 := by omega
  have HBL := Lib.hid hbl3
  have HCS := Lib.hid hcs3
  clear hq0 hq1 hq2 hx3 hy3 hbl3 hcs3 hRA hRB
  go_region
  all_goals
    go_wp2_with fail
    have hbl := ((((HBL.out.setCell (p := ⟨w.heap.size, 0, none⟩) (by simp) (.bool RA.1.only?)).setCell (p := ⟨w.heap.size, 1, none⟩) (by simp) (.slice A1 n1 c1)).setCell (p := ⟨w.heap.size, 2, none⟩) (by simp) (.slice A2 n2 c2)).setCell (p := ⟨w.heap.size + 1, 0, none⟩) (by simp) (.int .i64 RA.2.1)).setCell (p := ⟨w.heap.size + 1, 1, none⟩) (by simp) (.int .i64 RA.2.2)
    have hkf : Keeps W3 (Fr B (w.heap.size + 2)) (((((W3.setCell ⟨w.heap.size, 0, none⟩ (.bool RA.1.only?)).setCell ⟨w.heap.size, 1, none⟩ (.slice A1 n1 c1)).setCell ⟨w.heap.size, 2, none⟩ (.slice A2 n2 c2)).setCell ⟨w.heap.size + 1, 0, none⟩ (.int .i64 RA.2.1)).setCell ⟨w.heap.size + 1, 1, none⟩ (.int .i64 RA.2.2)) (Fr B (w.heap.size + 2)) :=
      ((((fr_set (by omega) (by omega)).trans (fr_set (by omega) (by omega))).trans (fr_set (by omega) (by omega))).trans (fr_set (by omega) (by omega))).trans (fr_set (by omega) (by omega))
    have HFP := Lib.hid (HPO.out _ _ rfl (HCS.out.keep (hkf.trans (Keeps.below (Below.refl _ _).drew (fun _ h _ => h.imp id (fun h => by omega))))))
    have HBL2 := Lib.hid hbl.drew
    clear hbl hkf
    refine bodyPost_ret (v := .tuple #[.agg #[.bool RA.1.only?, .slice A1 n1 c1, .slice A2 n2 c2], .agg #[.int .i64 RA.2.1, .int .i64 RA.2.2]]) (by simp [results, Try.results6, go_sem, a0, a1, a2, b0, b1]) rfl ⟨?_, ?_⟩
    · exact HFP.out
    · exact HBL2.out
set_option maxRecDepth 100000 in
set_option maxHeartbeats 3200000 in
theorem syn_back (B : Nat) (A : Option Addr) (n c : Nat) (l : List PartD) (w : World) (hn : n ≤ maxLen) (hB : B ≤ w.heap.size) (hl : RdP w B A n l) :
    Calls Try.prog 9 #[.slice A n c] w fun e w' => RfPost B w.heap.size w' l true e ∧ Below w.heap.size w w' := by
  have HRD := Lib.hid (fun (w' : World) (hb : Below w.heap.size w w') => syn_ready B A n c l w' hn (Nat.le_trans hB hb.size) (RdP.weak (weak_of (hb.mono hB) (Nat.le_refl _)) hl))
  have HR0 := Lib.hid (show Blk ((w.alloc (.cells zeroScript 26)).alloc (.cells #[.int .i64 0, .int .i64 0] 29)) w.heap.size 26 zeroScript ∧ Blk ((w.alloc (.cells zeroScript 26)).alloc (.cells #[.int .i64 0, .int .i64 0] 29)) (w.heap.size + 1) 29 #[.int .i64 0, .int .i64 0] ∧ Below w.heap.size w ((w.alloc (.cells zeroScript 26)).alloc (.cells #[.int .i64 0, .int .i64 0] 29)) from
    ⟨Blk.alloc (Blk.new _ _ _) _, by simpa using Blk.new (w.alloc (.cells zeroScript 26)) 29 #[.int .i64 0, .int .i64 0], ((Below.refl _ _).alloc (Nat.le_refl _) _).alloc (by simp) _⟩)
  clear hl hn
  go_enter Try.func9, Try.ntmps9
  go_wp2_with fail
  refine (HRD.out _ HR0.out.2.2).mono ?_
  rintro e w1 ⟨⟨cs, ds, _, _, rfl, hcs, hds⟩, hb1⟩
  obtain ⟨A1, n1, c1, A2, n2, c2, rfl⟩ := script_form hcs
  obtain ⟨B1, m1, d1, B2, m2, d2, rfl⟩ := script_form hds
  rw [show ((w.alloc (.cells zeroScript 26)).alloc (.cells #[.int .i64 0, .int .i64 0] 29)).heap.size = w.heap.size + 2 by simp] at hcs hds
  have HCS := Lib.hid hds
  have HXX := Lib.hid (And.intro (Blk.below HR0.out.1 hb1 HR0.out.1.lt) (And.intro (Blk.below HR0.out.2.1 hb1 HR0.out.2.1.lt) (HR0.out.2.2.trans (hb1.mono HR0.out.2.2.size))))
  have hgt := Nat.lt_of_lt_of_le HR0.out.2.1.lt hb1.size
  clear hcs hds hb1
  go_upto_region 2 with fail
  obtain ⟨hx, hy, hbl⟩ := HXX.out
  have hcs := HCS.out
  have HFE := Lib.hid (ready_fault l)
  clear HXX HCS HRD HR0
  have HPO : Hid (∀ (w' : World) (cs : List Value), cs.length = 3 → ScriptC w' (Fr B w.heap.size) (readyP true l).1 cs → RfPost B w.heap.size w' l true (.returned (.tuple #[.agg cs.toArray, .agg #[.int .i64 (readyP false l).2.1, .int .i64 (readyP false l).2.2]]))) := fun w' cs h3 h => ⟨cs, h3, by rw [HFE.out], h⟩
  generalize hRA : readyP false l = RA at *
  generalize hRB : readyP true l = RB at *
  have hb3 : Below w1.heap.size w1 (((w1.alloc (.cells #[.bool RA.1.only?, .slice A1 n1 c1, .slice A2 n2 c2] 26)).alloc (.cells #[.bool RB.1.only?, .slice B1 m1 d1, .slice B2 m2 d2] 26)).alloc (.cells #[.int .i64 RA.2.1, .int .i64 RA.2.2] 29)) := (((Below.refl _ _).alloc (Nat.le_refl _) _).alloc (by simp) _).alloc (by simp; omega) _
  have hq0 := Blk.alloc (Blk.alloc (Blk.new w1 26 #[.bool RA.1.only?, .slice A1 n1 c1, .slice A2 n2 c2]) (.cells #[.bool RB.1.only?, .slice B1 m1 d1, .slice B2 m2 d2] 26)) (.cells #[.int .i64 RA.2.1, .int .i64 RA.2.2] 29)
  have hq1 := Blk.alloc (Blk.new (w1.alloc (.cells #[.bool RA.1.only?, .slice A1 n1 c1, .slice A2 n2 c2] 26)) 26 #[.bool RB.1.only?, .slice B1 m1 d1, .slice B2 m2 d2]) (.cells #[.int .i64 RA.2.1, .int .i64 RA.2.2] 29)
  have hq2 := Blk.new ((w1.alloc (.cells #[.bool RA.1.only?, .slice A1 n1 c1, .slice A2 n2 c2] 26)).alloc (.cells #[.bool RB.1.only?, .slice B1 m1 d1, .slice B2 m2 d2] 26)) 29 #[.int .i64 RA.2.1, .int .i64 RA.2.2]
  rw [show (w1.alloc (.cells #[.bool RA.1.only?, .slice A1 n1 c1, .slice A2 n2 c2] 26)).heap.size = w1.heap.size + 1 by simp] at hq1
  rw [show ((w1.alloc (.cells #[.bool RA.1.only?, .slice A1 n1 c1, .slice A2 n2 c2] 26)).alloc (.cells #[.bool RB.1.only?, .slice B1 m1 d1, .slice B2 m2 d2] 26)).heap.size = w1.heap.size + 1 + 1 by simp] at hq2
  have hx3 := Blk.below hx hb3 hx.lt
  have hy3 := Blk.below hy hb3 hy.lt
  have hbl3 := hbl.trans (hb3.mono hbl.size)
  have hcs3 := hcs.keep (Keeps.below (X' := Fr B (w.heap.size + 2)) hb3 (fun _ h _ => h))
  clear hx hy hbl hcs hb3
  generalize ((w1.alloc (.cells #[.bool RA.1.only?, .slice A1 n1 c1, .slice A2 n2 c2] 26)).alloc (.cells #[.bool RB.1.only?, .slice B1 m1 d1, .slice B2 m2 d2] 26)).alloc (.cells #[.int .i64 RA.2.1, .int .i64 RA.2.2] 29) = W3 at *
  have a0 : W3.cell? ⟨w.heap.size, 0, none⟩ = some (.bool false) := hx3.cell 0
  have a1 : W3.cell? ⟨w.heap.size, 1, none⟩ = some (.slice none 0 0) := hx3.cell 1
  have a2 : W3.cell? ⟨w.heap.size, 2, none⟩ = some (.slice none 0 0) := hx3.cell 2
  have b0 : W3.cell? ⟨w.heap.size + 1, 0, none⟩ = some (.int .i64 0) := hy3.cell 0
  have b1 : W3.cell? ⟨w.heap.size + 1, 1, none⟩ = some (.int .i64 0) := hy3.cell 1
  have e0 : W3.cell? ⟨w1.heap.size + 1, 0, none⟩ = some (.bool RB.1.only?) := hq1.cell 0
  have e1 : W3.cell? ⟨w1.heap.size + 1, 1, none⟩ = some (.slice B1 m1 d1) := hq1.cell 1
  have e2 : W3.cell? ⟨w1.heap.size + 1, 2, none⟩ = some (.slice B2 m2 d2) := hq1.cell 2
  have g0 : W3.cell? ⟨w1.heap.size + 1 + 1, 0, none⟩ = some (.int .i64 RA.2.1) := hq2.cell 0
  have g1 : W3.cell? ⟨w1.heap.size + 1 + 1, 1, none⟩ = some (.int .i64 RA.2.2) := hq2.cell 1
  have f0 := hx3.frozen 0
  have f1 := hx3.frozen 1
  have f2 := hx3.frozen 2
  have f3 := hy3.frozen 0
  have f4 := hy3.frozen 1
  have n0 : ¬ w.heap.size = w1.heap.size := by omega
  have n1' : ¬ w.heap.size = w1.heap.size + 1 := by omega
  have n2' : ¬ w.heap.size = w1.heap.size + 1 + 1 := by omega
  have n3 : ¬ w.heap.size + 1 = w1.heap.size := by omega
  have n4 : ¬ w.heap.size + 1 = w1.heap.size + 1 := by omega
  have n5 : ¬ w.heap.size + 1 = w1.heap.size + 1 + 1 := by omega
  have HBL := Lib.hid hbl3
  have HCS := Lib.hid hcs3
  clear hq0 hq1 hq2 hx3 hy3 hbl3 hcs3 hRA hRB
  go_region
  all_goals
    go_wp2_with fail
    have hbl := ((((HBL.out.setCell (p := ⟨w.heap.size, 0, none⟩) (by simp) (.bool RB.1.only?)).setCell (p := ⟨w.heap.size, 1, none⟩) (by simp) (.slice B1 m1 d1)).setCell (p := ⟨w.heap.size, 2, none⟩) (by simp) (.slice B2 m2 d2)).setCell (p := ⟨w.heap.size + 1, 0, none⟩) (by simp) (.int .i64 RA.2.1)).setCell (p := ⟨w.heap.size + 1, 1, none⟩) (by simp) (.int .i64 RA.2.2)
    have hkf : Keeps W3 (Fr B (w.heap.size + 2)) (((((W3.setCell ⟨w.heap.size, 0, none⟩ (.bool RB.1.only?)).setCell ⟨w.heap.size, 1, none⟩ (.slice B1 m1 d1)).setCell ⟨w.heap.size, 2, none⟩ (.slice B2 m2 d2)).setCell ⟨w.heap.size + 1, 0, none⟩ (.int .i64 RA.2.1)).setCell ⟨w.heap.size + 1, 1, none⟩ (.int .i64 RA.2.2)) (Fr B (w.heap.size + 2)) :=
      ((((fr_set (by omega) (by omega)).trans (fr_set (by omega) (by omega))).trans (fr_set (by omega) (by omega))).trans (fr_set (by omega) (by omega))).trans (fr_set (by omega) (by omega))
    have HFP := Lib.hid (HPO.out _ _ rfl (HCS.out.keep (hkf.trans (Keeps.below (Below.refl _ _).drew (fun _ h _ => h.imp id (fun h => by omega))))))
    have HBL2 := Lib.hid hbl.drew
    clear hbl hkf
    refine bodyPost_ret (v := .tuple #[.agg #[.bool RB.1.only?, .slice B1 m1 d1, .slice B2 m2 d2], .agg #[.int .i64 RA.2.1, .int .i64 RA.2.2]]) (by simp [results, Try.results9, go_sem, a0, a1, a2, b0, b1]) rfl ⟨?_, ?_⟩
    · exact HFP.out
    · exact HBL2.out

end Go.Proofs.Ythcjiainpaebfaa
