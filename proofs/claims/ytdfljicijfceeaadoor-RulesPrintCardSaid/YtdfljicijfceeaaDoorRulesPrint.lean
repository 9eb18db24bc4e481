/- The walk of scriptlaw5.RulesPrint: for every file it returns true; nothing that was there is changed. -/
import Derived.Test.YtdfljicijfceeaaDoorPrintRef
import Derived.Test.YtdfljicijfceeaaDoorPrintSyn
namespace Go.Proofs.YtdfljicijfceeaaDoor
open Go.RowKit Go.Shelf

set_option maxRecDepth 100000 in
set_option maxHeartbeats 1600000 in
theorem rules_print (A : Option Addr) (n c : Nat) (l : List PartD) (w : World) (hn : n ≤ maxLen) (hl : RdP w w.heap.size A n l) (hd : w.cell? ⟨5, 15, none⟩ = some (.int .u8 4)) :
    Calls Tryd.prog 3 #[.slice A n c] w fun e w' => e = .returned (.bool true) ∧ Below w.heap.size w w' := by
  have hlt : 5 < w.heap.size := by
    rcases Nat.lt_or_ge 5 w.heap.size with h | h
    · exact h
    · exfalso
      unfold World.cell? at hd
      simp [Array.getElem?_eq_none h] at hd
  have H1 := fun (w' : World) (hb : Below w.heap.size w w') => syn_fileprint A n c l w' hn (RdP.weak (weak_of hb hb.size) hl) ((hb.cell hlt).trans hd) (Nat.lt_of_lt_of_le hlt hb.size)
  have H2 := fun (w' : World) (hb : Below w.heap.size w w') => ref_fileprint A n c l w' hn (RdP.weak (weak_of hb hb.size) hl)
  have H3 := fun (w' : World) (hb : Below w.heap.size w w') => rulesyn_wrong A n c l w' hn (RdP.weak (weak_of hb hb.size) hl)
  have H4 := fun (w' : World) (hb : Below w.heap.size w w') => ref_file A n c l w' hn (RdP.weak (weak_of hb hb.size) hl)
  generalize textP l = T at H1 H2
  generalize (fileP l).1 = F1 at *
  generalize (fileP l).2 = F2 at *
  have K1 := Lib.hid H1
  have K2 := Lib.hid H2
  have K3 := Lib.hid H3
  have K4 := Lib.hid H4
  have HB := Lib.hid (Below.refl w.heap.size w)
  clear hl hd hlt H1 H2 H3 H4
  go_enter Tryd.func3, Tryd.ntmps3
  go_wp2_with fail
  refine (K1.out _ HB.out).mono ?_
  rintro e w1 ⟨rfl, hb1⟩
  have HB1 := Lib.hid (hb1.alloc hb1.size (.cells #[.int .i64 F1, .int .i64 F2] 25))
  have HK1 := Lib.hid (Blk.new w1 25 #[.int .i64 F1, .int .i64 F2])
  clear hb1
  go_wp2_with fail
  refine (K2.out _ HB1.out).mono ?_
  rintro e w2 ⟨rfl, hb2⟩
  have HB2 := Lib.hid ((HB1.out.trans (hb2.mono HB1.out.size)).alloc (HB1.out.trans (hb2.mono HB1.out.size)).size (.cells #[.int .i64 F1, .int .i64 F2] 25))
  have HK2 := Lib.hid (Blk.alloc (Blk.below HK1.out hb2 HK1.out.lt) (.cells #[.int .i64 F1, .int .i64 F2] 25))
  have HM2 := Lib.hid (Blk.new w2 25 #[.int .i64 F1, .int .i64 F2])
  clear hb2
  go_wp2_with fail
  refine (K3.out _ HB2.out).mono ?_
  rintro e w3 ⟨rfl, hb3⟩
  have HB3 := Lib.hid (HB2.out.trans (hb3.mono HB2.out.size))
  have HK3 := Lib.hid (Blk.below HK2.out hb3 HK2.out.lt)
  have HM3 := Lib.hid (Blk.below HM2.out hb3 HM2.out.lt)
  clear hb3
  go_wp2_with fail
  refine (K4.out _ HB3.out).mono ?_
  rintro e w4 ⟨rfl, hb4⟩
  have HB4 := Lib.hid (HB3.out.trans (hb4.mono HB3.out.size))
  have hk4 := Blk.below HK3.out hb4 HK3.out.lt
  have hm4 := Blk.below HM3.out hb4 HM3.out.lt
  have c0 : w4.cell? ⟨w1.heap.size, 0, none⟩ = some (.int .i64 F1) := hk4.cell 0
  have c1 : w4.cell? ⟨w1.heap.size, 1, none⟩ = some (.int .i64 F2) := hk4.cell 1
  have d0 : w4.cell? ⟨w2.heap.size, 0, none⟩ = some (.int .i64 F1) := hm4.cell 0
  have d1 : w4.cell? ⟨w2.heap.size, 1, none⟩ = some (.int .i64 F2) := hm4.cell 1
  clear hb4 hk4 hm4
  go_wp2_with fail
  go_ret
  exact ⟨rfl, HB4.out⟩

end Go.Proofs.YtdfljicijfceeaaDoor
