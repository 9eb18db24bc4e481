/- RulesJoinLaw + RulesTurnLaw -/
import Derived.Test.YthnhbcohfoodlaaGreatDoorZt47
import Derived.Test.YthnhbcohfoodlaaGreatDoorZt48
import Derived.Test.YthnhbcohfoodlaaGreatDoorZt2
import Derived.Test.YthnhbcohfoodlaaGreatDoorZt44
import Derived.Test.YthnhbcohfoodlaaGreatDoorZt36
import Derived.Test.YthnhbcohfoodlaaGreatDoorZt33
import Derived.Test.YthnhbcohfoodlaaGreatDoorZt16
namespace Go.Proofs.YthnhbcohfoodlaaGreatDoor
open Go.RowKit
def aliveL : List Int := [97, 32, 123, 32, 98, 32, 125, 32, 99, 32, 62, 32, 120, 32, 124, 32, 121, 32, 59]
def aliveD : PartD := ⟨2, noName, [], 1, ⟨false, false, [runeI 97], [runeI 98], [runeI 99], -1⟩, ⟨false, false, [], [runeI 120, runeI 121], [], 1⟩⟩
theorem alive_read : rulesP aliveL = ([aliveD], (0, 0)) := by kernel_rfl
theorem alive_text : runesOf { data := #[97, 32, 123, 32, 98, 32, 125, 32, 99, 32, 62, 32, 120, 32, 124, 32, 121, 32, 59] } 0 = aliveL := by decide +kernel
set_option maxHeartbeats 3200000 in
set_option maxRecDepth 100000 in
theorem law5_alive (w : World) : Calls Tryz.prog 26 #[] w fun e w' => e = .returned (.bool true) ∧ Below w.heap.size w w' := by
 have HSR := Lib.hid (rules_read { data := #[97, 32, 123, 32, 98, 32, 125, 32, 99, 32, 62, 32, 120, 32, 124, 32, 121, 32, 59] } w (by decide))
 rw [alive_text, alive_read] at HSR
 go_enter Tryz.func26, Tryz.ntmps26
 go_wp2_with fail
 refine HSR.out.mono ?_
 rintro e w2 ⟨⟨A2, n2, c2, rfl, hx, hn⟩, hb2⟩
 have hl := hx.len
 simp only [List.length_cons, List.length_nil] at hl
 subst hl
 obtain ⟨b, off, cs, rfl, _, hbb, hp, _, hc⟩ := hx.at (k := 0) rfl
 obtain ⟨A', n', c', L1, a1, x1, L2, a2, x2, L3, a3, x3, R1, b1, y1, R2, b2, y2, R3, b3, y3, rfl⟩ := hp.form
 have hl1 : a1 = 1 := by
  obtain ⟨_, _, _, ls, rs, he, _, _, hsl, hsr, _⟩ := hp
  obtain ⟨_, _, _, _, _, _, _, _, _, rfl, h1, _⟩ := hsl
  obtain ⟨_, _, _, _, _, _, _, _, _, rfl, _⟩ := hsr
  cases he
  exact h1.len.symm
 subst hl1
 have HB2 := Lib.hid (hb2.alloc hb2.size (.cells #[.int .i64 0, .int .i64 0] 25))
 have hbe : Below w2.heap.size w2 (w2.alloc (.cells #[.int .i64 0, .int .i64 0] 25)) := (Below.refl _ _).alloc (Nat.le_refl _) _
 have HF := Lib.hid (Blk.new w2 25 #[.int .i64 0, .int .i64 0])
 have x0 := HF.out.cell 0
 have z0 := HF.out.frozen 0
 have d3 := (hbe.cell (p := ⟨b, off + 0 * 16 + 3, none⟩) hbb).trans (hc 3 _ rfl)
 have d6 := (hbe.cell (p := ⟨b, off + 0 * 16 + 6, none⟩) hbb).trans (hc 6 _ rfl)
 have d15 := (hbe.cell (p := ⟨b, off + 0 * 16 + 15, none⟩) hbb).trans (hc 15 _ rfl)
 simp only [Nat.zero_mul, Nat.add_zero] at d3 d6 d15
 replace d3 : (w2.alloc (.cells #[.int .i64 0, .int .i64 0] 25)).cell? ⟨b, off + 3, none⟩ = some (.int .i64 1) := d3
 replace d15 : (w2.alloc (.cells #[.int .i64 0, .int .i64 0] 25)).cell? ⟨b, off + 15, none⟩ = some (.int .i64 1) := d15
 clear hbe hb2 hx hp hc HSR hbb
 go_wp2_with fail
 go_ret
 exact ⟨rfl, HB2.out⟩
set_option maxHeartbeats 3200000 in
theorem law5_short (s : ByteArray) (w : World) : Calls Tryz.prog 27 #[.string s] w fun e w' => e = .returned (.bool (decide ((s.size : Int) ≤ 16000))) ∧ w' = w := by
 go_enter Tryz.func27, Tryz.ntmps27
 go_wp2_with fail
 go_ret
 exact ⟨rfl, rfl⟩
end Go.Proofs.YthnhbcohfoodlaaGreatDoor

namespace Go.Proofs.YthnhbcohfoodlaaGreatDoor
open Go.RowKit
theorem fault_field5 (a b : Int) (w : World) : (Instr.field 25 (.agg #[.int .i64 a, .int .i64 b]) 0).run Tryz.prog w = .ok (.int .i64 a) w := by kernel_rfl
set_option maxHeartbeats 6400000 in
set_option maxRecDepth 100000 in
theorem rules_turn_law (A : Option Addr) (n c : Nat) (l : List PartD) (s : ByteArray) (w : World) (hn : n ≤ maxLen) (hs : s.size ≤ 1099511627776) (hl : RdP w w.heap.size A n l) (hd : w.cell? ⟨5, 15, none⟩ = some (.int .u8 4)) (hlt : 5 < w.heap.size) :
 Calls Tryz.prog 8 #[.slice A n c, .string s] w fun e w' => e = .returned (.bool true) ∧ Below w.heap.size w w' := by
 have HS := Lib.hid (fun W => rules_read s W hs)
 have HG := Lib.hid (rulesP_right (ValidL.ok (runesOf_valid s)))
 have HC := Lib.hid (rulesP_parts (ValidL.ok (runesOf_valid s))).2
 generalize rulesP (runesOf s 0) = R at *
 obtain ⟨lb, e1, p1⟩ := R
 dsimp only at HG HC
 have HD := Lib.hid (fun (W : World) (hb : Below w.heap.size w W) => show W.cell? ⟨5, 15, none⟩ = some (.int .u8 4) ∧ 5 < W.heap.size from ⟨(hb.cell (p := ⟨5, 15, none⟩) hlt).trans hd, Nat.lt_of_lt_of_le hlt hb.size⟩)
 have sizeT : ∀ l : List PartD, (⟨(fileT l).toArray⟩ : ByteArray).size = (fileT l).length := fun l => by simp only [ByteArray.size, List.size_toArray]
 have HT := Lib.hid (fun (h3 : (fileT lb).length ≤ 16000) (W : World) => show Calls Tryz.prog 21 #[.string ⟨(fileT lb).toArray⟩] W (RulesPost W (lb, (0, 0))) by
  have := rules_read ⟨(fileT lb).toArray⟩ W (by rw [sizeT]; omega)
  rwa [file_turn (by rw [HG.out.1]) h3, HG.out.2] at this)
 have HPR2 := Lib.hid (fun (B : Option Addr) (m d : Nat) (W : World) (hb : Below w.heap.size w W) (hm : m ≤ maxLen) (hx : RdP W W.heap.size B m lb) => show Calls Tryz.prog 28 #[.slice B m d] W fun e w' => e = .returned (.tuple #[.string ⟨(fileT lb).toArray⟩, .agg #[.int .i64 0, .int .i64 0]]) ∧ Below W.heap.size W w' by
  have := syn_fileprint B m d lb W hm hx (HD.out W hb).1 (HD.out W hb).2
  unfold textP at this
  rwa [if_pos (by rw [HG.out.1]), HG.out.1] at this)
 have HL := Lib.hid (fun (W : World) (hb : Below w.heap.size w W) => show RdP W W.heap.size A n l from RdP.weak (weak_of hb hb.size) hl)
 have HPR := Lib.hid (fun (W : World) (hb : Below w.heap.size w W) => syn_fileprint A n c l W hn (HL.out W hb) (HD.out W hb).1 (HD.out W hb).2)
 by_cases h0 : (fileP l).1 = 0
 ·have HPR1 := Lib.hid (fun (W : World) (hb : Below w.heap.size w W) => show Calls Tryz.prog 28 #[.slice A n c] W fun e w' => e = .returned (.tuple #[.string ⟨(fileT l).toArray⟩, .agg #[.int .i64 0, .int .i64 (fileP l).2]]) ∧ Below W.heap.size W w' by
   have := HPR.out W hb
   unfold textP at this
   rwa [if_pos h0, h0] at this)
  have HN := Lib.hid (show n ≤ 200 by rw [← RdL.len hl]; exact (file_zero.1 h0).1)
  by_cases h16 : (fileT l).length ≤ 16000
  ·have HBARE := Lib.hid (fun (W : World) (hb : Below w.heap.size w W) => ref_bare W.heap.size A n c l W (Nat.le_refl _) (PartsX.of_rd (Nat.le_refl _) (HL.out W hb)) h0)
   have HT1 := Lib.hid (fun (W : World) => show Calls Tryz.prog 21 #[.string ⟨(fileT l).toArray⟩] W (RulesPost W (l.map bareD, (0, 0))) by
    have := rules_read ⟨(fileT l).toArray⟩ W (by rw [sizeT]; omega)
    rwa [file_turn h0 h16] at this)
   have hd1 : decide ((((⟨(fileT l).toArray⟩ : ByteArray).size : Nat) : Int) ≤ 16000) = true := decide_eq_true (by rw [sizeT]; omega)
   have HSX1 := Lib.hid (fun W => show Calls Tryz.prog 27 #[.string ⟨(fileT l).toArray⟩] W fun e w' => e = .returned (.bool true) ∧ w' = W by have := law5_short ⟨(fileT l).toArray⟩ W; rwa [hd1] at this)
   have HLL := Lib.hid (RdL.len hl)
   clear hl hd hlt hd1 HPR
   go_enter Tryz.func8, Tryz.ntmps8
   go_wp2_with fail
   refine (law5_alive _).mono ?_
   rintro e w1 ⟨rfl, hb1⟩
   have HB1 := Lib.hid hb1
   have HP1 := Lib.hid (HPR1.out w1 hb1)
   clear hb1
   go_wp2_with fail
   refine HP1.out.mono ?_
   rintro e w2 ⟨rfl, hb2⟩
   have HB2 := Lib.hid (HB1.out.trans (hb2.mono HB1.out.size))
   have HF2 := Lib.hid (Blk.new w2 25 #[.int .i64 0, .int .i64 (fileP l).2])
   have HB3 := Lib.hid (HB2.out.alloc HB2.out.size (.cells #[.int .i64 0, .int .i64 (fileP l).2] 25))
   have x0 := HF2.out.cell 0
   have z0 := HF2.out.frozen 0
   clear hb2
   go_wp2_with fail
   refine (HSX1.out _).mono ?_
   rintro e w3 ⟨rfl, rfl⟩
   go_wp2_with fail
   refine (HT1.out _).mono ?_
   rintro e w4 ⟨⟨C, n4, c4, rfl, hx4, _⟩, hb4⟩
   have HB4 := Lib.hid (HB3.out.trans (hb4.mono HB3.out.size))
   have hl4 : n4 = n := by have := hx4.len; rw [List.length_map, HLL.out] at this; exact this.symm
   subst hl4
   have hbe4 : Below w4.heap.size w4 (w4.alloc (.cells #[.int .i64 0, .int .i64 0] 25)) := (Below.refl _ _).alloc (Nat.le_refl _) _
   have HX5 := Lib.hid ((hx4.keep (X' := fun _ => True) (Keeps.refl (fun _ _ => trivial))).keep (Keeps.below hbe4 (X' := fun _ => True) (fun _ h _ => h)))
   have HB5 := Lib.hid (HB4.out.alloc HB4.out.size (.cells #[.int .i64 0, .int .i64 0] 25))
   have y0 := (Blk.new w4 25 #[.int .i64 0, .int .i64 0]).cell 0
   have HBR := Lib.hid (HBARE.out _ HB5.out)
   clear hb4 hx4 hbe4 x0 z0
   go_wp2_with fail
   refine HBR.out.mono ?_
   rintro e w6 ⟨⟨A6, c6, rfl, hx6⟩, hb6⟩
   have HB6 := Lib.hid (HB5.out.trans (hb6.mono HB5.out.size))
   have HSM1 := Lib.hid (parts_same C A6 n4 n4 c4 c6 (l.map bareD) w6 _ _ hn (HX5.out.keep (Keeps.below hb6 (X' := fun _ => True) (fun _ h _ => h))) hx6)
   clear hb6 hx6 y0
   go_wp2_with fail
   refine HSM1.out.mono ?_
   rintro e w7 ⟨rfl, hb7⟩
   have HB7 := Lib.hid (HB6.out.trans (hb7.mono HB6.out.size))
   clear hb7
   go_wp2_with fail
   refine (HS.out _).mono ?_
   rintro e wa ⟨⟨B, nb, cb, rfl, hxb, _⟩, hba⟩
   have HBA := Lib.hid (HB7.out.trans (hba.mono HB7.out.size))
   have HLB := Lib.hid hxb.len
   have hbe : Below wa.heap.size wa (wa.alloc (.cells #[.int .i64 e1, .int .i64 p1] 25)) := (Below.refl _ _).alloc (Nat.le_refl _) _
   have HXB := Lib.hid ((hxb.keep (X' := fun _ => True) (Keeps.refl (fun _ _ => trivial))).keep (Keeps.below hbe (X' := (· < wa.heap.size)) (fun _ _ hl => hl)))
   have HBB := Lib.hid (HBA.out.alloc HBA.out.size (.cells #[.int .i64 e1, .int .i64 p1] 25))
   have HFB := Lib.hid (Blk.new wa 25 #[.int .i64 e1, .int .i64 p1])
   have x0 := HFB.out.cell 0
   have z0 := HFB.out.frozen 0
   have hsa : wa.heap.size < (wa.alloc (.cells #[.int .i64 e1, .int .i64 p1] 25)).heap.size := by simp
   clear hba hxb hbe
   by_cases h1 : e1 = 0
   ·subst h1
    have hnb : nb ≤ maxLen := by
     have := HC.out
     rw [HLB.out] at this
     unfold maxLen; omega
    have HP2 := Lib.hid (HPR2.out B nb cb _ HBB.out hnb HXB.out.rd)
    go_wp2_with fail
    refine HP2.out.mono ?_
    rintro e wc ⟨rfl, hbc⟩
    have HFC := Lib.hid (HFB.out.below hbc HFB.out.lt)
    have HXC := Lib.hid (HXB.out.keep (Keeps.below hbc (X' := (· < wa.heap.size)) (fun _ h _ => h)))
    have HBC := Lib.hid (HBB.out.trans (hbc.mono HBB.out.size))
    have hsc : wa.heap.size < wc.heap.size := Nat.lt_of_lt_of_le hsa hbc.size
    have hwa : w.heap.size ≤ wa.heap.size := HBA.out.size
    clear x0 z0 hbc hsa
    have f0 := HFC.out.frozen 0
    have k0 := HFC.out.cell 0
    have f1 := (HFC.out.put 0 (.int .i64 0)).frozen 1
    have k1 := (HFC.out.put 0 (.int .i64 0)).cell 1
    have HFD := Lib.hid (show Blk ((wc.setCell ⟨wa.heap.size, 0, none⟩ (.int .i64 0)).setCell ⟨wa.heap.size, 1, none⟩ (.int .i64 0)) wa.heap.size 25 #[.int .i64 0, .int .i64 0] from (HFC.out.put 0 _).put 1 _)
    have HXD := Lib.hid (show PartsX ((wc.setCell ⟨wa.heap.size, 0, none⟩ (.int .i64 0)).setCell ⟨wa.heap.size, 1, none⟩ (.int .i64 0)) (· < wa.heap.size) B nb lb from HXC.out.keep (((But.set wc wa.heap.size 0 (.int .i64 0)).trans (But.set _ wa.heap.size 1 (.int .i64 0))).keeps (X' := (· < wa.heap.size)) (fun _ h => Nat.ne_of_lt h) (fun _ h _ => h)))
    have HBD := Lib.hid (show Below w.heap.size w ((wc.setCell ⟨wa.heap.size, 0, none⟩ (.int .i64 0)).setCell ⟨wa.heap.size, 1, none⟩ (.int .i64 0)) from (HBC.out.setCell (p := ⟨wa.heap.size, 0, none⟩) hwa (.int .i64 0)).setCell (p := ⟨wa.heap.size, 1, none⟩) hwa (.int .i64 0))
    have hsd : wa.heap.size < (((wc.setCell ⟨wa.heap.size, 0, none⟩ (.int .i64 0)).setCell ⟨wa.heap.size, 1, none⟩ (.int .i64 0))).heap.size := by simpa [World.setCell] using hsc
    have HWR := Lib.hid (rulesyn_wrong B nb cb lb _ hnb HXD.out.rd)
    rw [HG.out.1] at HWR
    dsimp only at HWR
    clear HFC HXC HBC
    go_wp2_with fail
    refine HWR.out.mono ?_
    rintro e we ⟨rfl, hbe⟩
    have HFE := Lib.hid (HFD.out.below hbe HFD.out.lt)
    have HXE := Lib.hid (HXD.out.keep (Keeps.below hbe (X' := (· < wa.heap.size)) (fun _ h _ => h)))
    have HBE := Lib.hid (HBD.out.trans (hbe.mono HBD.out.size))
    have hse : wa.heap.size < we.heap.size := Nat.lt_of_lt_of_le hsd hbe.size
    have x1 := HFE.out.cell 0
    have hff := fault_field5 0 0
    clear hbe
    by_cases h3 : (fileT lb).length ≤ 16000
    ·have hd : decide ((((⟨(fileT lb).toArray⟩ : ByteArray).size : Nat) : Int) ≤ 16000) = true := decide_eq_true (by simp only [ByteArray.size, List.size_toArray]; omega)
     have HSX := Lib.hid (fun W => show Calls Tryz.prog 27 #[.string ⟨(fileT lb).toArray⟩] W fun e w' => e = .returned (.bool true) ∧ w' = W by have := law5_short ⟨(fileT lb).toArray⟩ W; rwa [hd] at this)
     have HR2 := Lib.hid (HT.out h3)
     clear hd
     go_wp2_with fail
     refine (HSX.out _).mono ?_
     rintro e wf ⟨rfl, rfl⟩
     go_wp2_with fail
     refine (HR2.out _).mono ?_
     rintro e wg ⟨⟨C, nc, cc, rfl, hxc, _⟩, hbg⟩
     have hlc : nc = nb := by have := hxc.len; rw [HLB.out] at this; exact this.symm
     subst hlc
     have HFG := Lib.hid (HFE.out.below hbg HFE.out.lt)
     have HXG := Lib.hid (HXE.out.keep (Keeps.below hbg (X' := (· ≠ wa.heap.size)) (fun _ h _ => Nat.ne_of_lt h)))
     have HXH := Lib.hid (hxc.keep (Keeps.refl (X' := (· ≠ wa.heap.size)) (fun b hb => by omega)))
     have HBG := Lib.hid (HBE.out.trans (hbg.mono HBE.out.size))
     clear x1 hbg hxc
     have f2 := HFG.out.frozen 0
     have k2 := HFG.out.cell 0
     have f3 := (HFG.out.put 0 (.int .i64 0)).frozen 1
     have k3 := (HFG.out.put 0 (.int .i64 0)).cell 1
     have HFI := Lib.hid (show Blk ((wg.setCell ⟨wa.heap.size, 0, none⟩ (.int .i64 0)).setCell ⟨wa.heap.size, 1, none⟩ (.int .i64 0)) wa.heap.size 25 #[.int .i64 0, .int .i64 0] from (HFG.out.put 0 _).put 1 _)
     have HXI := Lib.hid (show PartsX ((wg.setCell ⟨wa.heap.size, 0, none⟩ (.int .i64 0)).setCell ⟨wa.heap.size, 1, none⟩ (.int .i64 0)) (· ≠ wa.heap.size) B nc lb from HXG.out.keep (((But.set wg wa.heap.size 0 (.int .i64 0)).trans (But.set _ wa.heap.size 1 (.int .i64 0))).keeps (X' := (· ≠ wa.heap.size)) (fun _ h => h) (fun _ h _ => h)))
     have HXJ := Lib.hid (show PartsX ((wg.setCell ⟨wa.heap.size, 0, none⟩ (.int .i64 0)).setCell ⟨wa.heap.size, 1, none⟩ (.int .i64 0)) (· ≠ wa.heap.size) C nc lb from HXH.out.keep (((But.set wg wa.heap.size 0 (.int .i64 0)).trans (But.set _ wa.heap.size 1 (.int .i64 0))).keeps (X' := (· ≠ wa.heap.size)) (fun _ h => h) (fun _ h _ => h)))
     have HBI := Lib.hid (show Below w.heap.size w ((wg.setCell ⟨wa.heap.size, 0, none⟩ (.int .i64 0)).setCell ⟨wa.heap.size, 1, none⟩ (.int .i64 0)) from (HBG.out.setCell (p := ⟨wa.heap.size, 0, none⟩) hwa (.int .i64 0)).setCell (p := ⟨wa.heap.size, 1, none⟩) hwa (.int .i64 0))
     have x2 := HFI.out.cell 0
     have HSM := Lib.hid (parts_same B C nc nc cb cc lb _ _ _ hnb HXI.out HXJ.out)
     clear HFG HXG HXH HBG
     go_wp2_with fail
     refine HSM.out.mono ?_
     rintro e wj ⟨rfl, hbj⟩
     have HBJ := Lib.hid (HBI.out.trans (hbj.mono HBI.out.size))
     clear hbj
     go_wp2_with fail
     go_ret
     exact ⟨rfl, HBJ.out⟩
    ·have hd : decide ((((⟨(fileT lb).toArray⟩ : ByteArray).size : Nat) : Int) ≤ 16000) = false := decide_eq_false (by simp only [ByteArray.size, List.size_toArray]; omega)
     have HSX := Lib.hid (fun W => show Calls Tryz.prog 27 #[.string ⟨(fileT lb).toArray⟩] W fun e w' => e = .returned (.bool false) ∧ w' = W by have := law5_short ⟨(fileT lb).toArray⟩ W; rwa [hd] at this)
     clear hd
     go_wp2_with fail
     refine (HSX.out _).mono ?_
     rintro e wf ⟨rfl, rfl⟩
     go_wp2_with fail
     go_ret
     exact ⟨rfl, HBE.out⟩
   ·have q1 : (e1 != 0) = true := by simpa using h1
    go_wp2_with fail
    go_ret
    exact ⟨rfl, HBB.out⟩
  ·have hd1 : decide ((((⟨(fileT l).toArray⟩ : ByteArray).size : Nat) : Int) ≤ 16000) = false := decide_eq_false (by rw [sizeT]; omega)
   have HSX1 := Lib.hid (fun W => show Calls Tryz.prog 27 #[.string ⟨(fileT l).toArray⟩] W fun e w' => e = .returned (.bool false) ∧ w' = W by have := law5_short ⟨(fileT l).toArray⟩ W; rwa [hd1] at this)
   clear hl hd hlt hd1 HPR
   go_enter Tryz.func8, Tryz.ntmps8
   go_wp2_with fail
   refine (law5_alive _).mono ?_
   rintro e w1 ⟨rfl, hb1⟩
   have HB1 := Lib.hid hb1
   have HP1 := Lib.hid (HPR1.out w1 hb1)
   clear hb1
   go_wp2_with fail
   refine HP1.out.mono ?_
   rintro e w2 ⟨rfl, hb2⟩
   have HB2 := Lib.hid (HB1.out.trans (hb2.mono HB1.out.size))
   have HF2 := Lib.hid (Blk.new w2 25 #[.int .i64 0, .int .i64 (fileP l).2])
   have HB3 := Lib.hid (HB2.out.alloc HB2.out.size (.cells #[.int .i64 0, .int .i64 (fileP l).2] 25))
   have x0 := HF2.out.cell 0
   have z0 := HF2.out.frozen 0
   clear hb2
   go_wp2_with fail
   refine (HSX1.out _).mono ?_
   rintro e w3 ⟨rfl, rfl⟩
   clear x0 z0
   go_wp2_with fail
   refine (HS.out _).mono ?_
   rintro e wa ⟨⟨B, nb, cb, rfl, hxb, _⟩, hba⟩
   have HBA := Lib.hid (HB3.out.trans (hba.mono HB3.out.size))
   have HLB := Lib.hid hxb.len
   have hbe : Below wa.heap.size wa (wa.alloc (.cells #[.int .i64 e1, .int .i64 p1] 25)) := (Below.refl _ _).alloc (Nat.le_refl _) _
   have HXB := Lib.hid ((hxb.keep (X' := fun _ => True) (Keeps.refl (fun _ _ => trivial))).keep (Keeps.below hbe (X' := (· < wa.heap.size)) (fun _ _ hl => hl)))
   have HBB := Lib.hid (HBA.out.alloc HBA.out.size (.cells #[.int .i64 e1, .int .i64 p1] 25))
   have HFB := Lib.hid (Blk.new wa 25 #[.int .i64 e1, .int .i64 p1])
   have x0 := HFB.out.cell 0
   have z0 := HFB.out.frozen 0
   have hsa : wa.heap.size < (wa.alloc (.cells #[.int .i64 e1, .int .i64 p1] 25)).heap.size := by simp
   clear hba hxb hbe
   by_cases h1 : e1 = 0
   ·subst h1
    have hnb : nb ≤ maxLen := by
     have := HC.out
     rw [HLB.out] at this
     unfold maxLen; omega
    have HP2 := Lib.hid (HPR2.out B nb cb _ HBB.out hnb HXB.out.rd)
    go_wp2_with fail
    refine HP2.out.mono ?_
    rintro e wc ⟨rfl, hbc⟩
    have HFC := Lib.hid (HFB.out.below hbc HFB.out.lt)
    have HXC := Lib.hid (HXB.out.keep (Keeps.below hbc (X' := (· < wa.heap.size)) (fun _ h _ => h)))
    have HBC := Lib.hid (HBB.out.trans (hbc.mono HBB.out.size))
    have hsc : wa.heap.size < wc.heap.size := Nat.lt_of_lt_of_le hsa hbc.size
    have hwa : w.heap.size ≤ wa.heap.size := HBA.out.size
    clear x0 z0 hbc hsa
    have f0 := HFC.out.frozen 0
    have k0 := HFC.out.cell 0
    have f1 := (HFC.out.put 0 (.int .i64 0)).frozen 1
    have k1 := (HFC.out.put 0 (.int .i64 0)).cell 1
    have HFD := Lib.hid (show Blk ((wc.setCell ⟨wa.heap.size, 0, none⟩ (.int .i64 0)).setCell ⟨wa.heap.size, 1, none⟩ (.int .i64 0)) wa.heap.size 25 #[.int .i64 0, .int .i64 0] from (HFC.out.put 0 _).put 1 _)
    have HXD := Lib.hid (show PartsX ((wc.setCell ⟨wa.heap.size, 0, none⟩ (.int .i64 0)).setCell ⟨wa.heap.size, 1, none⟩ (.int .i64 0)) (· < wa.heap.size) B nb lb from HXC.out.keep (((But.set wc wa.heap.size 0 (.int .i64 0)).trans (But.set _ wa.heap.size 1 (.int .i64 0))).keeps (X' := (· < wa.heap.size)) (fun _ h => Nat.ne_of_lt h) (fun _ h _ => h)))
    have HBD := Lib.hid (show Below w.heap.size w ((wc.setCell ⟨wa.heap.size, 0, none⟩ (.int .i64 0)).setCell ⟨wa.heap.size, 1, none⟩ (.int .i64 0)) from (HBC.out.setCell (p := ⟨wa.heap.size, 0, none⟩) hwa (.int .i64 0)).setCell (p := ⟨wa.heap.size, 1, none⟩) hwa (.int .i64 0))
    have hsd : wa.heap.size < (((wc.setCell ⟨wa.heap.size, 0, none⟩ (.int .i64 0)).setCell ⟨wa.heap.size, 1, none⟩ (.int .i64 0))).heap.size := by simpa [World.setCell] using hsc
    have HWR := Lib.hid (rulesyn_wrong B nb cb lb _ hnb HXD.out.rd)
    rw [HG.out.1] at HWR
    dsimp only at HWR
    clear HFC HXC HBC
    go_wp2_with fail
    refine HWR.out.mono ?_
    rintro e we ⟨rfl, hbe⟩
    have HFE := Lib.hid (HFD.out.below hbe HFD.out.lt)
    have HXE := Lib.hid (HXD.out.keep (Keeps.below hbe (X' := (· < wa.heap.size)) (fun _ h _ => h)))
    have HBE := Lib.hid (HBD.out.trans (hbe.mono HBD.out.size))
    have hse : wa.heap.size < we.heap.size := Nat.lt_of_lt_of_le hsd hbe.size
    have x1 := HFE.out.cell 0
    have hff := fault_field5 0 0
    clear hbe
    by_cases h3 : (fileT lb).length ≤ 16000
    ·have hd : decide ((((⟨(fileT lb).toArray⟩ : ByteArray).size : Nat) : Int) ≤ 16000) = true := decide_eq_true (by simp only [ByteArray.size, List.size_toArray]; omega)
     have HSX := Lib.hid (fun W => show Calls Tryz.prog 27 #[.string ⟨(fileT lb).toArray⟩] W fun e w' => e = .returned (.bool true) ∧ w' = W by have := law5_short ⟨(fileT lb).toArray⟩ W; rwa [hd] at this)
     have HR2 := Lib.hid (HT.out h3)
     clear hd
     go_wp2_with fail
     refine (HSX.out _).mono ?_
     rintro e wf ⟨rfl, rfl⟩
     go_wp2_with fail
     refine (HR2.out _).mono ?_
     rintro e wg ⟨⟨C, nc, cc, rfl, hxc, _⟩, hbg⟩
     have hlc : nc = nb := by have := hxc.len; rw [HLB.out] at this; exact this.symm
     subst hlc
     have HFG := Lib.hid (HFE.out.below hbg HFE.out.lt)
     have HXG := Lib.hid (HXE.out.keep (Keeps.below hbg (X' := (· ≠ wa.heap.size)) (fun _ h _ => Nat.ne_of_lt h)))
     have HXH := Lib.hid (hxc.keep (Keeps.refl (X' := (· ≠ wa.heap.size)) (fun b hb => by omega)))
     have HBG := Lib.hid (HBE.out.trans (hbg.mono HBE.out.size))
     clear x1 hbg hxc
     have f2 := HFG.out.frozen 0
     have k2 := HFG.out.cell 0
     have f3 := (HFG.out.put 0 (.int .i64 0)).frozen 1
     have k3 := (HFG.out.put 0 (.int .i64 0)).cell 1
     have HFI := Lib.hid (show Blk ((wg.setCell ⟨wa.heap.size, 0, none⟩ (.int .i64 0)).setCell ⟨wa.heap.size, 1, none⟩ (.int .i64 0)) wa.heap.size 25 #[.int .i64 0, .int .i64 0] from (HFG.out.put 0 _).put 1 _)
     have HXI := Lib.hid (show PartsX ((wg.setCell ⟨wa.heap.size, 0, none⟩ (.int .i64 0)).setCell ⟨wa.heap.size, 1, none⟩ (.int .i64 0)) (· ≠ wa.heap.size) B nc lb from HXG.out.keep (((But.set wg wa.heap.size 0 (.int .i64 0)).trans (But.set _ wa.heap.size 1 (.int .i64 0))).keeps (X' := (· ≠ wa.heap.size)) (fun _ h => h) (fun _ h _ => h)))
     have HXJ := Lib.hid (show PartsX ((wg.setCell ⟨wa.heap.size, 0, none⟩ (.int .i64 0)).setCell ⟨wa.heap.size, 1, none⟩ (.int .i64 0)) (· ≠ wa.heap.size) C nc lb from HXH.out.keep (((But.set wg wa.heap.size 0 (.int .i64 0)).trans (But.set _ wa.heap.size 1 (.int .i64 0))).keeps (X' := (· ≠ wa.heap.size)) (fun _ h => h) (fun _ h _ => h)))
     have HBI := Lib.hid (show Below w.heap.size w ((wg.setCell ⟨wa.heap.size, 0, none⟩ (.int .i64 0)).setCell ⟨wa.heap.size, 1, none⟩ (.int .i64 0)) from (HBG.out.setCell (p := ⟨wa.heap.size, 0, none⟩) hwa (.int .i64 0)).setCell (p := ⟨wa.heap.size, 1, none⟩) hwa (.int .i64 0))
     have x2 := HFI.out.cell 0
     have HSM := Lib.hid (parts_same B C nc nc cb cc lb _ _ _ hnb HXI.out HXJ.out)
     clear HFG HXG HXH HBG
     go_wp2_with fail
     refine HSM.out.mono ?_
     rintro e wj ⟨rfl, hbj⟩
     have HBJ := Lib.hid (HBI.out.trans (hbj.mono HBI.out.size))
     clear hbj
     go_wp2_with fail
     go_ret
     exact ⟨rfl, HBJ.out⟩
    ·have hd : decide ((((⟨(fileT lb).toArray⟩ : ByteArray).size : Nat) : Int) ≤ 16000) = false := decide_eq_false (by simp only [ByteArray.size, List.size_toArray]; omega)
     have HSX := Lib.hid (fun W => show Calls Tryz.prog 27 #[.string ⟨(fileT lb).toArray⟩] W fun e w' => e = .returned (.bool false) ∧ w' = W by have := law5_short ⟨(fileT lb).toArray⟩ W; rwa [hd] at this)
     clear hd
     go_wp2_with fail
     refine (HSX.out _).mono ?_
     rintro e wf ⟨rfl, rfl⟩
     go_wp2_with fail
     go_ret
     exact ⟨rfl, HBE.out⟩
   ·have q1 : (e1 != 0) = true := by simpa using h1
    go_wp2_with fail
    go_ret
    exact ⟨rfl, HBB.out⟩
 ·have q0 : ((fileP l).1 == 0) = false := by simpa using h0
  have HPR1 := Lib.hid (fun (W : World) (hb : Below w.heap.size w W) => show Calls Tryz.prog 28 #[.slice A n c] W fun e w' => e = .returned (.tuple #[.string ⟨#[]⟩, .agg #[.int .i64 (fileP l).1, .int .i64 (fileP l).2]]) ∧ Below W.heap.size W w' by
   have := HPR.out W hb
   unfold textP at this
   rwa [if_neg h0] at this)
  generalize (fileP l).1 = f1 at *
  generalize (fileP l).2 = f2 at *
  clear hl hd hlt HPR
  go_enter Tryz.func8, Tryz.ntmps8
  go_wp2_with fail
  refine (law5_alive _).mono ?_
  rintro e w1 ⟨rfl, hb1⟩
  have HB1 := Lib.hid hb1
  have HP1 := Lib.hid (HPR1.out w1 hb1)
  clear hb1
  go_wp2_with fail
  refine HP1.out.mono ?_
  rintro e w2 ⟨rfl, hb2⟩
  have HB2 := Lib.hid (HB1.out.trans (hb2.mono HB1.out.size))
  have HF2 := Lib.hid (Blk.new w2 25 #[.int .i64 f1, .int .i64 f2])
  have HB3 := Lib.hid (HB2.out.alloc HB2.out.size (.cells #[.int .i64 f1, .int .i64 f2] 25))
  have xx := HF2.out.cell 0
  clear hb2
  go_wp2_with fail
  refine (HS.out _).mono ?_
  rintro e wa ⟨⟨B, nb, cb, rfl, hxb, _⟩, hba⟩
  have HBA := Lib.hid (HB3.out.trans (hba.mono HB3.out.size))
  have HLB := Lib.hid hxb.len
  have hbe : Below wa.heap.size wa (wa.alloc (.cells #[.int .i64 e1, .int .i64 p1] 25)) := (Below.refl _ _).alloc (Nat.le_refl _) _
  have HXB := Lib.hid ((hxb.keep (X' := fun _ => True) (Keeps.refl (fun _ _ => trivial))).keep (Keeps.below hbe (X' := (· < wa.heap.size)) (fun _ _ hl => hl)))
  have HBB := Lib.hid (HBA.out.alloc HBA.out.size (.cells #[.int .i64 e1, .int .i64 p1] 25))
  have HFB := Lib.hid (Blk.new wa 25 #[.int .i64 e1, .int .i64 p1])
  have x0 := HFB.out.cell 0
  have z0 := HFB.out.frozen 0
  have hsa : wa.heap.size < (wa.alloc (.cells #[.int .i64 e1, .int .i64 p1] 25)).heap.size := by simp
  clear hba hxb hbe
  by_cases h1 : e1 = 0
  ·subst h1
   have hnb : nb ≤ maxLen := by
    have := HC.out
    rw [HLB.out] at this
    unfold maxLen; omega
   have HP2 := Lib.hid (HPR2.out B nb cb _ HBB.out hnb HXB.out.rd)
   go_wp2_with fail
   refine HP2.out.mono ?_
   rintro e wc ⟨rfl, hbc⟩
   have HFC := Lib.hid (HFB.out.below hbc HFB.out.lt)
   have HXC := Lib.hid (HXB.out.keep (Keeps.below hbc (X' := (· < wa.heap.size)) (fun _ h _ => h)))
   have HBC := Lib.hid (HBB.out.trans (hbc.mono HBB.out.size))
   have hsc : wa.heap.size < wc.heap.size := Nat.lt_of_lt_of_le hsa hbc.size
   have hwa : w.heap.size ≤ wa.heap.size := HBA.out.size
   clear x0 z0 hbc hsa
   have f0 := HFC.out.frozen 0
   have k0 := HFC.out.cell 0
   have f1 := (HFC.out.put 0 (.int .i64 0)).frozen 1
   have k1 := (HFC.out.put 0 (.int .i64 0)).cell 1
   have HFD := Lib.hid (show Blk ((wc.setCell ⟨wa.heap.size, 0, none⟩ (.int .i64 0)).setCell ⟨wa.heap.size, 1, none⟩ (.int .i64 0)) wa.heap.size 25 #[.int .i64 0, .int .i64 0] from (HFC.out.put 0 _).put 1 _)
   have HXD := Lib.hid (show PartsX ((wc.setCell ⟨wa.heap.size, 0, none⟩ (.int .i64 0)).setCell ⟨wa.heap.size, 1, none⟩ (.int .i64 0)) (· < wa.heap.size) B nb lb from HXC.out.keep (((But.set wc wa.heap.size 0 (.int .i64 0)).trans (But.set _ wa.heap.size 1 (.int .i64 0))).keeps (X' := (· < wa.heap.size)) (fun _ h => Nat.ne_of_lt h) (fun _ h _ => h)))
   have HBD := Lib.hid (show Below w.heap.size w ((wc.setCell ⟨wa.heap.size, 0, none⟩ (.int .i64 0)).setCell ⟨wa.heap.size, 1, none⟩ (.int .i64 0)) from (HBC.out.setCell (p := ⟨wa.heap.size, 0, none⟩) hwa (.int .i64 0)).setCell (p := ⟨wa.heap.size, 1, none⟩) hwa (.int .i64 0))
   have hsd : wa.heap.size < (((wc.setCell ⟨wa.heap.size, 0, none⟩ (.int .i64 0)).setCell ⟨wa.heap.size, 1, none⟩ (.int .i64 0))).heap.size := by simpa [World.setCell] using hsc
   have HWR := Lib.hid (rulesyn_wrong B nb cb lb _ hnb HXD.out.rd)
   rw [HG.out.1] at HWR
   dsimp only at HWR
   clear HFC HXC HBC
   go_wp2_with fail
   refine HWR.out.mono ?_
   rintro e we ⟨rfl, hbe⟩
   have HFE := Lib.hid (HFD.out.below hbe HFD.out.lt)
   have HXE := Lib.hid (HXD.out.keep (Keeps.below hbe (X' := (· < wa.heap.size)) (fun _ h _ => h)))
   have HBE := Lib.hid (HBD.out.trans (hbe.mono HBD.out.size))
   have hse : wa.heap.size < we.heap.size := Nat.lt_of_lt_of_le hsd hbe.size
   have x1 := HFE.out.cell 0
   have hff := fault_field5 0 0
   clear hbe
   by_cases h3 : (fileT lb).length ≤ 16000
   ·have hd : decide ((((⟨(fileT lb).toArray⟩ : ByteArray).size : Nat) : Int) ≤ 16000) = true := decide_eq_true (by simp only [ByteArray.size, List.size_toArray]; omega)
    have HSX := Lib.hid (fun W => show Calls Tryz.prog 27 #[.string ⟨(fileT lb).toArray⟩] W fun e w' => e = .returned (.bool true) ∧ w' = W by have := law5_short ⟨(fileT lb).toArray⟩ W; rwa [hd] at this)
    have HR2 := Lib.hid (HT.out h3)
    clear hd
    go_wp2_with fail
    refine (HSX.out _).mono ?_
    rintro e wf ⟨rfl, rfl⟩
    go_wp2_with fail
    refine (HR2.out _).mono ?_
    rintro e wg ⟨⟨C, nc, cc, rfl, hxc, _⟩, hbg⟩
    have hlc : nc = nb := by have := hxc.len; rw [HLB.out] at this; exact this.symm
    subst hlc
    have HFG := Lib.hid (HFE.out.below hbg HFE.out.lt)
    have HXG := Lib.hid (HXE.out.keep (Keeps.below hbg (X' := (· ≠ wa.heap.size)) (fun _ h _ => Nat.ne_of_lt h)))
    have HXH := Lib.hid (hxc.keep (Keeps.refl (X' := (· ≠ wa.heap.size)) (fun b hb => by omega)))
    have HBG := Lib.hid (HBE.out.trans (hbg.mono HBE.out.size))
    clear x1 hbg hxc
    have f2 := HFG.out.frozen 0
    have k2 := HFG.out.cell 0
    have f3 := (HFG.out.put 0 (.int .i64 0)).frozen 1
    have k3 := (HFG.out.put 0 (.int .i64 0)).cell 1
    have HFI := Lib.hid (show Blk ((wg.setCell ⟨wa.heap.size, 0, none⟩ (.int .i64 0)).setCell ⟨wa.heap.size, 1, none⟩ (.int .i64 0)) wa.heap.size 25 #[.int .i64 0, .int .i64 0] from (HFG.out.put 0 _).put 1 _)
    have HXI := Lib.hid (show PartsX ((wg.setCell ⟨wa.heap.size, 0, none⟩ (.int .i64 0)).setCell ⟨wa.heap.size, 1, none⟩ (.int .i64 0)) (· ≠ wa.heap.size) B nc lb from HXG.out.keep (((But.set wg wa.heap.size 0 (.int .i64 0)).trans (But.set _ wa.heap.size 1 (.int .i64 0))).keeps (X' := (· ≠ wa.heap.size)) (fun _ h => h) (fun _ h _ => h)))
    have HXJ := Lib.hid (show PartsX ((wg.setCell ⟨wa.heap.size, 0, none⟩ (.int .i64 0)).setCell ⟨wa.heap.size, 1, none⟩ (.int .i64 0)) (· ≠ wa.heap.size) C nc lb from HXH.out.keep (((But.set wg wa.heap.size 0 (.int .i64 0)).trans (But.set _ wa.heap.size 1 (.int .i64 0))).keeps (X' := (· ≠ wa.heap.size)) (fun _ h => h) (fun _ h _ => h)))
    have HBI := Lib.hid (show Below w.heap.size w ((wg.setCell ⟨wa.heap.size, 0, none⟩ (.int .i64 0)).setCell ⟨wa.heap.size, 1, none⟩ (.int .i64 0)) from (HBG.out.setCell (p := ⟨wa.heap.size, 0, none⟩) hwa (.int .i64 0)).setCell (p := ⟨wa.heap.size, 1, none⟩) hwa (.int .i64 0))
    have x2 := HFI.out.cell 0
    have HSM := Lib.hid (parts_same B C nc nc cb cc lb _ _ _ hnb HXI.out HXJ.out)
    clear HFG HXG HXH HBG
    go_wp2_with fail
    refine HSM.out.mono ?_
    rintro e wj ⟨rfl, hbj⟩
    have HBJ := Lib.hid (HBI.out.trans (hbj.mono HBI.out.size))
    clear hbj
    go_wp2_with fail
    go_ret
    exact ⟨rfl, HBJ.out⟩
   ·have hd : decide ((((⟨(fileT lb).toArray⟩ : ByteArray).size : Nat) : Int) ≤ 16000) = false := decide_eq_false (by simp only [ByteArray.size, List.size_toArray]; omega)
    have HSX := Lib.hid (fun W => show Calls Tryz.prog 27 #[.string ⟨(fileT lb).toArray⟩] W fun e w' => e = .returned (.bool false) ∧ w' = W by have := law5_short ⟨(fileT lb).toArray⟩ W; rwa [hd] at this)
    clear hd
    go_wp2_with fail
    refine (HSX.out _).mono ?_
    rintro e wf ⟨rfl, rfl⟩
    go_wp2_with fail
    go_ret
    exact ⟨rfl, HBE.out⟩
  ·have q1 : (e1 != 0) = true := by simpa using h1
   go_wp2_with fail
   go_ret
   exact ⟨rfl, HBB.out⟩
end Go.Proofs.YthnhbcohfoodlaaGreatDoor
