/- PrintSyn -/
import Derived.Test.YthnhbcohfoodlaaGreatDoorZt35
import Derived.Test.YthnhbcohfoodlaaGreatDoorZt16
import Derived.Test.YthnhbcohfoodlaaGreatDoorZt18
namespace Go.Proofs.YthnhbcohfoodlaaGreatDoor
open Go.RowKit Go.Shelf
theorem is_below {B b : Nat} {bs : List Value} {W W' : World} (h : IsB B b bs W) (hb : Below W.heap.size W W') : IsB B b bs W' := by
 have key : ∀ p : Value, Lib.BuilderAtF 78 5 B b p bs W → Lib.BuilderAtF 78 5 B b p bs W' := by
  intro p h
  have hlt := h.lt
  obtain ⟨hB, v, hv, hown, hne⟩ := h
  exact ⟨hB, v, (hb.block b hlt).trans hv, hown.kept (row := none) ⟨hb.os, hb.tape, hb.output, hb.size, fun k hk _ => hb.block k hk⟩ (Classical.em _), hne⟩
 rcases h with h | h
 ·exact .inl (key _ h)
 ·exact .inr (key _ h)
theorem is_lt {B b : Nat} {bs : List Value} {W : World} (h : IsB B b bs W) : b < W.heap.size := by
 rcases h with h | h
 ·exact h.lt
 ·exact h.lt
def PyAt (w : World) (g gp b : Nat) (cs : Array Value) (bs : List Value) (wx : World) : Prop := PrAt w g gp cs wx ∧ IsB w.heap.size b bs wx
section
variable {w wx w2 : World} {g gp b : Nat} {cs : Array Value} {bs bs' : List Value}
theorem PyAt.drew (h : PyAt w g gp b cs bs wx) : PyAt w g gp b cs bs wx.drew := ⟨h.1.drew, h.2⟩
theorem PyAt.alloc (h : PyAt w g gp b cs bs wx) (o : Obj) : PyAt w g gp b cs bs (wx.alloc o) := ⟨h.1.alloc o, h.2.alloc o⟩
theorem PyAt.below (h : PyAt w g gp b cs bs wx) (hb : Below wx.heap.size wx w2) : PyAt w g gp b cs bs w2 := ⟨h.1.below hb, is_below h.2 hb⟩
theorem PyAt.wrote (h : PyAt w g gp b cs bs wx) (hB : AtB w.heap.size b bs' w2) (hb : Below w.heap.size wx w2) (hk : KeptB b wx w2) (hg : g ≠ b) (hgp : gp ≠ b) : PyAt w g gp b cs bs' w2 :=
 ⟨⟨hk _ _ h.1.1 (by simpa using hg) (by intro c fz h; injection h with _ h2; exact absurd h2 (by decide)), hk _ _ h.1.2.1 (by simpa using hgp) (by intro c fz h; injection h with _ h2; exact absurd h2 (by decide)), h.1.2.2.trans hb⟩, .inr hB⟩
end
theorem blk_new2 (w : World) (o : Obj) (t : TypeId) (cs : Array Value) : Blk ((w.alloc o).alloc (.cells cs t)) (w.heap.size + 1) t cs := by
 have := Blk.new (w.alloc o) t cs
 rwa [show (w.alloc o).heap.size = w.heap.size + 1 by simp] at this
theorem str_bytes (s : ByteArray) : Lib.strCells s = Lib.byteCells s.data.toList := by
 have := strCells_of s.data.toList
 rwa [ba_list] at this
def FyRel (w : World) (g b : Nat) (l : List PartD) (n : Nat) (i : Value) (wr : World) : Prop :=
 ∃ (k : Nat) (T : List UInt8), k ≤ n ∧ i = .int .i64 k ∧ fileT l = T ++ fileT (l.drop k) ∧ T.length ≤ k * 1300000 ∧ IsB w.heap.size b (Lib.byteCells T) wr ∧ Blk wr g 25 #[.int .i64 0, .int .i64 0] ∧ Below w.heap.size w wr
theorem join_three (g : Nat) (x y z : List UInt8) (w : World) (h : Blk w g 9 #[.string ⟨x.toArray⟩, .string ⟨y.toArray⟩, .string ⟨z.toArray⟩]) (hj : (J [x, y, z]).length ≤ 140737488355328) :
 Calls Tryz.prog 68 #[.slice (some ⟨g, 0, none⟩) 3 3, .string ⟨#[32]⟩] w fun e w' => e = .returned (.string ⟨(J [x, y, z]).toArray⟩) ∧ Below w.heap.size w w' := by
 have hmap : ([⟨x.toArray⟩, ⟨y.toArray⟩, ⟨z.toArray⟩] : List ByteArray).map (·.data.toList) = [x, y, z] := by simp
 have hsl : (⟨#[32]⟩ : ByteArray).data.toList = [32] := rfl
 have := Tryz.strings_Join g 0 3 [⟨x.toArray⟩, ⟨y.toArray⟩, ⟨z.toArray⟩] ⟨#[32]⟩ w (fun j s hs => by
  rw [Nat.zero_add, h.cell]
  match j, hs with
  | 0, hs => simp at hs; subst hs; rfl
  | 1, hs => simp at hs; subst hs; rfl
  | 2, hs => simp at hs; subst hs; rfl
  | j + 3, hs => simp at hs) h.lt (by simp) (by simp) (by rw [hmap, hsl]; exact hj)
 rw [hmap, hsl] at this
 exact this
theorem partT_J {p : PartD} (h : partW p ≠ []) : partT p = J (partW p) ++ [32, 59, 10] := by unfold partT; rw [flat_J h]; simp
theorem partW_ne (p : PartD) : partW p ≠ [] := by
 unfold partW
 split
 ·simp
 ·split
  ·simp
  ·split <;> simp
set_option maxRecDepth 100000 in
set_option maxHeartbeats 8000000 in
theorem syn_fileprint (A : Option Addr) (n c : Nat) (l : List PartD) (w : World) (hn : n ≤ maxLen) (hl : RdP w w.heap.size A n l) (hd : w.cell? ⟨5, 15, none⟩ = some (.int .u8 4)) (hlt0 : 5 < w.heap.size) :
 Calls Tryz.prog 28 #[.slice A n c] w fun e w' => e = .returned (.tuple #[.string (textP l), .agg #[.int .i64 (fileP l).1, .int .i64 (fileP l).2]]) ∧ Below w.heap.size w w' := by
 have hrf : ∀ w', Below w.heap.size w w' → Calls Tryz.prog 30 #[.slice A n c] w' fun e w2 => e = .returned (.agg #[.int .i64 (fileP l).1, .int .i64 (fileP l).2]) ∧ Below w'.heap.size w' w2 :=
  fun w' hb => rulesyn_wrong A n c l w' hn (RdP.weak (weak_of hb hb.size) hl)
 have HLEN := Lib.hid (RdL.len hl)
 have HL := Lib.hid hl
 have HRF := Lib.hid hrf
 have HD := Lib.hid hd
 have HDL := Lib.hid hlt0
 have hn2 : n ≤ 9223372036854775807 := by unfold maxLen at hn; omega
 clear hl hn hrf hd hlt0
 have HB0 := Lib.hid ((Below.refl w.heap.size w).alloc (Nat.le_refl _) (.cells #[.int .i64 0, .int .i64 0] 25))
 have HK0 := Lib.hid (Blk.new w 25 #[.int .i64 0, .int .i64 0])
 by_cases he : (fileP l).1 = 0
 ·obtain ⟨hl200, hfp, hall⟩ := file_ok he
  have HT := Lib.hid (show textP l = ⟨(fileT l).toArray⟩ by unfold textP; rw [if_pos he])
  have HFP := Lib.hid hfp
  have HALL := Lib.hid hall
  have hn200 : n ≤ 200 := by rw [← HLEN.out]; exact hl200
  clear he hfp hall hl200
  go_enter Tryz.func28, Tryz.ntmps28
  go_wp2_with fail
  refine (HRF.out _ HB0.out).mono ?_
  rintro e w1 ⟨rfl, hb1⟩
  rw [HFP.out]
  have HB1 := Lib.hid (HB0.out.trans (hb1.mono HB0.out.size))
  have HK1 := Lib.hid (Blk.below HK0.out hb1 HK0.out.lt)
  clear hb1
  have hBn := builder_new (w1.alloc (.cells #[.int .i64 0, .int .i64 0] 25)) w.heap.size (HB1.out.alloc HB1.out.size _).size
  rw [show (w1.alloc (.cells #[.int .i64 0, .int .i64 0] 25)).heap.size = w1.heap.size + 1 by simp] at hBn
  have HBn := Lib.hid hBn
  clear hBn
  have hgb : w.heap.size ≠ w1.heap.size + 1 := by have := HB1.out.size; omega
  go_wp2_with fail
  generalize w1.heap.size + 1 = bb at *
  go_loopw [19] (FyRel w w.heap.size bb l n) (fun i _ => n - (intOf i).toNat)
  case atStart => exact ⟨0, [], Nat.zero_le _, rfl, rfl, Nat.le_refl _, HBn.out, Blk.alloc (Blk.alloc HK1.out _) _, (HB1.out.alloc HB1.out.size _).alloc (HB1.out.alloc HB1.out.size _).size _⟩
  case round =>
   obtain ⟨k, T, hk, rfl, hgo, hTl, hib, hres, hb⟩ := hrel
   have hz := hb.size
   by_cases hlt : k < n
   ·obtain ⟨p, hp⟩ : ∃ z, l[k]? = some z := ⟨_, List.getElem?_eq_getElem (by rw [HLEN.out]; exact hlt)⟩
    have hpp := HALL.out p (List.mem_of_getElem? hp)
    have hpk := part_kinds hpp
    have htl := partT_len hpp
    have hjl : (J (partW p)).length + 3 ≤ 1300000 := by rw [partT_J (partW_ne p), List.length_append] at htl; simpa using htl
    rw [drop_at hp, show fileT (p :: l.drop (k + 1)) = partT p ++ fileT (l.drop (k + 1)) from rfl, partT_J (partW_ne p)] at hgo
    clear htl
    obtain ⟨b, off, A', n', c', L1, L2, L3, R1, R2, R3, a1, a2, a3, x1, x2, x3, b1, b2, b3, y1, y2, y3, rfl, hbb, ⟨f0, f1, f2, f3, f4, f5, f6, f7, f8, f9, f10, f11, f12, f13, f14, f15⟩, hs, hn', l1, l2, l3, la1, la2, la3, r1, r2, r3, ra1, ra2, ra3, cl, cr, hm⟩ := part_at HL.out hp
    have d0 := (hb.cell (p := ⟨b, off + k * 16, none⟩) hbb).trans f0
    have d1 := (hb.cell (p := ⟨b, off + k * 16 + 1, none⟩) hbb).trans f1
    have d2 := (hb.cell (p := ⟨b, off + k * 16 + 2, none⟩) hbb).trans f2
    have d3 := (hb.cell (p := ⟨b, off + k * 16 + 3, none⟩) hbb).trans f3
    have d4 := (hb.cell (p := ⟨b, off + k * 16 + 4, none⟩) hbb).trans f4
    have d5 := (hb.cell (p := ⟨b, off + k * 16 + 5, none⟩) hbb).trans f5
    have d6 := (hb.cell (p := ⟨b, off + k * 16 + 6, none⟩) hbb).trans f6
    have d7 := (hb.cell (p := ⟨b, off + k * 16 + 7, none⟩) hbb).trans f7
    have d8 := (hb.cell (p := ⟨b, off + k * 16 + 8, none⟩) hbb).trans f8
    have d9 := (hb.cell (p := ⟨b, off + k * 16 + 9, none⟩) hbb).trans f9
    have d10 := (hb.cell (p := ⟨b, off + k * 16 + 10, none⟩) hbb).trans f10
    have d11 := (hb.cell (p := ⟨b, off + k * 16 + 11, none⟩) hbb).trans f11
    have d12 := (hb.cell (p := ⟨b, off + k * 16 + 12, none⟩) hbb).trans f12
    have d13 := (hb.cell (p := ⟨b, off + k * 16 + 13, none⟩) hbb).trans f13
    have d14 := (hb.cell (p := ⟨b, off + k * 16 + 14, none⟩) hbb).trans f14
    have d15 := (hb.cell (p := ⟨b, off + k * 16 + 15, none⟩) hbb).trans f15
    have HS := Lib.hid (fun (w' : World) (hw : Below w.heap.size w w') => setsyn_print A' n' c' p.set w' (by unfold maxLen at hn'; omega) (Rd.more (Rd.below hs hw) hw.size) ((hw.cell HDL.out).trans HD.out) (Nat.lt_of_lt_of_le HDL.out hw.size))
    have HLw := Lib.hid (fun (k1 : itemsP p.left.before = 0 ∧ itemsP p.left.source = 0 ∧ itemsP p.left.after = 0) (w' : World) (hw : Below w.heap.size w w') => rulesyn_written p.left L1 L2 L3 a1 a2 a3 x1 x2 x3 w' (rdit_below l1 hw) (rdit_below l2 hw) (rdit_below l3 hw) k1.1 k1.2.1 k1.2.2 ((hw.cell HDL.out).trans HD.out) (Nat.lt_of_lt_of_le HDL.out hw.size))
    have HRw := Lib.hid (fun (k1 : itemsP p.right.before = 0 ∧ itemsP p.right.source = 0 ∧ itemsP p.right.after = 0) (w' : World) (hw : Below w.heap.size w w') => rulesyn_written p.right R1 R2 R3 b1 b2 b3 y1 y2 y3 w' (rdit_below r1 hw) (rdit_below r2 hw) (rdit_below r3 hw) k1.1 k1.2.1 k1.2.2 ((hw.cell HDL.out).trans HD.out) (Nat.lt_of_lt_of_le HDL.out hw.size))
    clear f0 f1 f2 f3 f4 f5 f6 f7 f8 f9 f10 f11 f12 f13 f14 f15 hs hn' l1 l2 l3 la1 la2 la3 r1 r2 r3 ra1 ra2 ra3 cl cr hm
    have hgpb : wr.heap.size ≠ bb := by have := is_lt hib; omega
    have HP1 := Lib.hid (show PyAt w w.heap.size wr.heap.size bb #[.int .i64 p.kind, .string p.name, .slice A' n' c', .int .i64 p.dir, .bool p.left.start, .bool p.left.fin, .slice L1 a1 x1, .slice L2 a2 x2, .slice L3 a3 x3, .int .i64 p.left.cursor, .bool p.right.start, .bool p.right.fin, .slice R1 b1 y1, .slice R2 b2 y2, .slice R3 b3 y3, .int .i64 p.right.cursor] (Lib.byteCells T) (wr.alloc (.cells #[.int .i64 p.kind, .string p.name, .slice A' n' c', .int .i64 p.dir, .bool p.left.start, .bool p.left.fin, .slice L1 a1 x1, .slice L2 a2 x2, .slice L3 a3 x3, .int .i64 p.left.cursor, .bool p.right.start, .bool p.right.fin, .slice R1 b1 y1, .slice R2 b2 y2, .slice R3 b3 y3, .int .i64 p.right.cursor] 98)) from ⟨⟨Blk.alloc hres _, Blk.new _ _ _, hb.alloc hz _⟩, hib.alloc _⟩)
    have HGO := Lib.hid hgo
    have HPK := Lib.hid hpk
    have HPP := Lib.hid hpp
    clear hgo hres hpk hpp hib
    go_upto_block 2 with (first
     | (go_at_call 15
        refine (HS.out _ HP1.out.1.2.2).mono ?_
        rintro e w2 ⟨rfl, hb2⟩
        have HP2 := Lib.hid (PyAt.below HP1.out hb2)
        have e0 : w2.cell? ⟨wr.heap.size, 0, none⟩ = some (.int .i64 p.kind) := HP2.out.1.2.1.cell 0
        have e1 : w2.cell? ⟨wr.heap.size, 1, none⟩ = some (.string p.name) := HP2.out.1.2.1.cell 1
        clear hb2))
    have hwz := HP2.out.1.2.2.size
    go_cut [] (fun wx => PyAt w w.heap.size wr.heap.size bb #[.int .i64 p.kind, .string p.name, .slice A' n' c', .int .i64 p.dir, .bool p.left.start, .bool p.left.fin, .slice L1 a1 x1, .slice L2 a2 x2, .slice L3 a3 x3, .int .i64 p.left.cursor, .bool p.right.start, .bool p.right.fin, .slice R1 b1 y1, .slice R2 b2 y2, .slice R3 b3 y3, .int .i64 p.right.cursor] (Lib.byteCells (T ++ J (partW p))) wx)
    case first =>
     have hkk := HPK.out
     rcases hkk with ⟨h1, h2, h3⟩ | ⟨h1, h3⟩ | ⟨h1, h2⟩ | ⟨h1, hr⟩
     ·have hs : (⟨#[36]⟩ ++ p.name ++ ⟨#[32, 61, 32]⟩ ++ (printP p.set).1).data.toList = J (partW p) := by
       unfold partW setW
       rw [if_pos h1]
       simp [J, Lib.join_cons, Lib.joinTail]
      have hsz : (⟨#[36]⟩ ++ p.name ++ ⟨#[32, 61, 32]⟩ ++ (printP p.set).1).size = (J (partW p)).length := congrArg List.length hs
      have HSS := Lib.hid hs
      have HSZ := Lib.hid hsz
      have hnl := named_len h2
      have hpl2 : (printP p.set).1.size ≤ 4300 := setW_len h3
      have q1 : (p.kind == 1) = true := by rw [h1]; rfl
      clear h1 h2 h3 hs hsz
      go_wp2_with (go_at_call 46; refine (write_string w.heap.size bb _ _ _ HP2.out.2 (by rw [byteCells_len, HSZ.out]; omega) hwz).mono ?_; rintro e w3 ⟨rfl, hB3, hb3, hk3⟩; rw [str_bytes, HSS.out, ← byteCells_append] at hB3; have HP3 := Lib.hid (PyAt.wrote HP2.out hB3 hb3 hk3 hgb hgpb); clear hB3 hb3 hk3)
      go_meet
      exact HP3.out
     ·have hs : (⟨#[58, 58, 32]⟩ ++ (printP p.set).1).data.toList = J (partW p) := by
       unfold partW setW
       rw [h1, if_neg (by decide), if_pos rfl]
       simp [J, Lib.join_cons, Lib.joinTail]
      have hsz : (⟨#[58, 58, 32]⟩ ++ (printP p.set).1).size = (J (partW p)).length := congrArg List.length hs
      have HSS := Lib.hid hs
      have HSZ := Lib.hid hsz
      have hpl2 : (printP p.set).1.size ≤ 4300 := setW_len h3
      have q1 : (p.kind == 1) = false := by rw [h1]; rfl
      have q3 : (p.kind == 3) = true := by rw [h1]; rfl
      clear h1 h3 hs hsz
      go_wp2_with (go_at_call 46; refine (write_string w.heap.size bb _ _ _ HP2.out.2 (by rw [byteCells_len, HSZ.out]; omega) hwz).mono ?_; rintro e w3 ⟨rfl, hB3, hb3, hk3⟩; rw [str_bytes, HSS.out, ← byteCells_append] at hB3; have HP3 := Lib.hid (PyAt.wrote HP2.out hB3 hb3 hk3 hgb hgpb); clear hB3 hb3 hk3)
      go_meet
      exact HP3.out
     ·have hs : (⟨#[58, 58, 32]⟩ ++ p.name).data.toList = J (partW p) := by
       unfold partW setW
       rw [h1, if_neg (by decide), if_neg (by decide), if_pos rfl]
       simp [J, Lib.join_cons, Lib.joinTail]
      have hsz : (⟨#[58, 58, 32]⟩ ++ p.name).size = (J (partW p)).length := congrArg List.length hs
      have HSS := Lib.hid hs
      have HSZ := Lib.hid hsz
      have hnl := pass_len h2
      have q1 : (p.kind == 1) = false := by rw [h1]; rfl
      have q3 : (p.kind == 3) = false := by rw [h1]; rfl
      have q4 : (p.kind == 4) = true := by rw [h1]; rfl
      clear h1 h2 hs hsz
      go_wp2_with (go_at_call 46; refine (write_string w.heap.size bb _ _ _ HP2.out.2 (by rw [byteCells_len, HSZ.out]; omega) hwz).mono ?_; rintro e w3 ⟨rfl, hB3, hb3, hk3⟩; rw [str_bytes, HSS.out, ← byteCells_append] at hB3; have HP3 := Lib.hid (PyAt.wrote HP2.out hB3 hb3 hk3 hgb hgpb); clear hB3 hb3 hk3)
      go_meet
      exact HP3.out
     ·have hpw : partW p = sideW p.left ++ dirW p.dir :: sideW p.right := by
       unfold partW
       rw [h1, if_neg (by decide), if_neg (by decide), if_neg (by decide)]
      have hsd : Solid (dirW p.dir) := by
       unfold dirW
       split
       ·exact solid_one _ (by decide)
       ·split
        ·exact solid_one _ (by decide)
        ·exact ⟨by simp, by decide⟩
      have htr := trim_rule (solid_side hr.2.1.1 hr.2.1.2.1 hr.2.1.2.2) (solid_side hr.2.2.1 hr.2.2.2.1 hr.2.2.2.2) hsd
      rw [← hpw] at htr
      have hsl := side_len hr.2.1
      have hsr := side_len hr.2.2
      have hjA : (J (sideW p.left)).length ≤ (sideW p.left).length * 4301 := join_len (sideW p.left) 4300 hsl.2
      have hjB : (J (sideW p.right)).length ≤ (sideW p.right).length * 4301 := join_len (sideW p.right) 4300 hsr.2
      have hjA2 : (sideW p.left).length * 4301 ≤ 127 * 4301 := Nat.mul_le_mul_right _ hsl.1
      have hjB2 : (sideW p.right).length * 4301 ≤ 127 * 4301 := Nat.mul_le_mul_right _ hsr.1
      have hdl : (dirW p.dir).length ≤ 2 := by unfold dirW; split; simp; split <;> simp
      have q1 : (p.kind == 1) = false := by rw [h1]; rfl
      have q3 : (p.kind == 3) = false := by rw [h1]; rfl
      have q4 : (p.kind == 4) = false := by rw [h1]; rfl
      have HR := Lib.hid hr
      have hd := hr.1
      have HLw2 := Lib.hid (HLw.out HR.out.2.1)
      have HRw2 := Lib.hid (HRw.out HR.out.2.2)
      generalize hWL : J (sideW p.left) = WL at *
      generalize hWR : J (sideW p.right) = WR at *
      have hj3 : (J [WL, dirW p.dir, WR]).length ≤ 1200000 := by simp [J, Lib.join_cons, Lib.joinTail]; omega
      have HTR := Lib.hid htr
      have HJ3 := Lib.hid hj3
      clear h1 hpw hr hWL hWR hsd htr hsl hsr hjA hjB hj3 hjA2 hjB2 hdl
      go_upto_region 10 with fail
      go_cut [10] (fun s10 wx => ∃ g3, s10 = .slice (some ⟨g3, 0, none⟩) 3 3 ∧ Blk wx g3 9 #[.string ⟨WL.toArray⟩, .string ⟨(dirW p.dir).toArray⟩, .string ⟨WR.toArray⟩] ∧ PyAt w w.heap.size wr.heap.size bb #[.int .i64 p.kind, .string p.name, .slice A' n' c', .int .i64 p.dir, .bool p.left.start, .bool p.left.fin, .slice L1 a1 x1, .slice L2 a2 x2, .slice L3 a3 x3, .int .i64 p.left.cursor, .bool p.right.start, .bool p.right.fin, .slice R1 b1 y1, .slice R2 b2 y2, .slice R3 b3 y3, .int .i64 p.right.cursor] (Lib.byteCells T) wx)
      case first =>
       rcases hd with hd | hd | hd
       ·have HDW := Lib.hid (show (⟨(dirW p.dir).toArray⟩ : ByteArray) = ⟨#[62]⟩ by rw [hd]; rfl)
        have HC := Lib.hid (fun (wx : World) (h : PyAt w w.heap.size wr.heap.size bb #[.int .i64 p.kind, .string p.name, .slice A' n' c', .int .i64 p.dir, .bool p.left.start, .bool p.left.fin, .slice L1 a1 x1, .slice L2 a2 x2, .slice L3 a3 x3, .int .i64 p.left.cursor, .bool p.right.start, .bool p.right.fin, .slice R1 b1 y1, .slice R2 b2 y2, .slice R3 b3 y3, .int .i64 p.right.cursor] (Lib.byteCells T) wx) => show (fun w' => w'.cell? ⟨wr.heap.size, 3, none⟩ = some (.int .i64 1) ∧ w'.cell? ⟨wr.heap.size, 4, none⟩ = some (.bool p.left.start) ∧ w'.cell? ⟨wr.heap.size, 5, none⟩ = some (.bool p.left.fin) ∧ w'.cell? ⟨wr.heap.size, 6, none⟩ = some (.slice L1 a1 x1) ∧ w'.cell? ⟨wr.heap.size, 7, none⟩ = some (.slice L2 a2 x2) ∧ w'.cell? ⟨wr.heap.size, 8, none⟩ = some (.slice L3 a3 x3) ∧ w'.cell? ⟨wr.heap.size, 9, none⟩ = some (.int .i64 p.left.cursor) ∧ w'.cell? ⟨wr.heap.size, 10, none⟩ = some (.bool p.right.start) ∧ w'.cell? ⟨wr.heap.size, 11, none⟩ = some (.bool p.right.fin) ∧ w'.cell? ⟨wr.heap.size, 12, none⟩ = some (.slice R1 b1 y1) ∧ w'.cell? ⟨wr.heap.size, 13, none⟩ = some (.slice R2 b2 y2) ∧ w'.cell? ⟨wr.heap.size, 14, none⟩ = some (.slice R3 b3 y3) ∧ w'.cell? ⟨wr.heap.size, 15, none⟩ = some (.int .i64 p.right.cursor)) wx from ⟨(h.1.2.1.cell 3).trans (by rw [← hd]; rfl), h.1.2.1.cell 4, h.1.2.1.cell 5, h.1.2.1.cell 6, h.1.2.1.cell 7, h.1.2.1.cell 8, h.1.2.1.cell 9, h.1.2.1.cell 10, h.1.2.1.cell 11, h.1.2.1.cell 12, h.1.2.1.cell 13, h.1.2.1.cell 14, h.1.2.1.cell 15⟩)
        have hwr : IntKind.i64.wrap 0 = 0 := by decide
        clear hd
        refine wp_region_held_drew (S := fun w' => w'.cell? ⟨wr.heap.size, 3, none⟩ = some (.int .i64 1) ∧ w'.cell? ⟨wr.heap.size, 4, none⟩ = some (.bool p.left.start) ∧ w'.cell? ⟨wr.heap.size, 5, none⟩ = some (.bool p.left.fin) ∧ w'.cell? ⟨wr.heap.size, 6, none⟩ = some (.slice L1 a1 x1) ∧ w'.cell? ⟨wr.heap.size, 7, none⟩ = some (.slice L2 a2 x2) ∧ w'.cell? ⟨wr.heap.size, 8, none⟩ = some (.slice L3 a3 x3) ∧ w'.cell? ⟨wr.heap.size, 9, none⟩ = some (.int .i64 p.left.cursor) ∧ w'.cell? ⟨wr.heap.size, 10, none⟩ = some (.bool p.right.start) ∧ w'.cell? ⟨wr.heap.size, 11, none⟩ = some (.bool p.right.fin) ∧ w'.cell? ⟨wr.heap.size, 12, none⟩ = some (.slice R1 b1 y1) ∧ w'.cell? ⟨wr.heap.size, 13, none⟩ = some (.slice R2 b2 y2) ∧ w'.cell? ⟨wr.heap.size, 14, none⟩ = some (.slice R3 b3 y3) ∧ w'.cell? ⟨wr.heap.size, 15, none⟩ = some (.int .i64 p.right.cursor)) (by kernel_rfl) (HC.out _ (PyAt.drew HP2.out)) (fun hHeld => ?_)
        refine wpAnyH_take (i := 0) (v := ?_) rfl (by kernel_rfl) (by kernel_rfl) (by kernel_rfl) (fun _ _ _ h => h) (Or.inl ⟨by rfl, ?_⟩) (by assumption) ?_
        rotate_left 1
        ·intro w hSw
         (try dsimp only at hSw)
         go_simp
         try with_reducible rfl
        try simp only [Act.put]
        refine wpAnyH_take (i := 1) (v := ?_) rfl (by kernel_rfl) (by kernel_rfl) (by kernel_rfl) (fun _ _ _ h => h) (Or.inl ⟨by rfl, ?_⟩) (by assumption) ?_
        rotate_left 1
        ·intro w hSw
         (try dsimp only at hSw)
         go_simp
         try with_reducible rfl
        try simp only [Act.put]
        refine wpAnyH_take (i := 4) (v := ?_) rfl (by kernel_rfl) (by kernel_rfl) (by kernel_rfl) (fun _ _ _ h => h) (Or.inl ⟨by rfl, ?_⟩) (by assumption) ?_
        rotate_left 1
        ·intro w hSw
         (try dsimp only at hSw)
         go_simp
         try with_reducible rfl
        try simp only [Act.put]
        refine wpAnyH_take (i := 5) (v := ?_) rfl (by kernel_rfl) (by kernel_rfl) (by kernel_rfl) (fun _ _ _ h => h) (Or.inl ⟨by rfl, ?_⟩) (by assumption) ?_
        rotate_left 1
        ·intro w hSw
         (try dsimp only at hSw)
         go_simp
         try with_reducible rfl
        try simp only [Act.put]
        refine wpAnyH_take (i := 6) (v := ?_) rfl (by kernel_rfl) (by kernel_rfl) (by kernel_rfl) (fun _ _ _ h => h) (Or.inl ⟨by rfl, ?_⟩) (by assumption) ?_
        rotate_left 1
        ·intro w hSw
         (try dsimp only at hSw)
         go_simp
         try with_reducible rfl
        try simp only [Act.put]
        refine wpAnyH_take (i := 9) (v := ?_) rfl (by kernel_rfl) (by kernel_rfl) (by kernel_rfl) (fun _ _ _ h => h) (Or.inl ⟨by rfl, ?_⟩) (by assumption) ?_
        rotate_left 1
        ·intro w hSw
         (try dsimp only at hSw)
         go_simp
         try with_reducible rfl
        try simp only [Act.put]
        refine wpAnyH_take (i := 10) (v := ?_) rfl (by kernel_rfl) (by kernel_rfl) (by kernel_rfl) (fun _ _ _ h => h) (Or.inl ⟨by rfl, ?_⟩) (by assumption) ?_
        rotate_left 1
        ·intro w hSw
         (try dsimp only at hSw)
         go_simp
         try with_reducible rfl
        try simp only [Act.put]
        refine wpAnyH_ready (rs := [2, 3]) (by kernel_rfl) (by simp) ?_
        refine AllReadyH.cons rfl (fun K hK => ?_) (AllReadyH.cons rfl (fun K hK => ?_) AllReadyH.nil)
        ·go_simp
         go_at_call_of 66 (Value.slice L1 a1 x1)
         refine (HLw2.out _ ?_).mono ?_
         ·exact (PyAt.drew HP2.out).1.2.2
         rintro e w3 ⟨rfl, hb3⟩
         have HPa := Lib.hid (PyAt.below (PyAt.drew HP2.out) hb3)
         clear hb3
         dsimp only
         refine hK.out _ _ ?_ (fun hHeld => ?_)
         ·exact HC.out _ HPa.out
         clear hK K
         refine wpAnyH_ready (rs := [3, 11]) (by kernel_rfl) (by simp) ?_
         refine AllReadyH.cons rfl (fun K hK => ?_) (AllReadyH.cons rfl (fun K hK => ?_) AllReadyH.nil)
         ·go_simp
          refine hK.out _ _ ?_ (fun hHeld => ?_)
          ·exact HC.out _ (PyAt.alloc HPa.out _)
          clear hK K
          have HRW := Lib.hid (Blk.new (w3) 9 #[.string ⟨#[62]⟩, .string ⟨#[60]⟩, .string ⟨#[60, 62]⟩])
          refine wpAnyH_ready (rs := [7, 11]) (by kernel_rfl) (by simp) ?_
          refine AllReadyH.cons rfl (fun K hK => ?_) (AllReadyH.cons rfl (fun K hK => ?_) AllReadyH.nil)
          ·go_simp
           refine hK.out _ _ ?_ (fun hHeld => ?_)
           ·exact HC.out _ (PyAt.alloc HPa.out (.cells #[.string ⟨#[62]⟩, .string ⟨#[60]⟩, .string ⟨#[60, 62]⟩] 9))
           clear hK K
           refine wpAnyH_ready (rs := [8, 11]) (by kernel_rfl) (by simp) ?_
           refine AllReadyH.cons rfl (fun K hK => ?_) (AllReadyH.cons rfl (fun K hK => ?_) AllReadyH.nil)
           ·go_simp
            refine hK.out _ _ ?_ (fun hHeld => ?_)
            ·exact HC.out _ (PyAt.alloc HPa.out (.cells #[.string ⟨#[62]⟩, .string ⟨#[60]⟩, .string ⟨#[60, 62]⟩] 9))
            clear hK K
            refine wpAnyH_ready (rs := [11]) (by kernel_rfl) (by simp) ?_
            refine AllReadyH.cons rfl (fun K hK => ?_) AllReadyH.nil
            go_simp
            go_at_call_of 66 (Value.slice R1 b1 y1)
            refine (HRw2.out _ ?_).mono ?_
            ·exact (PyAt.alloc HPa.out (.cells #[.string ⟨#[62]⟩, .string ⟨#[60]⟩, .string ⟨#[60, 62]⟩] 9)).1.2.2
            rintro e w4 ⟨rfl, hb3⟩
            have HPb := Lib.hid (PyAt.below (PyAt.alloc HPa.out (.cells #[.string ⟨#[62]⟩, .string ⟨#[60]⟩, .string ⟨#[60, 62]⟩] 9)) hb3)
            clear hb3
            dsimp only
            refine hK.out _ _ ?_ (fun hHeld => ?_)
            ·exact HC.out _ HPb.out
            clear hK K
            refine wpAnyH_ready (rs := [12]) (by kernel_rfl) (by simp) ?_
            refine AllReadyH.cons rfl (fun K hK => ?_) AllReadyH.nil
            go_simp
            refine hK.out _ _ ?_ (fun hHeld => ?_)
            ·exact HC.out _ (PyAt.alloc HPb.out _)
            clear hK K
            refine wpAnyH_take (i := 13) (v := ?_) rfl (by kernel_rfl) (by kernel_rfl) (by kernel_rfl) (fun _ _ _ h => h) (Or.inl ⟨by rfl, ?_⟩) (by assumption) ?_
            rotate_left 1
            ·intro w hSw
             (try dsimp only at hSw)
             go_simp
             try with_reducible rfl
            try simp only [Act.put]
            refine wpAnyH_done (by kernel_rfl) ?_ _
            go_simp
            go_wp2_with fail
            go_meet
            refine ⟨_, rfl, ?_, PyAt.alloc HPb.out _⟩
            rw [HDW.out]
            first
             | exact Blk.new _ _ _
             | exact blk_new2 _ _ _ _
           ·go_simp
            go_at_call_of 66 (Value.slice R1 b1 y1)
            refine (HRw2.out _ ?_).mono ?_
            ·exact (PyAt.alloc HPa.out (.cells #[.string ⟨#[62]⟩, .string ⟨#[60]⟩, .string ⟨#[60, 62]⟩] 9)).1.2.2
            rintro e w4 ⟨rfl, hb3⟩
            have HPb := Lib.hid (PyAt.below (PyAt.alloc HPa.out (.cells #[.string ⟨#[62]⟩, .string ⟨#[60]⟩, .string ⟨#[60, 62]⟩] 9)) hb3)
            have HRW := Lib.hid (Blk.below HRW.out (show Below (w3.alloc (.cells #[.string ⟨#[62]⟩, .string ⟨#[60]⟩, .string ⟨#[60, 62]⟩] 9)).heap.size (w3.alloc (.cells #[.string ⟨#[62]⟩, .string ⟨#[60]⟩, .string ⟨#[60, 62]⟩] 9)) w4 from hb3) HRW.out.lt)
            have hrow : w4.cell? ⟨w3.heap.size, 0, none⟩ = some (.string ⟨#[62]⟩) := HRW.out.cell 0
            clear hb3
            dsimp only
            refine hK.out _ _ ?_ (fun hHeld => ?_)
            ·exact HC.out _ HPb.out
            clear hK K
            refine wpAnyH_ready (rs := [8]) (by kernel_rfl) (by simp) ?_
            refine AllReadyH.cons rfl (fun K hK => ?_) AllReadyH.nil
            go_simp
            refine hK.out _ _ ?_ (fun hHeld => ?_)
            ·exact HC.out _ HPb.out
            clear hK K
            refine wpAnyH_ready (rs := [12]) (by kernel_rfl) (by simp) ?_
            refine AllReadyH.cons rfl (fun K hK => ?_) AllReadyH.nil
            go_simp
            refine hK.out _ _ ?_ (fun hHeld => ?_)
            ·exact HC.out _ (PyAt.alloc HPb.out _)
            clear hK K
            refine wpAnyH_take (i := 13) (v := ?_) rfl (by kernel_rfl) (by kernel_rfl) (by kernel_rfl) (fun _ _ _ h => h) (Or.inl ⟨by rfl, ?_⟩) (by assumption) ?_
            rotate_left 1
            ·intro w hSw
             (try dsimp only at hSw)
             go_simp
             try with_reducible rfl
            try simp only [Act.put]
            refine wpAnyH_done (by kernel_rfl) ?_ _
            go_simp
            go_wp2_with fail
            go_meet
            refine ⟨_, rfl, ?_, PyAt.alloc HPb.out _⟩
            rw [HDW.out]
            first
             | exact Blk.new _ _ _
             | exact blk_new2 _ _ _ _
          ·go_simp
           go_at_call_of 66 (Value.slice R1 b1 y1)
           refine (HRw2.out _ ?_).mono ?_
           ·exact (PyAt.alloc HPa.out (.cells #[.string ⟨#[62]⟩, .string ⟨#[60]⟩, .string ⟨#[60, 62]⟩] 9)).1.2.2
           rintro e w4 ⟨rfl, hb3⟩
           have HPb := Lib.hid (PyAt.below (PyAt.alloc HPa.out (.cells #[.string ⟨#[62]⟩, .string ⟨#[60]⟩, .string ⟨#[60, 62]⟩] 9)) hb3)
           have HRW := Lib.hid (Blk.below HRW.out (show Below (w3.alloc (.cells #[.string ⟨#[62]⟩, .string ⟨#[60]⟩, .string ⟨#[60, 62]⟩] 9)).heap.size (w3.alloc (.cells #[.string ⟨#[62]⟩, .string ⟨#[60]⟩, .string ⟨#[60, 62]⟩] 9)) w4 from hb3) HRW.out.lt)
           have hrow : w4.cell? ⟨w3.heap.size, 0, none⟩ = some (.string ⟨#[62]⟩) := HRW.out.cell 0
           clear hb3
           dsimp only
           refine hK.out _ _ ?_ (fun hHeld => ?_)
           ·exact HC.out _ HPb.out
           clear hK K
           refine wpAnyH_ready (rs := [7]) (by kernel_rfl) (by simp) ?_
           refine AllReadyH.cons rfl (fun K hK => ?_) AllReadyH.nil
           go_simp
           refine hK.out _ _ ?_ (fun hHeld => ?_)
           ·exact HC.out _ HPb.out
           clear hK K
           refine wpAnyH_ready (rs := [8]) (by kernel_rfl) (by simp) ?_
           refine AllReadyH.cons rfl (fun K hK => ?_) AllReadyH.nil
           go_simp
           refine hK.out _ _ ?_ (fun hHeld => ?_)
           ·exact HC.out _ HPb.out
           clear hK K
           refine wpAnyH_ready (rs := [12]) (by kernel_rfl) (by simp) ?_
           refine AllReadyH.cons rfl (fun K hK => ?_) AllReadyH.nil
           go_simp
           refine hK.out _ _ ?_ (fun hHeld => ?_)
           ·exact HC.out _ (PyAt.alloc HPb.out _)
           clear hK K
           refine wpAnyH_take (i := 13) (v := ?_) rfl (by kernel_rfl) (by kernel_rfl) (by kernel_rfl) (fun _ _ _ h => h) (Or.inl ⟨by rfl, ?_⟩) (by assumption) ?_
           rotate_left 1
           ·intro w hSw
            (try dsimp only at hSw)
            go_simp
            try with_reducible rfl
           try simp only [Act.put]
           refine wpAnyH_done (by kernel_rfl) ?_ _
           go_simp
           go_wp2_with fail
           go_meet
           refine ⟨_, rfl, ?_, PyAt.alloc HPb.out _⟩
           rw [HDW.out]
           first
            | exact Blk.new _ _ _
            | exact blk_new2 _ _ _ _
         ·go_simp
          go_at_call_of 66 (Value.slice R1 b1 y1)
          refine (HRw2.out _ ?_).mono ?_
          ·exact HPa.out.1.2.2
          rintro e w4 ⟨rfl, hb3⟩
          have HPb := Lib.hid (PyAt.below HPa.out hb3)
          clear hb3
          dsimp only
          refine hK.out _ _ ?_ (fun hHeld => ?_)
          ·exact HC.out _ HPb.out
          clear hK K
          refine wpAnyH_ready (rs := [3]) (by kernel_rfl) (by simp) ?_
          refine AllReadyH.cons rfl (fun K hK => ?_) AllReadyH.nil
          go_simp
          refine hK.out _ _ ?_ (fun hHeld => ?_)
          ·exact HC.out _ (PyAt.alloc HPb.out _)
          clear hK K
          have HRW := Lib.hid (Blk.new (w4) 9 #[.string ⟨#[62]⟩, .string ⟨#[60]⟩, .string ⟨#[60, 62]⟩])
          refine wpAnyH_ready (rs := [7]) (by kernel_rfl) (by simp) ?_
          refine AllReadyH.cons rfl (fun K hK => ?_) AllReadyH.nil
          go_simp
          refine hK.out _ _ ?_ (fun hHeld => ?_)
          ·exact HC.out _ (PyAt.alloc HPb.out (.cells #[.string ⟨#[62]⟩, .string ⟨#[60]⟩, .string ⟨#[60, 62]⟩] 9))
          clear hK K
          refine wpAnyH_ready (rs := [8]) (by kernel_rfl) (by simp) ?_
          refine AllReadyH.cons rfl (fun K hK => ?_) AllReadyH.nil
          go_simp
          refine hK.out _ _ ?_ (fun hHeld => ?_)
          ·exact HC.out _ (PyAt.alloc HPb.out (.cells #[.string ⟨#[62]⟩, .string ⟨#[60]⟩, .string ⟨#[60, 62]⟩] 9))
          clear hK K
          refine wpAnyH_ready (rs := [12]) (by kernel_rfl) (by simp) ?_
          refine AllReadyH.cons rfl (fun K hK => ?_) AllReadyH.nil
          go_simp
          refine hK.out _ _ ?_ (fun hHeld => ?_)
          ·exact HC.out _ (PyAt.alloc (PyAt.alloc HPb.out (.cells #[.string ⟨#[62]⟩, .string ⟨#[60]⟩, .string ⟨#[60, 62]⟩] 9)) _)
          clear hK K
          refine wpAnyH_take (i := 13) (v := ?_) rfl (by kernel_rfl) (by kernel_rfl) (by kernel_rfl) (fun _ _ _ h => h) (Or.inl ⟨by rfl, ?_⟩) (by assumption) ?_
          rotate_left 1
          ·intro w hSw
           (try dsimp only at hSw)
           go_simp
           try with_reducible rfl
          try simp only [Act.put]
          refine wpAnyH_done (by kernel_rfl) ?_ _
          go_simp
          go_wp2_with fail
          go_meet
          refine ⟨_, rfl, ?_, PyAt.alloc (PyAt.alloc HPb.out (.cells #[.string ⟨#[62]⟩, .string ⟨#[60]⟩, .string ⟨#[60, 62]⟩] 9)) _⟩
          rw [HDW.out]
          first
           | exact Blk.new _ _ _
           | exact blk_new2 _ _ _ _
        ·go_simp
         refine hK.out _ _ ?_ (fun hHeld => ?_)
         ·exact HC.out _ (PyAt.alloc (PyAt.drew HP2.out) _)
         clear hK K
         have HRW := Lib.hid (Blk.new (w2.drew) 9 #[.string ⟨#[62]⟩, .string ⟨#[60]⟩, .string ⟨#[60, 62]⟩])
         refine wpAnyH_ready (rs := [2, 7]) (by kernel_rfl) (by simp) ?_
         refine AllReadyH.cons rfl (fun K hK => ?_) (AllReadyH.cons rfl (fun K hK => ?_) AllReadyH.nil)
         ·go_simp
          go_at_call_of 66 (Value.slice L1 a1 x1)
          refine (HLw2.out _ ?_).mono ?_
          ·exact (PyAt.alloc (PyAt.drew HP2.out) (.cells #[.string ⟨#[62]⟩, .string ⟨#[60]⟩, .string ⟨#[60, 62]⟩] 9)).1.2.2
          rintro e w3 ⟨rfl, hb3⟩
          have HPa := Lib.hid (PyAt.below (PyAt.alloc (PyAt.drew HP2.out) (.cells #[.string ⟨#[62]⟩, .string ⟨#[60]⟩, .string ⟨#[60, 62]⟩] 9)) hb3)
          have HRW := Lib.hid (Blk.below HRW.out (show Below (w2.drew.alloc (.cells #[.string ⟨#[62]⟩, .string ⟨#[60]⟩, .string ⟨#[60, 62]⟩] 9)).heap.size (w2.drew.alloc (.cells #[.string ⟨#[62]⟩, .string ⟨#[60]⟩, .string ⟨#[60, 62]⟩] 9)) w3 from hb3) HRW.out.lt)
          have hrow : w3.cell? ⟨w2.heap.size, 0, none⟩ = some (.string ⟨#[62]⟩) := HRW.out.cell 0
          clear hb3
          dsimp only
          refine hK.out _ _ ?_ (fun hHeld => ?_)
          ·exact HC.out _ HPa.out
          clear hK K
          refine wpAnyH_ready (rs := [7, 11]) (by kernel_rfl) (by simp) ?_
          refine AllReadyH.cons rfl (fun K hK => ?_) (AllReadyH.cons rfl (fun K hK => ?_) AllReadyH.nil)
          ·go_simp
           refine hK.out _ _ ?_ (fun hHeld => ?_)
           ·exact HC.out _ HPa.out
           clear hK K
           refine wpAnyH_ready (rs := [8, 11]) (by kernel_rfl) (by simp) ?_
           refine AllReadyH.cons rfl (fun K hK => ?_) (AllReadyH.cons rfl (fun K hK => ?_) AllReadyH.nil)
           ·go_simp
            refine hK.out _ _ ?_ (fun hHeld => ?_)
            ·exact HC.out _ HPa.out
            clear hK K
            refine wpAnyH_ready (rs := [11]) (by kernel_rfl) (by simp) ?_
            refine AllReadyH.cons rfl (fun K hK => ?_) AllReadyH.nil
            go_simp
            go_at_call_of 66 (Value.slice R1 b1 y1)
            refine (HRw2.out _ ?_).mono ?_
            ·exact HPa.out.1.2.2
            rintro e w4 ⟨rfl, hb3⟩
            have HPb := Lib.hid (PyAt.below HPa.out hb3)
            clear hb3
            dsimp only
            refine hK.out _ _ ?_ (fun hHeld => ?_)
            ·exact HC.out _ HPb.out
            clear hK K
            refine wpAnyH_ready (rs := [12]) (by kernel_rfl) (by simp) ?_
            refine AllReadyH.cons rfl (fun K hK => ?_) AllReadyH.nil
            go_simp
            refine hK.out _ _ ?_ (fun hHeld => ?_)
            ·exact HC.out _ (PyAt.alloc HPb.out _)
            clear hK K
            refine wpAnyH_take (i := 13) (v := ?_) rfl (by kernel_rfl) (by kernel_rfl) (by kernel_rfl) (fun _ _ _ h => h) (Or.inl ⟨by rfl, ?_⟩) (by assumption) ?_
            rotate_left 1
            ·intro w hSw
             (try dsimp only at hSw)
             go_simp
             try with_reducible rfl
            try simp only [Act.put]
            refine wpAnyH_done (by kernel_rfl) ?_ _
            go_simp
            go_wp2_with fail
            go_meet
            refine ⟨_, rfl, ?_, PyAt.alloc HPb.out _⟩
            rw [HDW.out]
            first
             | exact Blk.new _ _ _
             | exact blk_new2 _ _ _ _
           ·go_simp
            go_at_call_of 66 (Value.slice R1 b1 y1)
            refine (HRw2.out _ ?_).mono ?_
            ·exact HPa.out.1.2.2
            rintro e w4 ⟨rfl, hb3⟩
            have HPb := Lib.hid (PyAt.below HPa.out hb3)
            have HRW := Lib.hid (Blk.below HRW.out (show Below (w3).heap.size (w3) w4 from hb3) HRW.out.lt)
            have hrow : w4.cell? ⟨w2.heap.size, 0, none⟩ = some (.string ⟨#[62]⟩) := HRW.out.cell 0
            clear hb3
            dsimp only
            refine hK.out _ _ ?_ (fun hHeld => ?_)
            ·exact HC.out _ HPb.out
            clear hK K
            refine wpAnyH_ready (rs := [8]) (by kernel_rfl) (by simp) ?_
            refine AllReadyH.cons rfl (fun K hK => ?_) AllReadyH.nil
            go_simp
            refine hK.out _ _ ?_ (fun hHeld => ?_)
            ·exact HC.out _ HPb.out
            clear hK K
            refine wpAnyH_ready (rs := [12]) (by kernel_rfl) (by simp) ?_
            refine AllReadyH.cons rfl (fun K hK => ?_) AllReadyH.nil
            go_simp
            refine hK.out _ _ ?_ (fun hHeld => ?_)
            ·exact HC.out _ (PyAt.alloc HPb.out _)
            clear hK K
            refine wpAnyH_take (i := 13) (v := ?_) rfl (by kernel_rfl) (by kernel_rfl) (by kernel_rfl) (fun _ _ _ h => h) (Or.inl ⟨by rfl, ?_⟩) (by assumption) ?_
            rotate_left 1
            ·intro w hSw
             (try dsimp only at hSw)
             go_simp
             try with_reducible rfl
            try simp only [Act.put]
            refine wpAnyH_done (by kernel_rfl) ?_ _
            go_simp
            go_wp2_with fail
            go_meet
            refine ⟨_, rfl, ?_, PyAt.alloc HPb.out _⟩
            rw [HDW.out]
            first
             | exact Blk.new _ _ _
             | exact blk_new2 _ _ _ _
          ·go_simp
           go_at_call_of 66 (Value.slice R1 b1 y1)
           refine (HRw2.out _ ?_).mono ?_
           ·exact HPa.out.1.2.2
           rintro e w4 ⟨rfl, hb3⟩
           have HPb := Lib.hid (PyAt.below HPa.out hb3)
           have HRW := Lib.hid (Blk.below HRW.out (show Below (w3).heap.size (w3) w4 from hb3) HRW.out.lt)
           have hrow : w4.cell? ⟨w2.heap.size, 0, none⟩ = some (.string ⟨#[62]⟩) := HRW.out.cell 0
           clear hb3
           dsimp only
           refine hK.out _ _ ?_ (fun hHeld => ?_)
           ·exact HC.out _ HPb.out
           clear hK K
           refine wpAnyH_ready (rs := [7]) (by kernel_rfl) (by simp) ?_
           refine AllReadyH.cons rfl (fun K hK => ?_) AllReadyH.nil
           go_simp
           refine hK.out _ _ ?_ (fun hHeld => ?_)
           ·exact HC.out _ HPb.out
           clear hK K
           refine wpAnyH_ready (rs := [8]) (by kernel_rfl) (by simp) ?_
           refine AllReadyH.cons rfl (fun K hK => ?_) AllReadyH.nil
           go_simp
           refine hK.out _ _ ?_ (fun hHeld => ?_)
           ·exact HC.out _ HPb.out
           clear hK K
           refine wpAnyH_ready (rs := [12]) (by kernel_rfl) (by simp) ?_
           refine AllReadyH.cons rfl (fun K hK => ?_) AllReadyH.nil
           go_simp
           refine hK.out _ _ ?_ (fun hHeld => ?_)
           ·exact HC.out _ (PyAt.alloc HPb.out _)
           clear hK K
           refine wpAnyH_take (i := 13) (v := ?_) rfl (by kernel_rfl) (by kernel_rfl) (by kernel_rfl) (fun _ _ _ h => h) (Or.inl ⟨by rfl, ?_⟩) (by assumption) ?_
           rotate_left 1
           ·intro w hSw
            (try dsimp only at hSw)
            go_simp
            try with_reducible rfl
           try simp only [Act.put]
           refine wpAnyH_done (by kernel_rfl) ?_ _
           go_simp
           go_wp2_with fail
           go_meet
           refine ⟨_, rfl, ?_, PyAt.alloc HPb.out _⟩
           rw [HDW.out]
           first
            | exact Blk.new _ _ _
            | exact blk_new2 _ _ _ _
         ·go_simp
          refine hK.out _ _ ?_ (fun hHeld => ?_)
          ·exact HC.out _ (PyAt.alloc (PyAt.drew HP2.out) (.cells #[.string ⟨#[62]⟩, .string ⟨#[60]⟩, .string ⟨#[60, 62]⟩] 9))
          clear hK K
          refine wpAnyH_ready (rs := [2, 8]) (by kernel_rfl) (by simp) ?_
          refine AllReadyH.cons rfl (fun K hK => ?_) (AllReadyH.cons rfl (fun K hK => ?_) AllReadyH.nil)
          ·go_simp
           go_at_call_of 66 (Value.slice L1 a1 x1)
           refine (HLw2.out _ ?_).mono ?_
           ·exact (PyAt.alloc (PyAt.drew HP2.out) (.cells #[.string ⟨#[62]⟩, .string ⟨#[60]⟩, .string ⟨#[60, 62]⟩] 9)).1.2.2
           rintro e w3 ⟨rfl, hb3⟩
           have HPa := Lib.hid (PyAt.below (PyAt.alloc (PyAt.drew HP2.out) (.cells #[.string ⟨#[62]⟩, .string ⟨#[60]⟩, .string ⟨#[60, 62]⟩] 9)) hb3)
           have HRW := Lib.hid (Blk.below HRW.out (show Below (w2.drew.alloc (.cells #[.string ⟨#[62]⟩, .string ⟨#[60]⟩, .string ⟨#[60, 62]⟩] 9)).heap.size (w2.drew.alloc (.cells #[.string ⟨#[62]⟩, .string ⟨#[60]⟩, .string ⟨#[60, 62]⟩] 9)) w3 from hb3) HRW.out.lt)
           have hrow : w3.cell? ⟨w2.heap.size, 0, none⟩ = some (.string ⟨#[62]⟩) := HRW.out.cell 0
           clear hb3
           dsimp only
           refine hK.out _ _ ?_ (fun hHeld => ?_)
           ·exact HC.out _ HPa.out
           clear hK K
           refine wpAnyH_ready (rs := [8, 11]) (by kernel_rfl) (by simp) ?_
           refine AllReadyH.cons rfl (fun K hK => ?_) (AllReadyH.cons rfl (fun K hK => ?_) AllReadyH.nil)
           ·go_simp
            refine hK.out _ _ ?_ (fun hHeld => ?_)
            ·exact HC.out _ HPa.out
            clear hK K
            refine wpAnyH_ready (rs := [11]) (by kernel_rfl) (by simp) ?_
            refine AllReadyH.cons rfl (fun K hK => ?_) AllReadyH.nil
            go_simp
            go_at_call_of 66 (Value.slice R1 b1 y1)
            refine (HRw2.out _ ?_).mono ?_
            ·exact HPa.out.1.2.2
            rintro e w4 ⟨rfl, hb3⟩
            have HPb := Lib.hid (PyAt.below HPa.out hb3)
            clear hb3
            dsimp only
            refine hK.out _ _ ?_ (fun hHeld => ?_)
            ·exact HC.out _ HPb.out
            clear hK K
            refine wpAnyH_ready (rs := [12]) (by kernel_rfl) (by simp) ?_
            refine AllReadyH.cons rfl (fun K hK => ?_) AllReadyH.nil
            go_simp
            refine hK.out _ _ ?_ (fun hHeld => ?_)
            ·exact HC.out _ (PyAt.alloc HPb.out _)
            clear hK K
            refine wpAnyH_take (i := 13) (v := ?_) rfl (by kernel_rfl) (by kernel_rfl) (by kernel_rfl) (fun _ _ _ h => h) (Or.inl ⟨by rfl, ?_⟩) (by assumption) ?_
            rotate_left 1
            ·intro w hSw
             (try dsimp only at hSw)
             go_simp
             try with_reducible rfl
            try simp only [Act.put]
            refine wpAnyH_done (by kernel_rfl) ?_ _
            go_simp
            go_wp2_with fail
            go_meet
            refine ⟨_, rfl, ?_, PyAt.alloc HPb.out _⟩
            rw [HDW.out]
            first
             | exact Blk.new _ _ _
             | exact blk_new2 _ _ _ _
           ·go_simp
            go_at_call_of 66 (Value.slice R1 b1 y1)
            refine (HRw2.out _ ?_).mono ?_
            ·exact HPa.out.1.2.2
            rintro e w4 ⟨rfl, hb3⟩
            have HPb := Lib.hid (PyAt.below HPa.out hb3)
            have HRW := Lib.hid (Blk.below HRW.out (show Below (w3).heap.size (w3) w4 from hb3) HRW.out.lt)
            have hrow : w4.cell? ⟨w2.heap.size, 0, none⟩ = some (.string ⟨#[62]⟩) := HRW.out.cell 0
            clear hb3
            dsimp only
            refine hK.out _ _ ?_ (fun hHeld => ?_)
            ·exact HC.out _ HPb.out
            clear hK K
            refine wpAnyH_ready (rs := [8]) (by kernel_rfl) (by simp) ?_
            refine AllReadyH.cons rfl (fun K hK => ?_) AllReadyH.nil
            go_simp
            refine hK.out _ _ ?_ (fun hHeld => ?_)
            ·exact HC.out _ HPb.out
            clear hK K
            refine wpAnyH_ready (rs := [12]) (by kernel_rfl) (by simp) ?_
            refine AllReadyH.cons rfl (fun K hK => ?_) AllReadyH.nil
            go_simp
            refine hK.out _ _ ?_ (fun hHeld => ?_)
            ·exact HC.out _ (PyAt.alloc HPb.out _)
            clear hK K
            refine wpAnyH_take (i := 13) (v := ?_) rfl (by kernel_rfl) (by kernel_rfl) (by kernel_rfl) (fun _ _ _ h => h) (Or.inl ⟨by rfl, ?_⟩) (by assumption) ?_
            rotate_left 1
            ·intro w hSw
             (try dsimp only at hSw)
             go_simp
             try with_reducible rfl
            try simp only [Act.put]
            refine wpAnyH_done (by kernel_rfl) ?_ _
            go_simp
            go_wp2_with fail
            go_meet
            refine ⟨_, rfl, ?_, PyAt.alloc HPb.out _⟩
            rw [HDW.out]
            first
             | exact Blk.new _ _ _
             | exact blk_new2 _ _ _ _
          ·go_simp
           refine hK.out _ _ ?_ (fun hHeld => ?_)
           ·exact HC.out _ (PyAt.alloc (PyAt.drew HP2.out) (.cells #[.string ⟨#[62]⟩, .string ⟨#[60]⟩, .string ⟨#[60, 62]⟩] 9))
           clear hK K
           refine wpAnyH_ready (rs := [2]) (by kernel_rfl) (by simp) ?_
           refine AllReadyH.cons rfl (fun K hK => ?_) AllReadyH.nil
           go_simp
           go_at_call_of 66 (Value.slice L1 a1 x1)
           refine (HLw2.out _ ?_).mono ?_
           ·exact (PyAt.alloc (PyAt.drew HP2.out) (.cells #[.string ⟨#[62]⟩, .string ⟨#[60]⟩, .string ⟨#[60, 62]⟩] 9)).1.2.2
           rintro e w3 ⟨rfl, hb3⟩
           have HPa := Lib.hid (PyAt.below (PyAt.alloc (PyAt.drew HP2.out) (.cells #[.string ⟨#[62]⟩, .string ⟨#[60]⟩, .string ⟨#[60, 62]⟩] 9)) hb3)
           clear hb3
           dsimp only
           refine hK.out _ _ ?_ (fun hHeld => ?_)
           ·exact HC.out _ HPa.out
           clear hK K
           refine wpAnyH_ready (rs := [11]) (by kernel_rfl) (by simp) ?_
           refine AllReadyH.cons rfl (fun K hK => ?_) AllReadyH.nil
           go_simp
           go_at_call_of 66 (Value.slice R1 b1 y1)
           refine (HRw2.out _ ?_).mono ?_
           ·exact HPa.out.1.2.2
           rintro e w4 ⟨rfl, hb3⟩
           have HPb := Lib.hid (PyAt.below HPa.out hb3)
           clear hb3
           dsimp only
           refine hK.out _ _ ?_ (fun hHeld => ?_)
           ·exact HC.out _ HPb.out
           clear hK K
           refine wpAnyH_ready (rs := [12]) (by kernel_rfl) (by simp) ?_
           refine AllReadyH.cons rfl (fun K hK => ?_) AllReadyH.nil
           go_simp
           refine hK.out _ _ ?_ (fun hHeld => ?_)
           ·exact HC.out _ (PyAt.alloc HPb.out _)
           clear hK K
           refine wpAnyH_take (i := 13) (v := ?_) rfl (by kernel_rfl) (by kernel_rfl) (by kernel_rfl) (fun _ _ _ h => h) (Or.inl ⟨by rfl, ?_⟩) (by assumption) ?_
           rotate_left 1
           ·intro w hSw
            (try dsimp only at hSw)
            go_simp
            try with_reducible rfl
           try simp only [Act.put]
           refine wpAnyH_done (by kernel_rfl) ?_ _
           go_simp
           go_wp2_with fail
           go_meet
           refine ⟨_, rfl, ?_, PyAt.alloc HPb.out _⟩
           rw [HDW.out]
           first
            | exact Blk.new _ _ _
            | exact blk_new2 _ _ _ _
       ·have HDW := Lib.hid (show (⟨(dirW p.dir).toArray⟩ : ByteArray) = ⟨#[60]⟩ by rw [hd]; rfl)
        have HC := Lib.hid (fun (wx : World) (h : PyAt w w.heap.size wr.heap.size bb #[.int .i64 p.kind, .string p.name, .slice A' n' c', .int .i64 p.dir, .bool p.left.start, .bool p.left.fin, .slice L1 a1 x1, .slice L2 a2 x2, .slice L3 a3 x3, .int .i64 p.left.cursor, .bool p.right.start, .bool p.right.fin, .slice R1 b1 y1, .slice R2 b2 y2, .slice R3 b3 y3, .int .i64 p.right.cursor] (Lib.byteCells T) wx) => show (fun w' => w'.cell? ⟨wr.heap.size, 3, none⟩ = some (.int .i64 2) ∧ w'.cell? ⟨wr.heap.size, 4, none⟩ = some (.bool p.left.start) ∧ w'.cell? ⟨wr.heap.size, 5, none⟩ = some (.bool p.left.fin) ∧ w'.cell? ⟨wr.heap.size, 6, none⟩ = some (.slice L1 a1 x1) ∧ w'.cell? ⟨wr.heap.size, 7, none⟩ = some (.slice L2 a2 x2) ∧ w'.cell? ⟨wr.heap.size, 8, none⟩ = some (.slice L3 a3 x3) ∧ w'.cell? ⟨wr.heap.size, 9, none⟩ = some (.int .i64 p.left.cursor) ∧ w'.cell? ⟨wr.heap.size, 10, none⟩ = some (.bool p.right.start) ∧ w'.cell? ⟨wr.heap.size, 11, none⟩ = some (.bool p.right.fin) ∧ w'.cell? ⟨wr.heap.size, 12, none⟩ = some (.slice R1 b1 y1) ∧ w'.cell? ⟨wr.heap.size, 13, none⟩ = some (.slice R2 b2 y2) ∧ w'.cell? ⟨wr.heap.size, 14, none⟩ = some (.slice R3 b3 y3) ∧ w'.cell? ⟨wr.heap.size, 15, none⟩ = some (.int .i64 p.right.cursor)) wx from ⟨(h.1.2.1.cell 3).trans (by rw [← hd]; rfl), h.1.2.1.cell 4, h.1.2.1.cell 5, h.1.2.1.cell 6, h.1.2.1.cell 7, h.1.2.1.cell 8, h.1.2.1.cell 9, h.1.2.1.cell 10, h.1.2.1.cell 11, h.1.2.1.cell 12, h.1.2.1.cell 13, h.1.2.1.cell 14, h.1.2.1.cell 15⟩)
        have hwr : IntKind.i64.wrap 1 = 1 := by decide
        clear hd
        refine wp_region_held_drew (S := fun w' => w'.cell? ⟨wr.heap.size, 3, none⟩ = some (.int .i64 2) ∧ w'.cell? ⟨wr.heap.size, 4, none⟩ = some (.bool p.left.start) ∧ w'.cell? ⟨wr.heap.size, 5, none⟩ = some (.bool p.left.fin) ∧ w'.cell? ⟨wr.heap.size, 6, none⟩ = some (.slice L1 a1 x1) ∧ w'.cell? ⟨wr.heap.size, 7, none⟩ = some (.slice L2 a2 x2) ∧ w'.cell? ⟨wr.heap.size, 8, none⟩ = some (.slice L3 a3 x3) ∧ w'.cell? ⟨wr.heap.size, 9, none⟩ = some (.int .i64 p.left.cursor) ∧ w'.cell? ⟨wr.heap.size, 10, none⟩ = some (.bool p.right.start) ∧ w'.cell? ⟨wr.heap.size, 11, none⟩ = some (.bool p.right.fin) ∧ w'.cell? ⟨wr.heap.size, 12, none⟩ = some (.slice R1 b1 y1) ∧ w'.cell? ⟨wr.heap.size, 13, none⟩ = some (.slice R2 b2 y2) ∧ w'.cell? ⟨wr.heap.size, 14, none⟩ = some (.slice R3 b3 y3) ∧ w'.cell? ⟨wr.heap.size, 15, none⟩ = some (.int .i64 p.right.cursor)) (by kernel_rfl) (HC.out _ (PyAt.drew HP2.out)) (fun hHeld => ?_)
        refine wpAnyH_take (i := 0) (v := ?_) rfl (by kernel_rfl) (by kernel_rfl) (by kernel_rfl) (fun _ _ _ h => h) (Or.inl ⟨by rfl, ?_⟩) (by assumption) ?_
        rotate_left 1
        ·intro w hSw
         (try dsimp only at hSw)
         go_simp
         try with_reducible rfl
        try simp only [Act.put]
        refine wpAnyH_take (i := 1) (v := ?_) rfl (by kernel_rfl) (by kernel_rfl) (by kernel_rfl) (fun _ _ _ h => h) (Or.inl ⟨by rfl, ?_⟩) (by assumption) ?_
        rotate_left 1
        ·intro w hSw
         (try dsimp only at hSw)
         go_simp
         try with_reducible rfl
        try simp only [Act.put]
        refine wpAnyH_take (i := 4) (v := ?_) rfl (by kernel_rfl) (by kernel_rfl) (by kernel_rfl) (fun _ _ _ h => h) (Or.inl ⟨by rfl, ?_⟩) (by assumption) ?_
        rotate_left 1
        ·intro w hSw
         (try dsimp only at hSw)
         go_simp
         try with_reducible rfl
        try simp only [Act.put]
        refine wpAnyH_take (i := 5) (v := ?_) rfl (by kernel_rfl) (by kernel_rfl) (by kernel_rfl) (fun _ _ _ h => h) (Or.inl ⟨by rfl, ?_⟩) (by assumption) ?_
        rotate_left 1
        ·intro w hSw
         (try dsimp only at hSw)
         go_simp
         try with_reducible rfl
        try simp only [Act.put]
        refine wpAnyH_take (i := 6) (v := ?_) rfl (by kernel_rfl) (by kernel_rfl) (by kernel_rfl) (fun _ _ _ h => h) (Or.inl ⟨by rfl, ?_⟩) (by assumption) ?_
        rotate_left 1
        ·intro w hSw
         (try dsimp only at hSw)
         go_simp
         try with_reducible rfl
        try simp only [Act.put]
        refine wpAnyH_take (i := 9) (v := ?_) rfl (by kernel_rfl) (by kernel_rfl) (by kernel_rfl) (fun _ _ _ h => h) (Or.inl ⟨by rfl, ?_⟩) (by assumption) ?_
        rotate_left 1
        ·intro w hSw
         (try dsimp only at hSw)
         go_simp
         try with_reducible rfl
        try simp only [Act.put]
        refine wpAnyH_take (i := 10) (v := ?_) rfl (by kernel_rfl) (by kernel_rfl) (by kernel_rfl) (fun _ _ _ h => h) (Or.inl ⟨by rfl, ?_⟩) (by assumption) ?_
        rotate_left 1
        ·intro w hSw
         (try dsimp only at hSw)
         go_simp
         try with_reducible rfl
        try simp only [Act.put]
        refine wpAnyH_ready (rs := [2, 3]) (by kernel_rfl) (by simp) ?_
        refine AllReadyH.cons rfl (fun K hK => ?_) (AllReadyH.cons rfl (fun K hK => ?_) AllReadyH.nil)
        ·go_simp
         go_at_call_of 66 (Value.slice L1 a1 x1)
         refine (HLw2.out _ ?_).mono ?_
         ·exact (PyAt.drew HP2.out).1.2.2
         rintro e w3 ⟨rfl, hb3⟩
         have HPa := Lib.hid (PyAt.below (PyAt.drew HP2.out) hb3)
         clear hb3
         dsimp only
         refine hK.out _ _ ?_ (fun hHeld => ?_)
         ·exact HC.out _ HPa.out
         clear hK K
         refine wpAnyH_ready (rs := [3, 11]) (by kernel_rfl) (by simp) ?_
         refine AllReadyH.cons rfl (fun K hK => ?_) (AllReadyH.cons rfl (fun K hK => ?_) AllReadyH.nil)
         ·go_simp
          refine hK.out _ _ ?_ (fun hHeld => ?_)
          ·exact HC.out _ (PyAt.alloc HPa.out _)
          clear hK K
          have HRW := Lib.hid (Blk.new (w3) 9 #[.string ⟨#[62]⟩, .string ⟨#[60]⟩, .string ⟨#[60, 62]⟩])
          refine wpAnyH_ready (rs := [7, 11]) (by kernel_rfl) (by simp) ?_
          refine AllReadyH.cons rfl (fun K hK => ?_) (AllReadyH.cons rfl (fun K hK => ?_) AllReadyH.nil)
          ·go_simp
           refine hK.out _ _ ?_ (fun hHeld => ?_)
           ·exact HC.out _ (PyAt.alloc HPa.out (.cells #[.string ⟨#[62]⟩, .string ⟨#[60]⟩, .string ⟨#[60, 62]⟩] 9))
           clear hK K
           refine wpAnyH_ready (rs := [8, 11]) (by kernel_rfl) (by simp) ?_
           refine AllReadyH.cons rfl (fun K hK => ?_) (AllReadyH.cons rfl (fun K hK => ?_) AllReadyH.nil)
           ·go_simp
            refine hK.out _ _ ?_ (fun hHeld => ?_)
            ·exact HC.out _ (PyAt.alloc HPa.out (.cells #[.string ⟨#[62]⟩, .string ⟨#[60]⟩, .string ⟨#[60, 62]⟩] 9))
            clear hK K
            refine wpAnyH_ready (rs := [11]) (by kernel_rfl) (by simp) ?_
            refine AllReadyH.cons rfl (fun K hK => ?_) AllReadyH.nil
            go_simp
            go_at_call_of 66 (Value.slice R1 b1 y1)
            refine (HRw2.out _ ?_).mono ?_
            ·exact (PyAt.alloc HPa.out (.cells #[.string ⟨#[62]⟩, .string ⟨#[60]⟩, .string ⟨#[60, 62]⟩] 9)).1.2.2
            rintro e w4 ⟨rfl, hb3⟩
            have HPb := Lib.hid (PyAt.below (PyAt.alloc HPa.out (.cells #[.string ⟨#[62]⟩, .string ⟨#[60]⟩, .string ⟨#[60, 62]⟩] 9)) hb3)
            clear hb3
            dsimp only
            refine hK.out _ _ ?_ (fun hHeld => ?_)
            ·exact HC.out _ HPb.out
            clear hK K
            refine wpAnyH_ready (rs := [12]) (by kernel_rfl) (by simp) ?_
            refine AllReadyH.cons rfl (fun K hK => ?_) AllReadyH.nil
            go_simp
            refine hK.out _ _ ?_ (fun hHeld => ?_)
            ·exact HC.out _ (PyAt.alloc HPb.out _)
            clear hK K
            refine wpAnyH_take (i := 13) (v := ?_) rfl (by kernel_rfl) (by kernel_rfl) (by kernel_rfl) (fun _ _ _ h => h) (Or.inl ⟨by rfl, ?_⟩) (by assumption) ?_
            rotate_left 1
            ·intro w hSw
             (try dsimp only at hSw)
             go_simp
             try with_reducible rfl
            try simp only [Act.put]
            refine wpAnyH_done (by kernel_rfl) ?_ _
            go_simp
            go_wp2_with fail
            go_meet
            refine ⟨_, rfl, ?_, PyAt.alloc HPb.out _⟩
            rw [HDW.out]
            first
             | exact Blk.new _ _ _
             | exact blk_new2 _ _ _ _
           ·go_simp
            go_at_call_of 66 (Value.slice R1 b1 y1)
            refine (HRw2.out _ ?_).mono ?_
            ·exact (PyAt.alloc HPa.out (.cells #[.string ⟨#[62]⟩, .string ⟨#[60]⟩, .string ⟨#[60, 62]⟩] 9)).1.2.2
            rintro e w4 ⟨rfl, hb3⟩
            have HPb := Lib.hid (PyAt.below (PyAt.alloc HPa.out (.cells #[.string ⟨#[62]⟩, .string ⟨#[60]⟩, .string ⟨#[60, 62]⟩] 9)) hb3)
            have HRW := Lib.hid (Blk.below HRW.out (show Below (w3.alloc (.cells #[.string ⟨#[62]⟩, .string ⟨#[60]⟩, .string ⟨#[60, 62]⟩] 9)).heap.size (w3.alloc (.cells #[.string ⟨#[62]⟩, .string ⟨#[60]⟩, .string ⟨#[60, 62]⟩] 9)) w4 from hb3) HRW.out.lt)
            have hrow : w4.cell? ⟨w3.heap.size, 1, none⟩ = some (.string ⟨#[60]⟩) := HRW.out.cell 1
            clear hb3
            dsimp only
            refine hK.out _ _ ?_ (fun hHeld => ?_)
            ·exact HC.out _ HPb.out
            clear hK K
            refine wpAnyH_ready (rs := [8]) (by kernel_rfl) (by simp) ?_
            refine AllReadyH.cons rfl (fun K hK => ?_) AllReadyH.nil
            go_simp
            refine hK.out _ _ ?_ (fun hHeld => ?_)
            ·exact HC.out _ HPb.out
            clear hK K
            refine wpAnyH_ready (rs := [12]) (by kernel_rfl) (by simp) ?_
            refine AllReadyH.cons rfl (fun K hK => ?_) AllReadyH.nil
            go_simp
            refine hK.out _ _ ?_ (fun hHeld => ?_)
            ·exact HC.out _ (PyAt.alloc HPb.out _)
            clear hK K
            refine wpAnyH_take (i := 13) (v := ?_) rfl (by kernel_rfl) (by kernel_rfl) (by kernel_rfl) (fun _ _ _ h => h) (Or.inl ⟨by rfl, ?_⟩) (by assumption) ?_
            rotate_left 1
            ·intro w hSw
             (try dsimp only at hSw)
             go_simp
             try with_reducible rfl
            try simp only [Act.put]
            refine wpAnyH_done (by kernel_rfl) ?_ _
            go_simp
            go_wp2_with fail
            go_meet
            refine ⟨_, rfl, ?_, PyAt.alloc HPb.out _⟩
            rw [HDW.out]
            first
             | exact Blk.new _ _ _
             | exact blk_new2 _ _ _ _
          ·go_simp
           go_at_call_of 66 (Value.slice R1 b1 y1)
           refine (HRw2.out _ ?_).mono ?_
           ·exact (PyAt.alloc HPa.out (.cells #[.string ⟨#[62]⟩, .string ⟨#[60]⟩, .string ⟨#[60, 62]⟩] 9)).1.2.2
           rintro e w4 ⟨rfl, hb3⟩
           have HPb := Lib.hid (PyAt.below (PyAt.alloc HPa.out (.cells #[.string ⟨#[62]⟩, .string ⟨#[60]⟩, .string ⟨#[60, 62]⟩] 9)) hb3)
           have HRW := Lib.hid (Blk.below HRW.out (show Below (w3.alloc (.cells #[.string ⟨#[62]⟩, .string ⟨#[60]⟩, .string ⟨#[60, 62]⟩] 9)).heap.size (w3.alloc (.cells #[.string ⟨#[62]⟩, .string ⟨#[60]⟩, .string ⟨#[60, 62]⟩] 9)) w4 from hb3) HRW.out.lt)
           have hrow : w4.cell? ⟨w3.heap.size, 1, none⟩ = some (.string ⟨#[60]⟩) := HRW.out.cell 1
           clear hb3
           dsimp only
           refine hK.out _ _ ?_ (fun hHeld => ?_)
           ·exact HC.out _ HPb.out
           clear hK K
           refine wpAnyH_ready (rs := [7]) (by kernel_rfl) (by simp) ?_
           refine AllReadyH.cons rfl (fun K hK => ?_) AllReadyH.nil
           go_simp
           refine hK.out _ _ ?_ (fun hHeld => ?_)
           ·exact HC.out _ HPb.out
           clear hK K
           refine wpAnyH_ready (rs := [8]) (by kernel_rfl) (by simp) ?_
           refine AllReadyH.cons rfl (fun K hK => ?_) AllReadyH.nil
           go_simp
           refine hK.out _ _ ?_ (fun hHeld => ?_)
           ·exact HC.out _ HPb.out
           clear hK K
           refine wpAnyH_ready (rs := [12]) (by kernel_rfl) (by simp) ?_
           refine AllReadyH.cons rfl (fun K hK => ?_) AllReadyH.nil
           go_simp
           refine hK.out _ _ ?_ (fun hHeld => ?_)
           ·exact HC.out _ (PyAt.alloc HPb.out _)
           clear hK K
           refine wpAnyH_take (i := 13) (v := ?_) rfl (by kernel_rfl) (by kernel_rfl) (by kernel_rfl) (fun _ _ _ h => h) (Or.inl ⟨by rfl, ?_⟩) (by assumption) ?_
           rotate_left 1
           ·intro w hSw
            (try dsimp only at hSw)
            go_simp
            try with_reducible rfl
           try simp only [Act.put]
           refine wpAnyH_done (by kernel_rfl) ?_ _
           go_simp
           go_wp2_with fail
           go_meet
           refine ⟨_, rfl, ?_, PyAt.alloc HPb.out _⟩
           rw [HDW.out]
           first
            | exact Blk.new _ _ _
            | exact blk_new2 _ _ _ _
         ·go_simp
          go_at_call_of 66 (Value.slice R1 b1 y1)
          refine (HRw2.out _ ?_).mono ?_
          ·exact HPa.out.1.2.2
          rintro e w4 ⟨rfl, hb3⟩
          have HPb := Lib.hid (PyAt.below HPa.out hb3)
          clear hb3
          dsimp only
          refine hK.out _ _ ?_ (fun hHeld => ?_)
          ·exact HC.out _ HPb.out
          clear hK K
          refine wpAnyH_ready (rs := [3]) (by kernel_rfl) (by simp) ?_
          refine AllReadyH.cons rfl (fun K hK => ?_) AllReadyH.nil
          go_simp
          refine hK.out _ _ ?_ (fun hHeld => ?_)
          ·exact HC.out _ (PyAt.alloc HPb.out _)
          clear hK K
          have HRW := Lib.hid (Blk.new (w4) 9 #[.string ⟨#[62]⟩, .string ⟨#[60]⟩, .string ⟨#[60, 62]⟩])
          refine wpAnyH_ready (rs := [7]) (by kernel_rfl) (by simp) ?_
          refine AllReadyH.cons rfl (fun K hK => ?_) AllReadyH.nil
          go_simp
          refine hK.out _ _ ?_ (fun hHeld => ?_)
          ·exact HC.out _ (PyAt.alloc HPb.out (.cells #[.string ⟨#[62]⟩, .string ⟨#[60]⟩, .string ⟨#[60, 62]⟩] 9))
          clear hK K
          refine wpAnyH_ready (rs := [8]) (by kernel_rfl) (by simp) ?_
          refine AllReadyH.cons rfl (fun K hK => ?_) AllReadyH.nil
          go_simp
          refine hK.out _ _ ?_ (fun hHeld => ?_)
          ·exact HC.out _ (PyAt.alloc HPb.out (.cells #[.string ⟨#[62]⟩, .string ⟨#[60]⟩, .string ⟨#[60, 62]⟩] 9))
          clear hK K
          refine wpAnyH_ready (rs := [12]) (by kernel_rfl) (by simp) ?_
          refine AllReadyH.cons rfl (fun K hK => ?_) AllReadyH.nil
          go_simp
          refine hK.out _ _ ?_ (fun hHeld => ?_)
          ·exact HC.out _ (PyAt.alloc (PyAt.alloc HPb.out (.cells #[.string ⟨#[62]⟩, .string ⟨#[60]⟩, .string ⟨#[60, 62]⟩] 9)) _)
          clear hK K
          refine wpAnyH_take (i := 13) (v := ?_) rfl (by kernel_rfl) (by kernel_rfl) (by kernel_rfl) (fun _ _ _ h => h) (Or.inl ⟨by rfl, ?_⟩) (by assumption) ?_
          rotate_left 1
          ·intro w hSw
           (try dsimp only at hSw)
           go_simp
           try with_reducible rfl
          try simp only [Act.put]
          refine wpAnyH_done (by kernel_rfl) ?_ _
          go_simp
          go_wp2_with fail
          go_meet
          refine ⟨_, rfl, ?_, PyAt.alloc (PyAt.alloc HPb.out (.cells #[.string ⟨#[62]⟩, .string ⟨#[60]⟩, .string ⟨#[60, 62]⟩] 9)) _⟩
          rw [HDW.out]
          first
           | exact Blk.new _ _ _
           | exact blk_new2 _ _ _ _
        ·go_simp
         refine hK.out _ _ ?_ (fun hHeld => ?_)
         ·exact HC.out _ (PyAt.alloc (PyAt.drew HP2.out) _)
         clear hK K
         have HRW := Lib.hid (Blk.new (w2.drew) 9 #[.string ⟨#[62]⟩, .string ⟨#[60]⟩, .string ⟨#[60, 62]⟩])
         refine wpAnyH_ready (rs := [2, 7]) (by kernel_rfl) (by simp) ?_
         refine AllReadyH.cons rfl (fun K hK => ?_) (AllReadyH.cons rfl (fun K hK => ?_) AllReadyH.nil)
         ·go_simp
          go_at_call_of 66 (Value.slice L1 a1 x1)
          refine (HLw2.out _ ?_).mono ?_
          ·exact (PyAt.alloc (PyAt.drew HP2.out) (.cells #[.string ⟨#[62]⟩, .string ⟨#[60]⟩, .string ⟨#[60, 62]⟩] 9)).1.2.2
          rintro e w3 ⟨rfl, hb3⟩
          have HPa := Lib.hid (PyAt.below (PyAt.alloc (PyAt.drew HP2.out) (.cells #[.string ⟨#[62]⟩, .string ⟨#[60]⟩, .string ⟨#[60, 62]⟩] 9)) hb3)
          have HRW := Lib.hid (Blk.below HRW.out (show Below (w2.drew.alloc (.cells #[.string ⟨#[62]⟩, .string ⟨#[60]⟩, .string ⟨#[60, 62]⟩] 9)).heap.size (w2.drew.alloc (.cells #[.string ⟨#[62]⟩, .string ⟨#[60]⟩, .string ⟨#[60, 62]⟩] 9)) w3 from hb3) HRW.out.lt)
          have hrow : w3.cell? ⟨w2.heap.size, 1, none⟩ = some (.string ⟨#[60]⟩) := HRW.out.cell 1
          clear hb3
          dsimp only
          refine hK.out _ _ ?_ (fun hHeld => ?_)
          ·exact HC.out _ HPa.out
          clear hK K
          refine wpAnyH_ready (rs := [7, 11]) (by kernel_rfl) (by simp) ?_
          refine AllReadyH.cons rfl (fun K hK => ?_) (AllReadyH.cons rfl (fun K hK => ?_) AllReadyH.nil)
          ·go_simp
           refine hK.out _ _ ?_ (fun hHeld => ?_)
           ·exact HC.out _ HPa.out
           clear hK K
           refine wpAnyH_ready (rs := [8, 11]) (by kernel_rfl) (by simp) ?_
           refine AllReadyH.cons rfl (fun K hK => ?_) (AllReadyH.cons rfl (fun K hK => ?_) AllReadyH.nil)
           ·go_simp
            refine hK.out _ _ ?_ (fun hHeld => ?_)
            ·exact HC.out _ HPa.out
            clear hK K
            refine wpAnyH_ready (rs := [11]) (by kernel_rfl) (by simp) ?_
            refine AllReadyH.cons rfl (fun K hK => ?_) AllReadyH.nil
            go_simp
            go_at_call_of 66 (Value.slice R1 b1 y1)
            refine (HRw2.out _ ?_).mono ?_
            ·exact HPa.out.1.2.2
            rintro e w4 ⟨rfl, hb3⟩
            have HPb := Lib.hid (PyAt.below HPa.out hb3)
            clear hb3
            dsimp only
            refine hK.out _ _ ?_ (fun hHeld => ?_)
            ·exact HC.out _ HPb.out
            clear hK K
            refine wpAnyH_ready (rs := [12]) (by kernel_rfl) (by simp) ?_
            refine AllReadyH.cons rfl (fun K hK => ?_) AllReadyH.nil
            go_simp
            refine hK.out _ _ ?_ (fun hHeld => ?_)
            ·exact HC.out _ (PyAt.alloc HPb.out _)
            clear hK K
            refine wpAnyH_take (i := 13) (v := ?_) rfl (by kernel_rfl) (by kernel_rfl) (by kernel_rfl) (fun _ _ _ h => h) (Or.inl ⟨by rfl, ?_⟩) (by assumption) ?_
            rotate_left 1
            ·intro w hSw
             (try dsimp only at hSw)
             go_simp
             try with_reducible rfl
            try simp only [Act.put]
            refine wpAnyH_done (by kernel_rfl) ?_ _
            go_simp
            go_wp2_with fail
            go_meet
            refine ⟨_, rfl, ?_, PyAt.alloc HPb.out _⟩
            rw [HDW.out]
            first
             | exact Blk.new _ _ _
             | exact blk_new2 _ _ _ _
           ·go_simp
            go_at_call_of 66 (Value.slice R1 b1 y1)
            refine (HRw2.out _ ?_).mono ?_
            ·exact HPa.out.1.2.2
            rintro e w4 ⟨rfl, hb3⟩
            have HPb := Lib.hid (PyAt.below HPa.out hb3)
            have HRW := Lib.hid (Blk.below HRW.out (show Below (w3).heap.size (w3) w4 from hb3) HRW.out.lt)
            have hrow : w4.cell? ⟨w2.heap.size, 1, none⟩ = some (.string ⟨#[60]⟩) := HRW.out.cell 1
            clear hb3
            dsimp only
            refine hK.out _ _ ?_ (fun hHeld => ?_)
            ·exact HC.out _ HPb.out
            clear hK K
            refine wpAnyH_ready (rs := [8]) (by kernel_rfl) (by simp) ?_
            refine AllReadyH.cons rfl (fun K hK => ?_) AllReadyH.nil
            go_simp
            refine hK.out _ _ ?_ (fun hHeld => ?_)
            ·exact HC.out _ HPb.out
            clear hK K
            refine wpAnyH_ready (rs := [12]) (by kernel_rfl) (by simp) ?_
            refine AllReadyH.cons rfl (fun K hK => ?_) AllReadyH.nil
            go_simp
            refine hK.out _ _ ?_ (fun hHeld => ?_)
            ·exact HC.out _ (PyAt.alloc HPb.out _)
            clear hK K
            refine wpAnyH_take (i := 13) (v := ?_) rfl (by kernel_rfl) (by kernel_rfl) (by kernel_rfl) (fun _ _ _ h => h) (Or.inl ⟨by rfl, ?_⟩) (by assumption) ?_
            rotate_left 1
            ·intro w hSw
             (try dsimp only at hSw)
             go_simp
             try with_reducible rfl
            try simp only [Act.put]
            refine wpAnyH_done (by kernel_rfl) ?_ _
            go_simp
            go_wp2_with fail
            go_meet
            refine ⟨_, rfl, ?_, PyAt.alloc HPb.out _⟩
            rw [HDW.out]
            first
             | exact Blk.new _ _ _
             | exact blk_new2 _ _ _ _
          ·go_simp
           go_at_call_of 66 (Value.slice R1 b1 y1)
           refine (HRw2.out _ ?_).mono ?_
           ·exact HPa.out.1.2.2
           rintro e w4 ⟨rfl, hb3⟩
           have HPb := Lib.hid (PyAt.below HPa.out hb3)
           have HRW := Lib.hid (Blk.below HRW.out (show Below (w3).heap.size (w3) w4 from hb3) HRW.out.lt)
           have hrow : w4.cell? ⟨w2.heap.size, 1, none⟩ = some (.string ⟨#[60]⟩) := HRW.out.cell 1
           clear hb3
           dsimp only
           refine hK.out _ _ ?_ (fun hHeld => ?_)
           ·exact HC.out _ HPb.out
           clear hK K
           refine wpAnyH_ready (rs := [7]) (by kernel_rfl) (by simp) ?_
           refine AllReadyH.cons rfl (fun K hK => ?_) AllReadyH.nil
           go_simp
           refine hK.out _ _ ?_ (fun hHeld => ?_)
           ·exact HC.out _ HPb.out
           clear hK K
           refine wpAnyH_ready (rs := [8]) (by kernel_rfl) (by simp) ?_
           refine AllReadyH.cons rfl (fun K hK => ?_) AllReadyH.nil
           go_simp
           refine hK.out _ _ ?_ (fun hHeld => ?_)
           ·exact HC.out _ HPb.out
           clear hK K
           refine wpAnyH_ready (rs := [12]) (by kernel_rfl) (by simp) ?_
           refine AllReadyH.cons rfl (fun K hK => ?_) AllReadyH.nil
           go_simp
           refine hK.out _ _ ?_ (fun hHeld => ?_)
           ·exact HC.out _ (PyAt.alloc HPb.out _)
           clear hK K
           refine wpAnyH_take (i := 13) (v := ?_) rfl (by kernel_rfl) (by kernel_rfl) (by kernel_rfl) (fun _ _ _ h => h) (Or.inl ⟨by rfl, ?_⟩) (by assumption) ?_
           rotate_left 1
           ·intro w hSw
            (try dsimp only at hSw)
            go_simp
            try with_reducible rfl
           try simp only [Act.put]
           refine wpAnyH_done (by kernel_rfl) ?_ _
           go_simp
           go_wp2_with fail
           go_meet
           refine ⟨_, rfl, ?_, PyAt.alloc HPb.out _⟩
           rw [HDW.out]
           first
            | exact Blk.new _ _ _
            | exact blk_new2 _ _ _ _
         ·go_simp
          refine hK.out _ _ ?_ (fun hHeld => ?_)
          ·exact HC.out _ (PyAt.alloc (PyAt.drew HP2.out) (.cells #[.string ⟨#[62]⟩, .string ⟨#[60]⟩, .string ⟨#[60, 62]⟩] 9))
          clear hK K
          refine wpAnyH_ready (rs := [2, 8]) (by kernel_rfl) (by simp) ?_
          refine AllReadyH.cons rfl (fun K hK => ?_) (AllReadyH.cons rfl (fun K hK => ?_) AllReadyH.nil)
          ·go_simp
           go_at_call_of 66 (Value.slice L1 a1 x1)
           refine (HLw2.out _ ?_).mono ?_
           ·exact (PyAt.alloc (PyAt.drew HP2.out) (.cells #[.string ⟨#[62]⟩, .string ⟨#[60]⟩, .string ⟨#[60, 62]⟩] 9)).1.2.2
           rintro e w3 ⟨rfl, hb3⟩
           have HPa := Lib.hid (PyAt.below (PyAt.alloc (PyAt.drew HP2.out) (.cells #[.string ⟨#[62]⟩, .string ⟨#[60]⟩, .string ⟨#[60, 62]⟩] 9)) hb3)
           have HRW := Lib.hid (Blk.below HRW.out (show Below (w2.drew.alloc (.cells #[.string ⟨#[62]⟩, .string ⟨#[60]⟩, .string ⟨#[60, 62]⟩] 9)).heap.size (w2.drew.alloc (.cells #[.string ⟨#[62]⟩, .string ⟨#[60]⟩, .string ⟨#[60, 62]⟩] 9)) w3 from hb3) HRW.out.lt)
           have hrow : w3.cell? ⟨w2.heap.size, 1, none⟩ = some (.string ⟨#[60]⟩) := HRW.out.cell 1
           clear hb3
           dsimp only
           refine hK.out _ _ ?_ (fun hHeld => ?_)
           ·exact HC.out _ HPa.out
           clear hK K
           refine wpAnyH_ready (rs := [8, 11]) (by kernel_rfl) (by simp) ?_
           refine AllReadyH.cons rfl (fun K hK => ?_) (AllReadyH.cons rfl (fun K hK => ?_) AllReadyH.nil)
           ·go_simp
            refine hK.out _ _ ?_ (fun hHeld => ?_)
            ·exact HC.out _ HPa.out
            clear hK K
            refine wpAnyH_ready (rs := [11]) (by kernel_rfl) (by simp) ?_
            refine AllReadyH.cons rfl (fun K hK => ?_) AllReadyH.nil
            go_simp
            go_at_call_of 66 (Value.slice R1 b1 y1)
            refine (HRw2.out _ ?_).mono ?_
            ·exact HPa.out.1.2.2
            rintro e w4 ⟨rfl, hb3⟩
            have HPb := Lib.hid (PyAt.below HPa.out hb3)
            clear hb3
            dsimp only
            refine hK.out _ _ ?_ (fun hHeld => ?_)
            ·exact HC.out _ HPb.out
            clear hK K
            refine wpAnyH_ready (rs := [12]) (by kernel_rfl) (by simp) ?_
            refine AllReadyH.cons rfl (fun K hK => ?_) AllReadyH.nil
            go_simp
            refine hK.out _ _ ?_ (fun hHeld => ?_)
            ·exact HC.out _ (PyAt.alloc HPb.out _)
            clear hK K
            refine wpAnyH_take (i := 13) (v := ?_) rfl (by kernel_rfl) (by kernel_rfl) (by kernel_rfl) (fun _ _ _ h => h) (Or.inl ⟨by rfl, ?_⟩) (by assumption) ?_
            rotate_left 1
            ·intro w hSw
             (try dsimp only at hSw)
             go_simp
             try with_reducible rfl
            try simp only [Act.put]
            refine wpAnyH_done (by kernel_rfl) ?_ _
            go_simp
            go_wp2_with fail
            go_meet
            refine ⟨_, rfl, ?_, PyAt.alloc HPb.out _⟩
            rw [HDW.out]
            first
             | exact Blk.new _ _ _
             | exact blk_new2 _ _ _ _
           ·go_simp
            go_at_call_of 66 (Value.slice R1 b1 y1)
            refine (HRw2.out _ ?_).mono ?_
            ·exact HPa.out.1.2.2
            rintro e w4 ⟨rfl, hb3⟩
            have HPb := Lib.hid (PyAt.below HPa.out hb3)
            have HRW := Lib.hid (Blk.below HRW.out (show Below (w3).heap.size (w3) w4 from hb3) HRW.out.lt)
            have hrow : w4.cell? ⟨w2.heap.size, 1, none⟩ = some (.string ⟨#[60]⟩) := HRW.out.cell 1
            clear hb3
            dsimp only
            refine hK.out _ _ ?_ (fun hHeld => ?_)
            ·exact HC.out _ HPb.out
            clear hK K
            refine wpAnyH_ready (rs := [8]) (by kernel_rfl) (by simp) ?_
            refine AllReadyH.cons rfl (fun K hK => ?_) AllReadyH.nil
            go_simp
            refine hK.out _ _ ?_ (fun hHeld => ?_)
            ·exact HC.out _ HPb.out
            clear hK K
            refine wpAnyH_ready (rs := [12]) (by kernel_rfl) (by simp) ?_
            refine AllReadyH.cons rfl (fun K hK => ?_) AllReadyH.nil
            go_simp
            refine hK.out _ _ ?_ (fun hHeld => ?_)
            ·exact HC.out _ (PyAt.alloc HPb.out _)
            clear hK K
            refine wpAnyH_take (i := 13) (v := ?_) rfl (by kernel_rfl) (by kernel_rfl) (by kernel_rfl) (fun _ _ _ h => h) (Or.inl ⟨by rfl, ?_⟩) (by assumption) ?_
            rotate_left 1
            ·intro w hSw
             (try dsimp only at hSw)
             go_simp
             try with_reducible rfl
            try simp only [Act.put]
            refine wpAnyH_done (by kernel_rfl) ?_ _
            go_simp
            go_wp2_with fail
            go_meet
            refine ⟨_, rfl, ?_, PyAt.alloc HPb.out _⟩
            rw [HDW.out]
            first
             | exact Blk.new _ _ _
             | exact blk_new2 _ _ _ _
          ·go_simp
           refine hK.out _ _ ?_ (fun hHeld => ?_)
           ·exact HC.out _ (PyAt.alloc (PyAt.drew HP2.out) (.cells #[.string ⟨#[62]⟩, .string ⟨#[60]⟩, .string ⟨#[60, 62]⟩] 9))
           clear hK K
           refine wpAnyH_ready (rs := [2]) (by kernel_rfl) (by simp) ?_
           refine AllReadyH.cons rfl (fun K hK => ?_) AllReadyH.nil
           go_simp
           go_at_call_of 66 (Value.slice L1 a1 x1)
           refine (HLw2.out _ ?_).mono ?_
           ·exact (PyAt.alloc (PyAt.drew HP2.out) (.cells #[.string ⟨#[62]⟩, .string ⟨#[60]⟩, .string ⟨#[60, 62]⟩] 9)).1.2.2
           rintro e w3 ⟨rfl, hb3⟩
           have HPa := Lib.hid (PyAt.below (PyAt.alloc (PyAt.drew HP2.out) (.cells #[.string ⟨#[62]⟩, .string ⟨#[60]⟩, .string ⟨#[60, 62]⟩] 9)) hb3)
           clear hb3
           dsimp only
           refine hK.out _ _ ?_ (fun hHeld => ?_)
           ·exact HC.out _ HPa.out
           clear hK K
           refine wpAnyH_ready (rs := [11]) (by kernel_rfl) (by simp) ?_
           refine AllReadyH.cons rfl (fun K hK => ?_) AllReadyH.nil
           go_simp
           go_at_call_of 66 (Value.slice R1 b1 y1)
           refine (HRw2.out _ ?_).mono ?_
           ·exact HPa.out.1.2.2
           rintro e w4 ⟨rfl, hb3⟩
           have HPb := Lib.hid (PyAt.below HPa.out hb3)
           clear hb3
           dsimp only
           refine hK.out _ _ ?_ (fun hHeld => ?_)
           ·exact HC.out _ HPb.out
           clear hK K
           refine wpAnyH_ready (rs := [12]) (by kernel_rfl) (by simp) ?_
           refine AllReadyH.cons rfl (fun K hK => ?_) AllReadyH.nil
           go_simp
           refine hK.out _ _ ?_ (fun hHeld => ?_)
           ·exact HC.out _ (PyAt.alloc HPb.out _)
           clear hK K
           refine wpAnyH_take (i := 13) (v := ?_) rfl (by kernel_rfl) (by kernel_rfl) (by kernel_rfl) (fun _ _ _ h => h) (Or.inl ⟨by rfl, ?_⟩) (by assumption) ?_
           rotate_left 1
           ·intro w hSw
            (try dsimp only at hSw)
            go_simp
            try with_reducible rfl
           try simp only [Act.put]
           refine wpAnyH_done (by kernel_rfl) ?_ _
           go_simp
           go_wp2_with fail
           go_meet
           refine ⟨_, rfl, ?_, PyAt.alloc HPb.out _⟩
           rw [HDW.out]
           first
            | exact Blk.new _ _ _
            | exact blk_new2 _ _ _ _
       ·have HDW := Lib.hid (show (⟨(dirW p.dir).toArray⟩ : ByteArray) = ⟨#[60, 62]⟩ by rw [hd]; rfl)
        have HC := Lib.hid (fun (wx : World) (h : PyAt w w.heap.size wr.heap.size bb #[.int .i64 p.kind, .string p.name, .slice A' n' c', .int .i64 p.dir, .bool p.left.start, .bool p.left.fin, .slice L1 a1 x1, .slice L2 a2 x2, .slice L3 a3 x3, .int .i64 p.left.cursor, .bool p.right.start, .bool p.right.fin, .slice R1 b1 y1, .slice R2 b2 y2, .slice R3 b3 y3, .int .i64 p.right.cursor] (Lib.byteCells T) wx) => show (fun w' => w'.cell? ⟨wr.heap.size, 3, none⟩ = some (.int .i64 3) ∧ w'.cell? ⟨wr.heap.size, 4, none⟩ = some (.bool p.left.start) ∧ w'.cell? ⟨wr.heap.size, 5, none⟩ = some (.bool p.left.fin) ∧ w'.cell? ⟨wr.heap.size, 6, none⟩ = some (.slice L1 a1 x1) ∧ w'.cell? ⟨wr.heap.size, 7, none⟩ = some (.slice L2 a2 x2) ∧ w'.cell? ⟨wr.heap.size, 8, none⟩ = some (.slice L3 a3 x3) ∧ w'.cell? ⟨wr.heap.size, 9, none⟩ = some (.int .i64 p.left.cursor) ∧ w'.cell? ⟨wr.heap.size, 10, none⟩ = some (.bool p.right.start) ∧ w'.cell? ⟨wr.heap.size, 11, none⟩ = some (.bool p.right.fin) ∧ w'.cell? ⟨wr.heap.size, 12, none⟩ = some (.slice R1 b1 y1) ∧ w'.cell? ⟨wr.heap.size, 13, none⟩ = some (.slice R2 b2 y2) ∧ w'.cell? ⟨wr.heap.size, 14, none⟩ = some (.slice R3 b3 y3) ∧ w'.cell? ⟨wr.heap.size, 15, none⟩ = some (.int .i64 p.right.cursor)) wx from ⟨(h.1.2.1.cell 3).trans (by rw [← hd]; rfl), h.1.2.1.cell 4, h.1.2.1.cell 5, h.1.2.1.cell 6, h.1.2.1.cell 7, h.1.2.1.cell 8, h.1.2.1.cell 9, h.1.2.1.cell 10, h.1.2.1.cell 11, h.1.2.1.cell 12, h.1.2.1.cell 13, h.1.2.1.cell 14, h.1.2.1.cell 15⟩)
        have hwr : IntKind.i64.wrap 2 = 2 := by decide
        clear hd
        refine wp_region_held_drew (S := fun w' => w'.cell? ⟨wr.heap.size, 3, none⟩ = some (.int .i64 3) ∧ w'.cell? ⟨wr.heap.size, 4, none⟩ = some (.bool p.left.start) ∧ w'.cell? ⟨wr.heap.size, 5, none⟩ = some (.bool p.left.fin) ∧ w'.cell? ⟨wr.heap.size, 6, none⟩ = some (.slice L1 a1 x1) ∧ w'.cell? ⟨wr.heap.size, 7, none⟩ = some (.slice L2 a2 x2) ∧ w'.cell? ⟨wr.heap.size, 8, none⟩ = some (.slice L3 a3 x3) ∧ w'.cell? ⟨wr.heap.size, 9, none⟩ = some (.int .i64 p.left.cursor) ∧ w'.cell? ⟨wr.heap.size, 10, none⟩ = some (.bool p.right.start) ∧ w'.cell? ⟨wr.heap.size, 11, none⟩ = some (.bool p.right.fin) ∧ w'.cell? ⟨wr.heap.size, 12, none⟩ = some (.slice R1 b1 y1) ∧ w'.cell? ⟨wr.heap.size, 13, none⟩ = some (.slice R2 b2 y2) ∧ w'.cell? ⟨wr.heap.size, 14, none⟩ = some (.slice R3 b3 y3) ∧ w'.cell? ⟨wr.heap.size, 15, none⟩ = some (.int .i64 p.right.cursor)) (by kernel_rfl) (HC.out _ (PyAt.drew HP2.out)) (fun hHeld => ?_)
        refine wpAnyH_take (i := 0) (v := ?_) rfl (by kernel_rfl) (by kernel_rfl) (by kernel_rfl) (fun _ _ _ h => h) (Or.inl ⟨by rfl, ?_⟩) (by assumption) ?_
        rotate_left 1
        ·intro w hSw
         (try dsimp only at hSw)
         go_simp
         try with_reducible rfl
        try simp only [Act.put]
        refine wpAnyH_take (i := 1) (v := ?_) rfl (by kernel_rfl) (by kernel_rfl) (by kernel_rfl) (fun _ _ _ h => h) (Or.inl ⟨by rfl, ?_⟩) (by assumption) ?_
        rotate_left 1
        ·intro w hSw
         (try dsimp only at hSw)
         go_simp
         try with_reducible rfl
        try simp only [Act.put]
        refine wpAnyH_take (i := 4) (v := ?_) rfl (by kernel_rfl) (by kernel_rfl) (by kernel_rfl) (fun _ _ _ h => h) (Or.inl ⟨by rfl, ?_⟩) (by assumption) ?_
        rotate_left 1
        ·intro w hSw
         (try dsimp only at hSw)
         go_simp
         try with_reducible rfl
        try simp only [Act.put]
        refine wpAnyH_take (i := 5) (v := ?_) rfl (by kernel_rfl) (by kernel_rfl) (by kernel_rfl) (fun _ _ _ h => h) (Or.inl ⟨by rfl, ?_⟩) (by assumption) ?_
        rotate_left 1
        ·intro w hSw
         (try dsimp only at hSw)
         go_simp
         try with_reducible rfl
        try simp only [Act.put]
        refine wpAnyH_take (i := 6) (v := ?_) rfl (by kernel_rfl) (by kernel_rfl) (by kernel_rfl) (fun _ _ _ h => h) (Or.inl ⟨by rfl, ?_⟩) (by assumption) ?_
        rotate_left 1
        ·intro w hSw
         (try dsimp only at hSw)
         go_simp
         try with_reducible rfl
        try simp only [Act.put]
        refine wpAnyH_take (i := 9) (v := ?_) rfl (by kernel_rfl) (by kernel_rfl) (by kernel_rfl) (fun _ _ _ h => h) (Or.inl ⟨by rfl, ?_⟩) (by assumption) ?_
        rotate_left 1
        ·intro w hSw
         (try dsimp only at hSw)
         go_simp
         try with_reducible rfl
        try simp only [Act.put]
        refine wpAnyH_take (i := 10) (v := ?_) rfl (by kernel_rfl) (by kernel_rfl) (by kernel_rfl) (fun _ _ _ h => h) (Or.inl ⟨by rfl, ?_⟩) (by assumption) ?_
        rotate_left 1
        ·intro w hSw
         (try dsimp only at hSw)
         go_simp
         try with_reducible rfl
        try simp only [Act.put]
        refine wpAnyH_ready (rs := [2, 3]) (by kernel_rfl) (by simp) ?_
        refine AllReadyH.cons rfl (fun K hK => ?_) (AllReadyH.cons rfl (fun K hK => ?_) AllReadyH.nil)
        ·go_simp
         go_at_call_of 66 (Value.slice L1 a1 x1)
         refine (HLw2.out _ ?_).mono ?_
         ·exact (PyAt.drew HP2.out).1.2.2
         rintro e w3 ⟨rfl, hb3⟩
         have HPa := Lib.hid (PyAt.below (PyAt.drew HP2.out) hb3)
         clear hb3
         dsimp only
         refine hK.out _ _ ?_ (fun hHeld => ?_)
         ·exact HC.out _ HPa.out
         clear hK K
         refine wpAnyH_ready (rs := [3, 11]) (by kernel_rfl) (by simp) ?_
         refine AllReadyH.cons rfl (fun K hK => ?_) (AllReadyH.cons rfl (fun K hK => ?_) AllReadyH.nil)
         ·go_simp
          refine hK.out _ _ ?_ (fun hHeld => ?_)
          ·exact HC.out _ (PyAt.alloc HPa.out _)
          clear hK K
          have HRW := Lib.hid (Blk.new (w3) 9 #[.string ⟨#[62]⟩, .string ⟨#[60]⟩, .string ⟨#[60, 62]⟩])
          refine wpAnyH_ready (rs := [7, 11]) (by kernel_rfl) (by simp) ?_
          refine AllReadyH.cons rfl (fun K hK => ?_) (AllReadyH.cons rfl (fun K hK => ?_) AllReadyH.nil)
          ·go_simp
           refine hK.out _ _ ?_ (fun hHeld => ?_)
           ·exact HC.out _ (PyAt.alloc HPa.out (.cells #[.string ⟨#[62]⟩, .string ⟨#[60]⟩, .string ⟨#[60, 62]⟩] 9))
           clear hK K
           refine wpAnyH_ready (rs := [8, 11]) (by kernel_rfl) (by simp) ?_
           refine AllReadyH.cons rfl (fun K hK => ?_) (AllReadyH.cons rfl (fun K hK => ?_) AllReadyH.nil)
           ·go_simp
            refine hK.out _ _ ?_ (fun hHeld => ?_)
            ·exact HC.out _ (PyAt.alloc HPa.out (.cells #[.string ⟨#[62]⟩, .string ⟨#[60]⟩, .string ⟨#[60, 62]⟩] 9))
            clear hK K
            refine wpAnyH_ready (rs := [11]) (by kernel_rfl) (by simp) ?_
            refine AllReadyH.cons rfl (fun K hK => ?_) AllReadyH.nil
            go_simp
            go_at_call_of 66 (Value.slice R1 b1 y1)
            refine (HRw2.out _ ?_).mono ?_
            ·exact (PyAt.alloc HPa.out (.cells #[.string ⟨#[62]⟩, .string ⟨#[60]⟩, .string ⟨#[60, 62]⟩] 9)).1.2.2
            rintro e w4 ⟨rfl, hb3⟩
            have HPb := Lib.hid (PyAt.below (PyAt.alloc HPa.out (.cells #[.string ⟨#[62]⟩, .string ⟨#[60]⟩, .string ⟨#[60, 62]⟩] 9)) hb3)
            clear hb3
            dsimp only
            refine hK.out _ _ ?_ (fun hHeld => ?_)
            ·exact HC.out _ HPb.out
            clear hK K
            refine wpAnyH_ready (rs := [12]) (by kernel_rfl) (by simp) ?_
            refine AllReadyH.cons rfl (fun K hK => ?_) AllReadyH.nil
            go_simp
            refine hK.out _ _ ?_ (fun hHeld => ?_)
            ·exact HC.out _ (PyAt.alloc HPb.out _)
            clear hK K
            refine wpAnyH_take (i := 13) (v := ?_) rfl (by kernel_rfl) (by kernel_rfl) (by kernel_rfl) (fun _ _ _ h => h) (Or.inl ⟨by rfl, ?_⟩) (by assumption) ?_
            rotate_left 1
            ·intro w hSw
             (try dsimp only at hSw)
             go_simp
             try with_reducible rfl
            try simp only [Act.put]
            refine wpAnyH_done (by kernel_rfl) ?_ _
            go_simp
            go_wp2_with fail
            go_meet
            refine ⟨_, rfl, ?_, PyAt.alloc HPb.out _⟩
            rw [HDW.out]
            first
             | exact Blk.new _ _ _
             | exact blk_new2 _ _ _ _
           ·go_simp
            go_at_call_of 66 (Value.slice R1 b1 y1)
            refine (HRw2.out _ ?_).mono ?_
            ·exact (PyAt.alloc HPa.out (.cells #[.string ⟨#[62]⟩, .string ⟨#[60]⟩, .string ⟨#[60, 62]⟩] 9)).1.2.2
            rintro e w4 ⟨rfl, hb3⟩
            have HPb := Lib.hid (PyAt.below (PyAt.alloc HPa.out (.cells #[.string ⟨#[62]⟩, .string ⟨#[60]⟩, .string ⟨#[60, 62]⟩] 9)) hb3)
            have HRW := Lib.hid (Blk.below HRW.out (show Below (w3.alloc (.cells #[.string ⟨#[62]⟩, .string ⟨#[60]⟩, .string ⟨#[60, 62]⟩] 9)).heap.size (w3.alloc (.cells #[.string ⟨#[62]⟩, .string ⟨#[60]⟩, .string ⟨#[60, 62]⟩] 9)) w4 from hb3) HRW.out.lt)
            have hrow : w4.cell? ⟨w3.heap.size, 2, none⟩ = some (.string ⟨#[60, 62]⟩) := HRW.out.cell 2
            clear hb3
            dsimp only
            refine hK.out _ _ ?_ (fun hHeld => ?_)
            ·exact HC.out _ HPb.out
            clear hK K
            refine wpAnyH_ready (rs := [8]) (by kernel_rfl) (by simp) ?_
            refine AllReadyH.cons rfl (fun K hK => ?_) AllReadyH.nil
            go_simp
            refine hK.out _ _ ?_ (fun hHeld => ?_)
            ·exact HC.out _ HPb.out
            clear hK K
            refine wpAnyH_ready (rs := [12]) (by kernel_rfl) (by simp) ?_
            refine AllReadyH.cons rfl (fun K hK => ?_) AllReadyH.nil
            go_simp
            refine hK.out _ _ ?_ (fun hHeld => ?_)
            ·exact HC.out _ (PyAt.alloc HPb.out _)
            clear hK K
            refine wpAnyH_take (i := 13) (v := ?_) rfl (by kernel_rfl) (by kernel_rfl) (by kernel_rfl) (fun _ _ _ h => h) (Or.inl ⟨by rfl, ?_⟩) (by assumption) ?_
            rotate_left 1
            ·intro w hSw
             (try dsimp only at hSw)
             go_simp
             try with_reducible rfl
            try simp only [Act.put]
            refine wpAnyH_done (by kernel_rfl) ?_ _
            go_simp
            go_wp2_with fail
            go_meet
            refine ⟨_, rfl, ?_, PyAt.alloc HPb.out _⟩
            rw [HDW.out]
            first
             | exact Blk.new _ _ _
             | exact blk_new2 _ _ _ _
          ·go_simp
           go_at_call_of 66 (Value.slice R1 b1 y1)
           refine (HRw2.out _ ?_).mono ?_
           ·exact (PyAt.alloc HPa.out (.cells #[.string ⟨#[62]⟩, .string ⟨#[60]⟩, .string ⟨#[60, 62]⟩] 9)).1.2.2
           rintro e w4 ⟨rfl, hb3⟩
           have HPb := Lib.hid (PyAt.below (PyAt.alloc HPa.out (.cells #[.string ⟨#[62]⟩, .string ⟨#[60]⟩, .string ⟨#[60, 62]⟩] 9)) hb3)
           have HRW := Lib.hid (Blk.below HRW.out (show Below (w3.alloc (.cells #[.string ⟨#[62]⟩, .string ⟨#[60]⟩, .string ⟨#[60, 62]⟩] 9)).heap.size (w3.alloc (.cells #[.string ⟨#[62]⟩, .string ⟨#[60]⟩, .string ⟨#[60, 62]⟩] 9)) w4 from hb3) HRW.out.lt)
           have hrow : w4.cell? ⟨w3.heap.size, 2, none⟩ = some (.string ⟨#[60, 62]⟩) := HRW.out.cell 2
           clear hb3
           dsimp only
           refine hK.out _ _ ?_ (fun hHeld => ?_)
           ·exact HC.out _ HPb.out
           clear hK K
           refine wpAnyH_ready (rs := [7]) (by kernel_rfl) (by simp) ?_
           refine AllReadyH.cons rfl (fun K hK => ?_) AllReadyH.nil
           go_simp
           refine hK.out _ _ ?_ (fun hHeld => ?_)
           ·exact HC.out _ HPb.out
           clear hK K
           refine wpAnyH_ready (rs := [8]) (by kernel_rfl) (by simp) ?_
           refine AllReadyH.cons rfl (fun K hK => ?_) AllReadyH.nil
           go_simp
           refine hK.out _ _ ?_ (fun hHeld => ?_)
           ·exact HC.out _ HPb.out
           clear hK K
           refine wpAnyH_ready (rs := [12]) (by kernel_rfl) (by simp) ?_
           refine AllReadyH.cons rfl (fun K hK => ?_) AllReadyH.nil
           go_simp
           refine hK.out _ _ ?_ (fun hHeld => ?_)
           ·exact HC.out _ (PyAt.alloc HPb.out _)
           clear hK K
           refine wpAnyH_take (i := 13) (v := ?_) rfl (by kernel_rfl) (by kernel_rfl) (by kernel_rfl) (fun _ _ _ h => h) (Or.inl ⟨by rfl, ?_⟩) (by assumption) ?_
           rotate_left 1
           ·intro w hSw
            (try dsimp only at hSw)
            go_simp
            try with_reducible rfl
           try simp only [Act.put]
           refine wpAnyH_done (by kernel_rfl) ?_ _
           go_simp
           go_wp2_with fail
           go_meet
           refine ⟨_, rfl, ?_, PyAt.alloc HPb.out _⟩
           rw [HDW.out]
           first
            | exact Blk.new _ _ _
            | exact blk_new2 _ _ _ _
         ·go_simp
          go_at_call_of 66 (Value.slice R1 b1 y1)
          refine (HRw2.out _ ?_).mono ?_
          ·exact HPa.out.1.2.2
          rintro e w4 ⟨rfl, hb3⟩
          have HPb := Lib.hid (PyAt.below HPa.out hb3)
          clear hb3
          dsimp only
          refine hK.out _ _ ?_ (fun hHeld => ?_)
          ·exact HC.out _ HPb.out
          clear hK K
          refine wpAnyH_ready (rs := [3]) (by kernel_rfl) (by simp) ?_
          refine AllReadyH.cons rfl (fun K hK => ?_) AllReadyH.nil
          go_simp
          refine hK.out _ _ ?_ (fun hHeld => ?_)
          ·exact HC.out _ (PyAt.alloc HPb.out _)
          clear hK K
          have HRW := Lib.hid (Blk.new (w4) 9 #[.string ⟨#[62]⟩, .string ⟨#[60]⟩, .string ⟨#[60, 62]⟩])
          refine wpAnyH_ready (rs := [7]) (by kernel_rfl) (by simp) ?_
          refine AllReadyH.cons rfl (fun K hK => ?_) AllReadyH.nil
          go_simp
          refine hK.out _ _ ?_ (fun hHeld => ?_)
          ·exact HC.out _ (PyAt.alloc HPb.out (.cells #[.string ⟨#[62]⟩, .string ⟨#[60]⟩, .string ⟨#[60, 62]⟩] 9))
          clear hK K
          refine wpAnyH_ready (rs := [8]) (by kernel_rfl) (by simp) ?_
          refine AllReadyH.cons rfl (fun K hK => ?_) AllReadyH.nil
          go_simp
          refine hK.out _ _ ?_ (fun hHeld => ?_)
          ·exact HC.out _ (PyAt.alloc HPb.out (.cells #[.string ⟨#[62]⟩, .string ⟨#[60]⟩, .string ⟨#[60, 62]⟩] 9))
          clear hK K
          refine wpAnyH_ready (rs := [12]) (by kernel_rfl) (by simp) ?_
          refine AllReadyH.cons rfl (fun K hK => ?_) AllReadyH.nil
          go_simp
          refine hK.out _ _ ?_ (fun hHeld => ?_)
          ·exact HC.out _ (PyAt.alloc (PyAt.alloc HPb.out (.cells #[.string ⟨#[62]⟩, .string ⟨#[60]⟩, .string ⟨#[60, 62]⟩] 9)) _)
          clear hK K
          refine wpAnyH_take (i := 13) (v := ?_) rfl (by kernel_rfl) (by kernel_rfl) (by kernel_rfl) (fun _ _ _ h => h) (Or.inl ⟨by rfl, ?_⟩) (by assumption) ?_
          rotate_left 1
          ·intro w hSw
           (try dsimp only at hSw)
           go_simp
           try with_reducible rfl
          try simp only [Act.put]
          refine wpAnyH_done (by kernel_rfl) ?_ _
          go_simp
          go_wp2_with fail
          go_meet
          refine ⟨_, rfl, ?_, PyAt.alloc (PyAt.alloc HPb.out (.cells #[.string ⟨#[62]⟩, .string ⟨#[60]⟩, .string ⟨#[60, 62]⟩] 9)) _⟩
          rw [HDW.out]
          first
           | exact Blk.new _ _ _
           | exact blk_new2 _ _ _ _
        ·go_simp
         refine hK.out _ _ ?_ (fun hHeld => ?_)
         ·exact HC.out _ (PyAt.alloc (PyAt.drew HP2.out) _)
         clear hK K
         have HRW := Lib.hid (Blk.new (w2.drew) 9 #[.string ⟨#[62]⟩, .string ⟨#[60]⟩, .string ⟨#[60, 62]⟩])
         refine wpAnyH_ready (rs := [2, 7]) (by kernel_rfl) (by simp) ?_
         refine AllReadyH.cons rfl (fun K hK => ?_) (AllReadyH.cons rfl (fun K hK => ?_) AllReadyH.nil)
         ·go_simp
          go_at_call_of 66 (Value.slice L1 a1 x1)
          refine (HLw2.out _ ?_).mono ?_
          ·exact (PyAt.alloc (PyAt.drew HP2.out) (.cells #[.string ⟨#[62]⟩, .string ⟨#[60]⟩, .string ⟨#[60, 62]⟩] 9)).1.2.2
          rintro e w3 ⟨rfl, hb3⟩
          have HPa := Lib.hid (PyAt.below (PyAt.alloc (PyAt.drew HP2.out) (.cells #[.string ⟨#[62]⟩, .string ⟨#[60]⟩, .string ⟨#[60, 62]⟩] 9)) hb3)
          have HRW := Lib.hid (Blk.below HRW.out (show Below (w2.drew.alloc (.cells #[.string ⟨#[62]⟩, .string ⟨#[60]⟩, .string ⟨#[60, 62]⟩] 9)).heap.size (w2.drew.alloc (.cells #[.string ⟨#[62]⟩, .string ⟨#[60]⟩, .string ⟨#[60, 62]⟩] 9)) w3 from hb3) HRW.out.lt)
          have hrow : w3.cell? ⟨w2.heap.size, 2, none⟩ = some (.string ⟨#[60, 62]⟩) := HRW.out.cell 2
          clear hb3
          dsimp only
          refine hK.out _ _ ?_ (fun hHeld => ?_)
          ·exact HC.out _ HPa.out
          clear hK K
          refine wpAnyH_ready (rs := [7, 11]) (by kernel_rfl) (by simp) ?_
          refine AllReadyH.cons rfl (fun K hK => ?_) (AllReadyH.cons rfl (fun K hK => ?_) AllReadyH.nil)
          ·go_simp
           refine hK.out _ _ ?_ (fun hHeld => ?_)
           ·exact HC.out _ HPa.out
           clear hK K
           refine wpAnyH_ready (rs := [8, 11]) (by kernel_rfl) (by simp) ?_
           refine AllReadyH.cons rfl (fun K hK => ?_) (AllReadyH.cons rfl (fun K hK => ?_) AllReadyH.nil)
           ·go_simp
            refine hK.out _ _ ?_ (fun hHeld => ?_)
            ·exact HC.out _ HPa.out
            clear hK K
            refine wpAnyH_ready (rs := [11]) (by kernel_rfl) (by simp) ?_
            refine AllReadyH.cons rfl (fun K hK => ?_) AllReadyH.nil
            go_simp
            go_at_call_of 66 (Value.slice R1 b1 y1)
            refine (HRw2.out _ ?_).mono ?_
            ·exact HPa.out.1.2.2
            rintro e w4 ⟨rfl, hb3⟩
            have HPb := Lib.hid (PyAt.below HPa.out hb3)
            clear hb3
            dsimp only
            refine hK.out _ _ ?_ (fun hHeld => ?_)
            ·exact HC.out _ HPb.out
            clear hK K
            refine wpAnyH_ready (rs := [12]) (by kernel_rfl) (by simp) ?_
            refine AllReadyH.cons rfl (fun K hK => ?_) AllReadyH.nil
            go_simp
            refine hK.out _ _ ?_ (fun hHeld => ?_)
            ·exact HC.out _ (PyAt.alloc HPb.out _)
            clear hK K
            refine wpAnyH_take (i := 13) (v := ?_) rfl (by kernel_rfl) (by kernel_rfl) (by kernel_rfl) (fun _ _ _ h => h) (Or.inl ⟨by rfl, ?_⟩) (by assumption) ?_
            rotate_left 1
            ·intro w hSw
             (try dsimp only at hSw)
             go_simp
             try with_reducible rfl
            try simp only [Act.put]
            refine wpAnyH_done (by kernel_rfl) ?_ _
            go_simp
            go_wp2_with fail
            go_meet
            refine ⟨_, rfl, ?_, PyAt.alloc HPb.out _⟩
            rw [HDW.out]
            first
             | exact Blk.new _ _ _
             | exact blk_new2 _ _ _ _
           ·go_simp
            go_at_call_of 66 (Value.slice R1 b1 y1)
            refine (HRw2.out _ ?_).mono ?_
            ·exact HPa.out.1.2.2
            rintro e w4 ⟨rfl, hb3⟩
            have HPb := Lib.hid (PyAt.below HPa.out hb3)
            have HRW := Lib.hid (Blk.below HRW.out (show Below (w3).heap.size (w3) w4 from hb3) HRW.out.lt)
            have hrow : w4.cell? ⟨w2.heap.size, 2, none⟩ = some (.string ⟨#[60, 62]⟩) := HRW.out.cell 2
            clear hb3
            dsimp only
            refine hK.out _ _ ?_ (fun hHeld => ?_)
            ·exact HC.out _ HPb.out
            clear hK K
            refine wpAnyH_ready (rs := [8]) (by kernel_rfl) (by simp) ?_
            refine AllReadyH.cons rfl (fun K hK => ?_) AllReadyH.nil
            go_simp
            refine hK.out _ _ ?_ (fun hHeld => ?_)
            ·exact HC.out _ HPb.out
            clear hK K
            refine wpAnyH_ready (rs := [12]) (by kernel_rfl) (by simp) ?_
            refine AllReadyH.cons rfl (fun K hK => ?_) AllReadyH.nil
            go_simp
            refine hK.out _ _ ?_ (fun hHeld => ?_)
            ·exact HC.out _ (PyAt.alloc HPb.out _)
            clear hK K
            refine wpAnyH_take (i := 13) (v := ?_) rfl (by kernel_rfl) (by kernel_rfl) (by kernel_rfl) (fun _ _ _ h => h) (Or.inl ⟨by rfl, ?_⟩) (by assumption) ?_
            rotate_left 1
            ·intro w hSw
             (try dsimp only at hSw)
             go_simp
             try with_reducible rfl
            try simp only [Act.put]
            refine wpAnyH_done (by kernel_rfl) ?_ _
            go_simp
            go_wp2_with fail
            go_meet
            refine ⟨_, rfl, ?_, PyAt.alloc HPb.out _⟩
            rw [HDW.out]
            first
             | exact Blk.new _ _ _
             | exact blk_new2 _ _ _ _
          ·go_simp
           go_at_call_of 66 (Value.slice R1 b1 y1)
           refine (HRw2.out _ ?_).mono ?_
           ·exact HPa.out.1.2.2
           rintro e w4 ⟨rfl, hb3⟩
           have HPb := Lib.hid (PyAt.below HPa.out hb3)
           have HRW := Lib.hid (Blk.below HRW.out (show Below (w3).heap.size (w3) w4 from hb3) HRW.out.lt)
           have hrow : w4.cell? ⟨w2.heap.size, 2, none⟩ = some (.string ⟨#[60, 62]⟩) := HRW.out.cell 2
           clear hb3
           dsimp only
           refine hK.out _ _ ?_ (fun hHeld => ?_)
           ·exact HC.out _ HPb.out
           clear hK K
           refine wpAnyH_ready (rs := [7]) (by kernel_rfl) (by simp) ?_
           refine AllReadyH.cons rfl (fun K hK => ?_) AllReadyH.nil
           go_simp
           refine hK.out _ _ ?_ (fun hHeld => ?_)
           ·exact HC.out _ HPb.out
           clear hK K
           refine wpAnyH_ready (rs := [8]) (by kernel_rfl) (by simp) ?_
           refine AllReadyH.cons rfl (fun K hK => ?_) AllReadyH.nil
           go_simp
           refine hK.out _ _ ?_ (fun hHeld => ?_)
           ·exact HC.out _ HPb.out
           clear hK K
           refine wpAnyH_ready (rs := [12]) (by kernel_rfl) (by simp) ?_
           refine AllReadyH.cons rfl (fun K hK => ?_) AllReadyH.nil
           go_simp
           refine hK.out _ _ ?_ (fun hHeld => ?_)
           ·exact HC.out _ (PyAt.alloc HPb.out _)
           clear hK K
           refine wpAnyH_take (i := 13) (v := ?_) rfl (by kernel_rfl) (by kernel_rfl) (by kernel_rfl) (fun _ _ _ h => h) (Or.inl ⟨by rfl, ?_⟩) (by assumption) ?_
           rotate_left 1
           ·intro w hSw
            (try dsimp only at hSw)
            go_simp
            try with_reducible rfl
           try simp only [Act.put]
           refine wpAnyH_done (by kernel_rfl) ?_ _
           go_simp
           go_wp2_with fail
           go_meet
           refine ⟨_, rfl, ?_, PyAt.alloc HPb.out _⟩
           rw [HDW.out]
           first
            | exact Blk.new _ _ _
            | exact blk_new2 _ _ _ _
         ·go_simp
          refine hK.out _ _ ?_ (fun hHeld => ?_)
          ·exact HC.out _ (PyAt.alloc (PyAt.drew HP2.out) (.cells #[.string ⟨#[62]⟩, .string ⟨#[60]⟩, .string ⟨#[60, 62]⟩] 9))
          clear hK K
          refine wpAnyH_ready (rs := [2, 8]) (by kernel_rfl) (by simp) ?_
          refine AllReadyH.cons rfl (fun K hK => ?_) (AllReadyH.cons rfl (fun K hK => ?_) AllReadyH.nil)
          ·go_simp
           go_at_call_of 66 (Value.slice L1 a1 x1)
           refine (HLw2.out _ ?_).mono ?_
           ·exact (PyAt.alloc (PyAt.drew HP2.out) (.cells #[.string ⟨#[62]⟩, .string ⟨#[60]⟩, .string ⟨#[60, 62]⟩] 9)).1.2.2
           rintro e w3 ⟨rfl, hb3⟩
           have HPa := Lib.hid (PyAt.below (PyAt.alloc (PyAt.drew HP2.out) (.cells #[.string ⟨#[62]⟩, .string ⟨#[60]⟩, .string ⟨#[60, 62]⟩] 9)) hb3)
           have HRW := Lib.hid (Blk.below HRW.out (show Below (w2.drew.alloc (.cells #[.string ⟨#[62]⟩, .string ⟨#[60]⟩, .string ⟨#[60, 62]⟩] 9)).heap.size (w2.drew.alloc (.cells #[.string ⟨#[62]⟩, .string ⟨#[60]⟩, .string ⟨#[60, 62]⟩] 9)) w3 from hb3) HRW.out.lt)
           have hrow : w3.cell? ⟨w2.heap.size, 2, none⟩ = some (.string ⟨#[60, 62]⟩) := HRW.out.cell 2
           clear hb3
           dsimp only
           refine hK.out _ _ ?_ (fun hHeld => ?_)
           ·exact HC.out _ HPa.out
           clear hK K
           refine wpAnyH_ready (rs := [8, 11]) (by kernel_rfl) (by simp) ?_
           refine AllReadyH.cons rfl (fun K hK => ?_) (AllReadyH.cons rfl (fun K hK => ?_) AllReadyH.nil)
           ·go_simp
            refine hK.out _ _ ?_ (fun hHeld => ?_)
            ·exact HC.out _ HPa.out
            clear hK K
            refine wpAnyH_ready (rs := [11]) (by kernel_rfl) (by simp) ?_
            refine AllReadyH.cons rfl (fun K hK => ?_) AllReadyH.nil
            go_simp
            go_at_call_of 66 (Value.slice R1 b1 y1)
            refine (HRw2.out _ ?_).mono ?_
            ·exact HPa.out.1.2.2
            rintro e w4 ⟨rfl, hb3⟩
            have HPb := Lib.hid (PyAt.below HPa.out hb3)
            clear hb3
            dsimp only
            refine hK.out _ _ ?_ (fun hHeld => ?_)
            ·exact HC.out _ HPb.out
            clear hK K
            refine wpAnyH_ready (rs := [12]) (by kernel_rfl) (by simp) ?_
            refine AllReadyH.cons rfl (fun K hK => ?_) AllReadyH.nil
            go_simp
            refine hK.out _ _ ?_ (fun hHeld => ?_)
            ·exact HC.out _ (PyAt.alloc HPb.out _)
            clear hK K
            refine wpAnyH_take (i := 13) (v := ?_) rfl (by kernel_rfl) (by kernel_rfl) (by kernel_rfl) (fun _ _ _ h => h) (Or.inl ⟨by rfl, ?_⟩) (by assumption) ?_
            rotate_left 1
            ·intro w hSw
             (try dsimp only at hSw)
             go_simp
             try with_reducible rfl
            try simp only [Act.put]
            refine wpAnyH_done (by kernel_rfl) ?_ _
            go_simp
            go_wp2_with fail
            go_meet
            refine ⟨_, rfl, ?_, PyAt.alloc HPb.out _⟩
            rw [HDW.out]
            first
             | exact Blk.new _ _ _
             | exact blk_new2 _ _ _ _
           ·go_simp
            go_at_call_of 66 (Value.slice R1 b1 y1)
            refine (HRw2.out _ ?_).mono ?_
            ·exact HPa.out.1.2.2
            rintro e w4 ⟨rfl, hb3⟩
            have HPb := Lib.hid (PyAt.below HPa.out hb3)
            have HRW := Lib.hid (Blk.below HRW.out (show Below (w3).heap.size (w3) w4 from hb3) HRW.out.lt)
            have hrow : w4.cell? ⟨w2.heap.size, 2, none⟩ = some (.string ⟨#[60, 62]⟩) := HRW.out.cell 2
            clear hb3
            dsimp only
            refine hK.out _ _ ?_ (fun hHeld => ?_)
            ·exact HC.out _ HPb.out
            clear hK K
            refine wpAnyH_ready (rs := [8]) (by kernel_rfl) (by simp) ?_
            refine AllReadyH.cons rfl (fun K hK => ?_) AllReadyH.nil
            go_simp
            refine hK.out _ _ ?_ (fun hHeld => ?_)
            ·exact HC.out _ HPb.out
            clear hK K
            refine wpAnyH_ready (rs := [12]) (by kernel_rfl) (by simp) ?_
            refine AllReadyH.cons rfl (fun K hK => ?_) AllReadyH.nil
            go_simp
            refine hK.out _ _ ?_ (fun hHeld => ?_)
            ·exact HC.out _ (PyAt.alloc HPb.out _)
            clear hK K
            refine wpAnyH_take (i := 13) (v := ?_) rfl (by kernel_rfl) (by kernel_rfl) (by kernel_rfl) (fun _ _ _ h => h) (Or.inl ⟨by rfl, ?_⟩) (by assumption) ?_
            rotate_left 1
            ·intro w hSw
             (try dsimp only at hSw)
             go_simp
             try with_reducible rfl
            try simp only [Act.put]
            refine wpAnyH_done (by kernel_rfl) ?_ _
            go_simp
            go_wp2_with fail
            go_meet
            refine ⟨_, rfl, ?_, PyAt.alloc HPb.out _⟩
            rw [HDW.out]
            first
             | exact Blk.new _ _ _
             | exact blk_new2 _ _ _ _
          ·go_simp
           refine hK.out _ _ ?_ (fun hHeld => ?_)
           ·exact HC.out _ (PyAt.alloc (PyAt.drew HP2.out) (.cells #[.string ⟨#[62]⟩, .string ⟨#[60]⟩, .string ⟨#[60, 62]⟩] 9))
           clear hK K
           refine wpAnyH_ready (rs := [2]) (by kernel_rfl) (by simp) ?_
           refine AllReadyH.cons rfl (fun K hK => ?_) AllReadyH.nil
           go_simp
           go_at_call_of 66 (Value.slice L1 a1 x1)
           refine (HLw2.out _ ?_).mono ?_
           ·exact (PyAt.alloc (PyAt.drew HP2.out) (.cells #[.string ⟨#[62]⟩, .string ⟨#[60]⟩, .string ⟨#[60, 62]⟩] 9)).1.2.2
           rintro e w3 ⟨rfl, hb3⟩
           have HPa := Lib.hid (PyAt.below (PyAt.alloc (PyAt.drew HP2.out) (.cells #[.string ⟨#[62]⟩, .string ⟨#[60]⟩, .string ⟨#[60, 62]⟩] 9)) hb3)
           clear hb3
           dsimp only
           refine hK.out _ _ ?_ (fun hHeld => ?_)
           ·exact HC.out _ HPa.out
           clear hK K
           refine wpAnyH_ready (rs := [11]) (by kernel_rfl) (by simp) ?_
           refine AllReadyH.cons rfl (fun K hK => ?_) AllReadyH.nil
           go_simp
           go_at_call_of 66 (Value.slice R1 b1 y1)
           refine (HRw2.out _ ?_).mono ?_
           ·exact HPa.out.1.2.2
           rintro e w4 ⟨rfl, hb3⟩
           have HPb := Lib.hid (PyAt.below HPa.out hb3)
           clear hb3
           dsimp only
           refine hK.out _ _ ?_ (fun hHeld => ?_)
           ·exact HC.out _ HPb.out
           clear hK K
           refine wpAnyH_ready (rs := [12]) (by kernel_rfl) (by simp) ?_
           refine AllReadyH.cons rfl (fun K hK => ?_) AllReadyH.nil
           go_simp
           refine hK.out _ _ ?_ (fun hHeld => ?_)
           ·exact HC.out _ (PyAt.alloc HPb.out _)
           clear hK K
           refine wpAnyH_take (i := 13) (v := ?_) rfl (by kernel_rfl) (by kernel_rfl) (by kernel_rfl) (fun _ _ _ h => h) (Or.inl ⟨by rfl, ?_⟩) (by assumption) ?_
           rotate_left 1
           ·intro w hSw
            (try dsimp only at hSw)
            go_simp
            try with_reducible rfl
           try simp only [Act.put]
           refine wpAnyH_done (by kernel_rfl) ?_ _
           go_simp
           go_wp2_with fail
           go_meet
           refine ⟨_, rfl, ?_, PyAt.alloc HPb.out _⟩
           rw [HDW.out]
           first
            | exact Blk.new _ _ _
            | exact blk_new2 _ _ _ _
      case rest =>
       obtain ⟨g3, rfl, hbk, hpy⟩ := hcut
       have HBK := Lib.hid hbk
       have HPY := Lib.hid hpy
       clear hbk hpy
       go_wp2_with fail
       refine (join_three g3 WL (dirW p.dir) WR _ HBK.out (by have := HJ3.out; omega)).mono ?_
       rintro e w5 ⟨rfl, hb5⟩
       have HP5 := Lib.hid (PyAt.below HPY.out hb5)
       clear hb5
       go_wp2_with fail
       refine (Tryz.strings_Trim_one ⟨(J [WL, dirW p.dir, WR]).toArray⟩ 32 (by decide) _ (by rw [size_of]; have := HJ3.out; omega)).mono ?_
       rintro e w6 ⟨rfl, h6⟩
       have HP6 := Lib.hid (show PyAt w w.heap.size wr.heap.size bb #[.int .i64 p.kind, .string p.name, .slice A' n' c', .int .i64 p.dir, .bool p.left.start, .bool p.left.fin, .slice L1 a1 x1, .slice L2 a2 x2, .slice L3 a3 x3, .int .i64 p.left.cursor, .bool p.right.start, .bool p.right.fin, .slice R1 b1 y1, .slice R2 b2 y2, .slice R3 b3 y3, .int .i64 p.right.cursor] (Lib.byteCells T) w6 from by rcases h6 with rfl | rfl <;> first | exact HP5.out | exact PyAt.drew HP5.out)
       clear h6
       rw [show (⟨(J [WL, dirW p.dir, WR]).toArray⟩ : ByteArray).data.toList = J [WL, dirW p.dir, WR] by simp, HTR.out]
       have hwz6 := HP6.out.1.2.2.size
       go_wp2_with (go_at_call 46; refine (write_string w.heap.size bb _ _ _ HP6.out.2 (by rw [byteCells_len, size_of]; omega) hwz6).mono ?_; rintro e w7 ⟨rfl, hB3, hb3, hk3⟩; rw [strCells_of, ← byteCells_append] at hB3; have HP7 := Lib.hid (PyAt.wrote HP6.out hB3 hb3 hk3 hgb hgpb); clear hB3 hb3 hk3)
       go_meet
       exact HP7.out
    case rest =>
     have HP9 := Lib.hid hcut
     clear hcut
     have hwz9 := HP9.out.1.2.2.size
     go_wp2_with (go_at_call 46; refine (write_string w.heap.size bb _ _ _ HP9.out.2 (by have h3 : (⟨#[32, 59, 10]⟩ : ByteArray).size = 3 := rfl; rw [byteCells_len, List.length_append, h3]; omega) hwz9).mono ?_; rintro e w3 ⟨rfl, hB3, hb3, hk3⟩; rw [show (⟨#[32, 59, 10]⟩ : ByteArray) = ⟨([32, 59, 10] : List UInt8).toArray⟩ from rfl, strCells_of, ← byteCells_append] at hB3; have HP3 := Lib.hid (PyAt.wrote HP9.out hB3 hb3 hk3 hgb hgpb); clear hB3 hb3 hk3)
     refine ⟨⟨k + 1, T ++ J (partW p) ++ [32, 59, 10], by omega, by go_num, ?_, ?_, HP3.out.2, HP3.out.1.1, HP3.out.1.2.2⟩, by simp [intOf]; omega⟩
     ·rw [HGO.out]; simp
     ·rw [List.length_append, List.length_append, Nat.succ_mul]; simp; omega
   ·obtain rfl : k = n := by omega
    rw [List.drop_of_length_le (by rw [HLEN.out]; omega)] at hgo
    have HGO := Lib.hid (hgo.trans (show T ++ fileT [] = T by simp [fileT]))
    have HIB := Lib.hid hib
    have HRES := Lib.hid hres
    have HBB := Lib.hid hb
    clear hgo hres hib hb
    go_wp2_with fail
    refine (Tryz.Builder_String_any_k w.heap.size bb _ wr HIB.out hz).mono ?_
    rintro e w3 ⟨rfl, _, hb3, hk3⟩
    have hres3 : Blk w3 w.heap.size 25 #[.int .i64 0, .int .i64 0] := hk3 _ _ HRES.out (by simpa using hgb) (by intro c fz h; injection h with _ h2; exact absurd h2 (by decide))
    have q0 : w3.cell? ⟨w.heap.size, 0, none⟩ = some (.int .i64 0) := hres3.cell 0
    have q1 : w3.cell? ⟨w.heap.size, 1, none⟩ = some (.int .i64 0) := hres3.cell 1
    have q2 := hres3.frozen 0
    have q3 := hres3.frozen 1
    have HB3 := Lib.hid (HBB.out.trans hb3)
    clear hres3 hk3 hb3
    go_wp2_with fail
    rw [HT.out, HFP.out, HGO.out]
    exact bodyPost_ret (v := .tuple #[.string ⟨T.toArray⟩, .agg #[.int .i64 0, .int .i64 0]]) (by simp [results, Tryz.results28, go_sem, q0, q1]) rfl ⟨rfl, (HB3.out.setCell (by simp) _).setCell (by simp) _⟩
 ·have hne : ((fileP l).1 != 0) = true := by simpa using he
  have HT := Lib.hid (show textP l = ⟨#[]⟩ by unfold textP; rw [if_neg he])
  clear he
  generalize hF1 : (fileP l).1 = F1 at *
  generalize hF2 : (fileP l).2 = F2 at *
  clear hF1 hF2
  go_enter Tryz.func28, Tryz.ntmps28
  go_wp2_with fail
  refine (HRF.out _ HB0.out).mono ?_
  rintro e w1 ⟨rfl, hb1⟩
  have HB1 := Lib.hid (HB0.out.trans (hb1.mono HB0.out.size))
  have HK1 := Lib.hid (Blk.below HK0.out hb1 HK0.out.lt)
  clear hb1
  go_upto_region 3 with fail
  have b0 := Blk.new w1 25 #[.int .i64 F1, .int .i64 F2]
  have b1 := Blk.alloc HK1.out (.cells #[.int .i64 F1, .int .i64 F2] 25)
  have b2 := HB1.out.alloc HB1.out.size (.cells #[.int .i64 F1, .int .i64 F2] 25)
  have hzz := HB1.out.size
  have hne2 : w.heap.size ≠ w1.heap.size := Nat.ne_of_lt HK1.out.lt
  generalize w1.alloc (.cells #[.int .i64 F1, .int .i64 F2] 25) = W3 at *
  have q0 : W3.cell? ⟨w.heap.size, 0, none⟩ = some (.int .i64 0) := b1.cell 0
  have q1 : W3.cell? ⟨w.heap.size, 1, none⟩ = some (.int .i64 0) := b1.cell 1
  have q2 := b1.frozen 0
  have q3 := b1.frozen 1
  have p0 : W3.cell? ⟨w1.heap.size, 0, none⟩ = some (.int .i64 F1) := b0.cell 0
  have p1 : W3.cell? ⟨w1.heap.size, 1, none⟩ = some (.int .i64 F2) := b0.cell 1
  have HB2 := Lib.hid b2
  clear b0 b1 b2
  go_region
  all_goals
   go_wp2_with fail
   rw [HT.out]
   exact bodyPost_ret (v := .tuple #[.string ⟨#[]⟩, .agg #[.int .i64 F1, .int .i64 F2]]) (by simp [results, Tryz.results28, go_sem, q0, q1]) rfl ⟨rfl, (HB2.out.drew.setCell (by simp) _).setCell (by simp) _⟩
end Go.Proofs.YthnhbcohfoodlaaGreatDoor
