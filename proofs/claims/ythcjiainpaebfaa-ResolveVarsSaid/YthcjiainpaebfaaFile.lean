/- What is wrong with a file: the walks of rulesyn.Wrong and of scriptref5.Wrong: both tell fileP. -/
import Derived.Test.YthcjiainpaebfaaPartAll
import Derived.Test.YthcjiainpaebfaaPartRef
namespace Go.Proofs.Ythcjiainpaebfaa
open Go.RowKit

def fileGo : Nat → List PartD → Int × Int
  | _, [] => (0, 0)
  | i, p :: r => if partP p = 0 then fileGo (i + 1) r else (partP p, i)
def fileP (l : List PartD) : Int × Int := if 200 < l.length then (5, 0) else fileGo 0 l

theorem part_at {w : World} {B n : Nat} {A : Option Addr} {l : List PartD} (h : RdP w B A n l) {k : Nat} {p : PartD} (hk : l[k]? = some p) :
    ∃ (b off : Nat) (A' : Option Addr) (n' c' : Nat) (L1 L2 L3 R1 R2 R3 : Option Addr) (a1 a2 a3 x1 x2 x3 b1 b2 b3 y1 y2 y3 : Nat), A = some ⟨b, off, none⟩ ∧ b < B ∧ (w.cell? ⟨b, off + k * 16, none⟩ = some (.int .i64 p.kind) ∧ w.cell? ⟨b, off + k * 16 + 1, none⟩ = some (.string p.name) ∧ w.cell? ⟨b, off + k * 16 + 2, none⟩ = some (.slice A' n' c') ∧ w.cell? ⟨b, off + k * 16 + 3, none⟩ = some (.int .i64 p.dir) ∧ w.cell? ⟨b, off + k * 16 + 4, none⟩ = some (.bool p.left.start) ∧ w.cell? ⟨b, off + k * 16 + 5, none⟩ = some (.bool p.left.fin) ∧ w.cell? ⟨b, off + k * 16 + 6, none⟩ = some (.slice L1 a1 x1) ∧ w.cell? ⟨b, off + k * 16 + 7, none⟩ = some (.slice L2 a2 x2) ∧ w.cell? ⟨b, off + k * 16 + 8, none⟩ = some (.slice L3 a3 x3) ∧ w.cell? ⟨b, off + k * 16 + 9, none⟩ = some (.int .i64 p.left.cursor) ∧ w.cell? ⟨b, off + k * 16 + 10, none⟩ = some (.bool p.right.start) ∧ w.cell? ⟨b, off + k * 16 + 11, none⟩ = some (.bool p.right.fin) ∧ w.cell? ⟨b, off + k * 16 + 12, none⟩ = some (.slice R1 b1 y1) ∧ w.cell? ⟨b, off + k * 16 + 13, none⟩ = some (.slice R2 b2 y2) ∧ w.cell? ⟨b, off + k * 16 + 14, none⟩ = some (.slice R3 b3 y3) ∧ w.cell? ⟨b, off + k * 16 + 15, none⟩ = some (.int .i64 p.right.cursor)) ∧ RdS w B A' n' p.set ∧ n' ≤ maxLen ∧ RdIt w B L1 a1 p.left.before ∧ RdIt w B L2 a2 p.left.source ∧ RdIt w B L3 a3 p.left.after ∧ a1 ≤ maxLen ∧ a2 ≤ maxLen ∧ a3 ≤ maxLen ∧ RdIt w B R1 b1 p.right.before ∧ RdIt w B R2 b2 p.right.source ∧ RdIt w B R3 b3 p.right.after ∧ b1 ≤ maxLen ∧ b2 ≤ maxLen ∧ b3 ≤ maxLen ∧ i64R p.left.cursor ∧ i64R p.right.cursor ∧ p.name.size ≤ maxLen := by
  obtain ⟨b, off, cs, e, hb, ⟨A', n', c', ls, rs, hcs, h1, h2, ⟨L1, a1, x1, L2, a2, x2, L3, a3, x3, hls, l1, l2, l3, l4, l5, l6, l7⟩, ⟨R1, b1, y1, R2, b2, y2, R3, b3, y3, hrs, r1, r2, r3, r4, r5, r6, r7⟩, _, _, h5⟩, hc⟩ := RdL.at h hk
  subst hls hrs
  subst hcs
  exact ⟨b, off, A', n', c', L1, L2, L3, R1, R2, R3, a1, a2, a3, x1, x2, x3, b1, b2, b3, y1, y2, y3, e, hb, ⟨hc 0 _ rfl, hc 1 _ rfl, hc 2 _ rfl, hc 3 _ rfl, hc 4 _ rfl, hc 5 _ rfl, hc 6 _ rfl, hc 7 _ rfl, hc 8 _ rfl, hc 9 _ rfl, hc 10 _ rfl, hc 11 _ rfl, hc 12 _ rfl, hc 13 _ rfl, hc 14 _ rfl, hc 15 _ rfl⟩, h1, h2, l1, l2, l3, l4, l5, l6, r1, r2, r3, r4, r5, r6, l7, r7, h5⟩

def WrRel (w : World) (l : List PartD) (n : Nat) (i : Value) (wr : World) : Prop :=
  ∃ k : Nat, k ≤ n ∧ i = .int .i64 k ∧ fileGo 0 l = fileGo k (l.drop k) ∧ Blk wr w.heap.size 29 #[.int .i64 0, .int .i64 0] ∧ Below w.heap.size w wr

set_option maxRecDepth 100000 in
set_option maxHeartbeats 1600000 in
theorem rulesyn_wrong (A : Option Addr) (n c : Nat) (l : List PartD) (w : World) (hn : n ≤ maxLen) (hl : RdP w w.heap.size A n l) :
    Calls Try.prog 22 #[.slice A n c] w fun e w' => e = .returned (.agg #[.int .i64 (fileP l).1, .int .i64 (fileP l).2]) ∧ Below w.heap.size w w' := by
  have HLEN := Lib.hid (RdL.len hl)
  have HL := Lib.hid hl
  have hn2 : n ≤ 9223372036854775807 := by unfold maxLen at hn; omega
  clear hl hn
  by_cases h20 : 200 < n
  · have HP := Lib.hid (show fileP l = (5, 0) by unfold fileP; rw [if_pos (by rw [HLEN.out]; exact h20)])
    go_enter Try.func22, Try.ntmps22
    go_wp2_with fail
    rw [HP.out]
    exact bodyPost_ret (v := .agg #[.int .i64 5, .int .i64 0]) (by simp [results, Try.results22, go_sem]) rfl ⟨rfl, (Below.refl _ _).alloc (Nat.le_refl _) _⟩
  · have HP := Lib.hid (show fileP l = fileGo 0 l by unfold fileP; rw [if_neg (by rw [HLEN.out]; exact h20)])
    go_enter Try.func22, Try.ntmps22
    go_wp2_with fail
    go_loopw [12] (WrRel w l n) (fun i _ => n - (intOf i).toNat)
    case atStart => exact ⟨0, Nat.zero_le _, rfl, rfl, Blk.new _ _ _, (Below.refl _ _).alloc (Nat.le_refl _) _⟩
    case round =>
      obtain ⟨k, hk, rfl, hgo, hres, hb⟩ := hrel
      have hz := hb.size
      have hlt0 := hres.lt
      by_cases hlt : k < n
      · obtain ⟨p, hp⟩ : ∃ z, l[k]? = some z := ⟨_, List.getElem?_eq_getElem (by rw [HLEN.out]; exact hlt)⟩
        rw [drop_at hp, fileGo] at hgo
        obtain ⟨b, off, A', n', c', L1, L2, L3, R1, R2, R3, a1, a2, a3, x1, x2, x3, b1, b2, b3, y1, y2, y3, rfl, hbb, ⟨f0, f1, f2, f3, f4, f5, f6, f7, f8, f9, f10, f11, f12, f13, f14, f15⟩, hs, hn', l1, l2, l3, la1, la2, la3, r1, r2, r3, ra1, ra2, ra3, cl, cr, hm⟩ := part_at HL.out hp
        have d0 := (hb.cell (p := ⟨b, off + k * 16, none⟩) hbb).trans f0
        have d1 := (hb.cell (p := ⟨b, off + k * 16 + 1, none⟩) hbb).trans f1
        have d2 := (hb.cell (p := ⟨b, off + k * 16 + 2, none⟩) hbb).trans f2
        have d3 := (hb.cell (p := ⟨b, off + k * 16 + 3, none⟩) hbb).trans f3
        have d4 := (hb.cell (p := ⟨b, off + k * 16 + 4, none⟩) hbb).trans f4
        have d5 := (hb.cell (p := ⟨b, off + k * 16 + 5, none⟩) hbb).trans f5
        have d6 := (hb.cell (p := ⟨b, off + k * 16 + 6, none⟩) hbb).trans f6
        have d7 := (hb.cell (p := ⟨b, off + k * 16 + 7, none⟩) hbb).trans f7
        have d8 := (hb.cell (p := ⟨b, off + k * 16 + 8, none⟩) hbb).trans f8
        have d9 := (hb.cell (p := ⟨b, off + k * 16 + 9, none⟩) hbb).trans f9
        have d10 := (hb.cell (p := ⟨b, off + k * 16 + 10, none⟩) hbb).trans f10
        have d11 := (hb.cell (p := ⟨b, off + k * 16 + 11, none⟩) hbb).trans f11
        have d12 := (hb.cell (p := ⟨b, off + k * 16 + 12, none⟩) hbb).trans f12
        have d13 := (hb.cell (p := ⟨b, off + k * 16 + 13, none⟩) hbb).trans f13
        have d14 := (hb.cell (p := ⟨b, off + k * 16 + 14, none⟩) hbb).trans f14
        have d15 := (hb.cell (p := ⟨b, off + k * 16 + 15, none⟩) hbb).trans f15
        have HI := Lib.hid (fun w' (hw : Below w.heap.size w w') => rulesyn_part p A' n' c' L1 L2 L3 R1 R2 R3 a1 a2 a3 x1 x2 x3 b1 b2 b3 y1 y2 y3 w' (Rd.more (Rd.below hs hw) hw.size) hn' (rdit_below l1 hw) (rdit_below l2 hw) (rdit_below l3 hw) la1 la2 la3 (rdit_below r1 hw) (rdit_below r2 hw) (rdit_below r3 hw) ra1 ra2 ra3)
        clear f0 f1 f2 f3 f4 f5 f6 f7 f8 f9 f10 f11 f12 f13 f14 f15 hs hn' l1 l2 l3 la1 la2 la3 r1 r2 r3 ra1 ra2 ra3 cl cr hm
        have HB1 := Lib.hid (hb.alloc hz (.cells #[.int .i64 p.kind, .string p.name, .slice A' n' c', .int .i64 p.dir, .bool p.left.start, .bool p.left.fin, .slice L1 a1 x1, .slice L2 a2 x2, .slice L3 a3 x3, .int .i64 p.left.cursor, .bool p.right.start, .bool p.right.fin, .slice R1 b1 y1, .slice R2 b2 y2, .slice R3 b3 y3, .int .i64 p.right.cursor] 40))
        have HK1 := Lib.hid (hres.alloc (.cells #[.int .i64 p.kind, .string p.name, .slice A' n' c', .int .i64 p.dir, .bool p.left.start, .bool p.left.fin, .slice L1 a1 x1, .slice L2 a2 x2, .slice L3 a3 x3, .int .i64 p.left.cursor, .bool p.right.start, .bool p.right.fin, .slice R1 b1 y1, .slice R2 b2 y2, .slice R3 b3 y3, .int .i64 p.right.cursor] 40))
        by_cases hi : partP p = 0
        · rw [if_pos hi] at hgo
          have HG := Lib.hid hgo
          clear hgo hres
          go_wp2_with fail
          refine (HI.out _ HB1.out).mono ?_
          rintro e w2 ⟨rfl, hb2⟩
          rw [hi]
          have hk2 := Blk.below HK1.out hb2 HK1.out.lt
          have hb3 := HB1.out.trans (hb2.mono HB1.out.size)
          have HK3 := Lib.hid hk2
          have HB3 := Lib.hid hb3
          clear hb2 hb3 hk2
          go_wp2_with fail
          exact ⟨⟨k + 1, by omega, by go_num, HG.out, HK3.out, HB3.out⟩, by simp [intOf]; omega⟩
        · rw [if_neg hi] at hgo
          have hi2 : (partP p != 0) = true := by simpa using hi
          have HG := Lib.hid hgo
          clear hgo hres hi
          go_wp2_with fail
          refine (HI.out _ HB1.out).mono ?_
          rintro e w2 ⟨rfl, hb2⟩
          have hk2 := Blk.below HK1.out hb2 HK1.out.lt
          have hb3 := HB1.out.trans (hb2.mono HB1.out.size)
          have q0 : w2.cell? ⟨w.heap.size, 0, none⟩ = some (.int .i64 0) := hk2.cell 0
          have q1 : w2.cell? ⟨w.heap.size, 1, none⟩ = some (.int .i64 0) := hk2.cell 1
          have q2 := hk2.frozen 0
          have q3 := hk2.frozen 1
          have HB3 := Lib.hid hb3
          clear hb2 hb3 hk2
          go_wp2_with fail
          rw [HP.out, HG.out]
          exact bodyPost_ret (v := .agg #[.int .i64 (partP p), .int .i64 k]) (by simp [results, Try.results22, go_sem, q0, q1]) rfl ⟨rfl, (HB3.out.setCell (by simp) _).setCell (by simp) _⟩
      · obtain rfl : k = n := by omega
        rw [List.drop_of_length_le (by rw [HLEN.out]; omega)] at hgo
        have HG := Lib.hid (hgo.trans (show fileGo k [] = (0, 0) from rfl))
        have q0 : wr.cell? ⟨w.heap.size, 0, none⟩ = some (.int .i64 0) := hres.cell 0
        have q1 : wr.cell? ⟨w.heap.size, 1, none⟩ = some (.int .i64 0) := hres.cell 1
        have q2 := hres.frozen 0
        have q3 := hres.frozen 1
        clear hgo hres
        go_wp2_with fail
        rw [HP.out, HG.out]
        exact bodyPost_ret (v := .agg #[.int .i64 0, .int .i64 0]) (by simp [results, Try.results22, go_sem, q0, q1]) rfl ⟨rfl, (hb.setCell (by simp) _).setCell (by simp) _⟩

set_option maxRecDepth 100000 in
set_option maxHeartbeats 1600000 in
theorem ref_file (A : Option Addr) (n c : Nat) (l : List PartD) (w : World) (hn : n ≤ maxLen) (hl : RdP w w.heap.size A n l) :
    Calls Try.prog 15 #[.slice A n c] w fun e w' => e = .returned (.agg #[.int .i64 (fileP l).1, .int .i64 (fileP l).2]) ∧ Below w.heap.size w w' := by
  have HLEN := Lib.hid (RdL.len hl)
  have HL := Lib.hid hl
  have hn2 : n ≤ 9223372036854775807 := by unfold maxLen at hn; omega
  clear hl hn
  by_cases h20 : 200 < n
  · have HP := Lib.hid (show fileP l = (5, 0) by unfold fileP; rw [if_pos (by rw [HLEN.out]; exact h20)])
    go_enter Try.func15, Try.ntmps15
    go_wp2_with fail
    rw [HP.out]
    exact bodyPost_ret (v := .agg #[.int .i64 5, .int .i64 0]) (by simp [results, Try.results15, go_sem]) rfl ⟨rfl, (Below.refl _ _).alloc (Nat.le_refl _) _⟩
  · have HP := Lib.hid (show fileP l = fileGo 0 l by unfold fileP; rw [if_neg (by rw [HLEN.out]; exact h20)])
    go_enter Try.func15, Try.ntmps15
    go_wp2_with fail
    go_loopw [11] (WrRel w l n) (fun i _ => n - (intOf i).toNat)
    case atStart => exact ⟨0, Nat.zero_le _, rfl, rfl, Blk.new _ _ _, (Below.refl _ _).alloc (Nat.le_refl _) _⟩
    case round =>
      obtain ⟨k, hk, rfl, hgo, hres, hb⟩ := hrel
      have hz := hb.size
      have hlt0 := hres.lt
      by_cases hlt : k < n
      · obtain ⟨p, hp⟩ : ∃ z, l[k]? = some z := ⟨_, List.getElem?_eq_getElem (by rw [HLEN.out]; exact hlt)⟩
        rw [drop_at hp, fileGo] at hgo
        obtain ⟨b, off, A', n', c', L1, L2, L3, R1, R2, R3, a1, a2, a3, x1, x2, x3, b1, b2, b3, y1, y2, y3, rfl, hbb, ⟨f0, f1, f2, f3, f4, f5, f6, f7, f8, f9, f10, f11, f12, f13, f14, f15⟩, hs, hn', l1, l2, l3, la1, la2, la3, r1, r2, r3, ra1, ra2, ra3, cl, cr, hm⟩ := part_at HL.out hp
        have d0 := (hb.cell (p := ⟨b, off + k * 16, none⟩) hbb).trans f0
        have d1 := (hb.cell (p := ⟨b, off + k * 16 + 1, none⟩) hbb).trans f1
        have d2 := (hb.cell (p := ⟨b, off + k * 16 + 2, none⟩) hbb).trans f2
        have d3 := (hb.cell (p := ⟨b, off + k * 16 + 3, none⟩) hbb).trans f3
        have d4 := (hb.cell (p := ⟨b, off + k * 16 + 4, none⟩) hbb).trans f4
        have d5 := (hb.cell (p := ⟨b, off + k * 16 + 5, none⟩) hbb).trans f5
        have d6 := (hb.cell (p := ⟨b, off + k * 16 + 6, none⟩) hbb).trans f6
        have d7 := (hb.cell (p := ⟨b, off + k * 16 + 7, none⟩) hbb).trans f7
        have d8 := (hb.cell (p := ⟨b, off + k * 16 + 8, none⟩) hbb).trans f8
        have d9 := (hb.cell (p := ⟨b, off + k * 16 + 9, none⟩) hbb).trans f9
        have d10 := (hb.cell (p := ⟨b, off + k * 16 + 10, none⟩) hbb).trans f10
        have d11 := (hb.cell (p := ⟨b, off + k * 16 + 11, none⟩) hbb).trans f11
        have d12 := (hb.cell (p := ⟨b, off + k * 16 + 12, none⟩) hbb).trans f12
        have d13 := (hb.cell (p := ⟨b, off + k * 16 + 13, none⟩) hbb).trans f13
        have d14 := (hb.cell (p := ⟨b, off + k * 16 + 14, none⟩) hbb).trans f14
        have d15 := (hb.cell (p := ⟨b, off + k * 16 + 15, none⟩) hbb).trans f15
        have HI := Lib.hid (fun w' (hw : Below w.heap.size w w') => ref_part p A' n' c' L1 L2 L3 R1 R2 R3 a1 a2 a3 x1 x2 x3 b1 b2 b3 y1 y2 y3 w' (Rd.more (Rd.below hs hw) hw.size) hn' (rdit_below l1 hw) (rdit_below l2 hw) (rdit_below l3 hw) la1 la2 la3 (rdit_below r1 hw) (rdit_below r2 hw) (rdit_below r3 hw) ra1 ra2 ra3 cl cr hm)
        clear f0 f1 f2 f3 f4 f5 f6 f7 f8 f9 f10 f11 f12 f13 f14 f15 hs hn' l1 l2 l3 la1 la2 la3 r1 r2 r3 ra1 ra2 ra3 cl cr hm
        have HB1 := Lib.hid hb
        have HK1 := Lib.hid hres
        by_cases hi : partP p = 0
        · rw [if_pos hi] at hgo
          have HG := Lib.hid hgo
          clear hgo hres
          go_wp2_with fail
          refine (HI.out _ HB1.out).mono ?_
          rintro e w2 ⟨rfl, hb2⟩
          rw [hi]
          have hk2 := Blk.below HK1.out hb2 HK1.out.lt
          have hb3 := HB1.out.trans (hb2.mono HB1.out.size)
          have HK3 := Lib.hid hk2
          have HB3 := Lib.hid hb3
          clear hb2 hb3 hk2
          go_wp2_with fail
          exact ⟨⟨k + 1, by omega, by go_num, HG.out, HK3.out, HB3.out⟩, by simp [intOf]; omega⟩
        · rw [if_neg hi] at hgo
          have hi2 : (partP p != 0) = true := by simpa using hi
          have HG := Lib.hid hgo
          clear hgo hres hi
          go_wp2_with fail
          refine (HI.out _ HB1.out).mono ?_
          rintro e w2 ⟨rfl, hb2⟩
          have hk2 := Blk.below HK1.out hb2 HK1.out.lt
          have hb3 := HB1.out.trans (hb2.mono HB1.out.size)
          have q0 : w2.cell? ⟨w.heap.size, 0, none⟩ = some (.int .i64 0) := hk2.cell 0
          have q1 : w2.cell? ⟨w.heap.size, 1, none⟩ = some (.int .i64 0) := hk2.cell 1
          have q2 := hk2.frozen 0
          have q3 := hk2.frozen 1
          have HB3 := Lib.hid hb3
          clear hb2 hb3 hk2
          go_wp2_with fail
          rw [HP.out, HG.out]
          exact bodyPost_ret (v := .agg #[.int .i64 (partP p), .int .i64 k]) (by simp [results, Try.results15, go_sem, q0, q1]) rfl ⟨rfl, (HB3.out.setCell (by simp) _).setCell (by simp) _⟩
      · obtain rfl : k = n := by omega
        rw [List.drop_of_length_le (by rw [HLEN.out]; omega)] at hgo
        have HG := Lib.hid (hgo.trans (show fileGo k [] = (0, 0) from rfl))
        have q0 : wr.cell? ⟨w.heap.size, 0, none⟩ = some (.int .i64 0) := hres.cell 0
        have q1 : wr.cell? ⟨w.heap.size, 1, none⟩ = some (.int .i64 0) := hres.cell 1
        have q2 := hres.frozen 0
        have q3 := hres.frozen 1
        clear hgo hres
        go_wp2_with fail
        rw [HP.out, HG.out]
        exact bodyPost_ret (v := .agg #[.int .i64 0, .int .i64 0]) (by simp [results, Try.results15, go_sem, q0, q1]) rfl ⟨rfl, (hb.setCell (by simp) _).setCell (by simp) _⟩

end Go.Proofs.Ythcjiainpaebfaa
