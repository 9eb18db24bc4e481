/- The walk of scriptlaw6.ResolveTurned. -/
import Derived.Test.YthcjiainpaebfaaAlive
import Derived.Test.YthcjiainpaebfaaTurned
import Derived.Deep.CutBlock
namespace Go.Proofs.Ythcjiainpaebfaa
open Go.RowKit Go.Maps

theorem infoPart : (Try.prog.info? 40).map (fun i => (i.zero, i.size, i.bytes)) = some (some (.agg #[.int .i64 0, .string ⟨#[]⟩, .slice none 0 0, .int .i64 0, .bool false, .bool false, .slice none 0 0, .slice none 0 0, .slice none 0 0, .int .i64 0, .bool false, .bool false, .slice none 0 0, .slice none 0 0, .slice none 0 0, .int .i64 0]), 16, 232) := by kernel_rfl
def TuRel (w : World) (l : List PartD) (n : Nat) (m i : Value) (wr : World) : Prop :=
  ∃ (k : Nat), k ≤ n ∧ i = .int .i64 k ∧ OwnL (PartC w w.heap.size) 40 16 wr w.heap.size m ((l.take k).map turnD) ∧ Below w.heap.size w wr ∧ (∀ q ∈ l.take k, q.kind ≠ 4)
theorem one16 {cs : List Value} {w : World} {B : Nat} {q : PartD} (h : PartC w B q cs) : cs.length = 16 ∧ ∀ u ∈ cs, u.oneCell' = true := by
  obtain ⟨A, n, c, ls, rs, rfl, _, _, ⟨A1, n1, c1, A2, n2, c2, A3, n3, c3, rfl, _⟩, ⟨B1, m1, d1, B2, m2, d2, B3, m3, d3, rfl, _⟩, _⟩ := h
  refine ⟨rfl, fun u hu => ?_⟩
  simp at hu
  rcases hu with rfl | rfl | rfl | rfl | rfl | rfl | rfl | rfl | rfl | rfl | rfl | rfl | rfl | rfl | rfl | rfl <;> rfl
theorem part_form {w : World} {B : Nat} {q : PartD} {cs : List Value} (h : PartC w B q cs) : ∃ A' n' c' L1 a1 x1 L2 a2 x2 L3 a3 x3 R1 b1 y1 R2 b2 y2 R3 b3 y3, cs = [.int .i64 q.kind, .string q.name, .slice A' n' c', .int .i64 q.dir, .bool q.left.start, .bool q.left.fin, .slice L1 a1 x1, .slice L2 a2 x2, .slice L3 a3 x3, .int .i64 q.left.cursor, .bool q.right.start, .bool q.right.fin, .slice R1 b1 y1, .slice R2 b2 y2, .slice R3 b3 y3, .int .i64 q.right.cursor] := by
  obtain ⟨A, n, c, ls, rs, rfl, _, _, ⟨A1, n1, c1, A2, n2, c2, A3, n3, c3, rfl, _⟩, ⟨B1, m1, d1, B2, m2, d2, B3, m3, d3, rfl, _⟩, _⟩ := h
  exact ⟨A, n, c, A1, n1, c1, A2, n2, c2, A3, n3, c3, B1, m1, d1, B2, m2, d2, B3, m3, d3, rfl⟩
theorem own_parts {w wr : World} {A : Option Addr} {c n : Nat} {m : List PartD} (h : OwnL (PartC w w.heap.size) 40 16 wr w.heap.size (.slice A n c) m) (hm : m.length = n) (hb : Below w.heap.size w wr) : RdP wr wr.heap.size A n m := by
  subst hm
  obtain ⟨css, h1, h2, h3, h4⟩ := h
  exact ⟨css, rfl, h1, fun i a cs x y => PartC.weak (weak_of hb hb.size) (h2 i a cs x y), h3, Rd.of_own h4⟩
theorem turn_read {w : World} {B : Nat} {q : PartD} {A : Option Addr} {n c : Nat} {ls rs : List Value} {d : Int} (hk : q.kind = 2) (hd : d = if q.dir = 1 ∨ q.dir = 2 then 3 - q.dir else q.dir) (h : PartC w B q ([.int .i64 q.kind, .string q.name, .slice A n c, .int .i64 q.dir] ++ ls ++ rs)) (h1 : ls.length = 6) :
    PartC w B (turnD q) ([.int .i64 q.kind, .string q.name, .slice A n c, .int .i64 d] ++ rs ++ ls) := by
  obtain ⟨A', n', c', ls', rs', he, h2, h3, h4, h5, h6, h7, h8⟩ := h
  rw [turn_rule hk]
  have hl4 : ls'.length = 6 := by obtain ⟨_, _, _, _, _, _, _, _, _, rfl, _⟩ := h4; rfl
  simp only [List.cons_append, List.nil_append, List.cons.injEq, true_and] at he
  obtain ⟨e1, e2⟩ := he
  obtain ⟨e2, e3⟩ := List.append_inj e2 (by rw [h1, hl4])
  injection e1 with f1 f2 f3
  subst f1 f2 f3 e2 e3 hd
  refine ⟨_, _, _, _, _, rfl, h2, h3, h5, h4, h6, ?_, h8⟩
  unfold i64R at h7 ⊢
  dsimp only
  by_cases hh : q.dir = 1 ∨ q.dir = 2
  · rw [if_pos hh]; omega
  · rw [if_neg hh]; exact h7
set_option maxRecDepth 100000 in
set_option maxHeartbeats 12800000 in
theorem resolve_turned (A : Option Addr) (n c : Nat) (l : List PartD) (w : World) (hn : n ≤ maxLen) (hbd : n * 232 ≤ 140737488355328) (hl : RdP w w.heap.size A n l) :
    Calls Try.prog 4 #[.slice A n c] w fun e w' => e = .returned (.bool true) ∧ Below w.heap.size w w' := by
  obtain ⟨i0, hi, hz0, hz1, hz2⟩ := info_parts infoPart
  have HLEN := Lib.hid (RdL.len hl)
  have HL := Lib.hid hl
  have hn2 : n ≤ 9223372036854775807 := by unfold maxLen at hn; omega
  have HN := Lib.hid hn
  clear hl hn
  go_enter Try.func4, Try.ntmps4
  go_wp2_with fail
  refine (alive_true _).mono ?_
  rintro e w1 ⟨rfl, hb1⟩
  have HB1 := Lib.hid hb1
  clear hb1
  go_wp2_with fail
  go_loopw [3, 14] (TuRel w l n) (fun _ i _ => n - (intOf i).toNat)
  case atStart => exact ⟨0, Nat.zero_le _, rfl, OwnL.nil _ _, HB1.out, by simp⟩
  case round =>
    obtain ⟨k, hk, rfl, hown, hb, h4⟩ := hrel
    by_cases hlt : k < n
    · obtain ⟨p, hp⟩ : ∃ z, l[k]? = some z := ⟨_, List.getElem?_eq_getElem (by rw [HLEN.out]; exact hlt)⟩
      obtain ⟨b, off, cs, rfl, hbb, hpc, hfc⟩ := RdL.at HL.out hp
      obtain ⟨A', n', c', L1, a1, x1, L2, a2, x2, L3, a3, x3, R1, b1, y1, R2, b2, y2, R3, b3, y3, rfl⟩ := part_form hpc
      have d0 : wr.cell? ⟨b, off + k * 16, none⟩ = some (.int .i64 p.kind) := (hb.cell (p := ⟨b, off + k * 16, none⟩) hbb).trans (hfc 0 _ rfl)
      have d1 : wr.cell? ⟨b, off + k * 16 + 1, none⟩ = some (.string p.name) := (hb.cell (p := ⟨b, off + k * 16 + 1, none⟩) hbb).trans (hfc 1 _ rfl)
      have d2 : wr.cell? ⟨b, off + k * 16 + 2, none⟩ = some (.slice A' n' c') := (hb.cell (p := ⟨b, off + k * 16 + 2, none⟩) hbb).trans (hfc 2 _ rfl)
      have d3 : wr.cell? ⟨b, off + k * 16 + 3, none⟩ = some (.int .i64 p.dir) := (hb.cell (p := ⟨b, off + k * 16 + 3, none⟩) hbb).trans (hfc 3 _ rfl)
      have d4 : wr.cell? ⟨b, off + k * 16 + 4, none⟩ = some (.bool p.left.start) := (hb.cell (p := ⟨b, off + k * 16 + 4, none⟩) hbb).trans (hfc 4 _ rfl)
      have d5 : wr.cell? ⟨b, off + k * 16 + 5, none⟩ = some (.bool p.left.fin) := (hb.cell (p := ⟨b, off + k * 16 + 5, none⟩) hbb).trans (hfc 5 _ rfl)
      have d6 : wr.cell? ⟨b, off + k * 16 + 6, none⟩ = some (.slice L1 a1 x1) := (hb.cell (p := ⟨b, off + k * 16 + 6, none⟩) hbb).trans (hfc 6 _ rfl)
      have d7 : wr.cell? ⟨b, off + k * 16 + 7, none⟩ = some (.slice L2 a2 x2) := (hb.cell (p := ⟨b, off + k * 16 + 7, none⟩) hbb).trans (hfc 7 _ rfl)
      have d8 : wr.cell? ⟨b, off + k * 16 + 8, none⟩ = some (.slice L3 a3 x3) := (hb.cell (p := ⟨b, off + k * 16 + 8, none⟩) hbb).trans (hfc 8 _ rfl)
      have d9 : wr.cell? ⟨b, off + k * 16 + 9, none⟩ = some (.int .i64 p.left.cursor) := (hb.cell (p := ⟨b, off + k * 16 + 9, none⟩) hbb).trans (hfc 9 _ rfl)
      have d10 : wr.cell? ⟨b, off + k * 16 + 10, none⟩ = some (.bool p.right.start) := (hb.cell (p := ⟨b, off + k * 16 + 10, none⟩) hbb).trans (hfc 10 _ rfl)
      have d11 : wr.cell? ⟨b, off + k * 16 + 11, none⟩ = some (.bool p.right.fin) := (hb.cell (p := ⟨b, off + k * 16 + 11, none⟩) hbb).trans (hfc 11 _ rfl)
      have d12 : wr.cell? ⟨b, off + k * 16 + 12, none⟩ = some (.slice R1 b1 y1) := (hb.cell (p := ⟨b, off + k * 16 + 12, none⟩) hbb).trans (hfc 12 _ rfl)
      have d13 : wr.cell? ⟨b, off + k * 16 + 13, none⟩ = some (.slice R2 b2 y2) := (hb.cell (p := ⟨b, off + k * 16 + 13, none⟩) hbb).trans (hfc 13 _ rfl)
      have d14 : wr.cell? ⟨b, off + k * 16 + 14, none⟩ = some (.slice R3 b3 y3) := (hb.cell (p := ⟨b, off + k * 16 + 14, none⟩) hbb).trans (hfc 14 _ rfl)
      have d15 : wr.cell? ⟨b, off + k * 16 + 15, none⟩ = some (.int .i64 p.right.cursor) := (hb.cell (p := ⟨b, off + k * 16 + 15, none⟩) hbb).trans (hfc 15 _ rfl)
      have HPC := Lib.hid hpc
      have HOWN := Lib.hid hown
      have HB := Lib.hid hb
      have H4 := Lib.hid h4
      have HP := Lib.hid hp
      have HBX := Lib.hid (Blk.new wr 40 #[.int .i64 p.kind, .string p.name, .slice A' n' c', .int .i64 p.dir, .bool p.left.start, .bool p.left.fin, .slice L1 a1 x1, .slice L2 a2 x2, .slice L3 a3 x3, .int .i64 p.left.cursor, .bool p.right.start, .bool p.right.fin, .slice R1 b1 y1, .slice R2 b2 y2, .slice R3 b3 y3, .int .i64 p.right.cursor])
      have HTK := Lib.hid (take_snoc hp)
      clear hfc hpc hown hb h4 hp
      go_upto_if 20 with fail
      clear d0 d1 d2 d3 d4 d5 d6 d7 d8 d9 d10 d11 d12 d13 d14 d15
      have hbx := HBX.out
      have hwx : Below wr.heap.size wr (wr.alloc (.cells #[.int .i64 p.kind, .string p.name, .slice A' n' c', .int .i64 p.dir, .bool p.left.start, .bool p.left.fin, .slice L1 a1 x1, .slice L2 a2 x2, .slice L3 a3 x3, .int .i64 p.left.cursor, .bool p.right.start, .bool p.right.fin, .slice R1 b1 y1, .slice R2 b2 y2, .slice R3 b3 y3, .int .i64 p.right.cursor] 40)) := (Below.refl _ _).alloc (Nat.le_refl _) _
      have hsx : (wr.alloc (.cells #[.int .i64 p.kind, .string p.name, .slice A' n' c', .int .i64 p.dir, .bool p.left.start, .bool p.left.fin, .slice L1 a1 x1, .slice L2 a2 x2, .slice L3 a3 x3, .int .i64 p.left.cursor, .bool p.right.start, .bool p.right.fin, .slice R1 b1 y1, .slice R2 b2 y2, .slice R3 b3 y3, .int .i64 p.right.cursor] 40)).heap.size = wr.heap.size + 1 := by simp
      clear HBX
      generalize (wr.alloc (.cells #[.int .i64 p.kind, .string p.name, .slice A' n' c', .int .i64 p.dir, .bool p.left.start, .bool p.left.fin, .slice L1 a1 x1, .slice L2 a2 x2, .slice L3 a3 x3, .int .i64 p.left.cursor, .bool p.right.start, .bool p.right.fin, .slice R1 b1 y1, .slice R2 b2 y2, .slice R3 b3 y3, .int .i64 p.right.cursor] 40)) = W2 at *
      have HBX := Lib.hid hbx
      have HWX := Lib.hid hwx
      have hlx := hbx.lt
      have e0 : W2.cell? ⟨wr.heap.size, 0, none⟩ = some (.int .i64 p.kind) := hbx.cell 0
      have f0 := hbx.frozen 0
      have e1 : W2.cell? ⟨wr.heap.size, 1, none⟩ = some (.string p.name) := hbx.cell 1
      have f1 := hbx.frozen 1
      have e2 : W2.cell? ⟨wr.heap.size, 2, none⟩ = some (.slice A' n' c') := hbx.cell 2
      have f2 := hbx.frozen 2
      have e3 : W2.cell? ⟨wr.heap.size, 3, none⟩ = some (.int .i64 p.dir) := hbx.cell 3
      have f3 := hbx.frozen 3
      have e4 : W2.cell? ⟨wr.heap.size, 4, none⟩ = some (.bool p.left.start) := hbx.cell 4
      have f4 := hbx.frozen 4
      have e5 : W2.cell? ⟨wr.heap.size, 5, none⟩ = some (.bool p.left.fin) := hbx.cell 5
      have f5 := hbx.frozen 5
      have e6 : W2.cell? ⟨wr.heap.size, 6, none⟩ = some (.slice L1 a1 x1) := hbx.cell 6
      have f6 := hbx.frozen 6
      have e7 : W2.cell? ⟨wr.heap.size, 7, none⟩ = some (.slice L2 a2 x2) := hbx.cell 7
      have f7 := hbx.frozen 7
      have e8 : W2.cell? ⟨wr.heap.size, 8, none⟩ = some (.slice L3 a3 x3) := hbx.cell 8
      have f8 := hbx.frozen 8
      have e9 : W2.cell? ⟨wr.heap.size, 9, none⟩ = some (.int .i64 p.left.cursor) := hbx.cell 9
      have f9 := hbx.frozen 9
      have e10 : W2.cell? ⟨wr.heap.size, 10, none⟩ = some (.bool p.right.start) := hbx.cell 10
      have f10 := hbx.frozen 10
      have e11 : W2.cell? ⟨wr.heap.size, 11, none⟩ = some (.bool p.right.fin) := hbx.cell 11
      have f11 := hbx.frozen 11
      have e12 : W2.cell? ⟨wr.heap.size, 12, none⟩ = some (.slice R1 b1 y1) := hbx.cell 12
      have f12 := hbx.frozen 12
      have e13 : W2.cell? ⟨wr.heap.size, 13, none⟩ = some (.slice R2 b2 y2) := hbx.cell 13
      have f13 := hbx.frozen 13
      have e14 : W2.cell? ⟨wr.heap.size, 14, none⟩ = some (.slice R3 b3 y3) := hbx.cell 14
      have f14 := hbx.frozen 14
      have e15 : W2.cell? ⟨wr.heap.size, 15, none⟩ = some (.int .i64 p.right.cursor) := hbx.cell 15
      have f15 := hbx.frozen 15
      clear hbx hwx
      by_cases h1 : p.kind = 4
      · have q1 : (p.kind == 4) = true := by simpa using h1
        have HBE := Lib.hid (HB.out.trans (HWX.out.mono HB.out.size))
        go_wp2_with fail
        go_ret
        exact ⟨rfl, HBE.out⟩
      have q1 : (p.kind == 4) = false := by simpa using h1
      have H1 := Lib.hid h1
      clear h1
      go_upto_if 23 with fail
      go_cut [] (fun wx => ∃ cs : List Value, PartC w w.heap.size (turnD p) cs ∧ Blk wx wr.heap.size 40 cs.toArray ∧ Below wr.heap.size wr wx)
      case first =>
        by_cases h2 : p.kind = 2
        · have q2 : (p.kind == 2) = true := by simpa using h2
          have H2 := Lib.hid h2
          clear h2
          go_upto_region 11 with fail
          have hs1 : Blk (W2.setCell ⟨wr.heap.size, 4, none⟩ (.bool p.right.start)) wr.heap.size 40 #[.int .i64 p.kind, .string p.name, .slice A' n' c', .int .i64 p.dir, .bool p.right.start, .bool p.left.fin, .slice L1 a1 x1, .slice L2 a2 x2, .slice L3 a3 x3, .int .i64 p.left.cursor, .bool p.right.start, .bool p.right.fin, .slice R1 b1 y1, .slice R2 b2 y2, .slice R3 b3 y3, .int .i64 p.right.cursor] := Blk.put HBX.out 4 (.bool p.right.start)
          have hs2 : Blk ((W2.setCell ⟨wr.heap.size, 4, none⟩ (.bool p.right.start)).setCell ⟨wr.heap.size, 5, none⟩ (.bool p.right.fin)) wr.heap.size 40 #[.int .i64 p.kind, .string p.name, .slice A' n' c', .int .i64 p.dir, .bool p.right.start, .bool p.right.fin, .slice L1 a1 x1, .slice L2 a2 x2, .slice L3 a3 x3, .int .i64 p.left.cursor, .bool p.right.start, .bool p.right.fin, .slice R1 b1 y1, .slice R2 b2 y2, .slice R3 b3 y3, .int .i64 p.right.cursor] := Blk.put hs1 5 (.bool p.right.fin)
          have hs3 : Blk (((W2.setCell ⟨wr.heap.size, 4, none⟩ (.bool p.right.start)).setCell ⟨wr.heap.size, 5, none⟩ (.bool p.right.fin)).setCell ⟨wr.heap.size, 6, none⟩ (.slice R1 b1 y1)) wr.heap.size 40 #[.int .i64 p.kind, .string p.name, .slice A' n' c', .int .i64 p.dir, .bool p.right.start, .bool p.right.fin, .slice R1 b1 y1, .slice L2 a2 x2, .slice L3 a3 x3, .int .i64 p.left.cursor, .bool p.right.start, .bool p.right.fin, .slice R1 b1 y1, .slice R2 b2 y2, .slice R3 b3 y3, .int .i64 p.right.cursor] := Blk.put hs2 6 (.slice R1 b1 y1)
          have hs4 : Blk ((((W2.setCell ⟨wr.heap.size, 4, none⟩ (.bool p.right.start)).setCell ⟨wr.heap.size, 5, none⟩ (.bool p.right.fin)).setCell ⟨wr.heap.size, 6, none⟩ (.slice R1 b1 y1)).setCell ⟨wr.heap.size, 7, none⟩ (.slice R2 b2 y2)) wr.heap.size 40 #[.int .i64 p.kind, .string p.name, .slice A' n' c', .int .i64 p.dir, .bool p.right.start, .bool p.right.fin, .slice R1 b1 y1, .slice R2 b2 y2, .slice L3 a3 x3, .int .i64 p.left.cursor, .bool p.right.start, .bool p.right.fin, .slice R1 b1 y1, .slice R2 b2 y2, .slice R3 b3 y3, .int .i64 p.right.cursor] := Blk.put hs3 7 (.slice R2 b2 y2)
          have hs5 : Blk (((((W2.setCell ⟨wr.heap.size, 4, none⟩ (.bool p.right.start)).setCell ⟨wr.heap.size, 5, none⟩ (.bool p.right.fin)).setCell ⟨wr.heap.size, 6, none⟩ (.slice R1 b1 y1)).setCell ⟨wr.heap.size, 7, none⟩ (.slice R2 b2 y2)).setCell ⟨wr.heap.size, 8, none⟩ (.slice R3 b3 y3)) wr.heap.size 40 #[.int .i64 p.kind, .string p.name, .slice A' n' c', .int .i64 p.dir, .bool p.right.start, .bool p.right.fin, .slice R1 b1 y1, .slice R2 b2 y2, .slice R3 b3 y3, .int .i64 p.left.cursor, .bool p.right.start, .bool p.right.fin, .slice R1 b1 y1, .slice R2 b2 y2, .slice R3 b3 y3, .int .i64 p.right.cursor] := Blk.put hs4 8 (.slice R3 b3 y3)
          have hs6 : Blk ((((((W2.setCell ⟨wr.heap.size, 4, none⟩ (.bool p.right.start)).setCell ⟨wr.heap.size, 5, none⟩ (.bool p.right.fin)).setCell ⟨wr.heap.size, 6, none⟩ (.slice R1 b1 y1)).setCell ⟨wr.heap.size, 7, none⟩ (.slice R2 b2 y2)).setCell ⟨wr.heap.size, 8, none⟩ (.slice R3 b3 y3)).setCell ⟨wr.heap.size, 9, none⟩ (.int .i64 p.right.cursor)) wr.heap.size 40 #[.int .i64 p.kind, .string p.name, .slice A' n' c', .int .i64 p.dir, .bool p.right.start, .bool p.right.fin, .slice R1 b1 y1, .slice R2 b2 y2, .slice R3 b3 y3, .int .i64 p.right.cursor, .bool p.right.start, .bool p.right.fin, .slice R1 b1 y1, .slice R2 b2 y2, .slice R3 b3 y3, .int .i64 p.right.cursor] := Blk.put hs5 9 (.int .i64 p.right.cursor)
          have hs7 : Blk (((((((W2.setCell ⟨wr.heap.size, 4, none⟩ (.bool p.right.start)).setCell ⟨wr.heap.size, 5, none⟩ (.bool p.right.fin)).setCell ⟨wr.heap.size, 6, none⟩ (.slice R1 b1 y1)).setCell ⟨wr.heap.size, 7, none⟩ (.slice R2 b2 y2)).setCell ⟨wr.heap.size, 8, none⟩ (.slice R3 b3 y3)).setCell ⟨wr.heap.size, 9, none⟩ (.int .i64 p.right.cursor)).setCell ⟨wr.heap.size, 10, none⟩ (.bool p.left.start)) wr.heap.size 40 #[.int .i64 p.kind, .string p.name, .slice A' n' c', .int .i64 p.dir, .bool p.right.start, .bool p.right.fin, .slice R1 b1 y1, .slice R2 b2 y2, .slice R3 b3 y3, .int .i64 p.right.cursor, .bool p.left.start, .bool p.right.fin, .slice R1 b1 y1, .slice R2 b2 y2, .slice R3 b3 y3, .int .i64 p.right.cursor] := Blk.put hs6 10 (.bool p.left.start)
          have hs8 : Blk ((((((((W2.setCell ⟨wr.heap.size, 4, none⟩ (.bool p.right.start)).setCell ⟨wr.heap.size, 5, none⟩ (.bool p.right.fin)).setCell ⟨wr.heap.size, 6, none⟩ (.slice R1 b1 y1)).setCell ⟨wr.heap.size, 7, none⟩ (.slice R2 b2 y2)).setCell ⟨wr.heap.size, 8, none⟩ (.slice R3 b3 y3)).setCell ⟨wr.heap.size, 9, none⟩ (.int .i64 p.right.cursor)).setCell ⟨wr.heap.size, 10, none⟩ (.bool p.left.start)).setCell ⟨wr.heap.size, 11, none⟩ (.bool p.left.fin)) wr.heap.size 40 #[.int .i64 p.kind, .string p.name, .slice A' n' c', .int .i64 p.dir, .bool p.right.start, .bool p.right.fin, .slice R1 b1 y1, .slice R2 b2 y2, .slice R3 b3 y3, .int .i64 p.right.cursor, .bool p.left.start, .bool p.left.fin, .slice R1 b1 y1, .slice R2 b2 y2, .slice R3 b3 y3, .int .i64 p.right.cursor] := Blk.put hs7 11 (.bool p.left.fin)
          have hs9 : Blk (((((((((W2.setCell ⟨wr.heap.size, 4, none⟩ (.bool p.right.start)).setCell ⟨wr.heap.size, 5, none⟩ (.bool p.right.fin)).setCell ⟨wr.heap.size, 6, none⟩ (.slice R1 b1 y1)).setCell ⟨wr.heap.size, 7, none⟩ (.slice R2 b2 y2)).setCell ⟨wr.heap.size, 8, none⟩ (.slice R3 b3 y3)).setCell ⟨wr.heap.size, 9, none⟩ (.int .i64 p.right.cursor)).setCell ⟨wr.heap.size, 10, none⟩ (.bool p.left.start)).setCell ⟨wr.heap.size, 11, none⟩ (.bool p.left.fin)).setCell ⟨wr.heap.size, 12, none⟩ (.slice L1 a1 x1)) wr.heap.size 40 #[.int .i64 p.kind, .string p.name, .slice A' n' c', .int .i64 p.dir, .bool p.right.start, .bool p.right.fin, .slice R1 b1 y1, .slice R2 b2 y2, .slice R3 b3 y3, .int .i64 p.right.cursor, .bool p.left.start, .bool p.left.fin, .slice L1 a1 x1, .slice R2 b2 y2, .slice R3 b3 y3, .int .i64 p.right.cursor] := Blk.put hs8 12 (.slice L1 a1 x1)
          have hs10 : Blk ((((((((((W2.setCell ⟨wr.heap.size, 4, none⟩ (.bool p.right.start)).setCell ⟨wr.heap.size, 5, none⟩ (.bool p.right.fin)).setCell ⟨wr.heap.size, 6, none⟩ (.slice R1 b1 y1)).setCell ⟨wr.heap.size, 7, none⟩ (.slice R2 b2 y2)).setCell ⟨wr.heap.size, 8, none⟩ (.slice R3 b3 y3)).setCell ⟨wr.heap.size, 9, none⟩ (.int .i64 p.right.cursor)).setCell ⟨wr.heap.size, 10, none⟩ (.bool p.left.start)).setCell ⟨wr.heap.size, 11, none⟩ (.bool p.left.fin)).setCell ⟨wr.heap.size, 12, none⟩ (.slice L1 a1 x1)).setCell ⟨wr.heap.size, 13, none⟩ (.slice L2 a2 x2)) wr.heap.size 40 #[.int .i64 p.kind, .string p.name, .slice A' n' c', .int .i64 p.dir, .bool p.right.start, .bool p.right.fin, .slice R1 b1 y1, .slice R2 b2 y2, .slice R3 b3 y3, .int .i64 p.right.cursor, .bool p.left.start, .bool p.left.fin, .slice L1 a1 x1, .slice L2 a2 x2, .slice R3 b3 y3, .int .i64 p.right.cursor] := Blk.put hs9 13 (.slice L2 a2 x2)
          have hs11 : Blk (((((((((((W2.setCell ⟨wr.heap.size, 4, none⟩ (.bool p.right.start)).setCell ⟨wr.heap.size, 5, none⟩ (.bool p.right.fin)).setCell ⟨wr.heap.size, 6, none⟩ (.slice R1 b1 y1)).setCell ⟨wr.heap.size, 7, none⟩ (.slice R2 b2 y2)).setCell ⟨wr.heap.size, 8, none⟩ (.slice R3 b3 y3)).setCell ⟨wr.heap.size, 9, none⟩ (.int .i64 p.right.cursor)).setCell ⟨wr.heap.size, 10, none⟩ (.bool p.left.start)).setCell ⟨wr.heap.size, 11, none⟩ (.bool p.left.fin)).setCell ⟨wr.heap.size, 12, none⟩ (.slice L1 a1 x1)).setCell ⟨wr.heap.size, 13, none⟩ (.slice L2 a2 x2)).setCell ⟨wr.heap.size, 14, none⟩ (.slice L3 a3 x3)) wr.heap.size 40 #[.int .i64 p.kind, .string p.name, .slice A' n' c', .int .i64 p.dir, .bool p.right.start, .bool p.right.fin, .slice R1 b1 y1, .slice R2 b2 y2, .slice R3 b3 y3, .int .i64 p.right.cursor, .bool p.left.start, .bool p.left.fin, .slice L1 a1 x1, .slice L2 a2 x2, .slice L3 a3 x3, .int .i64 p.right.cursor] := Blk.put hs10 14 (.slice L3 a3 x3)
          have hs12 : Blk ((((((((((((W2.setCell ⟨wr.heap.size, 4, none⟩ (.bool p.right.start)).setCell ⟨wr.heap.size, 5, none⟩ (.bool p.right.fin)).setCell ⟨wr.heap.size, 6, none⟩ (.slice R1 b1 y1)).setCell ⟨wr.heap.size, 7, none⟩ (.slice R2 b2 y2)).setCell ⟨wr.heap.size, 8, none⟩ (.slice R3 b3 y3)).setCell ⟨wr.heap.size, 9, none⟩ (.int .i64 p.right.cursor)).setCell ⟨wr.heap.size, 10, none⟩ (.bool p.left.start)).setCell ⟨wr.heap.size, 11, none⟩ (.bool p.left.fin)).setCell ⟨wr.heap.size, 12, none⟩ (.slice L1 a1 x1)).setCell ⟨wr.heap.size, 13, none⟩ (.slice L2 a2 x2)).setCell ⟨wr.heap.size, 14, none⟩ (.slice L3 a3 x3)).setCell ⟨wr.heap.size, 15, none⟩ (.int .i64 p.left.cursor)) wr.heap.size 40 #[.int .i64 p.kind, .string p.name, .slice A' n' c', .int .i64 p.dir, .bool p.right.start, .bool p.right.fin, .slice R1 b1 y1, .slice R2 b2 y2, .slice R3 b3 y3, .int .i64 p.right.cursor, .bool p.left.start, .bool p.left.fin, .slice L1 a1 x1, .slice L2 a2 x2, .slice L3 a3 x3, .int .i64 p.left.cursor] := Blk.put hs11 15 (.int .i64 p.left.cursor)
          clear hs1 hs2 hs3 hs4 hs5 hs6 hs7 hs8 hs9 hs10 hs11
          have hs3 := hs12
          clear hs12
          have hw3 : Below wr.heap.size wr (((((((((((((W2.setCell ⟨wr.heap.size, 4, none⟩ (.bool p.right.start)).setCell ⟨wr.heap.size, 5, none⟩ (.bool p.right.fin)).setCell ⟨wr.heap.size, 6, none⟩ (.slice R1 b1 y1)).setCell ⟨wr.heap.size, 7, none⟩ (.slice R2 b2 y2)).setCell ⟨wr.heap.size, 8, none⟩ (.slice R3 b3 y3)).setCell ⟨wr.heap.size, 9, none⟩ (.int .i64 p.right.cursor)).setCell ⟨wr.heap.size, 10, none⟩ (.bool p.left.start)).setCell ⟨wr.heap.size, 11, none⟩ (.bool p.left.fin)).setCell ⟨wr.heap.size, 12, none⟩ (.slice L1 a1 x1)).setCell ⟨wr.heap.size, 13, none⟩ (.slice L2 a2 x2)).setCell ⟨wr.heap.size, 14, none⟩ (.slice L3 a3 x3)).setCell ⟨wr.heap.size, 15, none⟩ (.int .i64 p.left.cursor))) := ((((((((((((HWX.out.setCell (p := ⟨wr.heap.size, 4, none⟩) (Nat.le_refl _) (.bool p.right.start)).setCell (p := ⟨wr.heap.size, 5, none⟩) (Nat.le_refl _) (.bool p.right.fin)).setCell (p := ⟨wr.heap.size, 6, none⟩) (Nat.le_refl _) (.slice R1 b1 y1)).setCell (p := ⟨wr.heap.size, 7, none⟩) (Nat.le_refl _) (.slice R2 b2 y2)).setCell (p := ⟨wr.heap.size, 8, none⟩) (Nat.le_refl _) (.slice R3 b3 y3)).setCell (p := ⟨wr.heap.size, 9, none⟩) (Nat.le_refl _) (.int .i64 p.right.cursor)).setCell (p := ⟨wr.heap.size, 10, none⟩) (Nat.le_refl _) (.bool p.left.start)).setCell (p := ⟨wr.heap.size, 11, none⟩) (Nat.le_refl _) (.bool p.left.fin)).setCell (p := ⟨wr.heap.size, 12, none⟩) (Nat.le_refl _) (.slice L1 a1 x1)).setCell (p := ⟨wr.heap.size, 13, none⟩) (Nat.le_refl _) (.slice L2 a2 x2)).setCell (p := ⟨wr.heap.size, 14, none⟩) (Nat.le_refl _) (.slice L3 a3 x3)).setCell (p := ⟨wr.heap.size, 15, none⟩) (Nat.le_refl _) (.int .i64 p.left.cursor))
          clear HBX HWX e0 f0 e1 f1 e2 f2 e3 f3 e4 f4 e5 f5 e6 f6 e7 f7 e8 f8 e9 f9 e10 f10 e11 f11 e12 f12 e13 f13 e14 f14 e15 f15
          generalize ((((((((((((W2.setCell ⟨wr.heap.size, 4, none⟩ (.bool p.right.start)).setCell ⟨wr.heap.size, 5, none⟩ (.bool p.right.fin)).setCell ⟨wr.heap.size, 6, none⟩ (.slice R1 b1 y1)).setCell ⟨wr.heap.size, 7, none⟩ (.slice R2 b2 y2)).setCell ⟨wr.heap.size, 8, none⟩ (.slice R3 b3 y3)).setCell ⟨wr.heap.size, 9, none⟩ (.int .i64 p.right.cursor)).setCell ⟨wr.heap.size, 10, none⟩ (.bool p.left.start)).setCell ⟨wr.heap.size, 11, none⟩ (.bool p.left.fin)).setCell ⟨wr.heap.size, 12, none⟩ (.slice L1 a1 x1)).setCell ⟨wr.heap.size, 13, none⟩ (.slice L2 a2 x2)).setCell ⟨wr.heap.size, 14, none⟩ (.slice L3 a3 x3)).setCell ⟨wr.heap.size, 15, none⟩ (.int .i64 p.left.cursor)) = W3 at *
          have g3 : W3.cell? ⟨wr.heap.size, 3, none⟩ = some (.int .i64 p.dir) := hs3.cell 3
          have k3 := hs3.frozen 3
          have HS3 := Lib.hid hs3
          have HW3 := Lib.hid hw3
          clear hs3 hw3
          by_cases hd1 : p.dir = 1
          · have r1 : (p.dir == 1) = true := by simpa using hd1
            have HTR := Lib.hid (turn_read (d := 2) (ls := [.bool p.left.start, .bool p.left.fin, .slice L1 a1 x1, .slice L2 a2 x2, .slice L3 a3 x3, .int .i64 p.left.cursor]) (rs := [.bool p.right.start, .bool p.right.fin, .slice R1 b1 y1, .slice R2 b2 y2, .slice R3 b3 y3, .int .i64 p.right.cursor]) H2.out (by rw [hd1]; rfl) HPC.out rfl)
            rw [hd1] at g3
            go_wp2_with fail
            go_meet
            exact ⟨_, HTR.out, HS3.out.put 3 (.int .i64 2), HW3.out.setCell (p := ⟨wr.heap.size, 3, none⟩) (Nat.le_refl _) (.int .i64 2)⟩
          by_cases hd2 : p.dir = 2
          · have r1 : (p.dir == 1) = false := by simpa using hd1
            have r2 : (p.dir == 2) = true := by simpa using hd2
            have HTR := Lib.hid (turn_read (d := 1) (ls := [.bool p.left.start, .bool p.left.fin, .slice L1 a1 x1, .slice L2 a2 x2, .slice L3 a3 x3, .int .i64 p.left.cursor]) (rs := [.bool p.right.start, .bool p.right.fin, .slice R1 b1 y1, .slice R2 b2 y2, .slice R3 b3 y3, .int .i64 p.right.cursor]) H2.out (by rw [hd2]; rfl) HPC.out rfl)
            rw [hd2] at g3
            go_wp2_with fail
            go_meet
            exact ⟨_, HTR.out, HS3.out.put 3 (.int .i64 1), HW3.out.setCell (p := ⟨wr.heap.size, 3, none⟩) (Nat.le_refl _) (.int .i64 1)⟩
          · have r1 : (p.dir == 1) = false := by simpa using hd1
            have r2 : (p.dir == 2) = false := by simpa using hd2
            have HTR := Lib.hid (turn_read (d := p.dir) (ls := [.bool p.left.start, .bool p.left.fin, .slice L1 a1 x1, .slice L2 a2 x2, .slice L3 a3 x3, .int .i64 p.left.cursor]) (rs := [.bool p.right.start, .bool p.right.fin, .slice R1 b1 y1, .slice R2 b2 y2, .slice R3 b3 y3, .int .i64 p.right.cursor]) H2.out (by rw [if_neg (by omega)]) HPC.out rfl)
            have hdd := hd1
            go_wp2_with fail
            go_meet
            exact ⟨_, HTR.out, HS3.out, HW3.out⟩
        · have q2 : (p.kind == 2) = false := by simpa using h2
          have HT := Lib.hid (turn_other h2)
          clear h2
          go_wp2_with fail
          go_meet
          exact ⟨_, by rw [HT.out]; exact HPC.out, HBX.out, HWX.out⟩
      case rest =>
        obtain ⟨cs, hpc, hbx, hwx⟩ := hcut
        clear HBX HWX e0 f0 e1 f1 e2 f2 e3 f3 e4 f4 e5 f5 e6 f6 e7 f7 e8 f8 e9 f9 e10 f10 e11 f11 e12 f12 e13 f13 e14 f14 e15 f15
        have HTK2 := Lib.hid (show (l.take (k + 1)).map turnD = (l.take k).map turnD ++ [turnD p] by rw [HTK.out, List.map_append]; rfl)
        have hml : ((l.take k).map turnD).length = k := by rw [List.length_map, List.length_take, HLEN.out]; omega
        generalize turnD p = q at *
        generalize (l.take k).map turnD = M at *
        obtain ⟨A9, n9, c9, M1, e1', z1, M2, e2', z2, M3, e3', z3, N1, h1', t1, N2, h2', t2, N3, h3', t3, rfl⟩ := part_form hpc
        have e0 : wc.cell? ⟨wr.heap.size, 0, none⟩ = some (.int .i64 q.kind) := hbx.cell 0
        have e1 : wc.cell? ⟨wr.heap.size, 1, none⟩ = some (.string q.name) := hbx.cell 1
        have e2 : wc.cell? ⟨wr.heap.size, 2, none⟩ = some (.slice A9 n9 c9) := hbx.cell 2
        have e3 : wc.cell? ⟨wr.heap.size, 3, none⟩ = some (.int .i64 q.dir) := hbx.cell 3
        have e4 : wc.cell? ⟨wr.heap.size, 4, none⟩ = some (.bool q.left.start) := hbx.cell 4
        have e5 : wc.cell? ⟨wr.heap.size, 5, none⟩ = some (.bool q.left.fin) := hbx.cell 5
        have e6 : wc.cell? ⟨wr.heap.size, 6, none⟩ = some (.slice M1 e1' z1) := hbx.cell 6
        have e7 : wc.cell? ⟨wr.heap.size, 7, none⟩ = some (.slice M2 e2' z2) := hbx.cell 7
        have e8 : wc.cell? ⟨wr.heap.size, 8, none⟩ = some (.slice M3 e3' z3) := hbx.cell 8
        have e9 : wc.cell? ⟨wr.heap.size, 9, none⟩ = some (.int .i64 q.left.cursor) := hbx.cell 9
        have e10 : wc.cell? ⟨wr.heap.size, 10, none⟩ = some (.bool q.right.start) := hbx.cell 10
        have e11 : wc.cell? ⟨wr.heap.size, 11, none⟩ = some (.bool q.right.fin) := hbx.cell 11
        have e12 : wc.cell? ⟨wr.heap.size, 12, none⟩ = some (.slice N1 h1' t1) := hbx.cell 12
        have e13 : wc.cell? ⟨wr.heap.size, 13, none⟩ = some (.slice N2 h2' t2) := hbx.cell 13
        have e14 : wc.cell? ⟨wr.heap.size, 14, none⟩ = some (.slice N3 h3' t3) := hbx.cell 14
        have e15 : wc.cell? ⟨wr.heap.size, 15, none⟩ = some (.int .i64 q.right.cursor) := hbx.cell 15
        obtain ⟨css, g1, g2, g3, g4⟩ := HOWN.out
        have hzc := hwx.size
        have HO := Lib.hid (World.ownsRow.alloc (own_below g4 hwx) (.cells #[.int .i64 q.kind, .string q.name, .slice A9 n9 c9, .int .i64 q.dir, .bool q.left.start, .bool q.left.fin, .slice M1 e1' z1, .slice M2 e2' z2, .slice M3 e3' z3, .int .i64 q.left.cursor, .bool q.right.start, .bool q.right.fin, .slice N1 h1' t1, .slice N2 h2' t2, .slice N3 h3' t3, .int .i64 q.right.cursor] 40))
        have HN2 := Lib.hid (Rd.new wc 40 16 1 [.int .i64 q.kind, .string q.name, .slice A9 n9 c9, .int .i64 q.dir, .bool q.left.start, .bool q.left.fin, .slice M1 e1' z1, .slice M2 e2' z2, .slice M3 e3' z3, .int .i64 q.left.cursor, .bool q.right.start, .bool q.right.fin, .slice N1 h1' t1, .slice N2 h2' t2, .slice N3 h3' t3, .int .i64 q.right.cursor] rfl)
        have H1C := Lib.hid (one16 hpc).2
        have HPQ := Lib.hid hpc
        have HWC := Lib.hid hwx
        have G1 := Lib.hid g1
        have G2 := Lib.hid g2
        have G3 := Lib.hid g3
        have hbz := HB.out.size
        clear hpc hbx hwx g1 g2 g3 g4
        go_wp2_with (at_builtin; refine wpList_append_rd _ rfl (.tmp 42) (.tmp 44) 22 rfl w.heap.size 40 i0 _ 16 232 Try.underlying22 hi hz0 hz1 hz2 rfl (by decide) _ _ _ rfl HO.out _ (some ⟨wc.heap.size, 0, none⟩) 1 1 [.int .i64 q.kind, .string q.name, .slice A9 n9 c9, .int .i64 q.dir, .bool q.left.start, .bool q.left.fin, .slice M1 e1' z1, .slice M2 e2' z2, .slice M3 e3' z3, .int .i64 q.left.cursor, .bool q.right.start, .bool q.right.fin, .slice N1 h1' t1, .slice N2 h2' t2, .slice N3 h3' t3, .int .i64 q.right.cursor] rfl HN2.out H1C.out (by rw [hml]; unfold maxLen; omega) (by rw [hml]; omega) (by simp; omega) ?_)
        intro v9 w9 happ
        rw [← hml] at happ
        have HBN := Lib.hid ((HB.out.trans (HWC.out.mono hbz)).trans (((Below.refl _ _).alloc (Nat.le_trans hbz hzc) _).trans (happ.below (by simp; omega) HO.out)))
        have HOW := Lib.hid (OwnL.push G1.out G2.out G3.out (fun _ _ h => h) HPQ.out rfl happ)
        clear happ
        go_wp2_with fail
        refine ⟨⟨k + 1, hlt, by go_num, ?_, HBN.out, ?_⟩, by simp only [intOf]; omega⟩
        · rw [HTK2.out]
          exact HOW.out
        · rw [HTK.out]
          intro z hz
          rcases List.mem_append.1 hz with hz | hz
          · exact H4.out z hz
          · simp at hz
            rw [hz]
            exact H1.out
    · obtain rfl : k = n := by omega
      have htl : l.take k = l := by rw [List.take_of_length_le (by rw [HLEN.out]; exact Nat.le_refl _)]
      rw [htl] at hown h4
      obtain ⟨Am, km, rfl, _⟩ := hown.form
      have hmk : (l.map turnD).length = k := by rw [List.length_map, HLEN.out]
      rw [hmk] at hown
      have hpm := own_parts hown hmk hb
      have HBK := Lib.hid (fun (w' : World) (hx : Below wr.heap.size wr w') => syn_back w.heap.size A k c l w' HN.out (Nat.le_trans hb.size hx.size) (RdP.weak (weak_of (hb.trans (hx.mono hb.size)) (Nat.le_refl _)) HL.out))
      have HFO := Lib.hid (fun (w' : World) (hx : Below wr.heap.size wr w') => syn_forth wr.heap.size Am k km (l.map turnD) w' HN.out hx.size (RdP.weak (weak_of hx (Nat.le_refl _)) hpm))
      have HRT := Lib.hid (ready_turn h4)
      have HB := Lib.hid hb
      clear hown h4 hpm hb HB1
      go_wp2_with fail
      refine (HBK.out _ (Below.refl _ _)).mono ?_
      rintro e w2 ⟨⟨cs, _, rfl, hcs⟩, hb2⟩
      obtain ⟨A1, n1, c1, A2, n2, c2, rfl⟩ := script_form hcs
      have hq := two_new w2 26 29 #[.bool (readyP true l).1.only?, .slice A1 n1 c1, .slice A2 n2 c2] #[.int .i64 (readyP true l).2.1, .int .i64 (readyP true l).2.2]
      have HQ0 := Lib.hid hq.1
      have HQ1 := Lib.hid hq.2.1
      have HB2 := Lib.hid (hb2.trans (hq.2.2.1.mono hb2.size))
      have HCS := Lib.hid (hcs.keep (Keeps.below (X' := fun _ => True) hq.2.2.1 (fun _ _ _ => trivial)))
      have hz2 := hb2.size
      clear hq hcs hb2
      go_wp2_with fail
      refine (HFO.out _ HB2.out).mono ?_
      rintro e w3 ⟨⟨ds, _, rfl, hds⟩, hb3⟩
      obtain ⟨B1, m1, d1, B2, m2, d2, rfl⟩ := script_form hds
      have hq := two_new w3 26 29 #[.bool (readyP false (l.map turnD)).1.only?, .slice B1 m1 d1, .slice B2 m2 d2] #[.int .i64 (readyP false (l.map turnD)).2.1, .int .i64 (readyP false (l.map turnD)).2.2]
      have hbw := hb3.trans (hq.2.2.1.mono hb3.size)
      have x0 := Blk.below HQ0.out hbw HQ0.out.lt
      have x1 := Blk.below HQ1.out hbw HQ1.out.lt
      have HY0 := Lib.hid hq.1
      have HY1 := Lib.hid hq.2.1
      have HX0 := Lib.hid x0
      have HX1 := Lib.hid x1
      have HBE := Lib.hid (HB.out.trans ((HB2.out.trans (hbw.mono HB2.out.size)).mono HB.out.size))
      have HCS3 := Lib.hid (HCS.out.keep (Keeps.below (X' := fun _ => True) hbw (fun _ _ _ => trivial)))
      have HDS3 := Lib.hid (hds.keep (Keeps.below (X' := fun _ => True) hq.2.2.1 (fun _ _ _ => trivial)))
      clear hq hbw x0 x1 hds hb3 HQ0 HQ1 HB2 HCS HFO HBK
      go_upto_region 17 with fail
      have x0 := HX0.out
      have x1 := HX1.out
      have y0 := HY0.out
      have y1 := HY1.out
      have hbe := HBE.out
      have hcs3 := HCS3.out
      have hds3 := HDS3.out
      have hrt := HRT.out
      clear HX0 HX1 HY0 HY1 HBE HCS3 HDS3 HRT
      generalize (w3.alloc (.cells #[.bool (readyP false (l.map turnD)).1.only?, .slice B1 m1 d1, .slice B2 m2 d2] 26)).alloc (.cells #[.int .i64 (readyP false (l.map turnD)).2.1, .int .i64 (readyP false (l.map turnD)).2.2] 29) = W3 at *
      generalize readyP true l = RA at *
      generalize readyP false (l.map turnD) = RB at *
      obtain ⟨sa, F1, F2⟩ := RA
      obtain ⟨sb, G1, G2⟩ := RB
      dsimp only at *
      have u0 : W3.cell? ⟨w2.heap.size + 1, 0, none⟩ = some (.int .i64 F1) := x1.cell 0
      have u1 : W3.cell? ⟨w3.heap.size + 1, 0, none⟩ = some (.int .i64 G1) := y1.cell 0
      have HBE := Lib.hid hbe
      by_cases hF : F1 = 0
      · obtain rfl := hrt.2 hF
        have hG : G1 = 0 := hrt.1.1 hF
        subst hF hG
        have u2 : W3.cell? ⟨w2.heap.size, 0, none⟩ = some (.bool sa.only?) := x0.cell 0
        have u3 : W3.cell? ⟨w2.heap.size, 1, none⟩ = some (.slice A1 n1 c1) := x0.cell 1
        have u4 : W3.cell? ⟨w2.heap.size, 2, none⟩ = some (.slice A2 n2 c2) := x0.cell 2
        have u5 : W3.cell? ⟨w3.heap.size, 0, none⟩ = some (.bool sa.only?) := y0.cell 0
        have u6 : W3.cell? ⟨w3.heap.size, 1, none⟩ = some (.slice B1 m1 d1) := y0.cell 1
        have u7 : W3.cell? ⟨w3.heap.size, 2, none⟩ = some (.slice B2 m2 d2) := y0.cell 2
        have HSM := Lib.hid (script_same _ _ _ W3 _ _ hcs3 hds3)
        clear hrt x0 x1 y0 y1 hbe hcs3 hds3
        go_wp2_with fail
        refine HSM.out.mono ?_
        rintro e w4 ⟨rfl, hb4⟩
        have HBF := Lib.hid (HBE.out.trans (hb4.mono HBE.out.size))
        clear hb4
        go_wp2_with fail
        go_ret
        exact ⟨rfl, HBF.out⟩
      · have hG : ¬ G1 = 0 := fun h => hF (hrt.1.2 h)
        have s1 : (F1 != 0) = true := by simpa using hF
        have s2 : (F1 == 0) = false := by simpa using hF
        have s3 : (G1 == 0) = false := by simpa using hG
        clear hrt x0 x1 y0 y1 hbe hcs3 hds3 hF hG
        go_wp2_with fail
        go_ret
        exact ⟨rfl, HBE.out⟩

end Go.Proofs.Ythcjiainpaebfaa
