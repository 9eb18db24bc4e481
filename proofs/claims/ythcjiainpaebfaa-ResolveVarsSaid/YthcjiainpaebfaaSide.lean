/- What is wrong with a side, by the document's answer: the walks of scriptref5.side, plain and around. -/
import Derived.Test.YthcjiainpaebfaaItems
namespace Go.Proofs.Ythcjiainpaebfaa
open Go.RowKit

def itemsAll : List (List ItemD) → Int
  | [] => 0
  | l :: r => if itemsP l = 0 then itemsAll r else itemsP l
def sideP (s : SideD) (must : Bool) : Int :=
  if itemsAll [s.before, s.source, s.after] = 0 then
    (if s.cursor < -1 ∨ (s.source.length : Int) < s.cursor then 3 else if must = true ∧ s.source.length = 0 then 6 else 0)
  else itemsAll [s.before, s.source, s.after]
/-- Runes alone. -/
def plainB (l : List ItemD) : Bool := l.all fun a => a.kind == 1
/-- A side has more than a source and a cursor. -/
def aroundB (s : SideD) : Bool := s.start || s.fin || decide (0 < s.before.length) || decide (0 < s.after.length)

theorem items_small {l : List ItemD} (h : itemsP l = 0) : l.length ≤ 20 := by
  unfold itemsP at h
  by_cases h1 : 20 < l.length
  · rw [if_pos h1] at h; cases h
  · omega

theorem rdit_alloc {w : World} {A : Option Addr} {n : Nat} {l : List ItemD} (h : RdIt w w.heap.size A n l) (o : Obj) : RdIt (w.alloc o) (w.alloc o).heap.size A n l :=
  RdIt.weak (weak_of ((Below.refl _ _).alloc (Nat.le_refl _) o) (by simp)) h
theorem rdit_below {w w' : World} {A : Option Addr} {n : Nat} {l : List ItemD} (h : RdIt w w.heap.size A n l) (hb : Below w.heap.size w w') : RdIt w' w'.heap.size A n l :=
  RdIt.weak (weak_of hb hb.size) h

set_option maxRecDepth 100000 in
set_option maxHeartbeats 1600000 in
theorem ref_side (s : SideD) (must : Bool) (A1 A2 A3 : Option Addr) (n1 n2 n3 c1 c2 c3 : Nat) (w : World) (h1 : RdIt w w.heap.size A1 n1 s.before) (h2 : RdIt w w.heap.size A2 n2 s.source) (h3 : RdIt w w.heap.size A3 n3 s.after) (m1 : n1 ≤ maxLen) (m2 : n2 ≤ maxLen) (m3 : n3 ≤ maxLen) (hcur : i64R s.cursor) :
    Calls Try.prog 39 #[.agg #[.bool s.start, .bool s.fin, .slice A1 n1 c1, .slice A2 n2 c2, .slice A3 n3 c3, .int .i64 s.cursor], .bool must] w fun e w' => e = .returned (.int .i64 (sideP s must)) ∧ Below w.heap.size w w' := by
  obtain ⟨start, fin, before, source, after, cursor⟩ := s
  dsimp only at h1 h2 h3 hcur ⊢
  have hl2 := RdL.len h2
  unfold maxLen at m2
  obtain ⟨hcur1, hcur2⟩ := hcur
  generalize hS : sideP ⟨start, fin, before, source, after, cursor⟩ must = V
  unfold sideP at hS
  simp only [itemsAll] at hS
  generalize hcs : (#[.bool start, .bool fin, .slice A1 n1 c1, .slice A2 n2 c2, .slice A3 n3 c3, .int .i64 cursor] : Array Value) = cs
  have hblk := Blk.new w 38 cs
  have hbA : Below w.heap.size w (w.alloc (.cells cs 38)) := (Below.refl _ _).alloc (Nat.le_refl _) _
  have hsz : w.heap.size ≤ (w.alloc (.cells cs 38)).heap.size := hbA.size
  have H1 := Lib.hid (ref_items A1 n1 c1 before _ m1 (rdit_alloc h1 (.cells cs 38)))
  have HB := Lib.hid hbA
  have HK := Lib.hid hblk
  have HSZ := Lib.hid hsz
  have R2 := Lib.hid (fun w' (hb : Below w.heap.size w w') => ref_items A2 n2 c2 source w' (by unfold maxLen; omega) (rdit_below h2 hb))
  have R3 := Lib.hid (fun w' (hb : Below w.heap.size w w') => ref_items A3 n3 c3 after w' m3 (rdit_below h3 hb))
  have HS := Lib.hid hS
  clear h1 h2 h3 hbA hblk hS hsz
  subst hcs
  go_enter Try.func39, Try.ntmps39
  go_wp2_with fail
  refine H1.out.mono ?_
  rintro e w1 ⟨rfl, hb1⟩
  have hk1 := Blk.below HK.out hb1 (by simp)
  have hb01 := HB.out.trans (hb1.mono HSZ.out)
  have HB01 := Lib.hid hb01
  have d13 : w1.cell? ⟨w.heap.size, 3, none⟩ = some (.slice A2 n2 c2) := hk1.cell 3
  have HK1 := Lib.hid hk1
  clear hb1 hk1 H1 HK hb01
  by_cases e1 : itemsP before = 0
  · have e1' : (itemsP before != 0) = false := by simpa using e1
    go_wp2_with fail
    refine (R2.out w1 HB01.out).mono ?_
    rintro e w2 ⟨rfl, hb2⟩
    have hk2 := Blk.below HK1.out hb2 HK1.out.lt
    have hb02 := HB01.out.trans (hb2.mono HB01.out.size)
    have HB02 := Lib.hid hb02
    have d24 : w2.cell? ⟨w.heap.size, 4, none⟩ = some (.slice A3 n3 c3) := hk2.cell 4
    have HK2 := Lib.hid hk2
    clear hb2 hk2 hb02 d13
    by_cases e2 : itemsP source = 0
    · have e2' : (itemsP source != 0) = false := by simpa using e2
      go_wp2_with fail
      refine (R3.out w2 HB02.out).mono ?_
      rintro e w3 ⟨rfl, hb3⟩
      have hk3 := Blk.below HK2.out hb3 HK2.out.lt
      have hb03 := HB02.out.trans (hb3.mono HB02.out.size)
      have HB03 := Lib.hid hb03
      have d33 : w3.cell? ⟨w.heap.size, 3, none⟩ = some (.slice A2 n2 c2) := hk3.cell 3
      have d35 : w3.cell? ⟨w.heap.size, 5, none⟩ = some (.int .i64 cursor) := hk3.cell 5
      clear hb3 hk3 hb03 d24
      by_cases e3 : itemsP after = 0
      · have e3' : (itemsP after != 0) = false := by simpa using e3
        by_cases hc : cursor < -1 ∨ (source.length : Int) < cursor
        · have HV := Lib.hid (show V = 3 by rw [← HS.out]; simp [e1, e2, e3, hc])
          rw [hl2] at hc
          clear e1 e2 e3
          rcases (show cursor = 9223372036854775807 ∨ cursor < -1 ∨ (-1 ≤ cursor ∧ cursor < 9223372036854775807 ∧ (n2 : Int) < cursor) by omega) with rfl | h | ⟨h, h', h''⟩
          · have hw : wrap64 9223372036854775808 = -9223372036854775808 := by decide +kernel
            clear hc
            go_wp2_with fail
            go_ret
            rw [HV.out]
            exact ⟨rfl, HB03.out⟩
          all_goals
            clear hc
            go_wp2_with fail
            go_ret
            rw [HV.out]
            exact ⟨rfl, HB03.out⟩
        · rw [hl2] at hc
          have hn20 : n2 ≤ 20 := by rw [← hl2]; exact items_small e2
          have hc1 : -1 ≤ cursor := by omega
          have hc2 : cursor ≤ n2 := by omega
          cases hmust : must
          · have HV := Lib.hid (show V = 0 by rw [← HS.out, hmust, hl2]; simp [e1, e2, e3]; omega)
            clear hc e1 e2 e3
            go_wp2_with fail
            go_ret
            rw [HV.out]
            exact ⟨rfl, HB03.out⟩
          · by_cases h0 : n2 = 0
            · have HV := Lib.hid (show V = 6 by rw [← HS.out, hmust, hl2, h0]; simp [e1, e2, e3]; omega)
              clear hc e1 e2 e3
              have hz : ((n2 : Int) == 0) = true := by simp; omega
              go_wp2_with fail
              go_ret
              rw [HV.out]
              exact ⟨rfl, HB03.out⟩
            · have HV := Lib.hid (show V = 0 by rw [← HS.out, hmust, hl2]; simp [e1, e2, e3, h0]; omega)
              clear hc e1 e2 e3
              have hz : ((n2 : Int) == 0) = false := by simp; omega
              go_wp2_with fail
              go_ret
              rw [HV.out]
              exact ⟨rfl, HB03.out⟩
      · have HV := Lib.hid (show V = itemsP after by rw [← HS.out]; simp [e1, e2, e3])
        have e3' : (itemsP after != 0) = true := by simpa using e3
        clear e1 e2 e3
        go_wp2_with fail
        go_ret
        rw [HV.out]
        exact ⟨rfl, HB03.out⟩
    · have HV := Lib.hid (show V = itemsP source by rw [← HS.out]; simp [e1, e2])
      have e2' : (itemsP source != 0) = true := by simpa using e2
      clear e1 e2
      go_wp2_with fail
      go_ret
      rw [HV.out]
      exact ⟨rfl, HB02.out⟩
  · have HV := Lib.hid (show V = itemsP before by rw [← HS.out]; simp [e1])
    have e1' : (itemsP before != 0) = true := by simpa using e1
    clear e1
    go_wp2_with fail
    go_ret
    rw [HV.out]
    exact ⟨rfl, HB01.out⟩

end Go.Proofs.Ythcjiainpaebfaa
