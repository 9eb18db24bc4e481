/- A side's other questions: the walks of scriptref5.plain and around, of rulesyn.bare and told. -/
import Derived.Test.YthcjiainpaebfaaSide
namespace Go.Proofs.Ythcjiainpaebfaa
open Go.RowKit

theorem plain_cons (a : ItemD) (l : List ItemD) : plainB (a :: l) = ((a.kind == 1) && plainB l) := rfl

def PlRel (W : World) (l : List ItemD) (n : Nat) (i : Value) (wr : World) : Prop :=
  ∃ k : Nat, k ≤ n ∧ i = .int .i64 k ∧ plainB l = plainB (l.drop k) ∧ Below W.heap.size W wr

set_option maxRecDepth 100000 in
set_option maxHeartbeats 1600000 in
theorem ref_plain (s : SideD) (A1 A2 A3 : Option Addr) (n1 n2 n3 c1 c2 c3 : Nat) (w : World) (h2 : RdIt w w.heap.size A2 n2 s.source) (m2 : n2 ≤ maxLen) :
    Calls Try.prog 40 #[.agg #[.bool s.start, .bool s.fin, .slice A1 n1 c1, .slice A2 n2 c2, .slice A3 n3 c3, .int .i64 s.cursor]] w fun e w' => e = .returned (.bool (plainB s.source)) ∧ Below w.heap.size w w' := by
  obtain ⟨start, fin, before, l, after, cursor⟩ := s
  dsimp only at h2 ⊢
  have HLEN := Lib.hid (RdL.len h2)
  have HL := Lib.hid h2
  have hn2 : n2 ≤ 9223372036854775807 := by unfold maxLen at m2; omega
  clear h2 m2
  go_enter Try.func40, Try.ntmps40
  go_wp2_with fail
  go_loopw [8] (PlRel w l n2) (fun i _ => n2 - (intOf i).toNat)
  case atStart => exact ⟨0, Nat.zero_le _, rfl, rfl, (Below.refl _ _).alloc (Nat.le_refl _) _⟩
  case round =>
    obtain ⟨k, hk, rfl, hgo, hb⟩ := hrel
    have hz := hb.size
    by_cases hlt : k < n2
    · obtain ⟨a, ha⟩ : ∃ z, l[k]? = some z := ⟨_, List.getElem?_eq_getElem (by rw [HLEN.out]; exact hlt)⟩
      rw [drop_at ha, plain_cons] at hgo
      obtain ⟨b, off, A', n', c', rfl, hbb, c0, c1', c2', c3', _, _, _, _⟩ := item_at HL.out ha
      have d0 := (hb.cell (p := ⟨b, off + k * 4, none⟩) hbb).trans c0
      have d1 := (hb.cell (p := ⟨b, off + k * 4 + 1, none⟩) hbb).trans c1'
      have d2 := (hb.cell (p := ⟨b, off + k * 4 + 2, none⟩) hbb).trans c2'
      have d3 := (hb.cell (p := ⟨b, off + k * 4 + 3, none⟩) hbb).trans c3'
      have HB1 := Lib.hid (fun o => hb.alloc hz o)
      clear c0 c1' c2' c3'
      by_cases hk1 : a.kind = 1
      · rw [hk1] at hgo d0
        have HG := Lib.hid (hgo.trans (show ((1 : Int) == 1 && plainB (l.drop (k + 1))) = plainB (l.drop (k + 1)) by simp))
        clear hgo hk1
        go_wp2_with fail
        exact ⟨⟨k + 1, by omega, by go_num, HG.out, HB1.out _⟩, by simp [intOf]; omega⟩
      · have HG := Lib.hid (hgo.trans (show (a.kind == 1 && plainB (l.drop (k + 1))) = false by simp [hk1]))
        have hk2 : (a.kind != 1) = true := by simpa using hk1
        clear hgo hk1
        go_wp2_with fail
        go_ret
        rw [HG.out]
        exact ⟨rfl, HB1.out _⟩
    · obtain rfl : k = n2 := by omega
      rw [List.drop_of_length_le (by rw [HLEN.out]; omega)] at hgo
      have HG := Lib.hid (hgo.trans (show plainB [] = true from rfl))
      clear hgo
      go_wp2_with fail
      go_ret
      rw [HG.out]
      exact ⟨rfl, hb⟩

set_option maxHeartbeats 1600000 in
theorem ref_around (s : SideD) (A1 A2 A3 : Option Addr) (n1 n2 n3 c1 c2 c3 : Nat) (w : World) (h1 : s.before.length = n1) (h3 : s.after.length = n3) :
    Calls Try.prog 41 #[.agg #[.bool s.start, .bool s.fin, .slice A1 n1 c1, .slice A2 n2 c2, .slice A3 n3 c3, .int .i64 s.cursor]] w fun e w' => e = .returned (.bool (aroundB s)) ∧ Below w.heap.size w w' := by
  have hv : aroundB s = (s.start || s.fin || decide (0 < n1) || decide (0 < n3)) := by unfold aroundB; rw [h1, h3]
  rw [hv]
  clear hv h1 h3
  obtain ⟨start, fin, before, l, after, cursor⟩ := s
  dsimp only
  cases start <;> cases fin
  · by_cases hn1 : 0 < n1
    · go_enter Try.func41, Try.ntmps41
      go_wp2_with fail
      go_ret
      exact ⟨ret_bool (by simp; omega), (Below.refl _ _).alloc (Nat.le_refl _) _⟩
    · go_enter Try.func41, Try.ntmps41
      go_wp2_with fail
      go_ret
      exact ⟨ret_bool (by simp; omega), (Below.refl _ _).alloc (Nat.le_refl _) _⟩
  all_goals
    go_enter Try.func41, Try.ntmps41
    go_wp2_with fail
    go_ret
    exact ⟨ret_bool (by simp), (Below.refl _ _).alloc (Nat.le_refl _) _⟩

set_option maxHeartbeats 1600000 in
theorem rulesyn_bare (s : SideD) (A1 A2 A3 : Option Addr) (n1 n2 n3 c1 c2 c3 : Nat) (w : World) (h1 : s.before.length = n1) (h3 : s.after.length = n3) (m1 : n1 ≤ 20) (m3 : n3 ≤ 20) :
    Calls Try.prog 48 #[.agg #[.bool s.start, .bool s.fin, .slice A1 n1 c1, .slice A2 n2 c2, .slice A3 n3 c3, .int .i64 s.cursor]] w fun e w' => e = .returned (.bool (!aroundB s)) ∧ Below w.heap.size w w' := by
  have hv : aroundB s = (s.start || s.fin || decide (0 < n1) || decide (0 < n3)) := by unfold aroundB; rw [h1, h3]
  rw [hv]
  clear hv h1 h3
  obtain ⟨start, fin, before, l, after, cursor⟩ := s
  dsimp only
  cases start <;> cases fin
  · go_enter Try.func48, Try.ntmps48
    go_wp2_with fail
    go_ret
    exact ⟨ret_bool (by rw [Bool.eq_iff_iff]; simp; omega), (Below.refl _ _).alloc (Nat.le_refl _) _⟩
  all_goals
    go_enter Try.func48, Try.ntmps48
    go_wp2_with fail
    go_ret
    exact ⟨ret_bool (by simp), (Below.refl _ _).alloc (Nat.le_refl _) _⟩

theorem told_one (a : ItemD) (A : Option Addr) (n c : Nat) (w : World) :
    Calls Try.prog 54 #[.agg #[.int .i64 a.kind, .int .i32 a.rune, .slice A n c, .string a.name]] w fun e w' => e = .returned (.bool (a.kind != 1)) ∧ Below w.heap.size w w' := by
  go_enter Try.func54, Try.ntmps54
  go_wp2_with fail
  go_ret
  exact ⟨rfl, (Below.refl _ _).alloc (Nat.le_refl _) _⟩

end Go.Proofs.Ythcjiainpaebfaa
