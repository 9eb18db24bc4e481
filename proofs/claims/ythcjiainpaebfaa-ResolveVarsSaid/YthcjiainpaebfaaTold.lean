/- The walks of slices.IndexFunc and ContainsFunc over items with told's question; of rulesyn.told. -/
import Derived.Test.YthcjiainpaebfaaSideMore
namespace Go.Proofs.Ythcjiainpaebfaa
open Go.RowKit

set_option maxRecDepth 100000 in
set_option maxHeartbeats 1600000 in
theorem told_index (A : Option Addr) (n c : Nat) (l : List ItemD) (fv : Value) (hfv : fv = .func (.func 54) #[] #[]) (w : World) (hl : RdIt w w.heap.size A n l) (m : n ≤ maxLen) :
    Calls Try.prog 57 #[.slice A n c, fv] w fun e w' => (∃ z : Int, e = .returned (.int .i64 z) ∧ (decide (0 ≤ z) = !plainB l)) ∧ Below w.heap.size w w' := by
  subst hfv
  have HLEN := Lib.hid (RdL.len hl)
  have HL := Lib.hid hl
  have hn2 : n ≤ 9223372036854775807 := by unfold maxLen at m; omega
  clear hl m
  go_enter Try.func57, Try.ntmps57
  go_wp2_with fail
  go_loopw [8] (PlRel w l n) (fun i _ => n - (intOf i).toNat)
  case atStart => exact ⟨0, Nat.zero_le _, rfl, rfl, Below.refl _ _⟩
  case round =>
    obtain ⟨k, hk, rfl, hgo, hb⟩ := hrel
    have hz := hb.size
    by_cases hlt : k < n
    · obtain ⟨a, ha⟩ : ∃ z, l[k]? = some z := ⟨_, List.getElem?_eq_getElem (by rw [HLEN.out]; exact hlt)⟩
      rw [drop_at ha, plain_cons] at hgo
      obtain ⟨b, off, A', n', c', rfl, hbb, c0, c1', c2', c3', _, _, _, _⟩ := item_at HL.out ha
      have d0 := (hb.cell (p := ⟨b, off + k * 4, none⟩) hbb).trans c0
      have d1 := (hb.cell (p := ⟨b, off + k * 4 + 1, none⟩) hbb).trans c1'
      have d2 := (hb.cell (p := ⟨b, off + k * 4 + 2, none⟩) hbb).trans c2'
      have d3 := (hb.cell (p := ⟨b, off + k * 4 + 3, none⟩) hbb).trans c3'
      have HT := Lib.hid (told_one a A' n' c' wr)
      clear c0 c1' c2' c3'
      by_cases hk1 : a.kind = 1
      · have HG := Lib.hid (hgo.trans (show (a.kind == 1 && plainB (l.drop (k + 1))) = plainB (l.drop (k + 1)) by simp [hk1]))
        have hk2 : (a.kind != 1) = false := by simpa using hk1
        clear hgo hk1
        go_wp2_with fail
        refine HT.out.mono ?_
        rintro e w2 ⟨rfl, hb2⟩
        have hb3 := hb.trans (hb2.mono hz)
        rw [hk2]
        clear hb2
        go_wp2_with fail
        exact ⟨⟨k + 1, by omega, by go_num, HG.out, hb3⟩, by simp [intOf]; omega⟩
      · have HG := Lib.hid (hgo.trans (show (a.kind == 1 && plainB (l.drop (k + 1))) = false by simp [hk1]))
        have hk2 : (a.kind != 1) = true := by simpa using hk1
        clear hgo hk1
        go_wp2_with fail
        refine HT.out.mono ?_
        rintro e w2 ⟨rfl, hb2⟩
        have hb3 := hb.trans (hb2.mono hz)
        rw [hk2]
        clear hb2
        go_wp2_with fail
        go_ret
        exact ⟨⟨_, rfl, by rw [HG.out]; simp⟩, hb3⟩
    · obtain rfl : k = n := by omega
      rw [List.drop_of_length_le (by rw [HLEN.out]; omega)] at hgo
      have HG := Lib.hid (hgo.trans (show plainB [] = true from rfl))
      clear hgo
      go_wp2_with fail
      go_ret
      exact ⟨⟨_, rfl, by rw [HG.out]; simp⟩, hb⟩

set_option maxRecDepth 100000 in
theorem told_has (A : Option Addr) (n c : Nat) (l : List ItemD) (fv : Value) (hfv : fv = .func (.func 54) #[] #[]) (w : World) (hl : RdIt w w.heap.size A n l) (m : n ≤ maxLen) :
    Calls Try.prog 53 #[.slice A n c, fv] w fun e w' => e = .returned (.bool (!plainB l)) ∧ Below w.heap.size w w' := by
  have H := Lib.hid (told_index A n c l fv hfv w hl m)
  clear hl m hfv
  go_enter Try.func53, Try.ntmps53
  go_wp2_with fail
  refine H.out.mono ?_
  rintro e w2 ⟨⟨z, rfl, hz⟩, hb⟩
  have HZ := Lib.hid hz
  clear hz
  go_wp2_with fail
  go_ret
  exact ⟨ret_bool HZ.out, hb⟩

theorem rulesyn_told (s : SideD) (A1 A2 A3 : Option Addr) (n1 n2 n3 c1 c2 c3 : Nat) (w : World) (h2 : RdIt w w.heap.size A2 n2 s.source) (m2 : n2 ≤ maxLen) :
    Calls Try.prog 47 #[.agg #[.bool s.start, .bool s.fin, .slice A1 n1 c1, .slice A2 n2 c2, .slice A3 n3 c3, .int .i64 s.cursor]] w fun e w' => e = .returned (.bool (plainB s.source)) ∧ Below w.heap.size w w' := by
  obtain ⟨start, fin, before, l, after, cursor⟩ := s
  dsimp only at h2 ⊢
  have H := Lib.hid (fun o => told_has A2 n2 c2 l _ rfl (w.alloc o) (rdit_alloc h2 o) m2)
  have HB := Lib.hid (fun o => (Below.refl w.heap.size w).alloc (Nat.le_refl _) o)
  clear h2 m2
  go_enter Try.func47, Try.ntmps47
  go_wp2_with fail
  refine (H.out _).mono ?_
  rintro e w2 ⟨rfl, hb⟩
  have hb2 := (HB.out _).trans (hb.mono (by simp))
  clear hb
  go_wp2_with fail
  go_ret
  exact ⟨ret_bool (by simp), hb2⟩

end Go.Proofs.Ythcjiainpaebfaa
