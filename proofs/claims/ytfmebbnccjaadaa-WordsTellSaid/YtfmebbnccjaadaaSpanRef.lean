/- What is wrong with a set of runes, by the document's answer: the walk of scriptref2.Wrong: it tells wrongP. -/
import Derived.Test.YtfmebbnccjaadaaSpan
namespace Go.Proofs.Ytfmebbnccjaadaa
open Go.RowKit

set_option maxRecDepth 100000 in
set_option maxHeartbeats 1600000 in
theorem ref2_wrong (A : Option Addr) (n c : Nat) (l : Spans) (w : World) (hn : n ≤ 9223372036854775807) (hl : RdS w w.heap.size A n l) :
    Calls Try.prog 62 #[.slice A n c] w fun e w' => e = .returned (.int .i64 (wrongP l)) ∧ Below w.heap.size w w' := by
  have HLEN := Lib.hid hl.len
  have HL := Lib.hid hl
  clear hl
  by_cases h2 : 200 < n
  · have HP := Lib.hid (show wrongP l = 5 by unfold wrongP; rw [if_pos (by rw [HLEN.out]; exact h2)])
    go_enter Try.func62, Try.ntmps62
    go_wp2_with fail
    go_ret
    rw [HP.out]
    exact ⟨rfl, Below.refl _ _⟩
  · have HP := Lib.hid (show wrongP l = wrongGo none l by unfold wrongP; rw [if_neg (by rw [HLEN.out]; exact h2)])
    go_enter Try.func62, Try.ntmps62
    go_wp2_with fail
    go_loopw [10] (WrongRel w l n) (fun i _ => n - (intOf i).toNat)
    case atStart => exact ⟨0, Nat.zero_le _, rfl, rfl, by simp [prevOf], Below.refl _ _⟩
    case round =>
      obtain ⟨j, hj, rfl, hgo, hpv, hb⟩ := hrel
      have hz := hb.size
      by_cases hlt : j < n
      · obtain ⟨⟨x, y⟩, hx⟩ : ∃ z, l[j]? = some z := ⟨_, List.getElem?_eq_getElem (by rw [HLEN.out]; exact hlt)⟩
        obtain ⟨b, off, rfl, hbb, c0, c1⟩ := HL.out.at hx
        have d0 := (hb.cell (p := ⟨b, off + j * 2, none⟩) hbb).trans c0
        have d1 := (hb.cell (p := ⟨b, off + j * 2 + 1, none⟩) hbb).trans c1
        rw [drop_at hx, wrongGo] at hgo
        by_cases hr : x < 0 ∨ 1114111 < y ∨ y < x
        · rw [if_pos hr] at hgo
          have HG := Lib.hid hgo
          have HX := Lib.hid hx
          clear hgo hx c0 c1 hpv
          rcases (show x < 0 ∨ (0 ≤ x ∧ y < x) ∨ (0 ≤ x ∧ x ≤ y ∧ 1114111 < y) by omega) with h1 | ⟨h1, h2⟩ | ⟨h1, h2, h3⟩
          all_goals
            clear hr
            go_wp2_with fail
            go_ret
            rw [HP.out, HG.out]
            exact ⟨rfl, hb.alloc hz _⟩
        · rw [if_neg hr] at hgo
          have hr1 : 0 ≤ x := by omega
          have hr2 : y ≤ 1114111 := by omega
          have hr3 : x ≤ y := by omega
          have hpv2 : ∀ h, prevOf l (j + 1) = some h → h ≤ 1114111 ∧ 0 ≤ h := by
            intro h hh
            simp only [prevOf, hx, Option.map_some, Option.some.injEq] at hh
            omega
          have hprev : prevOf l (j + 1) = some y := by simp [prevOf, hx]
          clear hr
          cases j with
          | zero =>
            rw [if_neg (by simp [prevOf, touch])] at hgo
            rw [← hprev] at hgo
            have HG := Lib.hid hgo
            have HX := Lib.hid hx
            have HPV := Lib.hid hpv2
            clear hgo hx c0 c1 hpv hpv2 hprev
            simp only [Nat.zero_mul, Nat.add_zero] at d0 d1
            go_wp2_with fail
            go_quiet (fail)
            go_wp2_with fail
            exact ⟨⟨1, by omega, by go_num, HG.out, HPV.out, below_drewN (hb.alloc hz _) _⟩, by simp [intOf]; omega⟩
          | succ j =>
            obtain ⟨⟨p, h⟩, hp⟩ : ∃ z, l[j]? = some z := ⟨_, List.getElem?_eq_getElem (by rw [HLEN.out]; omega)⟩
            have hh : prevOf l (j + 1) = some h := by simp [prevOf, hp]
            obtain ⟨hh1, hh2⟩ := hpv h hh
            obtain ⟨b2, off2, e2, _, _, c3⟩ := HL.out.at hp
            cases e2
            have d3 : (wr.alloc (Obj.cells #[Value.int IntKind.i32 x, Value.int IntKind.i32 y] 134)).cell? ⟨b, off + j * 2 + 1, none⟩ = some (.int .i32 h) := ((hb.alloc hz _).cell (p := ⟨b, off + j * 2 + 1, none⟩) hbb).trans c3
            have hj0 : decide ((0 : Int) < (j : Int) + 1) = true := decide_eq_true (by omega)
            have hjn : j < n := by omega
            have hjn2 : (j : Int) < (n : Int) := by omega
            have hjw : IntKind.i64.wrap (j : Int) = (j : Int) := IntWalk.i64_in _ (by omega)
            rw [hh] at hgo
            simp only [touch, decide_eq_true_eq] at hgo
            by_cases ht : x ≤ h + 1
            · rw [if_pos ht] at hgo
              have HG := Lib.hid hgo
              have HX := Lib.hid hx
              have HPX := Lib.hid hp
              clear hgo hx c0 c1 c3 hpv hpv2 hprev hh hp
              have ht2 : decide (x - h < 2) = true := decide_eq_true (by omega)
              go_wp2_with fail
              go_quiet (fail)
              go_wp2_with fail
              go_ret
              rw [HP.out, HG.out]
              exact ⟨rfl, below_drewN (hb.alloc hz _) _⟩
            · rw [if_neg ht, ← hprev] at hgo
              have HG := Lib.hid hgo
              have HX := Lib.hid hx
              have HPX := Lib.hid hp
              have HPV := Lib.hid hpv2
              clear hgo hx c0 c1 c3 hpv hpv2 hprev hh hp
              have ht2 : decide (x - h < 2) = false := decide_eq_false (by omega)
              go_wp2_with fail
              go_quiet (fail)
              go_wp2_with fail
              exact ⟨⟨j + 1 + 1, by omega, by go_num, HG.out, HPV.out, below_drewN (hb.alloc hz _) _⟩, by simp [intOf]; omega⟩
      · obtain rfl : j = n := by omega
        rw [List.drop_of_length_le (by rw [HLEN.out]; omega)] at hgo
        have HG := Lib.hid (hgo.trans (show wrongGo (prevOf l j) [] = 0 from rfl))
        clear hgo hpv
        go_wp2_with fail
        go_ret
        rw [HP.out, HG.out]
        exact ⟨rfl, hb⟩

end Go.Proofs.Ytfmebbnccjaadaa
