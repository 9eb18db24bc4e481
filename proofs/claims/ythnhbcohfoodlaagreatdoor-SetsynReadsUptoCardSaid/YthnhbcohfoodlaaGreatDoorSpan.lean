/- Sets of runes as spans: how they lie in memory; what is wrong with one. The walks of sets.Wrong and scriptref2.Wrong: both tell wrongP. -/
import Derived.Test.YthnhbcohfoodlaaGreatDoorAppend
import Derived.Test.YthnhbcohfoodlaaGreatDoorRows
import Derived.Deep.QuietTactic
import Derived.BigQuiet
namespace Go.Proofs.YthnhbcohfoodlaaGreatDoor
open Go.RowKit

abbrev Spans := List (Int × Int)
/-- Spans, as cells. -/
def spanCells (l : Spans) : List Value := l.flatMap fun k => [.int .i32 k.1, .int .i32 k.2]
theorem spanCells_length (l : Spans) : (spanCells l).length = l.length * 2 := by
  induction l with
  | nil => rfl
  | cons x l ih => simp only [spanCells, List.flatMap_cons] at ih ⊢; simp [ih]; omega
theorem spanCells_at (l : Spans) (k : Nat) (x y : Int) (hk : l[k]? = some (x, y)) : (spanCells l)[k * 2]? = some (.int .i32 x) ∧ (spanCells l)[k * 2 + 1]? = some (.int .i32 y) := by
  induction l generalizing k with
  | nil => simp at hk
  | cons z l ih =>
    cases k with
    | zero => simp at hk; subst hk; simp [spanCells]
    | succ k =>
      have := ih k (by simpa using hk)
      simp only [spanCells, List.flatMap_cons] at this ⊢
      have e1 : (k + 1) * 2 = k * 2 + 1 + 1 := by omega
      rw [e1]
      simpa using this

/-- Slice A of n spans reads as the list l. -/
def RdS (w : World) (B : Nat) (A : Option Addr) (n : Nat) (l : Spans) : Prop := Rd w B 2 A n (spanCells l)
theorem RdS.len {w : World} {B n : Nat} {A : Option Addr} {l : Spans} (h : RdS w B A n l) : l.length = n := by
  have := h.1; rw [spanCells_length] at this; omega
theorem RdS.at {w : World} {B n : Nat} {A : Option Addr} {l : Spans} (h : RdS w B A n l) {k : Nat} {x y : Int} (hk : l[k]? = some (x, y)) :
    ∃ b off : Nat, A = some ⟨b, off, none⟩ ∧ b < B ∧ w.cell? ⟨b, off + k * 2, none⟩ = some (.int .i32 x) ∧ w.cell? ⟨b, off + k * 2 + 1, none⟩ = some (.int .i32 y) := by
  have hl : k < l.length := (List.getElem?_eq_some_iff.1 hk).1
  have := h.len
  obtain ⟨b, off, e, hb, hc⟩ := h.2 (by omega)
  obtain ⟨h1, h2⟩ := spanCells_at l k x y hk
  exact ⟨b, off, e, hb, hc _ _ h1, by rw [Nat.add_assoc]; exact hc _ _ h2⟩

def touch : Option Int → Int → Bool
  | none, _ => false
  | some h, a => decide (a ≤ h + 1)
/-- From a span on: the last one ended at prev. -/
def wrongGo : Option Int → Spans → Int
  | _, [] => 0
  | prev, (a, b) :: r => if a < 0 ∨ 1114111 < b ∨ b < a then 3 else if touch prev a = true then 2 else wrongGo (some b) r
/-- What is wrong with a set. -/
def wrongP (l : Spans) : Int := if 200 < l.length then 5 else wrongGo none l
def prevOf (l : Spans) : Nat → Option Int
  | 0 => none
  | k + 1 => (l[k]?).map (·.2)

def WrongRel (w : World) (l : Spans) (n : Nat) (i : Value) (wr : World) : Prop :=
  ∃ j : Nat, j ≤ n ∧ i = .int .i64 j ∧ wrongGo none l = wrongGo (prevOf l j) (l.drop j) ∧ (∀ h, prevOf l j = some h → h ≤ 1114111 ∧ 0 ≤ h) ∧ Below w.heap.size w wr

theorem drop_at {α : Type} {l : List α} {j : Nat} {x : α} (h : l[j]? = some x) : l.drop j = x :: l.drop (j + 1) := by
  obtain ⟨hj, rfl⟩ := List.getElem?_eq_some_iff.1 h
  exact List.drop_eq_getElem_cons hj

set_option maxRecDepth 100000 in
set_option maxHeartbeats 1600000 in
theorem sets_wrong (A : Option Addr) (n c : Nat) (l : Spans) (w : World) (hn : n ≤ 9223372036854775807) (hl : RdS w w.heap.size A n l) :
    Calls Tryz.prog 16 #[.slice A n c] w fun e w' => e = .returned (.int .i64 (wrongP l)) ∧ Below w.heap.size w w' := by
  have HLEN := Lib.hid hl.len
  have HL := Lib.hid hl
  clear hl
  by_cases h2 : 200 < n
  · have HP := Lib.hid (show wrongP l = 5 by unfold wrongP; rw [if_pos (by rw [HLEN.out]; exact h2)])
    go_enter Tryz.func16, Tryz.ntmps16
    go_wp2_with fail
    go_ret
    rw [HP.out]
    exact ⟨rfl, Below.refl _ _⟩
  · have HP := Lib.hid (show wrongP l = wrongGo none l by unfold wrongP; rw [if_neg (by rw [HLEN.out]; exact h2)])
    go_enter Tryz.func16, Tryz.ntmps16
    go_wp2_with fail
    go_loopw [10] (WrongRel w l n) (fun i _ => n - (intOf i).toNat)
    case atStart => exact ⟨0, Nat.zero_le _, rfl, rfl, by simp [prevOf], Below.refl _ _⟩
    case round =>
      obtain ⟨j, hj, rfl, hgo, hpv, hb⟩ := hrel
      have hz := hb.size
      by_cases hlt : j < n
      · obtain ⟨⟨x, y⟩, hx⟩ : ∃ z, l[j]? = some z := ⟨_, List.getElem?_eq_getElem (by rw [HLEN.out]; exact hlt)⟩
        obtain ⟨b, off, rfl, hbb, c0, c1⟩ := HL.out.at hx
        have d0 := (hb.cell (p := ⟨b, off + j * 2, none⟩) hbb).trans c0
        have d1 := (hb.cell (p := ⟨b, off + j * 2 + 1, none⟩) hbb).trans c1
        rw [drop_at hx, wrongGo] at hgo
        by_cases hr : x < 0 ∨ 1114111 < y ∨ y < x
        · rw [if_pos hr] at hgo
          have HG := Lib.hid hgo
          have HX := Lib.hid hx
          clear hgo hx c0 c1 hpv
          rcases (show x < 0 ∨ (0 ≤ x ∧ 1114111 < y) ∨ (0 ≤ x ∧ y ≤ 1114111 ∧ y < x) by omega) with h1 | ⟨h1, h2⟩ | ⟨h1, h2, h3⟩
          all_goals
            clear hr
            go_wp2_with fail
            go_ret
            rw [HP.out, HG.out]
            exact ⟨rfl, hb.alloc hz _⟩
        · rw [if_neg hr] at hgo
          have hr1 : 0 ≤ x := by omega
          have hr2 : y ≤ 1114111 := by omega
          have hr3 : x ≤ y := by omega
          have hpv2 : ∀ h, prevOf l (j + 1) = some h → h ≤ 1114111 ∧ 0 ≤ h := by
            intro h hh
            simp only [prevOf, hx, Option.map_some, Option.some.injEq] at hh
            omega
          have hprev : prevOf l (j + 1) = some y := by simp [prevOf, hx]
          clear hr
          cases j with
          | zero =>
            rw [if_neg (by simp [prevOf, touch])] at hgo
            rw [← hprev] at hgo
            have HG := Lib.hid hgo
            have HX := Lib.hid hx
            have HPV := Lib.hid hpv2
            clear hgo hx c0 c1 hpv hpv2 hprev
            simp only [Nat.zero_mul, Nat.add_zero] at d0 d1
            go_wp2_with fail
            go_quiet (fail)
            go_wp2_with fail
            exact ⟨⟨1, by omega, by go_num, HG.out, HPV.out, below_drewN (hb.alloc hz _) _⟩, by simp [intOf]; omega⟩
          | succ j =>
            obtain ⟨⟨p, h⟩, hp⟩ : ∃ z, l[j]? = some z := ⟨_, List.getElem?_eq_getElem (by rw [HLEN.out]; omega)⟩
            have hh : prevOf l (j + 1) = some h := by simp [prevOf, hp]
            obtain ⟨hh1, hh2⟩ := hpv h hh
            obtain ⟨b2, off2, e2, _, _, c3⟩ := HL.out.at hp
            cases e2
            have d3 : (wr.alloc (Obj.cells #[Value.int IntKind.i32 x, Value.int IntKind.i32 y] 74)).cell? ⟨b, off + j * 2 + 1, none⟩ = some (.int .i32 h) := ((hb.alloc hz _).cell (p := ⟨b, off + j * 2 + 1, none⟩) hbb).trans c3
            have hj0 : decide ((0 : Int) < (j : Int) + 1) = true := decide_eq_true (by omega)
            have hjn : j < n := by omega
            have hjn2 : (j : Int) < (n : Int) := by omega
            have hjw : IntKind.i64.wrap (j : Int) = (j : Int) := IntWalk.i64_in _ (by omega)
            rw [hh] at hgo
            simp only [touch, decide_eq_true_eq] at hgo
            by_cases ht : x ≤ h + 1
            · rw [if_pos ht] at hgo
              have HG := Lib.hid hgo
              have HX := Lib.hid hx
              have HPX := Lib.hid hp
              clear hgo hx c0 c1 c3 hpv hpv2 hprev hh hp
              have ht2 : decide (x ≤ h + 1) = true := by simpa using ht
              go_wp2_with fail
              go_quiet (fail)
              go_wp2_with fail
              go_ret
              rw [HP.out, HG.out]
              exact ⟨rfl, below_drewN (hb.alloc hz _) _⟩
            · rw [if_neg ht, ← hprev] at hgo
              have HG := Lib.hid hgo
              have HX := Lib.hid hx
              have HPX := Lib.hid hp
              have HPV := Lib.hid hpv2
              clear hgo hx c0 c1 c3 hpv hpv2 hprev hh hp
              have ht2 : decide (x ≤ h + 1) = false := by simpa using ht
              go_wp2_with fail
              go_quiet (fail)
              go_wp2_with fail
              exact ⟨⟨j + 1 + 1, by omega, by go_num, HG.out, HPV.out, below_drewN (hb.alloc hz _) _⟩, by simp [intOf]; omega⟩
      · obtain rfl : j = n := by omega
        rw [List.drop_of_length_le (by rw [HLEN.out]; omega)] at hgo
        have HG := Lib.hid (hgo.trans (show wrongGo (prevOf l j) [] = 0 from rfl))
        clear hgo hpv
        go_wp2_with fail
        go_ret
        rw [HP.out, HG.out]
        exact ⟨rfl, hb⟩

end Go.Proofs.YthnhbcohfoodlaaGreatDoor
