/- Span + SetP + SetBuild + SetOps + SynP -/
import Derived.Test.YthnhbcohfoodlaaGreatDoorZt3
import Derived.Test.YthnhbcohfoodlaaGreatDoorRows
import Derived.Deep.QuietTactic
import Derived.BigQuiet
namespace Go.Proofs.YthnhbcohfoodlaaGreatDoor
open Go.RowKit
abbrev Spans := List (Int × Int)
def spanCells (l : Spans) : List Value := l.flatMap fun k => [.int .i32 k.1, .int .i32 k.2]
theorem spanCells_length (l : Spans) : (spanCells l).length = l.length * 2 := by
 induction l with
 | nil => rfl
 | cons x l ih => simp only [spanCells, List.flatMap_cons] at ih ⊢; simp [ih]; omega
theorem spanCells_at (l : Spans) (k : Nat) (x y : Int) (hk : l[k]? = some (x, y)) : (spanCells l)[k * 2]? = some (.int .i32 x) ∧ (spanCells l)[k * 2 + 1]? = some (.int .i32 y) := by
 induction l generalizing k with
 | nil => simp at hk
 | cons z l ih =>
   cases k with
   | zero => simp at hk; subst hk; simp [spanCells]
   | succ k =>
     have := ih k (by simpa using hk)
     simp only [spanCells, List.flatMap_cons] at this ⊢
     have e1 : (k + 1) * 2 = k * 2 + 1 + 1 := by omega
     rw [e1]
     simpa using this
def RdS (w : World) (B : Nat) (A : Option Addr) (n : Nat) (l : Spans) : Prop := Rd w B 2 A n (spanCells l)
theorem RdS.len {w : World} {B n : Nat} {A : Option Addr} {l : Spans} (h : RdS w B A n l) : l.length = n := by
 have := h.1; rw [spanCells_length] at this; omega
theorem RdS.at {w : World} {B n : Nat} {A : Option Addr} {l : Spans} (h : RdS w B A n l) {k : Nat} {x y : Int} (hk : l[k]? = some (x, y)) :
 ∃ b off : Nat, A = some ⟨b, off, none⟩ ∧ b < B ∧ w.cell? ⟨b, off + k * 2, none⟩ = some (.int .i32 x) ∧ w.cell? ⟨b, off + k * 2 + 1, none⟩ = some (.int .i32 y) := by
 have hl : k < l.length := (List.getElem?_eq_some_iff.1 hk).1
 have := h.len
 obtain ⟨b, off, e, hb, hc⟩ := h.2 (by omega)
 obtain ⟨h1, h2⟩ := spanCells_at l k x y hk
 exact ⟨b, off, e, hb, hc _ _ h1, by rw [Nat.add_assoc]; exact hc _ _ h2⟩
def touch : Option Int → Int → Bool
 | none, _ => false
 | some h, a => decide (a ≤ h + 1)
def wrongGo : Option Int → Spans → Int
 | _, [] => 0
 | prev, (a, b) :: r => if a < 0 ∨ 1114111 < b ∨ b < a then 3 else if touch prev a = true then 2 else wrongGo (some b) r
def wrongP (l : Spans) : Int := if 200 < l.length then 5 else wrongGo none l
def prevOf (l : Spans) : Nat → Option Int
 | 0 => none
 | k + 1 => (l[k]?).map (·.2)
def WrongRel (w : World) (l : Spans) (n : Nat) (i : Value) (wr : World) : Prop :=
 ∃ j : Nat, j ≤ n ∧ i = .int .i64 j ∧ wrongGo none l = wrongGo (prevOf l j) (l.drop j) ∧ (∀ h, prevOf l j = some h → h ≤ 1114111 ∧ 0 ≤ h) ∧ Below w.heap.size w wr
theorem drop_at {α : Type} {l : List α} {j : Nat} {x : α} (h : l[j]? = some x) : l.drop j = x :: l.drop (j + 1) := by
 obtain ⟨hj, rfl⟩ := List.getElem?_eq_some_iff.1 h
 exact List.drop_eq_getElem_cons hj
set_option maxRecDepth 100000 in
set_option maxHeartbeats 1600000 in
theorem sets_wrong (A : Option Addr) (n c : Nat) (l : Spans) (w : World) (hn : n ≤ 9223372036854775807) (hl : RdS w w.heap.size A n l) :
 Calls Tryz.prog 16 #[.slice A n c] w fun e w' => e = .returned (.int .i64 (wrongP l)) ∧ Below w.heap.size w w' := by
 have HLEN := Lib.hid hl.len
 have HL := Lib.hid hl
 clear hl
 by_cases h2 : 200 < n
 ·have HP := Lib.hid (show wrongP l = 5 by unfold wrongP; rw [if_pos (by rw [HLEN.out]; exact h2)])
  go_enter Tryz.func16, Tryz.ntmps16
  go_wp2_with fail
  go_ret
  rw [HP.out]
  exact ⟨rfl, Below.refl _ _⟩
 ·have HP := Lib.hid (show wrongP l = wrongGo none l by unfold wrongP; rw [if_neg (by rw [HLEN.out]; exact h2)])
  go_enter Tryz.func16, Tryz.ntmps16
  go_wp2_with fail
  go_loopw [10] (WrongRel w l n) (fun i _ => n - (intOf i).toNat)
  case atStart => exact ⟨0, Nat.zero_le _, rfl, rfl, by simp [prevOf], Below.refl _ _⟩
  case round =>
   obtain ⟨j, hj, rfl, hgo, hpv, hb⟩ := hrel
   have hz := hb.size
   by_cases hlt : j < n
   ·obtain ⟨⟨x, y⟩, hx⟩ : ∃ z, l[j]? = some z := ⟨_, List.getElem?_eq_getElem (by rw [HLEN.out]; exact hlt)⟩
    obtain ⟨b, off, rfl, hbb, c0, c1⟩ := HL.out.at hx
    have d0 := (hb.cell (p := ⟨b, off + j * 2, none⟩) hbb).trans c0
    have d1 := (hb.cell (p := ⟨b, off + j * 2 + 1, none⟩) hbb).trans c1
    rw [drop_at hx, wrongGo] at hgo
    by_cases hr : x < 0 ∨ 1114111 < y ∨ y < x
    ·rw [if_pos hr] at hgo
     have HG := Lib.hid hgo
     have HX := Lib.hid hx
     clear hgo hx c0 c1 hpv
     rcases (show x < 0 ∨ (0 ≤ x ∧ 1114111 < y) ∨ (0 ≤ x ∧ y ≤ 1114111 ∧ y < x) by omega) with h1 | ⟨h1, h2⟩ | ⟨h1, h2, h3⟩
     all_goals
      clear hr
      go_wp2_with fail
      go_ret
      rw [HP.out, HG.out]
      exact ⟨rfl, hb.alloc hz _⟩
    ·rw [if_neg hr] at hgo
     have hr1 : 0 ≤ x := by omega
     have hr2 : y ≤ 1114111 := by omega
     have hr3 : x ≤ y := by omega
     have hpv2 : ∀ h, prevOf l (j + 1) = some h → h ≤ 1114111 ∧ 0 ≤ h := by
      intro h hh
      simp only [prevOf, hx, Option.map_some, Option.some.injEq] at hh
      omega
     have hprev : prevOf l (j + 1) = some y := by simp [prevOf, hx]
     clear hr
     cases j with
     | zero =>
       rw [if_neg (by simp [prevOf, touch])] at hgo
       rw [← hprev] at hgo
       have HG := Lib.hid hgo
       have HX := Lib.hid hx
       have HPV := Lib.hid hpv2
       clear hgo hx c0 c1 hpv hpv2 hprev
       simp only [Nat.zero_mul, Nat.add_zero] at d0 d1
       go_wp2_with fail
       go_quiet (fail)
       go_wp2_with fail
       exact ⟨⟨1, by omega, by go_num, HG.out, HPV.out, below_drewN (hb.alloc hz _) _⟩, by simp [intOf]; omega⟩
     | succ j =>
       obtain ⟨⟨p, h⟩, hp⟩ : ∃ z, l[j]? = some z := ⟨_, List.getElem?_eq_getElem (by rw [HLEN.out]; omega)⟩
       have hh : prevOf l (j + 1) = some h := by simp [prevOf, hp]
       obtain ⟨hh1, hh2⟩ := hpv h hh
       obtain ⟨b2, off2, e2, _, _, c3⟩ := HL.out.at hp
       cases e2
       have d3 : (wr.alloc (Obj.cells #[Value.int IntKind.i32 x, Value.int IntKind.i32 y] 74)).cell? ⟨b, off + j * 2 + 1, none⟩ = some (.int .i32 h) := ((hb.alloc hz _).cell (p := ⟨b, off + j * 2 + 1, none⟩) hbb).trans c3
       have hj0 : decide ((0 : Int) < (j : Int) + 1) = true := decide_eq_true (by omega)
       have hjn : j < n := by omega
       have hjn2 : (j : Int) < (n : Int) := by omega
       have hjw : IntKind.i64.wrap (j : Int) = (j : Int) := IntWalk.i64_in _ (by omega)
       rw [hh] at hgo
       simp only [touch, decide_eq_true_eq] at hgo
       by_cases ht : x ≤ h + 1
       ·rw [if_pos ht] at hgo
        have HG := Lib.hid hgo
        have HX := Lib.hid hx
        have HPX := Lib.hid hp
        clear hgo hx c0 c1 c3 hpv hpv2 hprev hh hp
        have ht2 : decide (x ≤ h + 1) = true := by simpa using ht
        go_wp2_with fail
        go_quiet (fail)
        go_wp2_with fail
        go_ret
        rw [HP.out, HG.out]
        exact ⟨rfl, below_drewN (hb.alloc hz _) _⟩
       ·rw [if_neg ht, ← hprev] at hgo
        have HG := Lib.hid hgo
        have HX := Lib.hid hx
        have HPX := Lib.hid hp
        have HPV := Lib.hid hpv2
        clear hgo hx c0 c1 c3 hpv hpv2 hprev hh hp
        have ht2 : decide (x ≤ h + 1) = false := by simpa using ht
        go_wp2_with fail
        go_quiet (fail)
        go_wp2_with fail
        exact ⟨⟨j + 1 + 1, by omega, by go_num, HG.out, HPV.out, below_drewN (hb.alloc hz _) _⟩, by simp [intOf]; omega⟩
   ·obtain rfl : j = n := by omega
    rw [List.drop_of_length_le (by rw [HLEN.out]; omega)] at hgo
    have HG := Lib.hid (hgo.trans (show wrongGo (prevOf l j) [] = 0 from rfl))
    clear hgo hpv
    go_wp2_with fail
    go_ret
    rw [HP.out, HG.out]
    exact ⟨rfl, hb⟩
end Go.Proofs.YthnhbcohfoodlaaGreatDoor

namespace Go.Proofs.YthnhbcohfoodlaaGreatDoor
open Go.RowKit
def hasP (s : Spans) (r : Int) : Bool := s.any fun x => decide (x.1 ≤ r) && decide (r ≤ x.2)
theorem wrongGo_spans (s : Spans) : ∀ prev : Option Int, wrongGo prev s = 0 → (∀ h, prev = some h → ∀ x ∈ s, h + 1 < x.1) ∧ (∀ x ∈ s, 0 ≤ x.1 ∧ x.1 ≤ x.2 ∧ x.2 ≤ 1114111) ∧ s.Pairwise (fun a b => a.2 + 1 < b.1) := by
 induction s with
 | nil => intro prev _; exact ⟨by simp, by simp, List.Pairwise.nil⟩
 | cons z s ih =>
   obtain ⟨a, b⟩ := z
   intro prev h
   rw [wrongGo] at h
   by_cases h1 : a < 0 ∨ 1114111 < b ∨ b < a
   ·rw [if_pos h1] at h; cases h
   ·rw [if_neg h1] at h
    by_cases h2 : touch prev a = true
    ·rw [if_pos h2] at h; cases h
    ·rw [if_neg h2] at h
     obtain ⟨g1, g2, g3⟩ := ih (some b) h
     refine ⟨fun q hq x hx => ?_, fun x hx => ?_, List.pairwise_cons.2 ⟨fun x hx => g1 b rfl x hx, g3⟩⟩
     ·subst hq
      simp only [touch, decide_eq_true_eq] at h2
      rcases List.mem_cons.1 hx with rfl | hx
      ·show q + 1 < a; omega
      ·have := g1 b rfl x hx; have := (g2 x hx).1; omega
     ·rcases List.mem_cons.1 hx with rfl | hx
      ·show 0 ≤ a ∧ a ≤ b ∧ b ≤ 1114111; omega
      ·exact g2 x hx
structure RightSet (s : Spans) : Prop where
 size : s.length ≤ 200
 each : ∀ x ∈ s, 0 ≤ x.1 ∧ x.1 ≤ x.2 ∧ x.2 ≤ 1114111
 rise : s.Pairwise (fun a b => a.2 + 1 < b.1)
theorem right_set {s : Spans} (h : wrongP s = 0) : RightSet s := by
 unfold wrongP at h
 by_cases h2 : 200 < s.length
 ·rw [if_pos h2] at h; cases h
 ·rw [if_neg h2] at h
  obtain ⟨_, g2, g3⟩ := wrongGo_spans s none h
  exact ⟨by omega, g2, g3⟩
theorem RightSet.lt {s : Spans} (h : RightSet s) {i j : Nat} {x y : Int × Int} (hx : s[i]? = some x) (hy : s[j]? = some y) (hij : i < j) : x.2 + 1 < y.1 := by
 obtain ⟨hi, rfl⟩ := List.getElem?_eq_some_iff.1 hx
 obtain ⟨hj, rfl⟩ := List.getElem?_eq_some_iff.1 hy
 exact List.pairwise_iff_getElem.1 h.rise i j hi hj hij
def edgesS (s : Spans) : List Int := s.flatMap fun x => [x.1, x.2 + 1]
def putP (E : List Int) (r : Int) : List Int :=
 if 1114111 < r ∨ r ∈ E then E else E.takeWhile (fun x => decide (x < r)) ++ r :: E.dropWhile (fun x => decide (x < r))
theorem rising_split {E : List Int} (h : E.Pairwise (· < ·)) (r : Int) : (∀ x ∈ E.takeWhile (fun x => decide (x < r)), x < r) ∧ (∀ x ∈ E.dropWhile (fun x => decide (x < r)), r ≤ x) := by
 induction E with
 | nil => simp
 | cons a E ih =>
   rw [List.pairwise_cons] at h
   obtain ⟨g1, g2⟩ := ih h.2
   by_cases ha : a < r
   ·simp only [List.takeWhile_cons, List.dropWhile_cons, ha, decide_true, if_true]
    exact ⟨fun x hx => by rcases List.mem_cons.1 hx with rfl | hx; exact ha; exact g1 x hx, g2⟩
   ·simp only [List.takeWhile_cons, List.dropWhile_cons, ha, decide_false, Bool.false_eq_true, if_false]
    refine ⟨by simp, fun x hx => ?_⟩
    rcases List.mem_cons.1 hx with rfl | hx
    ·omega
    ·have := h.1 x hx; omega
theorem putP_mem (E : List Int) (r x : Int) : x ∈ putP E r ↔ x ∈ E ∨ (x = r ∧ r ≤ 1114111) := by
 unfold putP
 split
 ·rename_i h
  constructor
  ·exact .inl
  ·rintro (h2 | ⟨rfl, h2⟩)
   ·exact h2
   ·rcases h with h | h
    ·omega
    ·exact h
 ·rename_i h
  rw [not_or] at h
  have : x ∈ E ↔ x ∈ E.takeWhile (fun x => decide (x < r)) ∨ x ∈ E.dropWhile (fun x => decide (x < r)) := by
   conv => lhs; rw [← List.takeWhile_append_dropWhile (p := fun x => decide (x < r)) (l := E)]
   rw [List.mem_append]
  rw [List.mem_append, List.mem_cons, this]
  constructor
  ·rintro (h1 | rfl | h1)
   ·exact .inl (.inl h1)
   ·exact .inr ⟨rfl, by omega⟩
   ·exact .inl (.inr h1)
  ·rintro ((h1 | h1) | ⟨rfl, _⟩)
   ·exact .inl h1
   ·exact .inr (.inr h1)
   ·exact .inr (.inl rfl)
theorem putP_rise {E : List Int} (h : E.Pairwise (· < ·)) (r : Int) : (putP E r).Pairwise (· < ·) := by
 unfold putP
 split
 ·exact h
 ·rename_i hn
  rw [not_or] at hn
  obtain ⟨g1, g2⟩ := rising_split h r
  have hs := h
  rw [← List.takeWhile_append_dropWhile (p := fun x => decide (x < r)) (l := E), List.pairwise_append] at hs
  rw [List.pairwise_append]
  refine ⟨hs.1, List.pairwise_cons.2 ⟨fun x hx => ?_, hs.2.1⟩, fun a ha b hb => ?_⟩
  ·have := g2 x hx
   rcases Int.lt_or_eq_of_le this with h1 | rfl
   ·exact h1
   ·exact absurd ((List.dropWhile_sublist _).subset hx) hn.2
  ·rcases List.mem_cons.1 hb with rfl | hb
   ·exact g1 a ha
   ·exact hs.2.2 a ha b hb
theorem foldPut_mem (xs : List Int) : ∀ (E : List Int) (x : Int), x ∈ xs.foldl putP E ↔ x ∈ E ∨ (x ∈ xs ∧ x ≤ 1114111) := by
 induction xs with
 | nil => intro E x; simp
 | cons a xs ih =>
   intro E x
   rw [List.foldl_cons, ih, putP_mem]
   constructor
   ·rintro ((h | ⟨rfl, h⟩) | ⟨h, h2⟩)
    ·exact .inl h
    ·exact .inr ⟨by simp, h⟩
    ·exact .inr ⟨by simp [h], h2⟩
   ·rintro (h | ⟨h, h2⟩)
    ·exact .inl (.inl h)
    ·rcases List.mem_cons.1 h with rfl | h
     ·exact .inl (.inr ⟨rfl, h2⟩)
     ·exact .inr ⟨h, h2⟩
theorem foldPut_rise (xs : List Int) : ∀ (E : List Int), E.Pairwise (· < ·) → (xs.foldl putP E).Pairwise (· < ·) := by
 induction xs with
 | nil => intro E h; exact h
 | cons a xs ih => intro E h; rw [List.foldl_cons]; exact ih _ (putP_rise h a)
def gapEnd (E : List Int) (j : Nat) : Int := match E[j + 1]? with | some y => y - 1 | none => 1114111
theorem hasP_const {s : Spans} {a r : Int} (har : a ≤ r) (h : ∀ e ∈ edgesS s, ¬ (a < e ∧ e ≤ r)) : hasP s r = hasP s a := by
 unfold hasP
 induction s with
 | nil => rfl
 | cons x s ih =>
   have h1 := h x.1 (by simp [edgesS])
   have h2 := h (x.2 + 1) (by simp [edgesS])
   have hs := ih (fun e he => h e (by unfold edgesS at he ⊢; rw [List.flatMap_cons]; exact List.mem_append_right _ he))
   rw [List.any_cons, List.any_cons, hs]
   congr 1
   rw [Bool.eq_iff_iff]
   simp only [Bool.and_eq_true, decide_eq_true_eq]
   omega
theorem rise_at {E : List Int} (h : E.Pairwise (· < ·)) {i j : Nat} {x y : Int} (hx : E[i]? = some x) (hy : E[j]? = some y) (hij : i < j) : x < y := by
 obtain ⟨hi, rfl⟩ := List.getElem?_eq_some_iff.1 hx
 obtain ⟨hj, rfl⟩ := List.getElem?_eq_some_iff.1 hy
 exact List.pairwise_iff_getElem.1 h i j hi hj hij
def edgesAll (L : List Spans) : List Int := (L.flatMap edgesS).foldl putP [0]
end Go.Proofs.YthnhbcohfoodlaaGreatDoor

namespace Go.Proofs.YthnhbcohfoodlaaGreatDoor
open Go.RowKit
structure Canon (s : Spans) : Prop where
 each : ∀ x ∈ s, 0 ≤ x.1 ∧ x.1 ≤ x.2 ∧ x.2 ≤ 1114111
 rise : s.Pairwise (fun a b => a.2 + 1 < b.1)
theorem RightSet.canon {s : Spans} (h : RightSet s) : Canon s := ⟨h.each, h.rise⟩
theorem Canon.right {s : Spans} (h : Canon s) (hl : s.length ≤ 200) : RightSet s := ⟨hl, h.each, h.rise⟩
theorem Canon.nil : Canon [] := ⟨by simp, List.Pairwise.nil⟩
theorem Canon.tail {x : Int × Int} {s : Spans} (h : Canon (x :: s)) : Canon s := ⟨fun y hy => h.each y (List.mem_cons_of_mem _ hy), (List.pairwise_cons.1 h.rise).2⟩
theorem Canon.low {x : Int × Int} {s : Spans} (h : Canon (x :: s)) : ∀ y ∈ s, x.2 + 1 < y.1 := (List.pairwise_cons.1 h.rise).1
theorem hasP_cons (x : Int × Int) (s : Spans) (r : Int) : hasP (x :: s) r = ((decide (x.1 ≤ r) && decide (r ≤ x.2)) || hasP s r) := rfl
theorem hasP_append (a b : Spans) (r : Int) : hasP (a ++ b) r = (hasP a r || hasP b r) := List.any_append
theorem hasP_iff {s : Spans} {r : Int} : hasP s r = true ↔ ∃ x ∈ s, x.1 ≤ r ∧ r ≤ x.2 := by
 unfold hasP
 rw [List.any_eq_true]
 constructor
 ·rintro ⟨x, hx, h⟩; simp at h; exact ⟨x, hx, h⟩
 ·rintro ⟨x, hx, h1, h2⟩; exact ⟨x, hx, by simp [h1, h2]⟩
theorem hasP_low {s : Spans} {m r : Int} (h : ∀ y ∈ s, m < y.1) (hr : r ≤ m) : hasP s r = false := by
 rw [Bool.eq_false_iff, ne_eq, hasP_iff]
 rintro ⟨x, hx, h1, _⟩
 have := h x hx
 omega
theorem hasP_high {s : Spans} {m r : Int} (h : ∀ y ∈ s, y.2 < m) (hr : m ≤ r) : hasP s r = false := by
 rw [Bool.eq_false_iff, ne_eq, hasP_iff]
 rintro ⟨x, hx, _, h1⟩
 have := h x hx
 omega
theorem canon_unique : ∀ {a b : Spans}, Canon a → Canon b → (∀ r, 0 ≤ r → r ≤ 1114111 → hasP a r = hasP b r) → a = b := by
 intro a
 induction a with
 | nil =>
   intro b _ hb h
   cases b with
   | nil => rfl
   | cons y b =>
     have hy := hb.each y List.mem_cons_self
     have := h y.1 (by omega) (by omega)
     rw [hasP_cons] at this
     simp [hasP, hy.2.1] at this
 | cons x a ih =>
   intro b ha hb h
   have hx := ha.each x List.mem_cons_self
   cases b with
   | nil =>
     have := h x.1 (by omega) (by omega)
     rw [hasP_cons] at this
     simp [hasP, hx.2.1] at this
   | cons y b =>
     have hy := hb.each y List.mem_cons_self
     have la := ha.low
     have lb := hb.low
     have h1 : ¬ x.1 < y.1 := fun hl => by
      have := h x.1 (by omega) (by omega)
      rw [hasP_cons, hasP_cons, hasP_low (s := b) (m := y.2 + 1) lb (by omega)] at this
      simp [hx.2.1] at this
      omega
     have h2 : ¬ y.1 < x.1 := fun hl => by
      have := h y.1 (by omega) (by omega)
      rw [hasP_cons, hasP_cons, hasP_low (s := a) (m := x.2 + 1) la (by omega)] at this
      simp [hy.2.1] at this
      omega
     have h3 : ¬ x.2 < y.2 := fun hl => by
      have := h (x.2 + 1) (by omega) (by omega)
      rw [hasP_cons, hasP_cons, hasP_low (s := a) (m := x.2 + 1) la (by omega), hasP_low (s := b) (m := y.2 + 1) lb (by omega), decide_eq_false (p := x.2 + 1 ≤ x.2) (by omega), decide_eq_true (p := y.1 ≤ x.2 + 1) (by omega), decide_eq_true (p := x.2 + 1 ≤ y.2) (by omega)] at this
      simp at this
     have h4 : ¬ y.2 < x.2 := fun hl => by
      have := h (y.2 + 1) (by omega) (by omega)
      rw [hasP_cons, hasP_cons, hasP_low (s := b) (m := y.2 + 1) lb (by omega), hasP_low (s := a) (m := x.2 + 1) la (by omega), decide_eq_false (p := y.2 + 1 ≤ y.2) (by omega), decide_eq_true (p := x.1 ≤ y.2 + 1) (by omega), decide_eq_true (p := y.2 + 1 ≤ x.2) (by omega)] at this
      simp at this
     obtain ⟨xl, xh⟩ := x
     obtain ⟨yl, yh⟩ := y
     dsimp only at *
     obtain rfl : xl = yl := by omega
     obtain rfl : xh = yh := by omega
     rw [ih ha.tail hb.tail fun r hr0 hr1 => ?_]
     by_cases hr : r ≤ xh
     ·rw [hasP_low (s := a) (m := xh + 1) la (by omega), hasP_low (s := b) (m := xh + 1) lb (by omega)]
     ·have := h r hr0 hr1
      rw [hasP_cons, hasP_cons] at this
      simpa [hr] using this
def stepB (acc : Spans) (low high : Int) : Spans :=
 match acc.getLast? with
 | some x => if x.2 + 1 = low then acc.dropLast ++ [(x.1, high)] else acc ++ [(low, high)]
 | none => acc ++ [(low, high)]
theorem stepB_nil (low high : Int) : stepB [] low high = [(low, high)] := rfl
theorem stepB_snoc (i : Spans) (x : Int × Int) (low high : Int) : stepB (i ++ [x]) low high = if x.2 + 1 = low then i ++ [(x.1, high)] else i ++ [x] ++ [(low, high)] := by
 unfold stepB
 simp
theorem canon_snoc {i : Spans} {x : Int × Int} (hi : Canon i) (hx : 0 ≤ x.1 ∧ x.1 ≤ x.2 ∧ x.2 ≤ 1114111) (h : ∀ y ∈ i, y.2 + 1 < x.1) : Canon (i ++ [x]) := by
 refine ⟨fun y hy => ?_, ?_⟩
 ·rcases List.mem_append.1 hy with hy | hy
  ·exact hi.each y hy
  ·rw [List.mem_singleton.1 hy]; exact hx
 ·rw [List.pairwise_append]
  exact ⟨hi.rise, List.pairwise_singleton _ _, fun a ha b hb => by rw [List.mem_singleton.1 hb]; exact h a ha⟩
theorem snoc_canon {i : Spans} {x : Int × Int} (h : Canon (i ++ [x])) : Canon i ∧ (0 ≤ x.1 ∧ x.1 ≤ x.2 ∧ x.2 ≤ 1114111) ∧ ∀ y ∈ i, y.2 + 1 < x.1 := by
 have hr := List.pairwise_append.1 h.rise
 exact ⟨⟨fun y hy => h.each y (by simp [hy]), hr.1⟩, h.each x (by simp), fun y hy => hr.2.2 y hy x (by simp)⟩
theorem step_canon {acc : Spans} {low high : Int} (h : Canon acc) (hl : ∀ x ∈ acc, x.2 < low) (h0 : 0 ≤ low) (h1 : low ≤ high) (h2 : high ≤ 1114111) :
 Canon (stepB acc low high) ∧ (∀ x ∈ stepB acc low high, x.2 ≤ high) ∧ ∀ r, hasP (stepB acc low high) r = (hasP acc r || (decide (low ≤ r) && decide (r ≤ high))) := by
 rcases List.eq_nil_or_concat acc with rfl | ⟨i, x, rfl⟩
 ·rw [stepB_nil]
  exact ⟨⟨by simp; omega, List.pairwise_singleton _ _⟩, by simp, fun r => by simp [hasP]⟩
 ·rw [List.concat_eq_append] at h hl ⊢
  obtain ⟨hi, hx, hix⟩ := snoc_canon h
  have hxl := hl x (by simp)
  rw [stepB_snoc]
  by_cases he : x.2 + 1 = low
  ·rw [if_pos he]
   refine ⟨canon_snoc hi ⟨hx.1, by simp only; omega, h2⟩ hix, fun y hy => ?_, fun r => ?_⟩
   ·rcases List.mem_append.1 hy with hy | hy
    ·have := hl y (by simp [hy]); omega
    ·rw [List.mem_singleton.1 hy]; exact Int.le_refl _
   ·rw [hasP_append, hasP_append, Bool.or_assoc]
    congr 1
    simp only [hasP, List.any_cons, List.any_nil, Bool.or_false]
    rw [Bool.eq_iff_iff]
    simp
    omega
  ·rw [if_neg he]
   refine ⟨canon_snoc h ⟨h0, h1, h2⟩ (fun y hy => ?_), fun y hy => ?_, fun r => ?_⟩
   ·simp only
    rcases List.mem_append.1 hy with hy | hy
    ·have := hix y hy; omega
    ·rw [List.mem_singleton.1 hy]; omega
   ·rcases List.mem_append.1 hy with hy | hy
    ·have := hl y hy; omega
    ·rw [List.mem_singleton.1 hy]; exact Int.le_refl _
   ·rw [hasP_append]
    congr 1
    simp [hasP]
def buildUpto (E : List Int) (h : Int → Bool) : Nat → Spans
 | 0 => []
 | j + 1 => match E[j]? with | none => buildUpto E h j | some a => if h a = true then stepB (buildUpto E h j) a (gapEnd E j) else buildUpto E h j
theorem buildUpto_succ {E : List Int} {h : Int → Bool} {j : Nat} {a : Int} (ha : E[j]? = some a) : buildUpto E h (j + 1) = if h a = true then stepB (buildUpto E h j) a (gapEnd E j) else buildUpto E h j := by
 rw [buildUpto, ha]
def buildP (E : List Int) (h : Int → Bool) : Spans × Int := if 200 < (buildUpto E h E.length).length then ([], 5) else (buildUpto E h E.length, 0)
structure EdgesOk (E : List Int) (h : Int → Bool) : Prop where
 rise : E.Pairwise (· < ·)
 zero : E[0]? = some 0
 top : ∀ x ∈ E, x ≤ 1114111
 const : ∀ j a r, E[j]? = some a → a ≤ r → r ≤ gapEnd E j → h r = h a
theorem gap_le {E : List Int} {h : Int → Bool} (hE : EdgesOk E h) {j : Nat} {a : Int} (ha : E[j]? = some a) : 0 ≤ a ∧ a ≤ gapEnd E j ∧ gapEnd E j ≤ 1114111 ∧ gapEnd E j + 1 = (E[j + 1]?).getD 1114112 := by
 have h0 : 0 ≤ a := by
  rcases Nat.eq_zero_or_pos j with rfl | hj
  ·rw [hE.zero] at ha; obtain rfl := Option.some.inj ha; exact Int.le_refl _
  ·have := rise_at hE.rise hE.zero ha hj; omega
 have ht := hE.top a (List.mem_of_getElem? ha)
 unfold gapEnd
 cases he : E[j + 1]? with
 | none => simp; omega
 | some y =>
   have h1 := rise_at hE.rise ha he (Nat.lt_succ_self j)
   have h2 := hE.top y (List.mem_of_getElem? he)
   simp only [Option.getD_some]
   omega
theorem build_upto {E : List Int} {h : Int → Bool} (hE : EdgesOk E h) : ∀ j, j ≤ E.length →
 Canon (buildUpto E h j) ∧ (∀ x ∈ buildUpto E h j, x.2 < (E[j]?).getD 1114112) ∧ ∀ r, 0 ≤ r → r < (E[j]?).getD 1114112 → hasP (buildUpto E h j) r = h r := by
 intro j
 induction j with
 | zero => exact fun _ => ⟨Canon.nil, by simp [buildUpto], fun r h0 h1 => by rw [hE.zero] at h1; simp at h1; omega⟩
 | succ j ih =>
   intro hj
   obtain ⟨a, ha⟩ : ∃ a, E[j]? = some a := ⟨_, List.getElem?_eq_getElem (by omega)⟩
   obtain ⟨i1, i2, i3⟩ := ih (by omega)
   rw [ha, Option.getD_some] at i2 i3
   obtain ⟨g0, g1, g2, g3⟩ := gap_le hE ha
   rw [buildUpto_succ ha, ← g3]
   by_cases hh : h a = true
   ·rw [if_pos hh]
    obtain ⟨s1, s2, s3⟩ := step_canon i1 i2 g0 g1 g2
    refine ⟨s1, fun x hx => by have := s2 x hx; omega, fun r h0 h1 => ?_⟩
    rw [s3]
    by_cases hr : r < a
    ·rw [i3 r h0 hr]; simp; omega
    ·rw [hE.const j a r ha (by omega) (by omega), hh]
     simp; right; omega
   ·rw [if_neg hh]
    refine ⟨i1, fun x hx => by have := i2 x hx; omega, fun r h0 h1 => ?_⟩
    by_cases hr : r < a
    ·exact i3 r h0 hr
    ·rw [hE.const j a r ha (by omega) (by omega), hasP_high i2 (by omega)]
     simpa using hh
theorem build_all {E : List Int} {h : Int → Bool} (hE : EdgesOk E h) : Canon (buildUpto E h E.length) ∧ ∀ r, 0 ≤ r → r ≤ 1114111 → hasP (buildUpto E h E.length) r = h r := by
 obtain ⟨h1, _, h3⟩ := build_upto hE E.length (Nat.le_refl _)
 rw [List.getElem?_eq_none (Nat.le_refl _), Option.getD_none] at h3
 exact ⟨h1, fun r a b => h3 r a (by omega)⟩
theorem build_is {E : List Int} {h : Int → Bool} (hE : EdgesOk E h) {s : Spans} (hs : Canon s) (hh : ∀ r, 0 ≤ r → r ≤ 1114111 → hasP s r = h r) : buildP E h = if 200 < s.length then ([], 5) else (s, 0) := by
 obtain ⟨b1, b2⟩ := build_all hE
 have : buildUpto E h E.length = s := canon_unique b1 hs fun r h0 h1 => by rw [b2 r h0 h1, hh r h0 h1]
 unfold buildP
 rw [this]
end Go.Proofs.YthnhbcohfoodlaaGreatDoor

namespace Go.Proofs.YthnhbcohfoodlaaGreatDoor
open Go.RowKit
theorem edgesAll_mem (L : List Spans) (x : Int) : x ∈ edgesAll L ↔ x = 0 ∨ (x ∈ L.flatMap edgesS ∧ x ≤ 1114111) := by
 unfold edgesAll
 rw [foldPut_mem]
 simp
theorem edgesAll_rise (L : List Spans) : (edgesAll L).Pairwise (· < ·) := foldPut_rise _ _ (by simp)
theorem edgesAll_gap {L : List Spans} {j : Nat} {a : Int} (hj : (edgesAll L)[j]? = some a) : ∀ r, a ≤ r → r ≤ gapEnd (edgesAll L) j → ∀ e ∈ L.flatMap edgesS, ¬ (a < e ∧ e ≤ r) := by
 intro r h1 h2 e he ⟨h3, h4⟩
 have hrise := edgesAll_rise L
 by_cases hm : e ≤ 1114111
 ·obtain ⟨k, hk⟩ := List.mem_iff_getElem?.1 ((edgesAll_mem L e).2 (.inr ⟨he, hm⟩))
  have hjk : j < k := by
   rcases Nat.lt_or_ge j k with h | h
   ·exact h
   ·rcases Nat.lt_or_ge k j with h' | h'
    ·have := rise_at hrise hk hj h'; omega
    ·obtain rfl : j = k := by omega
     rw [hk] at hj; injection hj; omega
  obtain ⟨y, hy⟩ : ∃ y, (edgesAll L)[j + 1]? = some y := ⟨_, List.getElem?_eq_getElem (by have := (List.getElem?_eq_some_iff.1 hk).1; omega)⟩
  unfold gapEnd at h2
  rw [hy] at h2
  simp only at h2
  rcases Nat.lt_or_ge (j + 1) k with h | h
  ·have := rise_at hrise hy hk h; omega
  ·obtain rfl : k = j + 1 := by omega
   rw [hy] at hk; injection hk; omega
 ·unfold gapEnd at h2
  split at h2
  ·rename_i y hy
   have := (edgesAll_mem L y).1 (List.mem_of_getElem? hy)
   omega
  ·omega
theorem edgesAll_zero {L : List Spans} (h : ∀ s ∈ L, RightSet s) : (edgesAll L)[0]? = some 0 := by
 obtain ⟨k, hk⟩ := List.mem_iff_getElem?.1 ((edgesAll_mem L 0).2 (.inl rfl))
 obtain ⟨y, hy⟩ : ∃ y, (edgesAll L)[0]? = some y := ⟨_, List.getElem?_eq_getElem (by have := (List.getElem?_eq_some_iff.1 hk).1; omega)⟩
 have h0 : 0 ≤ y := by
  rcases (edgesAll_mem L y).1 (List.mem_of_getElem? hy) with rfl | ⟨h1, _⟩
  ·exact Int.le_refl _
  ·obtain ⟨s, hs, he⟩ := List.mem_flatMap.1 h1
   unfold edgesS at he
   obtain ⟨x, hx, he⟩ := List.mem_flatMap.1 he
   have := (h s hs).each x hx
   simp at he
   omega
 rcases Nat.eq_zero_or_pos k with rfl | hk0
 ·exact hk
 ·have := rise_at (edgesAll_rise L) hy hk hk0
  omega
theorem edges_ok {L : List Spans} (hL : ∀ s ∈ L, RightSet s) {h : Int → Bool} (hc : ∀ a r, (∀ s ∈ L, hasP s r = hasP s a) → h r = h a) : EdgesOk (edgesAll L) h where
 rise := edgesAll_rise L
 zero := edgesAll_zero hL
 top := fun x hx => by rcases (edgesAll_mem L x).1 hx with rfl | ⟨_, h⟩ <;> omega
 const := fun j a r hj h1 h2 => hc a r fun s hs => hasP_const h1 fun e he => edgesAll_gap hj r h1 h2 e (List.mem_flatMap.2 ⟨s, hs, he⟩)
def doHolds (op : Int) (a b : Spans) (r : Int) : Bool := (decide (op = 124) && (hasP a r || hasP b r)) || ((decide (op = 38) && hasP a r && hasP b r) || (decide (op = 45) && hasP a r && !hasP b r))
def opP (op : Int) (a b : Spans) : Spans × Int :=
 if wrongP a ≠ 0 then ([], wrongP a) else if op = 94 then buildP (edgesAll [a]) (fun r => !hasP a r)
 else if wrongP b ≠ 0 then ([], wrongP b) else buildP (edgesAll [a, b]) (doHolds op a b)
theorem wrong_of {s : Spans} (h : RightSet s) : wrongP s = 0 := by
 unfold wrongP
 rw [if_neg (by have := h.size; omega)]
 have : ∀ (s : Spans) (prev : Option Int), Canon s → (∀ p, prev = some p → ∀ x ∈ s, p + 1 < x.1) → wrongGo prev s = 0 := by
  intro s
  induction s with
  | nil => intro prev _ _; rfl
  | cons x s ih =>
    intro prev hc hp
    obtain ⟨a, b⟩ := x
    have he := hc.each (a, b) List.mem_cons_self
    dsimp only at he
    rw [wrongGo, if_neg (by omega)]
    have ht : touch prev a = false := by
     cases prev with
     | none => rfl
     | some p => have := hp p rfl (a, b) List.mem_cons_self; simp [touch]; omega
    rw [ht, if_neg (by decide)]
    exact ih _ hc.tail fun p hp' y hy => by
     obtain rfl := Option.some.inj hp'
     exact hc.low y hy
 exact this s none h.canon (fun p hp => by cases hp)
theorem not_is {a s : Spans} (ha : RightSet a) (hs : Canon s) (hh : ∀ r, 0 ≤ r → r ≤ 1114111 → hasP s r = !hasP a r) (b : Spans) : opP 94 a b = if 200 < s.length then ([], 5) else (s, 0) := by
 unfold opP
 rw [if_neg (by rw [wrong_of ha]; decide), if_pos rfl]
 exact build_is (edges_ok (by simpa using ha) (fun x r h => by rw [h a (by simp)])) hs hh
theorem op_is {op : Int} {a b s : Spans} (h94 : op ≠ 94) (ha : RightSet a) (hb : RightSet b) (hs : Canon s) (hh : ∀ r, 0 ≤ r → r ≤ 1114111 → hasP s r = doHolds op a b r) : opP op a b = if 200 < s.length then ([], 5) else (s, 0) := by
 unfold opP
 rw [if_neg (by rw [wrong_of ha]; decide), if_neg h94, if_neg (by rw [wrong_of hb]; decide)]
 exact build_is (edges_ok (by simpa using ⟨ha, hb⟩) (fun x r h => by unfold doHolds; rw [h a (by simp), h b (by simp)])) hs hh
theorem build_small (E : List Int) (h : Int → Bool) (hE : EdgesOk E h) : RightSet (buildP E h).1 := by
 unfold buildP
 by_cases hl : 200 < (buildUpto E h E.length).length
 ·rw [if_pos hl]; exact ⟨Nat.zero_le _, by simp, List.Pairwise.nil⟩
 ·rw [if_neg hl]; exact (build_all hE).1.right (by omega)
theorem op_right (op : Int) {a b : Spans} (ha : RightSet a) (hb : RightSet b) : RightSet (opP op a b).1 := by
 unfold opP
 rw [if_neg (by rw [wrong_of ha]; decide)]
 by_cases h94 : op = 94
 ·rw [if_pos h94]; exact build_small _ _ (edges_ok (by simpa using ha) (fun x r h => by rw [h a (by simp)]))
 ·rw [if_neg h94, if_neg (by rw [wrong_of hb]; decide)]
  exact build_small _ _ (edges_ok (by simpa using ⟨ha, hb⟩) (fun x r h => by unfold doHolds; rw [h a (by simp), h b (by simp)]))
end Go.Proofs.YthnhbcohfoodlaaGreatDoor

namespace Go.Proofs.YthnhbcohfoodlaaGreatDoor
open Go.RowKit
def pk (L : List Int) (i : Nat) : Int := (L[i]?).getD (-1)
def blankB (r : Int) : Bool := decide (r = 32) || (decide (r = 9) || decide (r = 10))
def specialL : List Int := [91, 93, 38, 45, 94, 92, 58, 36, 40, 41, 123, 125, 60, 62, 124, 59, 35, 39, 34, 61, 44]
def plainB (r : Int) : Bool := decide (0 ≤ r) && (!blankB r && !specialL.contains r)
def hexB (r : Int) : Bool := (decide (48 ≤ r) && decide (r ≤ 57)) || ((decide (97 ≤ r) && decide (r ≤ 102)) || (decide (65 ≤ r) && decide (r ≤ 70)))
def hexV (r : Int) : Int := if r ≤ 57 then r - 48 else if 97 ≤ r then r - 87 else r - 55
def alnB (r : Int) : Bool := (decide (48 ≤ r) && decide (r ≤ 57)) || ((decide (97 ≤ r) && decide (r ≤ 122)) || (decide (65 ≤ r) && decide (r ≤ 90)))
def runFrom (p : Int → Bool) (L : List Int) (i : Nat) : Nat := i + ((L.drop i).takeWhile p).length
def skipP (L : List Int) (i : Nat) : Nat := runFrom blankB L i
def textAt (L : List Int) (i j : Nat) : List Int := (L.drop i).take (j - i)
abbrev Rdg (α : Type) := Except (Int × Nat) (α × Nat)
def needP (L : List Int) (i : Nat) (r : Int) : Except (Int × Nat) Nat := if pk L i = r then .ok (i + 1) else .error (2, i)
def hexVal (ds : List Int) : Int := ds.foldl (fun x d => 16 * x + hexV d) 0
def hexP (L : List Int) (i : Nat) : Rdg Int :=
 match needP L (i + 1) 123 with
 | .error e => .error e
 | .ok a =>
   if runFrom hexB L a - a < 1 ∨ 6 < runFrom hexB L a - a then .error (2, a)
   else match needP L (runFrom hexB L a) 125 with
    | .error e => .error e
    | .ok j => if 1114111 < hexVal (textAt L a (runFrom hexB L a)) then .error (3, i) else .ok (hexVal (textAt L a (runFrom hexB L a)), j)
def charP (L : List Int) (i : Nat) : Rdg Int :=
 if plainB (pk L i) = true then .ok (pk L i, i + 1)
 else if pk L i ≠ 92 then .error (2, i)
 else if pk L (i + 1) = 110 then .ok (10, i + 2)
 else if pk L (i + 1) = 116 then .ok (9, i + 2)
 else if pk L (i + 1) = 117 then hexP L (i + 1)
 else if pk L (i + 1) < 0 ∨ alnB (pk L (i + 1)) = true then .error (2, i + 1)
 else .ok (pk L (i + 1), i + 2)
def spanP (L : List Int) (i : Nat) : Rdg (Int × Int) :=
 match charP L i with
 | .error e => .error e
 | .ok (low, j) =>
   if pk L j = 45 ∧ pk L (j + 1) ≠ 91 then
    match charP L (j + 1) with
    | .error e => .error e
    | .ok (high, k) => if high < low then .error (3, j + 1) else .ok ((low, high), k)
   else .ok ((low, low), j)
def classOf (n : List Int) : Option Spans :=
 if n = [100, 105, 103, 105, 116] then some [(48, 57)]
 else if n = [108, 111, 119, 101, 114] then some [(97, 122), (223, 246), (248, 255)]
 else if n = [117, 112, 112, 101, 114] then some [(65, 90), (192, 214), (216, 222)]
 else if n = [108, 101, 116, 116, 101, 114] then some [(65, 90), (97, 122), (192, 214), (216, 246), (248, 255)]
 else if n = [118, 111, 119, 101, 108] then some [(65, 65), (69, 69), (73, 73), (79, 79), (85, 85), (97, 97), (101, 101), (105, 105), (111, 111), (117, 117)]
 else if n = [103, 114, 101, 101, 107] then some [(880, 1023)]
 else if n = [99, 121, 114, 105, 108, 108, 105, 99] then some [(1024, 1279)]
 else if n = [115, 112, 97, 99, 101] then some [(9, 10), (32, 32)]
 else if n = [97, 110, 121] then some [(0, 1114111)]
 else none
def classP (L : List Int) (i : Nat) : Rdg Spans :=
 match classOf (textAt L (i + 2) (runFrom plainB L (i + 2))) with
 | none => .error (7, i + 2)
 | some s =>
   match needP L (runFrom plainB L (i + 2)) 58 with
   | .error e => .error e
   | .ok j => match needP L j 93 with
     | .error e => .error e
     | .ok k => .ok (s, k)
def opOf (r : Int) : Int := if r = 38 ∨ r = 45 then r else 124
def partP' (inner : Nat → Rdg Spans) (L : List Int) (i : Nat) : Rdg Spans :=
 if pk L i = 91 ∧ pk L (i + 1) = 58 then classP L i
 else if pk L i = 91 then inner i
 else if pk L i = 38 ∨ pk L i = 45 then inner (skipP L (i + 1))
 else match spanP L i with
  | .error e => .error e
  | .ok (x, j) => .ok ([x], j)
def partsP (inner : Nat → Rdg Spans) (L : List Int) : Nat → Nat → Spans → Rdg Spans
 | 0, i, _ => .error (2, i)
 | f + 1, i, cur =>
   if pk L (skipP L i) = 93 then .ok (cur, skipP L i + 1)
   else match partP' inner L (skipP L i) with
    | .error e => .error e
    | .ok (s, j) =>
      if (opP (opOf (pk L (skipP L i))) cur s).2 ≠ 0 then .error ((opP (opOf (pk L (skipP L i))) cur s).2, j)
      else partsP inner L f j (opP (opOf (pk L (skipP L i))) cur s).1
def setP' (L : List Int) : Nat → Nat → Rdg Spans
 | 0, i => .error (if pk L i = 91 then 4 else 2, i)
 | n + 1, i =>
   match needP L i 91 with
   | .error e => .error e
   | .ok j =>
     match partsP (setP' L n) L (L.length + 1) (if pk L j = 94 then j + 1 else j) [] with
     | .error e => .error e
     | .ok (cur, k) =>
       if pk L j = 94 then (if (opP 94 cur []).2 ≠ 0 then .error ((opP 94 cur []).2, k) else .ok ((opP 94 cur []).1, k))
       else .ok (cur, k)
theorem pk_lt {L : List Int} {i : Nat} (h : pk L i ≠ -1) : i < L.length := by
 unfold pk at h
 rcases Nat.lt_or_ge i L.length with hl | hl
 ·exact hl
 ·rw [List.getElem?_eq_none hl] at h; exact absurd rfl h
theorem pk_at {L : List Int} {i : Nat} {r : Int} (h : L[i]? = some r) : pk L i = r := by unfold pk; rw [h]; rfl
theorem pk_end {L : List Int} {i : Nat} (h : L.length ≤ i) : pk L i = -1 := by unfold pk; rw [List.getElem?_eq_none h]; rfl
theorem runFrom_in {p : Int → Bool} {L : List Int} {i : Nat} (h : i < L.length) (hp : p (pk L i) = true) : runFrom p L i = runFrom p L (i + 1) := by
 unfold runFrom
 rw [List.drop_eq_getElem_cons h, List.takeWhile_cons]
 have : pk L i = L[i] := pk_at (List.getElem?_eq_getElem h)
 rw [this] at hp
 rw [hp]
 simp
 omega
theorem runFrom_out {p : Int → Bool} {L : List Int} {i : Nat} (h : i < L.length → p (pk L i) = false) : runFrom p L i = i := by
 unfold runFrom
 rcases Nat.lt_or_ge i L.length with hl | hl
 ·rw [List.drop_eq_getElem_cons hl, List.takeWhile_cons]
  have : pk L i = L[i] := pk_at (List.getElem?_eq_getElem hl)
  have h2 := h hl
  rw [this] at h2
  rw [h2]
  simp
 ·rw [List.drop_of_length_le hl]; simp
theorem runFrom_le {p : Int → Bool} {L : List Int} {i : Nat} (h : i ≤ L.length) : i ≤ runFrom p L i ∧ runFrom p L i ≤ L.length := by
 unfold runFrom
 have := (List.takeWhile_sublist p (l := L.drop i)).length_le
 rw [List.length_drop] at this
 omega
end Go.Proofs.YthnhbcohfoodlaaGreatDoor
