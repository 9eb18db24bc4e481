/- Sets built from edges, plain: a set is told by what it has; opP: what two sets make. -/
import Derived.Test.YthnhbcohfoodlaaGreatDoorSetP
namespace Go.Proofs.YthnhbcohfoodlaaGreatDoor
open Go.RowKit

/-- Spans that rise, none beside another one; as many as they may be. -/
structure Canon (s : Spans) : Prop where
  each : ∀ x ∈ s, 0 ≤ x.1 ∧ x.1 ≤ x.2 ∧ x.2 ≤ 1114111
  rise : s.Pairwise (fun a b => a.2 + 1 < b.1)
theorem RightSet.canon {s : Spans} (h : RightSet s) : Canon s := ⟨h.each, h.rise⟩
theorem Canon.right {s : Spans} (h : Canon s) (hl : s.length ≤ 200) : RightSet s := ⟨hl, h.each, h.rise⟩
theorem Canon.nil : Canon [] := ⟨by simp, List.Pairwise.nil⟩
theorem Canon.tail {x : Int × Int} {s : Spans} (h : Canon (x :: s)) : Canon s := ⟨fun y hy => h.each y (List.mem_cons_of_mem _ hy), (List.pairwise_cons.1 h.rise).2⟩
theorem Canon.low {x : Int × Int} {s : Spans} (h : Canon (x :: s)) : ∀ y ∈ s, x.2 + 1 < y.1 := (List.pairwise_cons.1 h.rise).1
theorem hasP_cons (x : Int × Int) (s : Spans) (r : Int) : hasP (x :: s) r = ((decide (x.1 ≤ r) && decide (r ≤ x.2)) || hasP s r) := rfl
theorem hasP_append (a b : Spans) (r : Int) : hasP (a ++ b) r = (hasP a r || hasP b r) := List.any_append
theorem hasP_iff {s : Spans} {r : Int} : hasP s r = true ↔ ∃ x ∈ s, x.1 ≤ r ∧ r ≤ x.2 := by
  unfold hasP
  rw [List.any_eq_true]
  constructor
  · rintro ⟨x, hx, h⟩; simp at h; exact ⟨x, hx, h⟩
  · rintro ⟨x, hx, h1, h2⟩; exact ⟨x, hx, by simp [h1, h2]⟩
theorem hasP_low {s : Spans} {m r : Int} (h : ∀ y ∈ s, m < y.1) (hr : r ≤ m) : hasP s r = false := by
  rw [Bool.eq_false_iff, ne_eq, hasP_iff]
  rintro ⟨x, hx, h1, _⟩
  have := h x hx
  omega
theorem hasP_high {s : Spans} {m r : Int} (h : ∀ y ∈ s, y.2 < m) (hr : m ≤ r) : hasP s r = false := by
  rw [Bool.eq_false_iff, ne_eq, hasP_iff]
  rintro ⟨x, hx, _, h1⟩
  have := h x hx
  omega
/-- Sets that have the same are the same. -/
theorem canon_unique : ∀ {a b : Spans}, Canon a → Canon b → (∀ r, 0 ≤ r → r ≤ 1114111 → hasP a r = hasP b r) → a = b := by
  intro a
  induction a with
  | nil =>
    intro b _ hb h
    cases b with
    | nil => rfl
    | cons y b =>
      have hy := hb.each y List.mem_cons_self
      have := h y.1 (by omega) (by omega)
      rw [hasP_cons] at this
      simp [hasP, hy.2.1] at this
  | cons x a ih =>
    intro b ha hb h
    have hx := ha.each x List.mem_cons_self
    cases b with
    | nil =>
      have := h x.1 (by omega) (by omega)
      rw [hasP_cons] at this
      simp [hasP, hx.2.1] at this
    | cons y b =>
      have hy := hb.each y List.mem_cons_self
      have la := ha.low
      have lb := hb.low
      have h1 : ¬ x.1 < y.1 := fun hl => by
        have := h x.1 (by omega) (by omega)
        rw [hasP_cons, hasP_cons, hasP_low (s := b) (m := y.2 + 1) lb (by omega)] at this
        simp [hx.2.1] at this
        omega
      have h2 : ¬ y.1 < x.1 := fun hl => by
        have := h y.1 (by omega) (by omega)
        rw [hasP_cons, hasP_cons, hasP_low (s := a) (m := x.2 + 1) la (by omega)] at this
        simp [hy.2.1] at this
        omega
      have h3 : ¬ x.2 < y.2 := fun hl => by
        have := h (x.2 + 1) (by omega) (by omega)
        rw [hasP_cons, hasP_cons, hasP_low (s := a) (m := x.2 + 1) la (by omega), hasP_low (s := b) (m := y.2 + 1) lb (by omega), decide_eq_false (p := x.2 + 1 ≤ x.2) (by omega), decide_eq_true (p := y.1 ≤ x.2 + 1) (by omega), decide_eq_true (p := x.2 + 1 ≤ y.2) (by omega)] at this
        simp at this
      have h4 : ¬ y.2 < x.2 := fun hl => by
        have := h (y.2 + 1) (by omega) (by omega)
        rw [hasP_cons, hasP_cons, hasP_low (s := b) (m := y.2 + 1) lb (by omega), hasP_low (s := a) (m := x.2 + 1) la (by omega), decide_eq_false (p := y.2 + 1 ≤ y.2) (by omega), decide_eq_true (p := x.1 ≤ y.2 + 1) (by omega), decide_eq_true (p := y.2 + 1 ≤ x.2) (by omega)] at this
        simp at this
      obtain ⟨xl, xh⟩ := x
      obtain ⟨yl, yh⟩ := y
      dsimp only at *
      obtain rfl : xl = yl := by omega
      obtain rfl : xh = yh := by omega
      rw [ih ha.tail hb.tail fun r hr0 hr1 => ?_]
      by_cases hr : r ≤ xh
      · rw [hasP_low (s := a) (m := xh + 1) la (by omega), hasP_low (s := b) (m := xh + 1) lb (by omega)]
      · have := h r hr0 hr1
        rw [hasP_cons, hasP_cons] at this
        simpa [hr] using this
theorem right_unique {a b : Spans} (ha : RightSet a) (hb : RightSet b) (h : ∀ r, 0 ≤ r → r ≤ 1114111 → hasP a r = hasP b r) : a = b := canon_unique ha.canon hb.canon h

/-- One more piece, from low to high. -/
def stepB (acc : Spans) (low high : Int) : Spans :=
  match acc.getLast? with
  | some x => if x.2 + 1 = low then acc.dropLast ++ [(x.1, high)] else acc ++ [(low, high)]
  | none => acc ++ [(low, high)]
theorem stepB_nil (low high : Int) : stepB [] low high = [(low, high)] := rfl
theorem stepB_snoc (i : Spans) (x : Int × Int) (low high : Int) : stepB (i ++ [x]) low high = if x.2 + 1 = low then i ++ [(x.1, high)] else i ++ [x] ++ [(low, high)] := by
  unfold stepB
  simp
theorem canon_snoc {i : Spans} {x : Int × Int} (hi : Canon i) (hx : 0 ≤ x.1 ∧ x.1 ≤ x.2 ∧ x.2 ≤ 1114111) (h : ∀ y ∈ i, y.2 + 1 < x.1) : Canon (i ++ [x]) := by
  refine ⟨fun y hy => ?_, ?_⟩
  · rcases List.mem_append.1 hy with hy | hy
    · exact hi.each y hy
    · rw [List.mem_singleton.1 hy]; exact hx
  · rw [List.pairwise_append]
    exact ⟨hi.rise, List.pairwise_singleton _ _, fun a ha b hb => by rw [List.mem_singleton.1 hb]; exact h a ha⟩
theorem snoc_canon {i : Spans} {x : Int × Int} (h : Canon (i ++ [x])) : Canon i ∧ (0 ≤ x.1 ∧ x.1 ≤ x.2 ∧ x.2 ≤ 1114111) ∧ ∀ y ∈ i, y.2 + 1 < x.1 := by
  have hr := List.pairwise_append.1 h.rise
  exact ⟨⟨fun y hy => h.each y (by simp [hy]), hr.1⟩, h.each x (by simp), fun y hy => hr.2.2 y hy x (by simp)⟩
theorem step_canon {acc : Spans} {low high : Int} (h : Canon acc) (hl : ∀ x ∈ acc, x.2 < low) (h0 : 0 ≤ low) (h1 : low ≤ high) (h2 : high ≤ 1114111) :
    Canon (stepB acc low high) ∧ (∀ x ∈ stepB acc low high, x.2 ≤ high) ∧ ∀ r, hasP (stepB acc low high) r = (hasP acc r || (decide (low ≤ r) && decide (r ≤ high))) := by
  rcases List.eq_nil_or_concat acc with rfl | ⟨i, x, rfl⟩
  · rw [stepB_nil]
    exact ⟨⟨by simp; omega, List.pairwise_singleton _ _⟩, by simp, fun r => by simp [hasP]⟩
  · rw [List.concat_eq_append] at h hl ⊢
    obtain ⟨hi, hx, hix⟩ := snoc_canon h
    have hxl := hl x (by simp)
    rw [stepB_snoc]
    by_cases he : x.2 + 1 = low
    · rw [if_pos he]
      refine ⟨canon_snoc hi ⟨hx.1, by simp only; omega, h2⟩ hix, fun y hy => ?_, fun r => ?_⟩
      · rcases List.mem_append.1 hy with hy | hy
        · have := hl y (by simp [hy]); omega
        · rw [List.mem_singleton.1 hy]; exact Int.le_refl _
      · rw [hasP_append, hasP_append, Bool.or_assoc]
        congr 1
        simp only [hasP, List.any_cons, List.any_nil, Bool.or_false]
        rw [Bool.eq_iff_iff]
        simp
        omega
    · rw [if_neg he]
      refine ⟨canon_snoc h ⟨h0, h1, h2⟩ (fun y hy => ?_), fun y hy => ?_, fun r => ?_⟩
      · simp only
        rcases List.mem_append.1 hy with hy | hy
        · have := hix y hy; omega
        · rw [List.mem_singleton.1 hy]; omega
      · rcases List.mem_append.1 hy with hy | hy
        · have := hl y hy; omega
        · rw [List.mem_singleton.1 hy]; exact Int.le_refl _
      · rw [hasP_append]
        congr 1
        simp [hasP]
/-- The set of the first j edges' pieces of which h holds. -/
def buildUpto (E : List Int) (h : Int → Bool) : Nat → Spans
  | 0 => []
  | j + 1 => match E[j]? with | none => buildUpto E h j | some a => if h a = true then stepB (buildUpto E h j) a (gapEnd E j) else buildUpto E h j
theorem buildUpto_succ {E : List Int} {h : Int → Bool} {j : Nat} {a : Int} (ha : E[j]? = some a) : buildUpto E h (j + 1) = if h a = true then stepB (buildUpto E h j) a (gapEnd E j) else buildUpto E h j := by
  rw [buildUpto, ha]
def buildP (E : List Int) (h : Int → Bool) : Spans × Int := if 200 < (buildUpto E h E.length).length then ([], 5) else (buildUpto E h E.length, 0)
/-- Edges as they must be. -/
structure EdgesOk (E : List Int) (h : Int → Bool) : Prop where
  rise : E.Pairwise (· < ·)
  zero : E[0]? = some 0
  top : ∀ x ∈ E, x ≤ 1114111
  const : ∀ j a r, E[j]? = some a → a ≤ r → r ≤ gapEnd E j → h r = h a
theorem gap_le {E : List Int} {h : Int → Bool} (hE : EdgesOk E h) {j : Nat} {a : Int} (ha : E[j]? = some a) : 0 ≤ a ∧ a ≤ gapEnd E j ∧ gapEnd E j ≤ 1114111 ∧ gapEnd E j + 1 = (E[j + 1]?).getD 1114112 := by
  have h0 : 0 ≤ a := by
    rcases Nat.eq_zero_or_pos j with rfl | hj
    · rw [hE.zero] at ha; obtain rfl := Option.some.inj ha; exact Int.le_refl _
    · have := rise_at hE.rise hE.zero ha hj; omega
  have ht := hE.top a (List.mem_of_getElem? ha)
  unfold gapEnd
  cases he : E[j + 1]? with
  | none => simp; omega
  | some y =>
    have h1 := rise_at hE.rise ha he (Nat.lt_succ_self j)
    have h2 := hE.top y (List.mem_of_getElem? he)
    simp only [Option.getD_some]
    omega
theorem build_upto {E : List Int} {h : Int → Bool} (hE : EdgesOk E h) : ∀ j, j ≤ E.length →
    Canon (buildUpto E h j) ∧ (∀ x ∈ buildUpto E h j, x.2 < (E[j]?).getD 1114112) ∧ ∀ r, 0 ≤ r → r < (E[j]?).getD 1114112 → hasP (buildUpto E h j) r = h r := by
  intro j
  induction j with
  | zero => exact fun _ => ⟨Canon.nil, by simp [buildUpto], fun r h0 h1 => by rw [hE.zero] at h1; simp at h1; omega⟩
  | succ j ih =>
    intro hj
    obtain ⟨a, ha⟩ : ∃ a, E[j]? = some a := ⟨_, List.getElem?_eq_getElem (by omega)⟩
    obtain ⟨i1, i2, i3⟩ := ih (by omega)
    rw [ha, Option.getD_some] at i2 i3
    obtain ⟨g0, g1, g2, g3⟩ := gap_le hE ha
    rw [buildUpto_succ ha, ← g3]
    by_cases hh : h a = true
    · rw [if_pos hh]
      obtain ⟨s1, s2, s3⟩ := step_canon i1 i2 g0 g1 g2
      refine ⟨s1, fun x hx => by have := s2 x hx; omega, fun r h0 h1 => ?_⟩
      rw [s3]
      by_cases hr : r < a
      · rw [i3 r h0 hr]; simp; omega
      · rw [hE.const j a r ha (by omega) (by omega), hh]
        simp; right; omega
    · rw [if_neg hh]
      refine ⟨i1, fun x hx => by have := i2 x hx; omega, fun r h0 h1 => ?_⟩
      by_cases hr : r < a
      · exact i3 r h0 hr
      · rw [hE.const j a r ha (by omega) (by omega), hasP_high i2 (by omega)]
        simpa using hh
theorem build_all {E : List Int} {h : Int → Bool} (hE : EdgesOk E h) : Canon (buildUpto E h E.length) ∧ ∀ r, 0 ≤ r → r ≤ 1114111 → hasP (buildUpto E h E.length) r = h r := by
  obtain ⟨h1, _, h3⟩ := build_upto hE E.length (Nat.le_refl _)
  rw [List.getElem?_eq_none (Nat.le_refl _), Option.getD_none] at h3
  exact ⟨h1, fun r a b => h3 r a (by omega)⟩
/-- Whatever set has the same is built. -/
theorem build_is {E : List Int} {h : Int → Bool} (hE : EdgesOk E h) {s : Spans} (hs : Canon s) (hh : ∀ r, 0 ≤ r → r ≤ 1114111 → hasP s r = h r) : buildP E h = if 200 < s.length then ([], 5) else (s, 0) := by
  obtain ⟨b1, b2⟩ := build_all hE
  have : buildUpto E h E.length = s := canon_unique b1 hs fun r h0 h1 => by rw [b2 r h0 h1, hh r h0 h1]
  unfold buildP
  rw [this]

end Go.Proofs.YthnhbcohfoodlaaGreatDoor
