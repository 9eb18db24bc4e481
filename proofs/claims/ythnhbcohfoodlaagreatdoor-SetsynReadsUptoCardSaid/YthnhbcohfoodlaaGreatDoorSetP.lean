/- Right sets, plain: what has a set; edges of sets, what stands between them. -/
import Derived.Test.YthnhbcohfoodlaaGreatDoorSpan
namespace Go.Proofs.YthnhbcohfoodlaaGreatDoor
open Go.RowKit

/-- A set has a rune. -/
def hasP (s : Spans) (r : Int) : Bool := s.any fun x => decide (x.1 ≤ r) && decide (r ≤ x.2)
theorem wrongGo_spans (s : Spans) : ∀ prev : Option Int, wrongGo prev s = 0 → (∀ h, prev = some h → ∀ x ∈ s, h + 1 < x.1) ∧ (∀ x ∈ s, 0 ≤ x.1 ∧ x.1 ≤ x.2 ∧ x.2 ≤ 1114111) ∧ s.Pairwise (fun a b => a.2 + 1 < b.1) := by
  induction s with
  | nil => intro prev _; exact ⟨by simp, by simp, List.Pairwise.nil⟩
  | cons z s ih =>
    obtain ⟨a, b⟩ := z
    intro prev h
    rw [wrongGo] at h
    by_cases h1 : a < 0 ∨ 1114111 < b ∨ b < a
    · rw [if_pos h1] at h; cases h
    · rw [if_neg h1] at h
      by_cases h2 : touch prev a = true
      · rw [if_pos h2] at h; cases h
      · rw [if_neg h2] at h
        obtain ⟨g1, g2, g3⟩ := ih (some b) h
        refine ⟨fun q hq x hx => ?_, fun x hx => ?_, List.pairwise_cons.2 ⟨fun x hx => g1 b rfl x hx, g3⟩⟩
        · subst hq
          simp only [touch, decide_eq_true_eq] at h2
          rcases List.mem_cons.1 hx with rfl | hx
          · show q + 1 < a; omega
          · have := g1 b rfl x hx; have := (g2 x hx).1; omega
        · rcases List.mem_cons.1 hx with rfl | hx
          · show 0 ≤ a ∧ a ≤ b ∧ b ≤ 1114111; omega
          · exact g2 x hx
/-- A right set: its spans rise. -/
structure RightSet (s : Spans) : Prop where
  size : s.length ≤ 200
  each : ∀ x ∈ s, 0 ≤ x.1 ∧ x.1 ≤ x.2 ∧ x.2 ≤ 1114111
  rise : s.Pairwise (fun a b => a.2 + 1 < b.1)
theorem right_set {s : Spans} (h : wrongP s = 0) : RightSet s := by
  unfold wrongP at h
  by_cases h2 : 200 < s.length
  · rw [if_pos h2] at h; cases h
  · rw [if_neg h2] at h
    obtain ⟨_, g2, g3⟩ := wrongGo_spans s none h
    exact ⟨by omega, g2, g3⟩
theorem RightSet.lt {s : Spans} (h : RightSet s) {i j : Nat} {x y : Int × Int} (hx : s[i]? = some x) (hy : s[j]? = some y) (hij : i < j) : x.2 + 1 < y.1 := by
  obtain ⟨hi, rfl⟩ := List.getElem?_eq_some_iff.1 hx
  obtain ⟨hj, rfl⟩ := List.getElem?_eq_some_iff.1 hy
  exact List.pairwise_iff_getElem.1 h.rise i j hi hj hij
theorem hasP_at {s : Spans} (h : RightSet s) (r : Int) {k : Nat} (h1 : ∀ t x, t < k → s[t]? = some x → x.2 < r) (h2 : ∀ t x, k ≤ t → s[t]? = some x → r ≤ x.2) :
    hasP s r = match s[k]? with | some x => decide (x.1 ≤ r) | none => false := by
  have key : hasP s r = true ↔ ∃ x, s[k]? = some x ∧ x.1 ≤ r := by
    unfold hasP
    rw [List.any_eq_true]
    constructor
    · rintro ⟨x, hx, hp⟩
      simp only [Bool.and_eq_true, decide_eq_true_eq] at hp
      obtain ⟨i, hi⟩ := List.mem_iff_getElem?.1 hx
      have hki : k ≤ i := by
        rcases Nat.lt_or_ge i k with hlt | hge
        · have := h1 i x hlt hi; omega
        · exact hge
      rcases Nat.lt_or_ge k i with hlt | hge
      · obtain ⟨y, hy⟩ : ∃ y, s[k]? = some y := ⟨_, List.getElem?_eq_getElem (by have := (List.getElem?_eq_some_iff.1 hi).1; omega)⟩
        have := h.lt hy hi hlt
        have := h2 k y (Nat.le_refl _) hy
        omega
      · obtain rfl : i = k := by omega
        exact ⟨x, hi, hp.1⟩
    · rintro ⟨x, hx, hr⟩
      exact ⟨x, List.mem_of_getElem? hx, by simp only [Bool.and_eq_true, decide_eq_true_eq]; exact ⟨hr, h2 k x (Nat.le_refl _) hx⟩⟩
  cases hk : s[k]? with
  | none =>
    rw [hk] at key
    simpa using key
  | some x =>
    rw [hk] at key
    rw [Bool.eq_iff_iff, key]
    simp

/-- The edges of a set, of rules. -/
def edgesS (s : Spans) : List Int := s.flatMap fun x => [x.1, x.2 + 1]
/-- An edge put where it belongs. -/
def putP (E : List Int) (r : Int) : List Int :=
  if 1114111 < r ∨ r ∈ E then E else E.takeWhile (fun x => decide (x < r)) ++ r :: E.dropWhile (fun x => decide (x < r))
theorem rising_split {E : List Int} (h : E.Pairwise (· < ·)) (r : Int) : (∀ x ∈ E.takeWhile (fun x => decide (x < r)), x < r) ∧ (∀ x ∈ E.dropWhile (fun x => decide (x < r)), r ≤ x) := by
  induction E with
  | nil => simp
  | cons a E ih =>
    rw [List.pairwise_cons] at h
    obtain ⟨g1, g2⟩ := ih h.2
    by_cases ha : a < r
    · simp only [List.takeWhile_cons, List.dropWhile_cons, ha, decide_true, if_true]
      exact ⟨fun x hx => by rcases List.mem_cons.1 hx with rfl | hx; exact ha; exact g1 x hx, g2⟩
    · simp only [List.takeWhile_cons, List.dropWhile_cons, ha, decide_false, Bool.false_eq_true, if_false]
      refine ⟨by simp, fun x hx => ?_⟩
      rcases List.mem_cons.1 hx with rfl | hx
      · omega
      · have := h.1 x hx; omega
theorem putP_mem (E : List Int) (r x : Int) : x ∈ putP E r ↔ x ∈ E ∨ (x = r ∧ r ≤ 1114111) := by
  unfold putP
  split
  · rename_i h
    constructor
    · exact .inl
    · rintro (h2 | ⟨rfl, h2⟩)
      · exact h2
      · rcases h with h | h
        · omega
        · exact h
  · rename_i h
    rw [not_or] at h
    have : x ∈ E ↔ x ∈ E.takeWhile (fun x => decide (x < r)) ∨ x ∈ E.dropWhile (fun x => decide (x < r)) := by
      conv => lhs; rw [← List.takeWhile_append_dropWhile (p := fun x => decide (x < r)) (l := E)]
      rw [List.mem_append]
    rw [List.mem_append, List.mem_cons, this]
    constructor
    · rintro (h1 | rfl | h1)
      · exact .inl (.inl h1)
      · exact .inr ⟨rfl, by omega⟩
      · exact .inl (.inr h1)
    · rintro ((h1 | h1) | ⟨rfl, _⟩)
      · exact .inl h1
      · exact .inr (.inr h1)
      · exact .inr (.inl rfl)
theorem putP_rise {E : List Int} (h : E.Pairwise (· < ·)) (r : Int) : (putP E r).Pairwise (· < ·) := by
  unfold putP
  split
  · exact h
  · rename_i hn
    rw [not_or] at hn
    obtain ⟨g1, g2⟩ := rising_split h r
    have hs := h
    rw [← List.takeWhile_append_dropWhile (p := fun x => decide (x < r)) (l := E), List.pairwise_append] at hs
    rw [List.pairwise_append]
    refine ⟨hs.1, List.pairwise_cons.2 ⟨fun x hx => ?_, hs.2.1⟩, fun a ha b hb => ?_⟩
    · have := g2 x hx
      rcases Int.lt_or_eq_of_le this with h1 | rfl
      · exact h1
      · exact absurd ((List.dropWhile_sublist _).subset hx) hn.2
    · rcases List.mem_cons.1 hb with rfl | hb
      · exact g1 a ha
      · exact hs.2.2 a ha b hb
theorem foldPut_mem (xs : List Int) : ∀ (E : List Int) (x : Int), x ∈ xs.foldl putP E ↔ x ∈ E ∨ (x ∈ xs ∧ x ≤ 1114111) := by
  induction xs with
  | nil => intro E x; simp
  | cons a xs ih =>
    intro E x
    rw [List.foldl_cons, ih, putP_mem]
    constructor
    · rintro ((h | ⟨rfl, h⟩) | ⟨h, h2⟩)
      · exact .inl h
      · exact .inr ⟨by simp, h⟩
      · exact .inr ⟨by simp [h], h2⟩
    · rintro (h | ⟨h, h2⟩)
      · exact .inl (.inl h)
      · rcases List.mem_cons.1 h with rfl | h
        · exact .inl (.inr ⟨rfl, h2⟩)
        · exact .inr ⟨h, h2⟩
theorem foldPut_rise (xs : List Int) : ∀ (E : List Int), E.Pairwise (· < ·) → (xs.foldl putP E).Pairwise (· < ·) := by
  induction xs with
  | nil => intro E h; exact h
  | cons a xs ih => intro E h; rw [List.foldl_cons]; exact ih _ (putP_rise h a)
theorem putP_len (E : List Int) (r : Int) : E.length ≤ (putP E r).length ∧ (putP E r).length ≤ E.length + 1 := by
  unfold putP
  split
  · omega
  · have := congrArg List.length (List.takeWhile_append_dropWhile (p := fun x => decide (x < r)) (l := E))
    rw [List.length_append] at this
    rw [List.length_append, List.length_cons]
    omega
theorem foldPut_len (xs : List Int) : ∀ (E : List Int), E.length ≤ (xs.foldl putP E).length ∧ (xs.foldl putP E).length ≤ E.length + xs.length := by
  induction xs with
  | nil => intro E; simp
  | cons a xs ih => intro E; rw [List.foldl_cons, List.length_cons]; have := ih (putP E a); have := putP_len E a; omega
theorem edgesS_len (s : Spans) : (edgesS s).length = 2 * s.length := by
  induction s with
  | nil => rfl
  | cons x s ih => unfold edgesS at ih ⊢; rw [List.flatMap_cons, List.length_append, ih, List.length_cons]; simp; omega
/-- The last rune ahead of the next edge. -/
def gapEnd (E : List Int) (j : Nat) : Int := match E[j + 1]? with | some y => y - 1 | none => 1114111
theorem hasP_const {s : Spans} {a r : Int} (har : a ≤ r) (h : ∀ e ∈ edgesS s, ¬ (a < e ∧ e ≤ r)) : hasP s r = hasP s a := by
  unfold hasP
  induction s with
  | nil => rfl
  | cons x s ih =>
    have h1 := h x.1 (by simp [edgesS])
    have h2 := h (x.2 + 1) (by simp [edgesS])
    have hs := ih (fun e he => h e (by unfold edgesS at he ⊢; rw [List.flatMap_cons]; exact List.mem_append_right _ he))
    rw [List.any_cons, List.any_cons, hs]
    congr 1
    rw [Bool.eq_iff_iff]
    simp only [Bool.and_eq_true, decide_eq_true_eq]
    omega
theorem rise_at {E : List Int} (h : E.Pairwise (· < ·)) {i j : Nat} {x y : Int} (hx : E[i]? = some x) (hy : E[j]? = some y) (hij : i < j) : x < y := by
  obtain ⟨hi, rfl⟩ := List.getElem?_eq_some_iff.1 hx
  obtain ⟨hj, rfl⟩ := List.getElem?_eq_some_iff.1 hy
  exact List.pairwise_iff_getElem.1 h i j hi hj hij
/-- The edges of some sets. -/
def edgesAll (L : List Spans) : List Int := (L.flatMap edgesS).foldl putP [0]

end Go.Proofs.YthnhbcohfoodlaaGreatDoor
