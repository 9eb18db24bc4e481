/- What a file that is right holds: facts on its parts and on their words. Plain. -/
import Derived.Test.YtdfljicijfceeaaDoorSideText
import Derived.Test.YtdfljicijfceeaaDoorFile
namespace Go.Proofs.YtdfljicijfceeaaDoor
open Go.RowKit

theorem side_ok {s : SideD} {must : Bool} (h : sideP s must = 0) : itemsP s.before = 0 ∧ itemsP s.source = 0 ∧ itemsP s.after = 0 := by
  unfold sideP at h
  by_cases h0 : itemsAll [s.before, s.source, s.after] = 0
  · simp only [itemsAll] at h0
    by_cases h1 : itemsP s.before = 0
    · rw [if_pos h1] at h0
      by_cases h2 : itemsP s.source = 0
      · rw [if_pos h2] at h0
        by_cases h3 : itemsP s.after = 0
        · exact ⟨h1, h2, h3⟩
        · rw [if_neg h3] at h0; exact absurd h0 h3
      · rw [if_neg h2] at h0; exact absurd h0 h2
    · rw [if_neg h1] at h0; exact absurd h0 h1
  · rw [if_neg h0] at h
    exact absurd h h0
/-- A rule that is right: what is asked of its sides' items. -/
def RuleOk (p : PartD) : Prop :=
  (p.dir = 1 ∨ p.dir = 2 ∨ p.dir = 3) ∧ (itemsP p.left.before = 0 ∧ itemsP p.left.source = 0 ∧ itemsP p.left.after = 0) ∧ (itemsP p.right.before = 0 ∧ itemsP p.right.source = 0 ∧ itemsP p.right.after = 0)
theorem part_kinds {p : PartD} (h : partP p = 0) : (p.kind = 1 ∧ namedP p.name = true ∧ wrongP p.set = 0) ∨ (p.kind = 3 ∧ wrongP p.set = 0) ∨ (p.kind = 4 ∧ passB p.name = true) ∨ (p.kind = 2 ∧ RuleOk p) := by
  unfold partP at h
  by_cases h1 : p.kind = 1
  · rw [if_pos h1] at h
    cases hn : namedP p.name
    · rw [hn] at h; simp at h
    · rw [hn, if_pos rfl] at h
      exact .inl ⟨h1, rfl, h⟩
  rw [if_neg h1] at h
  by_cases h3 : p.kind = 3
  · rw [if_pos h3] at h
    exact .inr (.inl ⟨h3, h⟩)
  rw [if_neg h3] at h
  by_cases h4 : p.kind = 4
  · rw [if_pos h4] at h
    cases hn : passB p.name
    · rw [hn] at h; simp at h
    · exact .inr (.inr (.inl ⟨h4, rfl⟩))
  rw [if_neg h4] at h
  by_cases h2 : p.kind = 2
  · rw [if_pos h2] at h
    unfold ruleP at h
    by_cases hd : p.dir < 1 ∨ 3 < p.dir
    · rw [if_pos hd] at h; cases h
    rw [if_neg hd] at h
    by_cases hl : sideP p.left (p.dir != 2) = 0
    · rw [if_pos hl] at h
      by_cases hr : sideP p.right (p.dir != 1) = 0
      · exact .inr (.inr (.inr ⟨h2, by omega, side_ok hl, side_ok hr⟩))
      · rw [if_neg hr] at h; exact absurd h hr
    · rw [if_neg hl] at h; exact absurd h hl
  rw [if_neg h2] at h
  cases h

theorem fileGo_ok {l : List PartD} : ∀ i, (fileGo i l).1 = 0 → fileGo i l = (0, 0) ∧ ∀ p ∈ l, partP p = 0 := by
  induction l with
  | nil => intro i _; exact ⟨rfl, by simp⟩
  | cons p l ih =>
    intro i h
    rw [fileGo] at h ⊢
    by_cases h1 : partP p = 0
    · rw [if_pos h1] at h ⊢
      obtain ⟨h2, h3⟩ := ih (i + 1) h
      refine ⟨h2, fun q hq => ?_⟩
      rcases List.mem_cons.1 hq with rfl | hq
      · exact h1
      · exact h3 q hq
    · rw [if_neg h1] at h
      exact absurd h h1
theorem file_ok {l : List PartD} (h : (fileP l).1 = 0) : l.length ≤ 200 ∧ fileP l = (0, 0) ∧ ∀ p ∈ l, partP p = 0 := by
  unfold fileP at h ⊢
  by_cases h2 : 200 < l.length
  · rw [if_pos h2] at h; cases h
  · rw [if_neg h2] at h ⊢
    obtain ⟨h3, h4⟩ := fileGo_ok 0 h
    exact ⟨by omega, h3, h4⟩

theorem side_len {s : SideD} (h : itemsP s.before = 0 ∧ itemsP s.source = 0 ∧ itemsP s.after = 0) : (sideW s).length ≤ 127 ∧ ∀ x ∈ sideW s, x.length ≤ 4300 := by
  have a1 := wordsP_len (cursor := -1) h.1
  have a2 := wordsP_len (cursor := s.cursor) h.2.1
  have a3 := wordsP_len (cursor := -1) h.2.2
  have b1 := (wordsGo_ok (-1) s.before 0 (items_ok h.1).2).2
  have b2 := (wordsGo_ok s.cursor s.source 0 (items_ok h.2.1).2).2
  have b3 := (wordsGo_ok (-1) s.after 0 (items_ok h.2.2).2).2
  have one : ∀ (q : Prop) [Decidable q] (c : UInt8), (if q then [[c]] else ([] : List Word)).length ≤ 1 ∧ ∀ x ∈ (if q then [[c]] else ([] : List Word)), x.length ≤ 4300 := by
    intro q _ c
    split
    · exact ⟨by simp, by intro x hx; simp at hx; subst hx; simp⟩
    · exact ⟨by simp, by intro x hx; cases hx⟩
  have one' : ∀ (q : Prop) [Decidable q] (c : UInt8), (if q then ([] : List Word) else [[c]]).length ≤ 1 ∧ ∀ x ∈ (if q then ([] : List Word) else [[c]]), x.length ≤ 4300 := by
    intro q _ c
    split
    · exact ⟨by simp, by intro x hx; cases hx⟩
    · exact ⟨by simp, by intro x hx; simp at hx; subst hx; simp⟩
  have fin : ∀ (q : Prop) [Decidable q], (if q then [125] :: wordsP s.after (-1) else ([] : List Word)).length ≤ 42 ∧ ∀ x ∈ (if q then [125] :: wordsP s.after (-1) else ([] : List Word)), x.length ≤ 4300 := by
    intro q _
    split
    · refine ⟨by simp; omega, fun x hx => ?_⟩
      rcases List.mem_cons.1 hx with rfl | hx
      · simp
      · exact b3 x hx
    · exact ⟨by simp, by intro x hx; cases hx⟩
  have app : ∀ (a b : List Word) (m k : Nat), (a.length ≤ m ∧ ∀ x ∈ a, x.length ≤ 4300) → (b.length ≤ k ∧ ∀ x ∈ b, x.length ≤ 4300) → ((a ++ b).length ≤ m + k ∧ ∀ x ∈ a ++ b, x.length ≤ 4300) := by
    intro a b m k ha hb
    refine ⟨by simp; omega, fun x hx => ?_⟩
    rcases List.mem_append.1 hx with hx | hx
    · exact ha.2 x hx
    · exact hb.2 x hx
  unfold sideW
  dsimp only
  exact app _ _ 126 1 (app _ _ 84 42 (app _ _ 43 41 (app _ _ 42 1 (app _ _ 1 41 (one _ 94) ⟨a1, b1⟩) (one' _ 123)) ⟨a2, b2⟩) (fin _)) (one _ 36)
theorem pass_len {s : ByteArray} (h : passB s = true) : s.size ≤ 6 := by
  unfold passB isOne at h
  rw [List.any_eq_true] at h
  obtain ⟨t, ht, he⟩ := h
  rw [beq_iff_eq, Lib.toList_data, Lib.toList_data] at he
  have hs : s.size = t.size := congrArg List.length he
  rw [hs]
  simp only [List.mem_cons, List.not_mem_nil, or_false] at ht
  rcases ht with rfl | rfl | rfl | rfl <;> decide
theorem setW_len {l : Spans} (h : wrongP l = 0) : (setW l).length ≤ 4300 := by
  obtain ⟨h3, h4⟩ := wrongP_ok h
  have := print_len l h4
  unfold setW printP
  rw [if_pos h]
  simp
  omega
theorem partW_len {p : PartD} (h : partP p = 0) : (partW p).length ≤ 300 ∧ ∀ x ∈ partW p, x.length ≤ 4300 := by
  have ns : ∀ s : ByteArray, s.data.toList.length = s.size := fun s => rfl
  unfold partW
  rcases part_kinds h with ⟨h1, h2, h3⟩ | ⟨h1, h3⟩ | ⟨h1, h2⟩ | ⟨h1, _, h2, h3⟩
  · rw [if_pos h1]
    have := named_len h2
    have := setW_len h3
    refine ⟨by simp, fun x hx => ?_⟩
    simp only [List.mem_cons, List.not_mem_nil, or_false] at hx
    rcases hx with rfl | rfl | rfl
    · rw [List.length_cons, ns]; omega
    · simp
    · assumption
  · rw [h1, if_neg (by decide), if_pos rfl]
    have := setW_len h3
    refine ⟨by simp, fun x hx => ?_⟩
    simp only [List.mem_cons, List.not_mem_nil, or_false] at hx
    rcases hx with rfl | rfl
    · simp
    · assumption
  · rw [h1, if_neg (by decide), if_neg (by decide), if_pos rfl]
    have := pass_len h2
    refine ⟨by simp, fun x hx => ?_⟩
    simp only [List.mem_cons, List.not_mem_nil, or_false] at hx
    rcases hx with rfl | rfl
    · simp
    · rw [ns]; omega
  · rw [h1, if_neg (by decide), if_neg (by decide), if_neg (by decide)]
    have s1 := side_len h2
    have s2 := side_len h3
    refine ⟨by simp; omega, fun x hx => ?_⟩
    rcases List.mem_append.1 hx with hx | hx
    · exact s1.2 x hx
    · rcases List.mem_cons.1 hx with rfl | hx
      · unfold dirW; split
        · simp
        · split <;> simp
      · exact s2.2 x hx
theorem flat_len (l : List Word) (h : ∀ x ∈ l, x.length ≤ 4300) : (l.flatMap fun w => w ++ [32]).length ≤ l.length * 4301 := by
  induction l with
  | nil => simp
  | cons a l ih =>
    have h1 := ih (fun x hx => h x (by simp [hx]))
    have h2 := h a (by simp)
    have e : (a :: l).length = l.length + 1 := rfl
    have e2 : (a ++ [32]).length = a.length + 1 := by simp
    rw [List.flatMap_cons, List.length_append, e, e2, Nat.succ_mul]
    omega
theorem partT_len {p : PartD} (h : partP p = 0) : (partT p).length ≤ 1300000 := by
  obtain ⟨h1, h2⟩ := partW_len h
  have h3 := flat_len _ h2
  have h4 : (partW p).length * 4301 ≤ 300 * 4301 := Nat.mul_le_mul_right _ h1
  unfold partT
  rw [List.length_append]
  simp only [List.length_cons, List.length_nil]
  omega
/-- How a file is written: nothing, if it is wrong. -/
def textP (l : List PartD) : ByteArray := if (fileP l).1 = 0 then ⟨(fileT l).toArray⟩ else ⟨#[]⟩

end Go.Proofs.YtdfljicijfceeaaDoor
