/- What a file that is right holds: facts on its items, sides and parts. Plain. (For the seats that write nothing: Words and PartText hold the same.) -/
import Derived.Test.YthcjiainpaebfaaFile
namespace Go.Proofs.Ythcjiainpaebfaa
open Go.RowKit

theorem items_ok {l : List ItemD} (h : itemsP l = 0) : l.length ≤ 20 ∧ ∀ a ∈ l, itemP a = 0 := by
  have h20 := items_small h
  refine ⟨h20, ?_⟩
  unfold itemsP at h
  rw [if_neg (by omega)] at h
  clear h20
  induction l with
  | nil => simp
  | cons a l ih =>
    rw [itemsGo] at h
    by_cases h1 : itemP a = 0
    · rw [if_pos h1] at h
      intro x hx
      rcases List.mem_cons.1 hx with rfl | hx
      · exact h1
      · exact ih h x hx
    · rw [if_neg h1] at h
      exact absurd h h1
theorem item_kinds {a : ItemD} (h : itemP a = 0) : (a.kind = 1 ∧ rightB a.rune = true) ∨ (a.kind = 2 ∧ wrongP a.set = 0) ∨ (a.kind = 3 ∧ namedP a.name = true) := by
  unfold itemP at h
  by_cases h1 : a.kind = 1
  · rw [if_pos h1] at h
    cases hr : rightB a.rune
    · rw [hr] at h; simp at h
    · exact .inl ⟨h1, rfl⟩
  rw [if_neg h1] at h
  by_cases h2 : a.kind = 2
  · rw [if_pos h2] at h
    exact .inr (.inl ⟨h2, h⟩)
  rw [if_neg h2] at h
  by_cases h3 : a.kind = 3
  · rw [if_pos h3] at h
    cases hr : namedP a.name
    · rw [hr] at h; simp at h
    · exact .inr (.inr ⟨h3, rfl⟩)
  rw [if_neg h3] at h
  cases h
theorem named_len {s : ByteArray} (h : namedP s = true) : s.size ≤ 20 := by
  unfold namedP at h
  rw [decide_eq_true_iff] at h
  exact h.2.1

theorem side_ok {s : SideD} {must : Bool} (h : sideP s must = 0) : itemsP s.before = 0 ∧ itemsP s.source = 0 ∧ itemsP s.after = 0 := by
  unfold sideP at h
  by_cases h0 : itemsAll [s.before, s.source, s.after] = 0
  · simp only [itemsAll] at h0
    by_cases h1 : itemsP s.before = 0
    · rw [if_pos h1] at h0
      by_cases h2 : itemsP s.source = 0
      · rw [if_pos h2] at h0
        by_cases h3 : itemsP s.after = 0
        · exact ⟨h1, h2, h3⟩
        · rw [if_neg h3] at h0; exact absurd h0 h3
      · rw [if_neg h2] at h0; exact absurd h0 h2
    · rw [if_neg h1] at h0; exact absurd h0 h1
  · rw [if_neg h0] at h
    exact absurd h h0
/-- A rule that is right: what is asked of its sides' items. -/
def RuleOk (p : PartD) : Prop :=
  (p.dir = 1 ∨ p.dir = 2 ∨ p.dir = 3) ∧ (itemsP p.left.before = 0 ∧ itemsP p.left.source = 0 ∧ itemsP p.left.after = 0) ∧ (itemsP p.right.before = 0 ∧ itemsP p.right.source = 0 ∧ itemsP p.right.after = 0)
theorem part_kinds {p : PartD} (h : partP p = 0) : (p.kind = 1 ∧ namedP p.name = true ∧ wrongP p.set = 0) ∨ (p.kind = 3 ∧ wrongP p.set = 0) ∨ (p.kind = 4 ∧ passB p.name = true) ∨ (p.kind = 2 ∧ RuleOk p) := by
  unfold partP at h
  by_cases h1 : p.kind = 1
  · rw [if_pos h1] at h
    cases hn : namedP p.name
    · rw [hn] at h; simp at h
    · rw [hn, if_pos rfl] at h
      exact .inl ⟨h1, rfl, h⟩
  rw [if_neg h1] at h
  by_cases h3 : p.kind = 3
  · rw [if_pos h3] at h
    exact .inr (.inl ⟨h3, h⟩)
  rw [if_neg h3] at h
  by_cases h4 : p.kind = 4
  · rw [if_pos h4] at h
    cases hn : passB p.name
    · rw [hn] at h; simp at h
    · exact .inr (.inr (.inl ⟨h4, rfl⟩))
  rw [if_neg h4] at h
  by_cases h2 : p.kind = 2
  · rw [if_pos h2] at h
    unfold ruleP at h
    by_cases hd : p.dir < 1 ∨ 3 < p.dir
    · rw [if_pos hd] at h; cases h
    rw [if_neg hd] at h
    by_cases hl : sideP p.left (p.dir != 2) = 0
    · rw [if_pos hl] at h
      by_cases hr : sideP p.right (p.dir != 1) = 0
      · exact .inr (.inr (.inr ⟨h2, by omega, side_ok hl, side_ok hr⟩))
      · rw [if_neg hr] at h; exact absurd h hr
    · rw [if_neg hl] at h; exact absurd h hl
  rw [if_neg h2] at h
  cases h

theorem fileGo_ok {l : List PartD} : ∀ i, (fileGo i l).1 = 0 → fileGo i l = (0, 0) ∧ ∀ p ∈ l, partP p = 0 := by
  induction l with
  | nil => intro i _; exact ⟨rfl, by simp⟩
  | cons p l ih =>
    intro i h
    rw [fileGo] at h ⊢
    by_cases h1 : partP p = 0
    · rw [if_pos h1] at h ⊢
      obtain ⟨h2, h3⟩ := ih (i + 1) h
      refine ⟨h2, fun q hq => ?_⟩
      rcases List.mem_cons.1 hq with rfl | hq
      · exact h1
      · exact h3 q hq
    · rw [if_neg h1] at h
      exact absurd h h1
theorem file_ok {l : List PartD} (h : (fileP l).1 = 0) : l.length ≤ 200 ∧ fileP l = (0, 0) ∧ ∀ p ∈ l, partP p = 0 := by
  unfold fileP at h ⊢
  by_cases h2 : 200 < l.length
  · rw [if_pos h2] at h; cases h
  · rw [if_neg h2] at h ⊢
    obtain ⟨h3, h4⟩ := fileGo_ok 0 h
    exact ⟨by omega, h3, h4⟩


end Go.Proofs.Ythcjiainpaebfaa
