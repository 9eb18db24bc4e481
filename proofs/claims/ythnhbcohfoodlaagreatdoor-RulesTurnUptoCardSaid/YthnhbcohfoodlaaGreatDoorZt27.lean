/- PartText -/
import Derived.Test.YthnhbcohfoodlaaGreatDoorZt26
import Derived.Test.YthnhbcohfoodlaaGreatDoorZt14
namespace Go.Proofs.YthnhbcohfoodlaaGreatDoor
open Go.RowKit
theorem side_len {s : SideD} (h : itemsP s.before = 0 ∧ itemsP s.source = 0 ∧ itemsP s.after = 0) : (sideW s).length ≤ 127 ∧ ∀ x ∈ sideW s, x.length ≤ 4300 := by
 have a1 := wordsP_len (cursor := -1) h.1
 have a2 := wordsP_len (cursor := s.cursor) h.2.1
 have a3 := wordsP_len (cursor := -1) h.2.2
 have b1 := (wordsGo_ok (-1) s.before 0 (items_ok h.1).2).2
 have b2 := (wordsGo_ok s.cursor s.source 0 (items_ok h.2.1).2).2
 have b3 := (wordsGo_ok (-1) s.after 0 (items_ok h.2.2).2).2
 have one : ∀ (q : Prop) [Decidable q] (c : UInt8), (if q then [[c]] else ([] : List Word)).length ≤ 1 ∧ ∀ x ∈ (if q then [[c]] else ([] : List Word)), x.length ≤ 4300 := by
  intro q _ c
  split
  ·exact ⟨by simp, by intro x hx; simp at hx; subst hx; simp⟩
  ·exact ⟨by simp, by intro x hx; cases hx⟩
 have one' : ∀ (q : Prop) [Decidable q] (c : UInt8), (if q then ([] : List Word) else [[c]]).length ≤ 1 ∧ ∀ x ∈ (if q then ([] : List Word) else [[c]]), x.length ≤ 4300 := by
  intro q _ c
  split
  ·exact ⟨by simp, by intro x hx; cases hx⟩
  ·exact ⟨by simp, by intro x hx; simp at hx; subst hx; simp⟩
 have fin : ∀ (q : Prop) [Decidable q], (if q then [125] :: wordsP s.after (-1) else ([] : List Word)).length ≤ 42 ∧ ∀ x ∈ (if q then [125] :: wordsP s.after (-1) else ([] : List Word)), x.length ≤ 4300 := by
  intro q _
  split
  ·refine ⟨by simp; omega, fun x hx => ?_⟩
   rcases List.mem_cons.1 hx with rfl | hx
   ·simp
   ·exact b3 x hx
  ·exact ⟨by simp, by intro x hx; cases hx⟩
 have app : ∀ (a b : List Word) (m k : Nat), (a.length ≤ m ∧ ∀ x ∈ a, x.length ≤ 4300) → (b.length ≤ k ∧ ∀ x ∈ b, x.length ≤ 4300) → ((a ++ b).length ≤ m + k ∧ ∀ x ∈ a ++ b, x.length ≤ 4300) := by
  intro a b m k ha hb
  refine ⟨by simp; omega, fun x hx => ?_⟩
  rcases List.mem_append.1 hx with hx | hx
  ·exact ha.2 x hx
  ·exact hb.2 x hx
 unfold sideW
 dsimp only
 exact app _ _ 126 1 (app _ _ 84 42 (app _ _ 43 41 (app _ _ 42 1 (app _ _ 1 41 (one _ 94) ⟨a1, b1⟩) (one' _ 123)) ⟨a2, b2⟩) (fin _)) (one _ 36)
theorem pass_len {s : ByteArray} (h : passB s = true) : s.size ≤ 6 := by
 unfold passB isOne at h
 rw [List.any_eq_true] at h
 obtain ⟨t, ht, he⟩ := h
 rw [beq_iff_eq, Lib.toList_data, Lib.toList_data] at he
 have hs : s.size = t.size := congrArg List.length he
 rw [hs]
 simp only [List.mem_cons, List.not_mem_nil, or_false] at ht
 rcases ht with rfl | rfl | rfl | rfl <;> decide
theorem setW_len {l : Spans} (h : wrongP l = 0) : (setW l).length ≤ 4300 := by
 obtain ⟨h3, h4⟩ := wrongP_ok h
 have := print_len l h4
 unfold setW printP
 rw [if_pos h]
 simp
 omega
theorem partW_len {p : PartD} (h : partP p = 0) : (partW p).length ≤ 300 ∧ ∀ x ∈ partW p, x.length ≤ 4300 := by
 have ns : ∀ s : ByteArray, s.data.toList.length = s.size := fun s => rfl
 unfold partW
 rcases part_kinds h with ⟨h1, h2, h3⟩ | ⟨h1, h3⟩ | ⟨h1, h2⟩ | ⟨h1, _, h2, h3⟩
 ·rw [if_pos h1]
  have := named_len h2
  have := setW_len h3
  refine ⟨by simp, fun x hx => ?_⟩
  simp only [List.mem_cons, List.not_mem_nil, or_false] at hx
  rcases hx with rfl | rfl | rfl
  ·rw [List.length_cons, ns]; omega
  ·simp
  ·assumption
 ·rw [h1, if_neg (by decide), if_pos rfl]
  have := setW_len h3
  refine ⟨by simp, fun x hx => ?_⟩
  simp only [List.mem_cons, List.not_mem_nil, or_false] at hx
  rcases hx with rfl | rfl
  ·simp
  ·assumption
 ·rw [h1, if_neg (by decide), if_neg (by decide), if_pos rfl]
  have := pass_len h2
  refine ⟨by simp, fun x hx => ?_⟩
  simp only [List.mem_cons, List.not_mem_nil, or_false] at hx
  rcases hx with rfl | rfl
  ·simp
  ·rw [ns]; omega
 ·rw [h1, if_neg (by decide), if_neg (by decide), if_neg (by decide)]
  have s1 := side_len h2
  have s2 := side_len h3
  refine ⟨by simp; omega, fun x hx => ?_⟩
  rcases List.mem_append.1 hx with hx | hx
  ·exact s1.2 x hx
  ·rcases List.mem_cons.1 hx with rfl | hx
   ·unfold dirW; split
    ·simp
    ·split <;> simp
   ·exact s2.2 x hx
theorem flat_len (l : List Word) (h : ∀ x ∈ l, x.length ≤ 4300) : (l.flatMap fun w => w ++ [32]).length ≤ l.length * 4301 := by
 induction l with
 | nil => simp
 | cons a l ih =>
   have h1 := ih (fun x hx => h x (by simp [hx]))
   have h2 := h a (by simp)
   have e : (a :: l).length = l.length + 1 := rfl
   have e2 : (a ++ [32]).length = a.length + 1 := by simp
   rw [List.flatMap_cons, List.length_append, e, e2, Nat.succ_mul]
   omega
theorem partT_len {p : PartD} (h : partP p = 0) : (partT p).length ≤ 1300000 := by
 obtain ⟨h1, h2⟩ := partW_len h
 have h3 := flat_len _ h2
 have h4 : (partW p).length * 4301 ≤ 300 * 4301 := Nat.mul_le_mul_right _ h1
 unfold partT
 rw [List.length_append]
 simp only [List.length_cons, List.length_nil]
 omega
def textP (l : List PartD) : ByteArray := if (fileP l).1 = 0 then ⟨(fileT l).toArray⟩ else ⟨#[]⟩
end Go.Proofs.YthnhbcohfoodlaaGreatDoor
