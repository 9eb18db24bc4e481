/- What two sets make, plain: opP; each set that has the same is it. -/
import Derived.Test.YthnhbcohfoodlaaGreatDoorSetBuild
namespace Go.Proofs.YthnhbcohfoodlaaGreatDoor
open Go.RowKit

theorem edgesAll_mem (L : List Spans) (x : Int) : x ∈ edgesAll L ↔ x = 0 ∨ (x ∈ L.flatMap edgesS ∧ x ≤ 1114111) := by
  unfold edgesAll
  rw [foldPut_mem]
  simp
theorem edgesAll_rise (L : List Spans) : (edgesAll L).Pairwise (· < ·) := foldPut_rise _ _ (by simp)
theorem edgesAll_gap {L : List Spans} {j : Nat} {a : Int} (hj : (edgesAll L)[j]? = some a) : ∀ r, a ≤ r → r ≤ gapEnd (edgesAll L) j → ∀ e ∈ L.flatMap edgesS, ¬ (a < e ∧ e ≤ r) := by
  intro r h1 h2 e he ⟨h3, h4⟩
  have hrise := edgesAll_rise L
  by_cases hm : e ≤ 1114111
  · obtain ⟨k, hk⟩ := List.mem_iff_getElem?.1 ((edgesAll_mem L e).2 (.inr ⟨he, hm⟩))
    have hjk : j < k := by
      rcases Nat.lt_or_ge j k with h | h
      · exact h
      · rcases Nat.lt_or_ge k j with h' | h'
        · have := rise_at hrise hk hj h'; omega
        · obtain rfl : j = k := by omega
          rw [hk] at hj; injection hj; omega
    obtain ⟨y, hy⟩ : ∃ y, (edgesAll L)[j + 1]? = some y := ⟨_, List.getElem?_eq_getElem (by have := (List.getElem?_eq_some_iff.1 hk).1; omega)⟩
    unfold gapEnd at h2
    rw [hy] at h2
    simp only at h2
    rcases Nat.lt_or_ge (j + 1) k with h | h
    · have := rise_at hrise hy hk h; omega
    · obtain rfl : k = j + 1 := by omega
      rw [hy] at hk; injection hk; omega
  · unfold gapEnd at h2
    split at h2
    · rename_i y hy
      have := (edgesAll_mem L y).1 (List.mem_of_getElem? hy)
      omega
    · omega
theorem edgesAll_zero {L : List Spans} (h : ∀ s ∈ L, RightSet s) : (edgesAll L)[0]? = some 0 := by
  obtain ⟨k, hk⟩ := List.mem_iff_getElem?.1 ((edgesAll_mem L 0).2 (.inl rfl))
  obtain ⟨y, hy⟩ : ∃ y, (edgesAll L)[0]? = some y := ⟨_, List.getElem?_eq_getElem (by have := (List.getElem?_eq_some_iff.1 hk).1; omega)⟩
  have h0 : 0 ≤ y := by
    rcases (edgesAll_mem L y).1 (List.mem_of_getElem? hy) with rfl | ⟨h1, _⟩
    · exact Int.le_refl _
    · obtain ⟨s, hs, he⟩ := List.mem_flatMap.1 h1
      unfold edgesS at he
      obtain ⟨x, hx, he⟩ := List.mem_flatMap.1 he
      have := (h s hs).each x hx
      simp at he
      omega
  rcases Nat.eq_zero_or_pos k with rfl | hk0
  · exact hk
  · have := rise_at (edgesAll_rise L) hy hk hk0
    omega
theorem edges_ok {L : List Spans} (hL : ∀ s ∈ L, RightSet s) {h : Int → Bool} (hc : ∀ a r, (∀ s ∈ L, hasP s r = hasP s a) → h r = h a) : EdgesOk (edgesAll L) h where
  rise := edgesAll_rise L
  zero := edgesAll_zero hL
  top := fun x hx => by rcases (edgesAll_mem L x).1 hx with rfl | ⟨_, h⟩ <;> omega
  const := fun j a r hj h1 h2 => hc a r fun s hs => hasP_const h1 fun e he => edgesAll_gap hj r h1 h2 e (List.mem_flatMap.2 ⟨s, hs, he⟩)
def doHolds (op : Int) (a b : Spans) (r : Int) : Bool := (decide (op = 124) && (hasP a r || hasP b r)) || ((decide (op = 38) && hasP a r && hasP b r) || (decide (op = 45) && hasP a r && !hasP b r))
/-- An operator of two sets; ^ of the first one alone. -/
def opP (op : Int) (a b : Spans) : Spans × Int :=
  if wrongP a ≠ 0 then ([], wrongP a) else if op = 94 then buildP (edgesAll [a]) (fun r => !hasP a r)
  else if wrongP b ≠ 0 then ([], wrongP b) else buildP (edgesAll [a, b]) (doHolds op a b)
theorem wrong_of {s : Spans} (h : RightSet s) : wrongP s = 0 := by
  unfold wrongP
  rw [if_neg (by have := h.size; omega)]
  have : ∀ (s : Spans) (prev : Option Int), Canon s → (∀ p, prev = some p → ∀ x ∈ s, p + 1 < x.1) → wrongGo prev s = 0 := by
    intro s
    induction s with
    | nil => intro prev _ _; rfl
    | cons x s ih =>
      intro prev hc hp
      obtain ⟨a, b⟩ := x
      have he := hc.each (a, b) List.mem_cons_self
      dsimp only at he
      rw [wrongGo, if_neg (by omega)]
      have ht : touch prev a = false := by
        cases prev with
        | none => rfl
        | some p => have := hp p rfl (a, b) List.mem_cons_self; simp [touch]; omega
      rw [ht, if_neg (by decide)]
      exact ih _ hc.tail fun p hp' y hy => by
        obtain rfl := Option.some.inj hp'
        exact hc.low y hy
  exact this s none h.canon (fun p hp => by cases hp)
theorem not_is {a s : Spans} (ha : RightSet a) (hs : Canon s) (hh : ∀ r, 0 ≤ r → r ≤ 1114111 → hasP s r = !hasP a r) (b : Spans) : opP 94 a b = if 200 < s.length then ([], 5) else (s, 0) := by
  unfold opP
  rw [if_neg (by rw [wrong_of ha]; decide), if_pos rfl]
  exact build_is (edges_ok (by simpa using ha) (fun x r h => by rw [h a (by simp)])) hs hh
theorem op_is {op : Int} {a b s : Spans} (h94 : op ≠ 94) (ha : RightSet a) (hb : RightSet b) (hs : Canon s) (hh : ∀ r, 0 ≤ r → r ≤ 1114111 → hasP s r = doHolds op a b r) : opP op a b = if 200 < s.length then ([], 5) else (s, 0) := by
  unfold opP
  rw [if_neg (by rw [wrong_of ha]; decide), if_neg h94, if_neg (by rw [wrong_of hb]; decide)]
  exact build_is (edges_ok (by simpa using ⟨ha, hb⟩) (fun x r h => by unfold doHolds; rw [h a (by simp), h b (by simp)])) hs hh
theorem build_small (E : List Int) (h : Int → Bool) (hE : EdgesOk E h) : RightSet (buildP E h).1 := by
  unfold buildP
  by_cases hl : 200 < (buildUpto E h E.length).length
  · rw [if_pos hl]; exact ⟨Nat.zero_le _, by simp, List.Pairwise.nil⟩
  · rw [if_neg hl]; exact (build_all hE).1.right (by omega)
/-- What is made is right. -/
theorem op_right (op : Int) {a b : Spans} (ha : RightSet a) (hb : RightSet b) : RightSet (opP op a b).1 := by
  unfold opP
  rw [if_neg (by rw [wrong_of ha]; decide)]
  by_cases h94 : op = 94
  · rw [if_pos h94]; exact build_small _ _ (edges_ok (by simpa using ha) (fun x r h => by rw [h a (by simp)]))
  · rw [if_neg h94, if_neg (by rw [wrong_of hb]; decide)]
    exact build_small _ _ (edges_ok (by simpa using ⟨ha, hb⟩) (fun x r h => by unfold doHolds; rw [h a (by simp), h b (by simp)]))

end Go.Proofs.YthnhbcohfoodlaaGreatDoor
