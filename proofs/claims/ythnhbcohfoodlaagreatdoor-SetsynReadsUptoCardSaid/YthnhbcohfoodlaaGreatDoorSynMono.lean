/- The plain reading of a set's text goes on, and what it reads is right. -/
import Derived.Test.YthnhbcohfoodlaaGreatDoorSynP
namespace Go.Proofs.YthnhbcohfoodlaaGreatDoor
open Go.RowKit

theorem needP_ok {L : List Int} {i j : Nat} {r : Int} (h : needP L i r = .ok j) : j = i + 1 ∧ pk L i = r := by
  unfold needP at h
  split at h
  · rename_i hp; injection h with h; exact ⟨h.symm, hp⟩
  · cases h
theorem needP_at {L : List Int} {i : Nat} {r : Int} (h : pk L i = r) : needP L i r = .ok (i + 1) := by unfold needP; rw [if_pos h]
theorem needP_not {L : List Int} {i : Nat} {r : Int} (h : pk L i ≠ r) : needP L i r = .error (2, i) := by unfold needP; rw [if_neg h]
theorem runFrom_ge (p : Int → Bool) (L : List Int) (i : Nat) : i ≤ runFrom p L i := by unfold runFrom; omega
theorem skipP_ge (L : List Int) (i : Nat) : i ≤ skipP L i := runFrom_ge _ _ _
/-- Runes of a text: what each place holds. -/
def RunesOk (L : List Int) : Prop := ∀ x ∈ L, 0 ≤ x ∧ x ≤ 1114111
theorem pk_range {L : List Int} (h : RunesOk L) (i : Nat) : pk L i = -1 ∨ (0 ≤ pk L i ∧ pk L i ≤ 1114111) := by
  unfold pk
  cases hi : L[i]? with
  | none => exact .inl rfl
  | some x => exact .inr (h x (List.mem_of_getElem? hi))
theorem pk_nonneg {L : List Int} (h : RunesOk L) {i : Nat} (h0 : pk L i ≠ -1) : 0 ≤ pk L i ∧ pk L i ≤ 1114111 := by
  rcases pk_range h i with h1 | h1
  · exact absurd h1 h0
  · exact h1
theorem hexV_range {d : Int} (h : hexB d = true) : 0 ≤ hexV d ∧ hexV d ≤ 15 := by
  unfold hexB at h
  unfold hexV
  simp only [Bool.or_eq_true, Bool.and_eq_true, decide_eq_true_eq] at h
  split
  · omega
  · split <;> omega
theorem hexFold_range (ds : List Int) : ∀ x : Int, 0 ≤ x → (∀ d ∈ ds, hexB d = true) → 0 ≤ ds.foldl (fun x d => 16 * x + hexV d) x ∧ ds.foldl (fun x d => 16 * x + hexV d) x < (x + 1) * 16 ^ ds.length := by
  induction ds with
  | nil => intro x h _; simp; omega
  | cons d ds ih =>
    intro x hx hd
    have h1 := hexV_range (hd d List.mem_cons_self)
    obtain ⟨i1, i2⟩ := ih (16 * x + hexV d) (by omega) (fun y hy => hd y (List.mem_cons_of_mem _ hy))
    rw [List.foldl_cons, List.length_cons]
    refine ⟨i1, Int.lt_of_lt_of_le i2 ?_⟩
    have e : (16 : Int) ^ (ds.length + 1) = 16 * 16 ^ ds.length := by rw [Int.pow_succ, Int.mul_comm]
    rw [e, ← Int.mul_assoc]
    exact Int.mul_le_mul_of_nonneg_right (by omega) (Int.pow_nonneg (by decide))
theorem takeWhile_all {p : Int → Bool} (l : List Int) : ∀ x ∈ l.takeWhile p, p x = true := by
  induction l with
  | nil => simp
  | cons a l ih =>
    intro x hx
    rw [List.takeWhile_cons] at hx
    split at hx
    · rcases List.mem_cons.1 hx with rfl | hx
      · assumption
      · exact ih x hx
    · simp at hx
theorem textAt_run (p : Int → Bool) (L : List Int) (i : Nat) : textAt L i (runFrom p L i) = (L.drop i).takeWhile p := by
  unfold textAt runFrom
  rw [Nat.add_sub_cancel_left]
  have h := (List.takeWhile_prefix p (l := L.drop i))
  exact (List.prefix_iff_eq_take.1 h).symm
theorem hexVal_range (L : List Int) (i : Nat) (h : runFrom hexB L i - i ≤ 6) : 0 ≤ hexVal (textAt L i (runFrom hexB L i)) ∧ hexVal (textAt L i (runFrom hexB L i)) < 16777216 := by
  rw [textAt_run]
  obtain ⟨h1, h2⟩ := hexFold_range ((L.drop i).takeWhile hexB) 0 (Int.le_refl _) (takeWhile_all _)
  refine ⟨h1, Int.lt_of_lt_of_le h2 ?_⟩
  have hl : ((L.drop i).takeWhile hexB).length ≤ 6 := by unfold runFrom at h; omega
  generalize ((L.drop i).takeWhile hexB).length = k at hl
  have : k = 0 ∨ k = 1 ∨ k = 2 ∨ k = 3 ∨ k = 4 ∨ k = 5 ∨ k = 6 := by omega
  rcases this with rfl | rfl | rfl | rfl | rfl | rfl | rfl <;> decide
theorem hexP_ok {L : List Int} {i j : Nat} {x : Int} (h : hexP L i = .ok (x, j)) : i < j ∧ 0 ≤ x ∧ x ≤ 1114111 := by
  unfold hexP at h
  cases h1 : needP L (i + 1) 123 with
  | error e => rw [h1] at h; cases h
  | ok a =>
    rw [h1] at h
    simp only at h
    split at h
    · cases h
    · rename_i hn
      rw [not_or] at hn
      have ha := (needP_ok h1).1
      cases h2 : needP L (runFrom hexB L a) 125 with
      | error e => rw [h2] at h; cases h
      | ok b =>
        rw [h2] at h
        simp only at h
        have hb := (needP_ok h2).1
        have := runFrom_ge hexB L a
        have hr := hexVal_range L a (by omega)
        split at h
        · cases h
        · injection h with h
          injection h with h3 h4
          omega
theorem charP_ok {L : List Int} (hL : RunesOk L) {i j : Nat} {x : Int} (h : charP L i = .ok (x, j)) : i < j ∧ 0 ≤ x ∧ x ≤ 1114111 := by
  unfold charP at h
  split at h
  · rename_i hp
    injection h with h
    injection h with h1 h2
    have : pk L i ≠ -1 := fun e => by rw [e] at hp; exact absurd hp (by decide)
    have := pk_nonneg hL this
    omega
  · split at h
    · cases h
    · split at h
      · injection h with h; injection h with h1 h2; omega
      · split at h
        · injection h with h; injection h with h1 h2; omega
        · split at h
          · have := hexP_ok h; omega
          · split at h
            · cases h
            · rename_i hn
              rw [not_or] at hn
              injection h with h
              injection h with h1 h2
              have := pk_range hL (i + 1)
              omega
theorem spanP_ok {L : List Int} (hL : RunesOk L) {i j : Nat} {x : Int × Int} (h : spanP L i = .ok (x, j)) : i < j ∧ 0 ≤ x.1 ∧ x.1 ≤ x.2 ∧ x.2 ≤ 1114111 := by
  unfold spanP at h
  cases h1 : charP L i with
  | error e => rw [h1] at h; cases h
  | ok p =>
    obtain ⟨low, a⟩ := p
    rw [h1] at h
    have ha := charP_ok hL h1
    simp only at h
    split at h
    · cases h2 : charP L (a + 1) with
      | error e => rw [h2] at h; cases h
      | ok q =>
        obtain ⟨high, b⟩ := q
        rw [h2] at h
        have hb := charP_ok hL h2
        simp only at h
        split at h
        · cases h
        · injection h with h
          injection h with h3 h4
          subst h3
          simp only
          omega
    · injection h with h
      injection h with h3 h4
      subst h3
      simp only
      omega
theorem right_one {x : Int × Int} (h : 0 ≤ x.1 ∧ x.1 ≤ x.2 ∧ x.2 ≤ 1114111) : RightSet [x] := ⟨by simp, by simpa using h, List.pairwise_singleton _ _⟩
theorem right_nil : RightSet [] := ⟨Nat.zero_le _, by simp, List.Pairwise.nil⟩
theorem class_right {n : List Int} {s : Spans} (h : classOf n = some s) : RightSet s := by
  have key : ∀ s : Spans, wrongP s = 0 → RightSet s := fun _ => right_set
  unfold classOf at h
  repeat' (split at h)
  all_goals first | (injection h with h; subst h; exact key _ (by decide)) | cases h
theorem classP_ok {L : List Int} {i j : Nat} {s : Spans} (h : classP L i = .ok (s, j)) : i < j ∧ RightSet s := by
  unfold classP at h
  cases h0 : classOf (textAt L (i + 2) (runFrom plainB L (i + 2))) with
  | none => rw [h0] at h; cases h
  | some t =>
    rw [h0] at h
    simp only at h
    cases h1 : needP L (runFrom plainB L (i + 2)) 58 with
    | error e => rw [h1] at h; cases h
    | ok a =>
      rw [h1] at h
      simp only at h
      cases h2 : needP L a 93 with
      | error e => rw [h2] at h; cases h
      | ok b =>
        rw [h2] at h
        simp only at h
        injection h with h
        injection h with h3 h4
        subst h3
        have := runFrom_ge plainB L (i + 2)
        have := (needP_ok h1).1
        have := (needP_ok h2).1
        exact ⟨by omega, class_right h0⟩
/-- A reader of sets goes on, and reads right ones. -/
def InnerOk (inner : Nat → Rdg Spans) : Prop := ∀ i s j, inner i = .ok (s, j) → i < j ∧ RightSet s
theorem partP_ok {inner : Nat → Rdg Spans} (hi : InnerOk inner) {L : List Int} (hL : RunesOk L) {i j : Nat} {s : Spans} (h : partP' inner L i = .ok (s, j)) : i < j ∧ RightSet s := by
  unfold partP' at h
  split at h
  · exact classP_ok h
  · split at h
    · exact hi _ _ _ h
    · split at h
      · have := hi _ _ _ h
        have h2 := skipP_ge L (i + 1)
        exact ⟨by omega, this.2⟩
      · cases h1 : spanP L i with
        | error e => rw [h1] at h; cases h
        | ok p =>
          obtain ⟨x, a⟩ := p
          rw [h1] at h
          simp only at h
          injection h with h
          injection h with h3 h4
          subst h3
          have := spanP_ok hL h1
          exact ⟨by omega, right_one this.2⟩
theorem op_set_right (op : Int) {a b : Spans} (ha : RightSet a) (hb : RightSet b) : RightSet (opP op a b).1 := op_right op ha hb
theorem partsP_ok {inner : Nat → Rdg Spans} (hi : InnerOk inner) {L : List Int} (hL : RunesOk L) : ∀ (f i j : Nat) (cur s : Spans), RightSet cur → partsP inner L f i cur = .ok (s, j) → i < j ∧ RightSet s := by
  intro f
  induction f with
  | zero => intro i j cur s _ h; unfold partsP at h; cases h
  | succ f ih =>
    intro i j cur s hc h
    rw [partsP] at h
    have h0 := skipP_ge L i
    split at h
    · injection h with h
      injection h with h3 h4
      subst h3
      exact ⟨by omega, hc⟩
    · cases h1 : partP' inner L (skipP L i) with
      | error e => rw [h1] at h; cases h
      | ok p =>
        obtain ⟨t, a⟩ := p
        rw [h1] at h
        simp only at h
        have hp := partP_ok hi hL h1
        split at h
        · cases h
        · have := ih _ _ _ _ (op_right _ hc hp.2) h
          exact ⟨by omega, this.2⟩
theorem setP_ok {L : List Int} (hL : RunesOk L) : ∀ n, InnerOk (setP' L n) := by
  intro n
  induction n with
  | zero => intro i s j h; unfold setP' at h; cases h
  | succ n ih =>
    intro i s j h
    rw [setP'] at h
    cases h1 : needP L i 91 with
    | error e => rw [h1] at h; cases h
    | ok a =>
      rw [h1] at h
      simp only at h
      have ha := (needP_ok h1).1
      cases h2 : partsP (setP' L n) L (L.length + 1) (if pk L a = 94 then a + 1 else a) [] with
      | error e => rw [h2] at h; cases h
      | ok p =>
        obtain ⟨cur, k⟩ := p
        rw [h2] at h
        simp only at h
        obtain ⟨g1, g2⟩ := partsP_ok ih hL _ _ _ _ _ right_nil h2
        have hk : i < k := by split at g1 <;> omega
        split at h
        · split at h
          · cases h
          · injection h with h
            injection h with h3 h4
            subst h3 h4
            exact ⟨hk, op_right _ g2 right_nil⟩
        · injection h with h
          injection h with h3 h4
          subst h3 h4
          exact ⟨hk, g2⟩
/-- One round of the parts. -/
theorem partsP_end {inner : Nat → Rdg Spans} {L : List Int} {f i : Nat} {cur : Spans} (h : pk L (skipP L i) = 93) : partsP inner L (f + 1) i cur = .ok (cur, skipP L i + 1) := by rw [partsP, if_pos h]
theorem partsP_err {inner : Nat → Rdg Spans} {L : List Int} {f i : Nat} {cur : Spans} {e : Int × Nat} (h : pk L (skipP L i) ≠ 93) (he : partP' inner L (skipP L i) = .error e) : partsP inner L (f + 1) i cur = .error e := by rw [partsP, if_neg h, he]
theorem partsP_step {inner : Nat → Rdg Spans} {L : List Int} {f i j : Nat} {cur s : Spans} (h : pk L (skipP L i) ≠ 93) (he : partP' inner L (skipP L i) = .ok (s, j)) :
    partsP inner L (f + 1) i cur = if (opP (opOf (pk L (skipP L i))) cur s).2 ≠ 0 then .error ((opP (opOf (pk L (skipP L i))) cur s).2, j) else partsP inner L f j (opP (opOf (pk L (skipP L i))) cur s).1 := by rw [partsP, if_neg h, he]

end Go.Proofs.YthnhbcohfoodlaaGreatDoor
