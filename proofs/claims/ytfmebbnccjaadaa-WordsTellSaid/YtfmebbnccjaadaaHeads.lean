/- The heads of rules, plain: edges, what stands between them, heads; that heads cover all runes, none twice, and tell of each rune the rules that may begin with it. -/
import Derived.Test.YtfmebbnccjaadaaBegin
namespace Go.Proofs.Ytfmebbnccjaadaa
open Go.RowKit

/-- The edges of a set, of rules. -/
def edgesS (s : Spans) : List Int := s.flatMap fun x => [x.1, x.2 + 1]
def edgesL (l : List RuleD) : List Int := l.flatMap fun r => edgesS (firstSet r)
/-- An edge put where it belongs. -/
def putP (E : List Int) (r : Int) : List Int :=
  if 1114111 < r ∨ r ∈ E then E else E.takeWhile (fun x => decide (x < r)) ++ r :: E.dropWhile (fun x => decide (x < r))
def edgeP (l : List RuleD) : List Int := (edgesL l).foldl putP [0]

theorem rising_split {E : List Int} (h : E.Pairwise (· < ·)) (r : Int) : (∀ x ∈ E.takeWhile (fun x => decide (x < r)), x < r) ∧ (∀ x ∈ E.dropWhile (fun x => decide (x < r)), r ≤ x) := by
  induction E with
  | nil => simp
  | cons a E ih =>
    rw [List.pairwise_cons] at h
    obtain ⟨g1, g2⟩ := ih h.2
    by_cases ha : a < r
    · simp only [List.takeWhile_cons, List.dropWhile_cons, ha, decide_true, if_true]
      exact ⟨fun x hx => by rcases List.mem_cons.1 hx with rfl | hx; exact ha; exact g1 x hx, g2⟩
    · simp only [List.takeWhile_cons, List.dropWhile_cons, ha, decide_false, Bool.false_eq_true, if_false]
      refine ⟨by simp, fun x hx => ?_⟩
      rcases List.mem_cons.1 hx with rfl | hx
      · omega
      · have := h.1 x hx; omega
theorem putP_mem (E : List Int) (r x : Int) : x ∈ putP E r ↔ x ∈ E ∨ (x = r ∧ r ≤ 1114111) := by
  unfold putP
  split
  · rename_i h
    constructor
    · exact .inl
    · rintro (h2 | ⟨rfl, h2⟩)
      · exact h2
      · rcases h with h | h
        · omega
        · exact h
  · rename_i h
    rw [not_or] at h
    have : x ∈ E ↔ x ∈ E.takeWhile (fun x => decide (x < r)) ∨ x ∈ E.dropWhile (fun x => decide (x < r)) := by
      conv => lhs; rw [← List.takeWhile_append_dropWhile (p := fun x => decide (x < r)) (l := E)]
      rw [List.mem_append]
    rw [List.mem_append, List.mem_cons, this]
    constructor
    · rintro (h1 | rfl | h1)
      · exact .inl (.inl h1)
      · exact .inr ⟨rfl, by omega⟩
      · exact .inl (.inr h1)
    · rintro ((h1 | h1) | ⟨rfl, _⟩)
      · exact .inl h1
      · exact .inr (.inr h1)
      · exact .inr (.inl rfl)
theorem putP_rise {E : List Int} (h : E.Pairwise (· < ·)) (r : Int) : (putP E r).Pairwise (· < ·) := by
  unfold putP
  split
  · exact h
  · rename_i hn
    rw [not_or] at hn
    obtain ⟨g1, g2⟩ := rising_split h r
    have hs := h
    rw [← List.takeWhile_append_dropWhile (p := fun x => decide (x < r)) (l := E), List.pairwise_append] at hs
    rw [List.pairwise_append]
    refine ⟨hs.1, List.pairwise_cons.2 ⟨fun x hx => ?_, hs.2.1⟩, fun a ha b hb => ?_⟩
    · have := g2 x hx
      rcases Int.lt_or_eq_of_le this with h1 | rfl
      · exact h1
      · exact absurd ((List.dropWhile_sublist _).subset hx) hn.2
    · rcases List.mem_cons.1 hb with rfl | hb
      · exact g1 a ha
      · exact hs.2.2 a ha b hb
theorem foldPut_mem (xs : List Int) : ∀ (E : List Int) (x : Int), x ∈ xs.foldl putP E ↔ x ∈ E ∨ (x ∈ xs ∧ x ≤ 1114111) := by
  induction xs with
  | nil => intro E x; simp
  | cons a xs ih =>
    intro E x
    rw [List.foldl_cons, ih, putP_mem]
    constructor
    · rintro ((h | ⟨rfl, h⟩) | ⟨h, h2⟩)
      · exact .inl h
      · exact .inr ⟨by simp, h⟩
      · exact .inr ⟨by simp [h], h2⟩
    · rintro (h | ⟨h, h2⟩)
      · exact .inl (.inl h)
      · rcases List.mem_cons.1 h with rfl | h
        · exact .inl (.inr ⟨rfl, h2⟩)
        · exact .inr ⟨h, h2⟩
theorem foldPut_rise (xs : List Int) : ∀ (E : List Int), E.Pairwise (· < ·) → (xs.foldl putP E).Pairwise (· < ·) := by
  induction xs with
  | nil => intro E h; exact h
  | cons a xs ih => intro E h; rw [List.foldl_cons]; exact ih _ (putP_rise h a)
theorem edgeP_mem (l : List RuleD) (x : Int) : x ∈ edgeP l ↔ x = 0 ∨ (x ∈ edgesL l ∧ x ≤ 1114111) := by
  unfold edgeP
  rw [foldPut_mem]
  simp
theorem edgeP_rise (l : List RuleD) : (edgeP l).Pairwise (· < ·) := foldPut_rise _ _ (by simp)
theorem putP_len (E : List Int) (r : Int) : E.length ≤ (putP E r).length ∧ (putP E r).length ≤ E.length + 1 := by
  unfold putP
  split
  · omega
  · have := congrArg List.length (List.takeWhile_append_dropWhile (p := fun x => decide (x < r)) (l := E))
    rw [List.length_append] at this
    rw [List.length_append, List.length_cons]
    omega
theorem foldPut_len (xs : List Int) : ∀ (E : List Int), E.length ≤ (xs.foldl putP E).length ∧ (xs.foldl putP E).length ≤ E.length + xs.length := by
  induction xs with
  | nil => intro E; simp
  | cons a xs ih => intro E; rw [List.foldl_cons, List.length_cons]; have := ih (putP E a); have := putP_len E a; omega
theorem edgesS_len (s : Spans) : (edgesS s).length = 2 * s.length := by
  induction s with
  | nil => rfl
  | cons x s ih => unfold edgesS at ih ⊢; rw [List.flatMap_cons, List.length_append, ih, List.length_cons]; simp; omega
theorem edgesL_len {l : List RuleD} (h : ∀ x ∈ l, RightSet (firstSet x)) : (edgesL l).length ≤ 400 * l.length := by
  induction l with
  | nil => simp [edgesL]
  | cons x l ih =>
    have h1 := ih (fun y hy => h y (by simp [hy]))
    have h2 := (h x (by simp)).size
    unfold edgesL at h1 ⊢
    rw [List.flatMap_cons, List.length_append, edgesS_len, List.length_cons]
    omega
theorem edgesL_mem {l : List RuleD} (h : ∀ x ∈ l, RightSet (firstSet x)) : ∀ e ∈ edgesL l, 0 ≤ e ∧ e ≤ 1114112 := by
  intro e he
  unfold edgesL at he
  obtain ⟨r, hr, he⟩ := List.mem_flatMap.1 he
  unfold edgesS at he
  obtain ⟨x, hx, he⟩ := List.mem_flatMap.1 he
  have := (h r hr).each x hx
  simp at he
  omega

/-! ### Between the edges -/
/-- The last rune ahead of the next edge. -/
def gapEnd (E : List Int) (j : Nat) : Int := match E[j + 1]? with | some y => y - 1 | none => 1114111
def setLast (acc : List HeadD) (h : Int) : List HeadD := match acc.getLast? with | some x => acc.dropLast ++ [{ x with high := h }] | none => []
def lastRules (acc : List HeadD) (b : List Int) : Bool := match acc.getLast? with | some x => x.rules == b | none => false
/-- One more edge, from low to high, of the rules b. -/
def stepH (acc : List HeadD) (low high : Int) (b : List Int) : List HeadD := if lastRules acc b = true then setLast acc high else acc ++ [⟨low, high, b⟩]
/-- The heads of the first j edges. -/
def headsUpto (l : List RuleD) (E : List Int) : Nat → List HeadD
  | 0 => []
  | j + 1 => match E[j]? with | some a => stepH (headsUpto l E j) a (gapEnd E j) (beginP l a) | none => headsUpto l E j
def headsP (l : List RuleD) (E : List Int) : List HeadD := headsUpto l E E.length

theorem setLast_snoc (acc : List HeadD) (x : HeadD) (h : Int) : setLast (acc ++ [x]) h = acc ++ [{ x with high := h }] := by
  simp [setLast]
theorem lastRules_snoc (acc : List HeadD) (x : HeadD) (b : List Int) : lastRules (acc ++ [x]) b = (x.rules == b) := by simp [lastRules]
theorem snoc_of {acc : List HeadD} (h : acc ≠ []) : ∃ i x, acc = i ++ [x] := ⟨acc.dropLast, acc.getLast h, (List.dropLast_concat_getLast h).symm⟩
theorem stepH_last (acc : List HeadD) (low high : Int) (b : List Int) : ∃ i x, stepH acc low high b = i ++ [x] ∧ x.high = high ∧ x.rules = b := by
  unfold stepH
  split
  · rename_i h
    rcases List.eq_nil_or_concat acc with rfl | ⟨i, x, rfl⟩
    · simp [lastRules] at h
    · rw [List.concat_eq_append, lastRules_snoc, beq_iff_eq] at h
      rw [List.concat_eq_append, setLast_snoc]
      exact ⟨i, _, rfl, rfl, h⟩
  · exact ⟨acc, _, rfl, rfl, rfl⟩
theorem headsUpto_succ {l : List RuleD} {E : List Int} {j : Nat} {a : Int} (h : E[j]? = some a) : headsUpto l E (j + 1) = stepH (headsUpto l E j) a (gapEnd E j) (beginP l a) := by
  rw [headsUpto, h]
theorem headsUpto_last {l : List RuleD} {E : List Int} {j : Nat} (hj : j < E.length) : ∃ i x, headsUpto l E (j + 1) = i ++ [x] ∧ x.high = gapEnd E j := by
  rw [headsUpto_succ (List.getElem?_eq_getElem hj)]
  obtain ⟨i, x, h1, h2, _⟩ := stepH_last (headsUpto l E j) E[j] (gapEnd E j) (beginP l E[j])
  exact ⟨i, x, h1, h2⟩
theorem headsUpto_len (l : List RuleD) (E : List Int) : ∀ j, (headsUpto l E j).length ≤ j := by
  intro j
  induction j with
  | zero => simp [headsUpto]
  | succ j ih =>
    rw [headsUpto]
    split
    · unfold stepH
      split
      · rcases List.eq_nil_or_concat (headsUpto l E j) with e | ⟨i, x, e⟩
        · rw [e]; simp [setLast]
        · rw [e] at ih ⊢
          rw [List.concat_eq_append] at ih ⊢
          rw [setLast_snoc]
          simp at ih ⊢
          omega
      · simp; omega
    · omega

/-- Heads from 0 on to just ahead of lo. -/
structure Cover (l : List RuleD) (acc : List HeadD) (lo : Int) : Prop where
  start : ∀ x, acc[0]? = some x → x.low = 0
  next : ∀ i x y, acc[i]? = some x → acc[i + 1]? = some y → y.low = x.high + 1 ∧ x.rules ≠ y.rules
  each : ∀ x ∈ acc, x.low ≤ x.high ∧ ∀ r, x.low ≤ r → r ≤ x.high → beginP l r = x.rules
  fin : ∀ x, acc.getLast? = some x → x.high + 1 = lo
  none : acc = [] → lo = 0
theorem Cover.nil (l : List RuleD) : Cover l [] 0 := ⟨by simp, by simp, by simp, by simp, fun _ => rfl⟩
theorem Cover.step {l : List RuleD} {acc : List HeadD} {lo hi : Int} (h : Cover l acc lo) (hlh : lo ≤ hi) (hb : ∀ r, lo ≤ r → r ≤ hi → beginP l r = beginP l lo) : Cover l (stepH acc lo hi (beginP l lo)) (hi + 1) := by
  unfold stepH
  rcases List.eq_nil_or_concat acc with rfl | ⟨i, x, rfl⟩
  · rw [if_neg (by simp [lastRules])]
    have h0 := h.none rfl
    refine ⟨?_, ?_, ?_, ?_, ?_⟩
    · intro x hx; simp at hx; subst hx; exact h0
    · intro k x y hx hy
      have := (List.getElem?_eq_some_iff.1 hy).1
      simp at this
    · intro x hx; simp at hx; subst hx; exact ⟨hlh, hb⟩
    · intro x hx; simp at hx; subst hx; rfl
    · intro e; simp at e
  · rw [List.concat_eq_append] at h ⊢
    have hfin : x.high + 1 = lo := h.fin x (by simp)
    have hx := h.each x (by simp)
    rw [lastRules_snoc]
    by_cases he : x.rules = beginP l lo
    · rw [if_pos (by rw [beq_iff_eq]; exact he), setLast_snoc]
      refine ⟨?_, ?_, ?_, ?_, ?_⟩
      · intro y hy
        cases i with
        | nil => simp at hy; subst hy; exact h.start x (by simp)
        | cons z i => simp at hy; subst hy; exact h.start z (by simp)
      · intro k y z hy hz
        have hk : k + 1 < (i ++ [x]).length := by have := (List.getElem?_eq_some_iff.1 hz).1; simpa using this
        simp at hk
        rw [List.getElem?_append_left (by omega)] at hy
        rcases Nat.lt_or_ge (k + 1) i.length with hlt | hge
        · rw [List.getElem?_append_left hlt] at hz
          exact h.next k y z (by rw [List.getElem?_append_left (by omega)]; exact hy) (by rw [List.getElem?_append_left hlt]; exact hz)
        · rw [List.getElem?_append_right hge, show k + 1 - i.length = 0 by omega] at hz
          simp at hz
          subst hz
          have := h.next k y x (by rw [List.getElem?_append_left (by omega)]; exact hy) (by rw [List.getElem?_append_right hge, show k + 1 - i.length = 0 by omega]; rfl)
          exact this
      · intro y hy
        rcases List.mem_append.1 hy with hy | hy
        · exact h.each y (by simp [hy])
        · simp at hy
          subst hy
          refine ⟨show x.low ≤ hi by omega, fun r h1 h2 => ?_⟩
          show beginP l r = x.rules
          rcases Int.lt_or_le r lo with h3 | h3
          · exact hx.2 r h1 (by omega)
          · rw [he]; exact hb r h3 h2
      · intro y hy; simp at hy; subst hy; rfl
      · intro e; simp at e
    · rw [if_neg (by rw [beq_iff_eq]; exact he)]
      refine ⟨?_, ?_, ?_, ?_, ?_⟩
      · intro y hy
        rw [List.getElem?_append_left (by simp)] at hy
        exact h.start y hy
      · intro k y z hy hz
        have hk : k + 1 < ((i ++ [x]) ++ [(⟨lo, hi, beginP l lo⟩ : HeadD)]).length := (List.getElem?_eq_some_iff.1 hz).1
        rw [List.length_append, List.length_singleton] at hk
        rw [List.getElem?_append_left (by omega)] at hy
        rcases Nat.lt_or_ge (k + 1) (i ++ [x]).length with hlt | hge
        · rw [List.getElem?_append_left hlt] at hz
          exact h.next k y z hy hz
        · rw [List.getElem?_append_right hge, show k + 1 - (i ++ [x]).length = 0 by omega] at hz
          simp at hz
          subst hz
          have hkk : k = i.length := by simp at hk hge; omega
          rw [hkk] at hy
          simp at hy
          subst hy
          exact ⟨hfin.symm, he⟩
      · intro y hy
        rcases List.mem_append.1 hy with hy | hy
        · exact h.each y hy
        · simp at hy
          subst hy
          exact ⟨hlh, hb⟩
      · intro y hy; simp at hy; subst hy; rfl
      · intro e; simp at e

/-! ### Of a rune between two edges nothing changes -/
theorem hasP_const {s : Spans} {a r : Int} (har : a ≤ r) (h : ∀ e ∈ edgesS s, ¬ (a < e ∧ e ≤ r)) : hasP s r = hasP s a := by
  unfold hasP
  induction s with
  | nil => rfl
  | cons x s ih =>
    have h1 := h x.1 (by simp [edgesS])
    have h2 := h (x.2 + 1) (by simp [edgesS])
    have hs := ih (fun e he => h e (by unfold edgesS at he ⊢; rw [List.flatMap_cons]; exact List.mem_append_right _ he))
    rw [List.any_cons, List.any_cons, hs]
    congr 1
    rw [Bool.eq_iff_iff]
    simp only [Bool.and_eq_true, decide_eq_true_eq]
    omega
theorem beginP_const {l : List RuleD} {a r : Int} (har : a ≤ r) (h : ∀ e ∈ edgesL l, ¬ (a < e ∧ e ≤ r)) : beginP l r = beginP l a := by
  have hm : ∀ i, mayB l r i = mayB l a i := by
    intro i
    unfold mayB
    cases hi : l[i]? with
    | none => rfl
    | some x =>
      refine hasP_const har (fun e he => h e ?_)
      unfold edgesL
      exact List.mem_flatMap.2 ⟨x, List.mem_of_getElem? hi, he⟩
  unfold beginP beginUpto
  rw [show mayB l r = mayB l a from funext hm]
theorem rise_at {E : List Int} (h : E.Pairwise (· < ·)) {i j : Nat} {x y : Int} (hx : E[i]? = some x) (hy : E[j]? = some y) (hij : i < j) : x < y := by
  obtain ⟨hi, rfl⟩ := List.getElem?_eq_some_iff.1 hx
  obtain ⟨hj, rfl⟩ := List.getElem?_eq_some_iff.1 hy
  exact List.pairwise_iff_getElem.1 h i j hi hj hij
/-- No edge lies within a gap. -/
theorem gap_free {l : List RuleD} {j : Nat} {a : Int} (hj : (edgeP l)[j]? = some a) : ∀ r, a ≤ r → r ≤ gapEnd (edgeP l) j → ∀ e ∈ edgesL l, ¬ (a < e ∧ e ≤ r) := by
  intro r h1 h2 e he ⟨h3, h4⟩
  have hrise := edgeP_rise l
  by_cases hm : e ≤ 1114111
  · obtain ⟨k, hk⟩ := List.mem_iff_getElem?.1 ((edgeP_mem l e).2 (.inr ⟨he, hm⟩))
    have hjk : j < k := by
      rcases Nat.lt_or_ge j k with h | h
      · exact h
      · rcases Nat.lt_or_ge k j with h' | h'
        · have := rise_at hrise hk hj h'; omega
        · obtain rfl : j = k := by omega
          rw [hk] at hj; injection hj; omega
    obtain ⟨y, hy⟩ : ∃ y, (edgeP l)[j + 1]? = some y := ⟨_, List.getElem?_eq_getElem (by have := (List.getElem?_eq_some_iff.1 hk).1; omega)⟩
    unfold gapEnd at h2
    rw [hy] at h2
    simp only at h2
    rcases Nat.lt_or_ge (j + 1) k with h | h
    · have := rise_at hrise hy hk h; omega
    · obtain rfl : k = j + 1 := by omega
      rw [hy] at hk; injection hk; omega
  · unfold gapEnd at h2
    split at h2
    · rename_i y hy
      have := (edgeP_mem l y).1 (List.mem_of_getElem? hy)
      omega
    · omega
theorem edgeP_zero {l : List RuleD} (h : ∀ x ∈ l, RightSet (firstSet x)) : (edgeP l)[0]? = some 0 := by
  obtain ⟨k, hk⟩ := List.mem_iff_getElem?.1 ((edgeP_mem l 0).2 (.inl rfl))
  obtain ⟨y, hy⟩ : ∃ y, (edgeP l)[0]? = some y := ⟨_, List.getElem?_eq_getElem (by have := (List.getElem?_eq_some_iff.1 hk).1; omega)⟩
  have h0 : 0 ≤ y := by
    rcases (edgeP_mem l y).1 (List.mem_of_getElem? hy) with rfl | ⟨h1, _⟩
    · exact Int.le_refl _
    · exact (edgesL_mem h y h1).1
  rcases Nat.eq_zero_or_pos k with rfl | hk0
  · exact hk
  · have := rise_at (edgeP_rise l) hy hk hk0
    omega
theorem cover_upto {l : List RuleD} (h : ∀ x ∈ l, RightSet (firstSet x)) : ∀ j, j ≤ (edgeP l).length → Cover l (headsUpto l (edgeP l) j) ((edgeP l)[j]?.getD 1114112) := by
  intro j
  induction j with
  | zero => intro _; rw [edgeP_zero h]; exact Cover.nil l
  | succ j ih =>
    intro hj
    have h1 := ih (by omega)
    have hj2 : j < (edgeP l).length := by omega
    have hja := List.getElem?_eq_getElem hj2
    rw [hja] at h1
    rw [headsUpto_succ hja]
    have hg : (edgeP l)[j + 1]?.getD 1114112 = gapEnd (edgeP l) j + 1 := by
      unfold gapEnd
      cases (edgeP l)[j + 1]? with
      | none => rfl
      | some y => simp
    rw [hg]
    refine Cover.step h1 ?_ (fun r h2 h3 => beginP_const h2 (gap_free hja r h2 h3))
    unfold gapEnd
    split
    · rename_i y hy
      have := rise_at (edgeP_rise l) hja hy (Nat.lt_succ_self j)
      show (edgeP l)[j] ≤ y - 1
      omega
    · rcases (edgeP_mem l _).1 (List.mem_of_getElem? hja) with e | ⟨_, e⟩
      · show (edgeP l)[j] ≤ 1114111
        rw [e]; decide
      · exact e
theorem cover_all {l : List RuleD} (h : ∀ x ∈ l, RightSet (firstSet x)) : Cover l (headsP l (edgeP l)) 1114112 := by
  have := cover_upto h _ (Nat.le_refl _)
  rw [List.getElem?_eq_none (Nat.le_refl _)] at this
  exact this
def Rises (hs : List HeadD) : Prop := ∀ (i j : Nat) (x y : HeadD), i ≤ j → hs[i]? = some x → hs[j]? = some y → x.high ≤ y.high
def foundAt (hs : List HeadD) (r : Int) (k : Nat) : List Int := match hs[k]? with | some x => if r < x.low then [] else x.rules | none => []

theorem Cover.rise {l : List RuleD} {hs : List HeadD} {lo : Int} (h : Cover l hs lo) : ∀ (d i : Nat) (x y : HeadD), hs[i]? = some x → hs[i + d]? = some y → x.high ≤ y.high ∧ (0 < d → x.high < y.low) := by
  intro d
  induction d with
  | zero => intro i x y hx hy; rw [Nat.add_zero, hx] at hy; cases hy; exact ⟨Int.le_refl _, fun h => absurd h (Nat.lt_irrefl 0)⟩
  | succ d ih =>
    intro i x y hx hy
    obtain ⟨z, hz⟩ : ∃ z, hs[i + d]? = some z := ⟨_, List.getElem?_eq_getElem (by have := (List.getElem?_eq_some_iff.1 hy).1; omega)⟩
    have h1 := ih i x z hx hz
    have h2 := (h.next (i + d) z y hz hy).1
    have h3 := (h.each y (List.mem_of_getElem? hy)).1
    omega
theorem Cover.rises {l : List RuleD} {hs : List HeadD} {lo : Int} (h : Cover l hs lo) : Rises hs := by
  intro i j x y hij hx hy
  obtain ⟨d, rfl⟩ : ∃ d, j = i + d := ⟨j - i, by omega⟩
  exact (h.rise d i x y hx hy).1
theorem Cover.found {l : List RuleD} {hs : List HeadD} (h : Cover l hs 1114112) {r : Int} {k : Nat} (h1 : ∀ t x, t < k → hs[t]? = some x → x.high < r) (h2 : ∀ t x, k ≤ t → hs[t]? = some x → r ≤ x.high) :
    (0 ≤ r → r ≤ 1114111 → foundAt hs r k = beginP l r) ∧ (r < 0 ∨ 1114111 < r → foundAt hs r k = []) := by
  have hne : hs ≠ [] := fun e => absurd (h.none e) (by decide)
  have hlast : ∀ x, hs.getLast? = some x → x.high = 1114111 := fun x hx => by have := h.fin x hx; omega
  have hlen := List.length_pos_iff.2 hne
  obtain ⟨z, hz⟩ : ∃ z, hs[hs.length - 1]? = some z := ⟨_, List.getElem?_eq_getElem (by omega)⟩
  have hzl : z.high = 1114111 := hlast z (by rw [List.getLast?_eq_getElem?]; exact hz)
  have hlow : ∀ (k : Nat) (x : HeadD), hs[k]? = some x → 0 ≤ x.low ∧ x.high ≤ 1114111 := by
    intro k x hx
    obtain ⟨x0, hx0⟩ : ∃ z, hs[0]? = some z := ⟨_, List.getElem?_eq_getElem (by omega)⟩
    have h0 := h.start x0 hx0
    have h00 := (h.each x0 (List.mem_of_getElem? hx0)).1
    have hk := (List.getElem?_eq_some_iff.1 hx).1
    have ha := h.rise k 0 x0 x hx0 (by rw [Nat.zero_add]; exact hx)
    have hb := h.rise (hs.length - 1 - k) k x z hx (by rw [show k + (hs.length - 1 - k) = hs.length - 1 by omega]; exact hz)
    refine ⟨?_, by omega⟩
    rcases Nat.eq_zero_or_pos k with rfl | hk0
    · rw [hx0] at hx; cases hx; omega
    · have := ha.2 hk0; omega
  refine ⟨fun hr0 hr1 => ?_, fun hr => ?_⟩
  · have hk : k < hs.length := by
      rcases Nat.lt_or_ge k hs.length with hlt | hge
      · exact hlt
      · have := h1 (hs.length - 1) z (by omega) hz
        omega
    obtain ⟨x, hx⟩ : ∃ z, hs[k]? = some z := ⟨_, List.getElem?_eq_getElem hk⟩
    have hrx := h2 k x (Nat.le_refl _) hx
    have hlx : x.low ≤ r := by
      cases k with
      | zero => rw [h.start x hx]; exact hr0
      | succ k =>
        obtain ⟨y, hy⟩ : ∃ z, hs[k]? = some z := ⟨_, List.getElem?_eq_getElem (by omega)⟩
        have := (h.next k y x hy hx).1
        have := h1 k y (by omega) hy
        omega
    unfold foundAt
    rw [hx]
    simp only
    rw [if_neg (by omega)]
    exact ((h.each x (List.mem_of_getElem? hx)).2 r hlx hrx).symm
  · unfold foundAt
    cases hx : hs[k]? with
    | none => rfl
    | some x =>
      have h3 := hlow k x hx
      have h4 := h2 k x (Nat.le_refl _) hx
      simp only
      rw [if_pos (by omega)]
theorem begin_len (l : List RuleD) (r : Int) : (beginP l r).length ≤ l.length := beginUpto_len l r _
theorem Cover.small {l : List RuleD} {hs : List HeadD} {lo : Int} (h : Cover l hs lo) (hl : l.length ≤ 200) : ∀ x ∈ hs, x.rules.length ≤ 200 := by
  intro x hx
  have := h.each x hx
  rw [← this.2 x.low (Int.le_refl _) this.1]
  have := begin_len l x.low
  omega

/-- Of a rune the head that is found tells just the rules that may begin with it. -/
theorem Cover.head {l : List RuleD} {hs : List HeadD} (h : Cover l hs 1114112) {r : Int} {k : Nat} (h1 : ∀ t x, t < k → hs[t]? = some x → x.high < r) (h2 : ∀ t x, k ≤ t → hs[t]? = some x → r ≤ x.high) (h0 : 0 ≤ r) (hm : r ≤ 1114111) :
    ∃ x, hs[k]? = some x ∧ x.rules = beginP l r := by
  have hne : hs ≠ [] := fun e => absurd (h.none e) (by decide)
  have hlen := List.length_pos_iff.2 hne
  obtain ⟨z, hz⟩ : ∃ z, hs[hs.length - 1]? = some z := ⟨_, List.getElem?_eq_getElem (by omega)⟩
  have hzl := h.fin z (by rw [List.getLast?_eq_getElem?]; exact hz)
  have hk : k < hs.length := by
    rcases Nat.lt_or_ge k hs.length with hlt | hge
    · exact hlt
    · have := h1 (hs.length - 1) z (by omega) hz
      omega
  obtain ⟨x, hx⟩ : ∃ z, hs[k]? = some z := ⟨_, List.getElem?_eq_getElem hk⟩
  have hf := (h.found h1 h2).1 h0 hm
  have hrx := h2 k x (Nat.le_refl _) hx
  have hlx : x.low ≤ r := by
    cases k with
    | zero => rw [h.start x hx]; exact h0
    | succ k =>
      obtain ⟨y, hy⟩ : ∃ z, hs[k]? = some z := ⟨_, List.getElem?_eq_getElem (by omega)⟩
      have := (h.next k y x hy hx).1
      have := h1 k y (by omega) hy
      omega
  exact ⟨x, hx, ((h.each x (List.mem_of_getElem? hx)).2 r hlx hrx).symm⟩
/-- What Compile tells: heads, and what is wrong. -/
def compP (l : List RuleD) : List HeadD × (Int × Int) :=
  if (rulesW l).1 ≠ 0 then ([], rulesW l) else if 400 < (headsP l (edgeP l)).length then ([], (5, 0)) else (headsP l (edgeP l), (0, 0))

/-- What compP tells where nothing is wrong. -/
theorem comp_ok {l : List RuleD} (h : (compP l).2.1 = 0) : (compP l).1 = headsP l (edgeP l) ∧ RightRules l ∧ (compP l).1.length ≤ 400 := by
  unfold compP at h ⊢
  by_cases h1 : (rulesW l).1 = 0
  · rw [if_neg (by rw [h1]; decide)] at h ⊢
    by_cases h2 : 400 < (headsP l (edgeP l)).length
    · rw [if_pos h2] at h; cases h
    · rw [if_neg h2]
      exact ⟨rfl, right_rules h1, by show (headsP l (edgeP l)).length ≤ 400; omega⟩
  · rw [if_pos h1] at h
    exact absurd h h1
theorem comp_bad {l : List RuleD} (h : (compP l).2.1 ≠ 0) : (compP l).1 = [] := by
  unfold compP at h ⊢
  by_cases h1 : (rulesW l).1 = 0
  · rw [if_neg (by rw [h1]; decide)] at h ⊢
    by_cases h2 : 400 < (headsP l (edgeP l)).length
    · rw [if_pos h2]
    · rw [if_neg h2] at h; exact absurd rfl h
  · rw [if_pos h1]
theorem comp_cover {l : List RuleD} (h : (compP l).2.1 = 0) : Cover l (compP l).1 1114112 := by
  obtain ⟨h1, h2, _⟩ := comp_ok h
  rw [h1]
  exact cover_all h2.set

end Go.Proofs.Ytfmebbnccjaadaa
