/- What came of which piece of a text, plain: links out of the steps of a run, by rules whose cursor stands behind what was put there. -/
import Derived.Test.YtfmebbnccjaadaaTrace
namespace Go.Proofs.Ytfmebbnccjaadaa
open Go.RowKit

structure LinkD where
  src : Int
  upto : Int
  beg : Int
  fin : Int
  rule : Int
def linkCells (l : List LinkD) : List Value := l.flatMap fun k => [.int .i64 k.src, .int .i64 k.upto, .int .i64 k.beg, .int .i64 k.fin, .int .i64 k.rule]
theorem linkCells_length (l : List LinkD) : (linkCells l).length = l.length * 5 := by
  induction l with
  | nil => rfl
  | cons x l ih => simp only [linkCells, List.flatMap_cons] at ih ⊢; simp [ih]; omega
theorem linkCells_append (a b : List LinkD) : linkCells (a ++ b) = linkCells a ++ linkCells b := by simp [linkCells]
def sureP (l : List RuleD) : Bool := l.all fun r => r.cursor == (r.target.length : Int)
/-- Of one step: the link, from a place of the text on. -/
def linkOf (l : List RuleD) (src : Nat) (at_ k : Int) : LinkD :=
  match (if k < 0 then none else l[k.toNat]?) with
  | none => ⟨src, (src : Int) + 1, at_, at_ + 1, -1⟩
  | some r => ⟨src, (src : Int) + r.source.length, at_, at_ + r.target.length, k⟩
def stepLen (l : List RuleD) (k : Int) : Nat :=
  match (if k < 0 then none else l[k.toNat]?) with
  | none => 1
  | some r => r.source.length
def linksGo (l : List RuleD) : Nat → List (Int × Int) → List LinkD
  | _, [] => []
  | src, (a, k) :: tr => linkOf l src a k :: linksGo l (src + stepLen l k) tr
/-- How far the text has been read after some steps. -/
def lenGo (l : List RuleD) : List (Int × Int) → Nat
  | [] => 0
  | (_, k) :: tr => stepLen l k + lenGo l tr
theorem linksGo_append (l : List RuleD) : ∀ (a b : List (Int × Int)) (s : Nat), linksGo l s (a ++ b) = linksGo l s a ++ linksGo l (s + lenGo l a) b := by
  intro a
  induction a with
  | nil => intro b s; simp [linksGo, lenGo]
  | cons x a ih =>
    intro b s
    obtain ⟨p, q⟩ := x
    rw [List.cons_append, linksGo, linksGo, ih, List.cons_append, lenGo, Nat.add_assoc]
theorem lenGo_append (l : List RuleD) : ∀ (a b : List (Int × Int)), lenGo l (a ++ b) = lenGo l a + lenGo l b := by
  intro a
  induction a with
  | nil => intro b; simp [lenGo]
  | cons x a ih =>
    intro b
    obtain ⟨p, q⟩ := x
    rw [List.cons_append, lenGo, lenGo, ih, Nat.add_assoc]
theorem linksGo_length (l : List RuleD) : ∀ (a : List (Int × Int)) (s : Nat), (linksGo l s a).length = a.length := by
  intro a
  induction a with
  | nil => intro s; rfl
  | cons x a ih =>
    intro s
    obtain ⟨p, q⟩ := x
    rw [linksGo, List.length_cons, List.length_cons, ih]
theorem stepLen_le {l : List RuleD} (hR : ∀ r ∈ l, RightRule r) (k : Int) : stepLen l k ≤ 20 := by
  unfold stepLen
  split
  · omega
  · rename_i r hr
    split at hr
    · cases hr
    · have := ((hR r (List.mem_of_getElem? hr)).sets r.source (by simp [sidesOf])).1
      omega
theorem lenGo_le {l : List RuleD} (hR : ∀ r ∈ l, RightRule r) : ∀ (a : List (Int × Int)), lenGo l a ≤ 20 * a.length := by
  intro a
  induction a with
  | nil => simp [lenGo]
  | cons x a ih =>
    obtain ⟨p, q⟩ := x
    have := stepLen_le hR q
    rw [lenGo, List.length_cons]
    omega
/-- Each step of a trace is at a place of a short text, and its rule, if it has one, is one of the rules. -/
def GoodSteps (l : List RuleD) (tr : List (Int × Int)) : Prop := ∀ x ∈ tr, 0 ≤ x.1 ∧ x.1 ≤ 4000 ∧ (x.2 = -1 ∨ ∃ (k : Nat) (r : RuleD), x.2 = (k : Int) ∧ l[k]? = some r)
theorem trace_good {l : List RuleD} : ∀ (left : Nat) (done rest : List Int) (s p : Nat), done.length + rest.length ≤ 4000 → (runGo l left done rest s p).2 = 0 → GoodSteps l (traceGo l left done rest) := by
  intro left
  induction left with
  | zero =>
    intro done rest s p _ _
    cases rest with
    | nil => rw [traceGo_nil]; intro x hx; cases hx
    | cons z rest => intro x hx; simp [traceGo] at hx
  | succ left ih =>
    intro done rest s p hlen h0
    cases rest with
    | nil => rw [traceGo_nil]; intro x hx; cases hx
    | cons z rest =>
      rw [List.length_cons] at hlen
      rcases whichP_range l (done ++ z :: rest) done.length with hwh | ⟨k, r, hwh, hk, hhere⟩
      · rw [runGo_none hwh] at h0
        rw [traceGo_none hwh]
        intro x hx
        rcases List.mem_cons.1 hx with rfl | hx
        · exact ⟨by simp, by simp; omega, .inl rfl⟩
        · exact ih _ _ _ _ (by rw [List.length_append, List.length_singleton]; omega) h0 x hx
      · by_cases hmu : 4000 < done.length + (r.target ++ (z :: rest).drop r.source.length).length
        · rw [runGo_much hwh hk hmu] at h0; cases h0
        · rw [runGo_rule hwh hk hmu] at h0
          rw [traceGo_rule hwh hk]
          intro x hx
          rcases List.mem_cons.1 hx with rfl | hx
          · exact ⟨by simp, by simp; omega, .inr ⟨k, r, rfl, hk⟩⟩
          · refine ih _ _ _ _ ?_ h0 x hx
            rw [List.length_append, List.length_take, List.length_drop]
            omega
theorem okOut_zero {o : OutD × Int} (h : (okOut o).2.1 = 0) : o.2 = 0 := by
  unfold okOut at h
  by_cases h2 : o.2 = 0
  · exact h2
  · rw [if_pos h2] at h; exact absurd h h2
theorem playP_ok {l : List RuleD} {t : List Int} (h : (playP l t).2.1 = 0) : (rulesW l).1 = 0 ∧ textP t = 0 ∧ (compP l).2.1 = 0 ∧ (runGo l (8 * t.length + 40) [] t 0 0).2 = 0 := by
  unfold playP at h
  by_cases h1 : (rulesW l).1 = 0
  · rw [if_neg (fun h => h h1)] at h
    by_cases h2 : textP t = 0
    · rw [if_neg (fun h => h h2)] at h
      by_cases h3 : (compP l).2.1 = 0
      · rw [if_neg (fun h => h h3)] at h
        exact ⟨h1, h2, h3, okOut_zero h⟩
      · rw [if_pos h3] at h; exact absurd h h3
    · rw [if_pos h2] at h; exact absurd h h2
  · rw [if_pos h1] at h; exact absurd h h1
theorem textP_len {t : List Int} (h : textP t = 0) : t.length ≤ 4000 ∧ Runes t := by
  unfold textP at h
  by_cases h4 : 4000 < t.length
  · rw [if_pos h4] at h; cases h
  · rw [if_neg h4] at h
    refine ⟨by omega, runes_of ?_⟩
    cases hb : badRune t
    · rfl
    · rw [hb] at h; cases h
theorem traceP_good {l : List RuleD} {t : List Int} (h : (playP l t).2.1 = 0) : GoodSteps l (traceP l t) := by
  obtain ⟨_, h2, _, h4⟩ := playP_ok h
  exact trace_good _ _ _ 0 0 (by have := (textP_len h2).1; simpa using this) h4
/-- What Links tells. -/
def alignP (l : List RuleD) (t : List Int) : List LinkD × (Int × Int) :=
  if (playP l t).2.1 ≠ 0 then ([], (playP l t).2) else if sureP l = false then ([], (8, 0)) else (linksGo l 0 (traceP l t), (0, 0))

end Go.Proofs.Ytfmebbnccjaadaa
