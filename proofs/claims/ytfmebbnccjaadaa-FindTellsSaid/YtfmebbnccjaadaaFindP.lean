/- What is found in what came of a text, plain: findP; the links of a run stand one behind the other. -/
import Derived.Test.YtfmebbnccjaadaaAlignP
import Derived.Test.YtfmebbnccjaadaaRefLinks
namespace Go.Proofs.Ytfmebbnccjaadaa
open Go.RowKit

/-- From b on to e the links stand one behind the other. -/
def chainL : List LinkD → Int → Int → Prop
  | [], b, e => b = e
  | x :: L, b, e => x.beg = b ∧ b ≤ x.fin ∧ chainL L x.fin e
theorem chain_run {l : List RuleD} (hs : sureP l = true) : ∀ (left : Nat) (done rest : List Int) (s p src : Nat), (runGo l left done rest s p).2 = 0 → chainL (linksGo l src (traceGo l left done rest)) done.length ((runGo l left done rest s p).1.text.length) := by
  intro left
  induction left with
  | zero =>
    intro done rest s p src h
    cases rest with
    | nil => rw [traceGo_nil, runGo_nil]; rfl
    | cons z rest => rw [runGo_zero l done s p (by simp)] at h; cases h
  | succ left ih =>
    intro done rest s p src h
    cases rest with
    | nil => rw [traceGo_nil, runGo_nil]; rfl
    | cons z rest =>
      rcases whichP_range l (done ++ z :: rest) done.length with hwh | ⟨k, r, hwh, hk, hhere⟩
      · rw [runGo_none hwh] at h ⊢
        rw [traceGo_none hwh, linksGo]
        refine ⟨rfl, ?_, ?_⟩
        · rw [(link_none l src _).1]
          show (done.length : Int) ≤ (done.length : Int) + 1
          omega
        · have h2 := ih _ _ _ _ (src + stepLen l (-1)) h
          rw [List.length_append, List.length_singleton] at h2
          exact h2
      · by_cases hmu : 4000 < done.length + (r.target ++ (z :: rest).drop r.source.length).length
        · rw [runGo_much hwh hk hmu] at h; cases h
        · have hcu := sure_cur hs hk
          rw [runGo_rule hwh hk hmu, List.take_left' hcu.symm, List.drop_left' hcu.symm] at h ⊢
          rw [traceGo_rule hwh hk, List.take_left' hcu.symm, List.drop_left' hcu.symm, linksGo]
          have hl := (link_rule hk src (done.length : Int)).1
          refine ⟨by rw [hl], ?_, ?_⟩
          · rw [hl]
            show (done.length : Int) ≤ (done.length : Int) + r.target.length
            omega
          · have h2 := ih _ _ _ _ (src + stepLen l k) h
            rw [hl]
            rw [List.length_append] at h2
            exact_mod_cast h2
theorem chain_le : ∀ (L : List LinkD) (b e : Int), chainL L b e → b ≤ e ∧ ∀ x ∈ L, b ≤ x.beg ∧ x.beg ≤ x.fin ∧ x.fin ≤ e := by
  intro L
  induction L with
  | nil => intro b e h; exact ⟨Int.le_of_eq h, fun x hx => by cases hx⟩
  | cons y L ih =>
    intro b e h
    obtain ⟨h1, h2, h3⟩ := h
    obtain ⟨h4, h5⟩ := ih _ _ h3
    refine ⟨by omega, fun x hx => ?_⟩
    rcases List.mem_cons.1 hx with rfl | hx
    · exact ⟨by omega, by omega, by omega⟩
    · have := h5 x hx
      exact ⟨by omega, this.2.1, this.2.2⟩
theorem chain_drop : ∀ (L : List LinkD) (b e : Int) (k : Nat), chainL L b e → ∃ b', b ≤ b' ∧ chainL (L.drop k) b' e := by
  intro L
  induction L with
  | nil => intro b e k h; exact ⟨b, Int.le_refl _, by simpa using h⟩
  | cons y L ih =>
    intro b e k h
    cases k with
    | zero => exact ⟨b, Int.le_refl _, h⟩
    | succ k =>
      obtain ⟨h1, h2, h3⟩ := h
      obtain ⟨b', h4, h5⟩ := ih _ _ k h3
      exact ⟨b', by omega, h5⟩
def segI (txt : List Int) (b e : Int) : List Int := (txt.drop b.toNat).take (e - b).toNat
theorem seg_len {txt : List Int} {b e : Int} (h0 : 0 ≤ b) (h1 : b ≤ e) (h2 : e ≤ txt.length) : (segI txt b e).length = (e - b).toNat := by
  unfold segI
  rw [List.length_take, List.length_drop]
  omega
def hitOf (txt p : List Int) (x y : LinkD) : List (Int × Int) := if (segI txt x.beg y.fin == p) = true then [(x.src, y.upto)] else []
def rowH (txt p : List Int) (x : LinkD) (ys : List LinkD) : List (Int × Int) := ys.flatMap (hitOf txt p x)
def allH (txt p : List Int) : List LinkD → List (Int × Int)
  | [] => []
  | x :: ys => rowH txt p x (x :: ys) ++ allH txt p ys
theorem allH_cons (txt p : List Int) (x : LinkD) (ys : List LinkD) : allH txt p (x :: ys) = rowH txt p x (x :: ys) ++ allH txt p ys := rfl
theorem rowH_cons (txt p : List Int) (x y : LinkD) (ys : List LinkD) : rowH txt p x (y :: ys) = hitOf txt p x y ++ rowH txt p x ys := rfl
/-- Behind a link that ends too far nothing is hit. -/
theorem rowH_far {txt p : List Int} {x y : LinkD} {ys : List LinkD} {b : Int} (h0 : 0 ≤ x.beg) (hc : chainL (y :: ys) b txt.length) (hf : (p.length : Int) < y.fin - x.beg) : rowH txt p x (y :: ys) = [] := by
  unfold rowH
  rw [List.flatMap_eq_nil_iff]
  obtain ⟨h1, h2, h3⟩ := hc
  obtain ⟨h4, h5⟩ := chain_le _ _ _ h3
  intro z hz
  have hz2 : y.fin ≤ z.fin ∧ z.fin ≤ txt.length := by
    rcases List.mem_cons.1 hz with rfl | hz
    · exact ⟨by omega, by omega⟩
    · have := h5 z hz
      exact ⟨by omega, by omega⟩
  unfold hitOf
  rw [if_neg]
  intro h
  rw [beq_iff_eq] at h
  have := seg_len (txt := txt) (b := x.beg) (e := z.fin) h0 (by omega) hz2.2
  rw [h] at this
  omega
def findP (l : List RuleD) (t p : List Int) : List (Int × Int) × (Int × Int) :=
  if (alignP l t).2.1 ≠ 0 then ([], (alignP l t).2) else if textP p ≠ 0 then ([], (textP p, 1)) else if p.length = 0 then ([], (6, 1)) else (allH (runRefP l t).1.text p (alignP l t).1, (0, 0))
theorem runGo_small' (l : List RuleD) : ∀ (left : Nat) (done rest : List Int) (s p : Nat), done.length + rest.length ≤ 4000 → (runGo l left done rest s p).1.text.length ≤ 4000 := by
  intro left
  induction left with
  | zero =>
    intro done rest s p h
    cases rest with
    | nil => simpa [runGo_nil] using h
    | cons z rest => exact Nat.zero_le _
  | succ left ih =>
    intro done rest s p h
    cases rest with
    | nil => simpa [runGo_nil] using h
    | cons z rest =>
      rw [runGo]
      split
      · refine ih _ _ _ _ ?_
        simp only [List.length_append, List.length_cons, List.length_nil] at h ⊢
        omega
      · split
        · exact Nat.zero_le _
        · split
          · exact Nat.zero_le _
          · rename_i hm
            refine ih _ _ _ _ ?_
            rw [List.length_append, Nat.add_assoc, ← List.length_append, List.take_append_drop]
            omega
theorem align_ok {l : List RuleD} {t : List Int} (h : (alignP l t).2.1 = 0) : chainL (alignP l t).1 0 (runRefP l t).1.text.length ∧ (alignP l t).1.length ≤ 40000 ∧ (runRefP l t).1.text.length ≤ 4000 := by
  rw [align_ref] at h ⊢
  by_cases h1 : (checkP l t).1 = 0
  · rw [if_neg (fun h2 => h2 h1)] at h ⊢
    by_cases h2 : (compP l).2.1 = 0
    · rw [if_neg (fun h3 => h3 h2)] at h ⊢
      by_cases h3 : (runRefP l t).2.1 = 0
      · rw [if_neg (fun h4 => h4 h3)] at h ⊢
        cases hs : sureP l
        · rw [if_pos hs] at h; cases h
        · rw [if_neg (by decide)]
          have h0 := runRef_zero h1 h3
          have hr : (runRefP l t).1 = (runGo l (8 * t.length + 40) [] t 0 0).1 := by
            unfold runRefP
            rw [if_neg (fun h2 => h2 h1)]
            unfold okOut
            rw [if_neg (fun h2 => h2 h0)]
          have ht := (textP_len (check_ok h1).2).1
          rw [hr]
          refine ⟨chain_run hs _ _ _ _ _ 0 h0, ?_, runGo_small' l _ _ _ _ _ (by simpa using ht)⟩
          rw [linksGo_length]
          have := trace_len l (8 * t.length + 40) [] t
          unfold traceP
          omega
      · rw [if_pos h3] at h; exact absurd h h3
    · rw [if_pos h2] at h; exact absurd h h2
  · rw [if_pos h1] at h; exact absurd h h1

end Go.Proofs.Ytfmebbnccjaadaa
