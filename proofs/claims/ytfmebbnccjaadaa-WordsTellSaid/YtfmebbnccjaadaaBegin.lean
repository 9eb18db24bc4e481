/- The rules that may begin with a rune: beginP, plain. The walk of scriptref10.Begin. -/
import Derived.Test.YtfmebbnccjaadaaHas
namespace Go.Proofs.Ytfmebbnccjaadaa
open Go.RowKit

def firstSet (r : RuleD) : Spans := r.source.headD []
def mayB (l : List RuleD) (r : Int) (i : Nat) : Bool := match l[i]? with | some x => hasP (firstSet x) r | none => false
/-- The first k rules that may begin with r. -/
def beginUpto (l : List RuleD) (r : Int) (k : Nat) : List Int := ((List.range k).filter (mayB l r)).map (fun i : Nat => (i : Int))
def beginP (l : List RuleD) (r : Int) : List Int := beginUpto l r l.length
theorem beginUpto_yes {l : List RuleD} {r : Int} {k : Nat} (h : mayB l r k = true) : beginUpto l r (k + 1) = beginUpto l r k ++ [(k : Int)] := by
  simp [beginUpto, List.range_succ, List.filter_append, h]
theorem beginUpto_no {l : List RuleD} {r : Int} {k : Nat} (h : mayB l r k = false) : beginUpto l r (k + 1) = beginUpto l r k := by
  simp [beginUpto, List.range_succ, List.filter_append, h]
theorem beginUpto_len (l : List RuleD) (r : Int) (k : Nat) : (beginUpto l r k).length ≤ k := by
  unfold beginUpto
  rw [List.length_map]
  have := List.length_filter_le (mayB l r) (List.range k)
  simpa using this

/-- Rules of which nothing is wrong. -/
structure RightRules (l : List RuleD) : Prop where
  size : l.length ≤ 200
  src : ∀ x ∈ l, x.source ≠ []
  set : ∀ x ∈ l, RightSet (firstSet x)
theorem firstBad_all {l : List Int} (h : firstBad l = 0) : ∀ x ∈ l, x = 0 := by
  induction l with
  | nil => simp
  | cons y l ih =>
    intro x hx
    by_cases hy : y = 0
    · rw [firstBad_zero _ hy] at h
      rcases List.mem_cons.1 hx with rfl | hx
      · exact hy
      · exact ih h x hx
    · rw [firstBad_hit _ hy] at h
      exact absurd h hy
theorem ruleW_zero {r : RuleD} (h : ruleW r = 0) : r.source ≠ [] ∧ RightSet (firstSet r) := by
  unfold ruleW at h
  by_cases h0 : firstBad ((sidesOf r).map sideW) = 0
  · rw [if_neg (by rw [h0]; decide)] at h
    have hne : r.source ≠ [] := by
      intro e
      rw [restW, e, if_pos (show ([] : List Spans).length = 0 from rfl)] at h
      cases h
    refine ⟨hne, ?_⟩
    have hs := firstBad_all h0 (sideW r.source) (by simp [sidesOf])
    unfold sideW at hs
    by_cases h20 : 20 < r.source.length
    · rw [if_pos h20] at hs; cases hs
    · rw [if_neg h20] at hs
      apply right_set
      refine firstBad_all hs _ (List.mem_map.2 ⟨firstSet r, ?_, rfl⟩)
      unfold firstSet
      cases hr : r.source with
      | nil => exact absurd hr hne
      | cons a t => simp
  · rw [if_pos h0] at h; exact absurd h h0
theorem rulesGo_zero : ∀ (l : List RuleD) (i : Nat), (rulesGo i l).1 = 0 → ∀ x ∈ l, ruleW x = 0 := by
  intro l
  induction l with
  | nil => intro i _ x hx; cases hx
  | cons y l ih =>
    intro i h x hx
    rw [rulesGo] at h
    by_cases hy : ruleW y = 0
    · rw [if_neg (by rw [hy]; decide)] at h
      rcases List.mem_cons.1 hx with rfl | hx
      · exact hy
      · exact ih _ h x hx
    · rw [if_pos hy] at h; exact absurd h hy
theorem right_rules {l : List RuleD} (h : (rulesW l).1 = 0) : RightRules l := by
  unfold rulesW at h
  by_cases h2 : 200 < l.length
  · rw [if_pos h2] at h; cases h
  · rw [if_neg h2] at h
    have := rulesGo_zero l 0 h
    exact ⟨by omega, fun x hx => (ruleW_zero (this x hx)).1, fun x hx => (ruleW_zero (this x hx)).2⟩
/-- A right rule's first set, in memory. -/
theorem first_at {w : World} {X : Nat → Prop} {u : Value} {l : List Spans} (h : SetsV w X l u) (hne : l ≠ []) :
    ∃ (b off n c : Nat) (A' : Option Addr) (n' c' : Nat), u = .slice (some ⟨b, off, none⟩) n c ∧ 0 < n ∧ n ≤ maxLen ∧ X b ∧ b < w.heap.size ∧ w.cell? ⟨b, off, none⟩ = some (.slice A' n' c') ∧ RdS w w.heap.size A' n' (l.headD []) ∧ RdX w X 2 A' n' (spanCells (l.headD [])) ∧ n' ≤ maxLen := by
  obtain ⟨A, n, c, rfl, h1, h2⟩ := h
  cases l with
  | nil => exact absurd rfl hne
  | cons s t =>
    obtain ⟨b, off, A', n', c', rfl, hx, hb, hc, h3, h4, h5⟩ := sets_at h1 (k := 0) rfl
    exact ⟨b, off, n, c, A', n', c', rfl, by have := h1.len; simp at this; omega, h2, hx, hb, hc, h3, h4, h5⟩

/-- Blocks of numbers, from lo on. -/
def IntB (lo : Nat) (w : World) (b : Nat) : Prop := lo ≤ b ∧ ∃ cs fz, w.heap[b]? = some (.cells cs 3 fz)
theorem own_intB {w : World} {lo base n : Nat} {v : Value} {xs : List Value} (h : w.ownsRow base 3 1 v n xs) (hlo : lo ≤ base) : ∀ b, v.ownBlock = some b → IntB lo w b := by
  intro b hb
  rcases h.2 with ⟨rfl, _⟩ | ⟨g, cap, cur, rfl, hg, hh, _⟩
  · simp [Value.ownBlock] at hb
  · simp only [Value.ownBlock, Option.some.injEq] at hb
    subst hb
    exact ⟨Nat.le_trans hlo hg, cur, _, hh⟩
theorem infoInt : (Try.prog.info? 3).map (fun i => (i.zero, i.size, i.bytes)) = some (some (.int .i64 0), 1, 8) := by kernel_rfl
def BgRel (w : World) (l : List RuleD) (r : Int) (n : Nat) (s5 i : Value) (wr : World) : Prop :=
  ∃ (k m : Nat), k ≤ n ∧ i = .int .i64 k ∧ m ≤ k ∧ (beginUpto l r k).length = m ∧ wr.ownsRow w.heap.size 3 1 s5 m (intCells (beginUpto l r k)) ∧ Below w.heap.size w wr
set_option maxRecDepth 100000 in
set_option maxHeartbeats 1600000 in
theorem ref_begin (X : Nat → Prop) (l : List RuleD) (r : Int) (A : Option Addr) (n c : Nat) (w : World) (hR : RightRules l) (hl : ListX (RuleC w X) w X 7 A n l) :
    Calls Try.prog 44 #[.slice A n c, .int .i32 r] w fun e w' => (∃ v, e = .returned v ∧ IntsV w' (IntB w.heap.size w') (beginP l r) v) ∧ Below w.heap.size w w' := by
  obtain ⟨i0, hi, hz0, hz1, hz2⟩ := info_parts infoInt
  have hn : n ≤ 200 := by rw [← (show l.length = n from hl.len)]; exact hR.size
  have HLEN := Lib.hid (show l.length = n from hl.len)
  have HL := Lib.hid hl
  have HRR := Lib.hid hR
  clear hl hR
  go_enter Try.func44, Try.ntmps44
  go_wp2_with fail
  go_loopw [5, 9] (BgRel w l r n) (fun _ i _ => n - (intOf i).toNat)
  case atStart => exact ⟨0, 0, Nat.zero_le _, rfl, Nat.le_refl _, rfl, World.ownsRow_nil _ _ _ _, Below.refl _ _⟩
  case round =>
    obtain ⟨k, m, hk, rfl, hm, hml, hown, hb⟩ := hrel
    have hz := hb.size
    have HML := Lib.hid hml
    clear hml
    by_cases hlt : k < n
    · obtain ⟨x, hx⟩ : ∃ z, l[k]? = some z := ⟨_, List.getElem?_eq_getElem (by rw [HLEN.out]; exact hlt)⟩
      have hmem := List.mem_of_getElem? hx
      obtain ⟨b, off, A1, A2, A3, A4, n1, c1, n2, c2, n3, c3, n4, c4, rfl, _, hbb, ⟨d0, d1, d2, d3, d4, d5, d6⟩, _, s2, _, _, _⟩ := rule_at (HL.out.keep (Keeps.any hb) (fun _ _ => RuleC.keep (Keeps.any hb))) hx
      obtain ⟨b2, off2, n2', c2', A', n', c', e2, hn2, hn2m, _, _, hcx, hrd, _, hnn⟩ := first_at s2 (HRR.out.src x hmem)
      cases e2
      have HMB := Lib.hid (show mayB l r k = hasP (firstSet x) r by unfold mayB; rw [hx])
      have HH := Lib.hid (ref2_has A' n' c' (firstSet x) r wr (by simp only [maxLen] at hnn; omega) hrd)
      have HO := Lib.hid hown
      have HB := Lib.hid hb
      simp only [maxLen] at hn2m
      obtain ⟨Av, cv, rfl, _⟩ := own_form hown
      clear hx hmem s2 hrd hnn hown hb d0 d1 d2 d4 d5 d6
      go_wp2_with fail
      refine HH.out.mono ?_
      rintro e w1 ⟨rfl, hb1⟩
      have HB1 := Lib.hid (HB.out.trans (hb1.mono HB.out.size))
      have HO1 := Lib.hid (own_below HO.out hb1)
      clear hb1
      cases hp : hasP (firstSet x) r
      · have HE := Lib.hid (beginUpto_no (HMB.out.trans hp))
        clear hp
        go_wp2_with fail
        exact ⟨⟨k + 1, m, by omega, by go_num, by omega, by rw [HE.out]; exact HML.out, by rw [HE.out]; exact HO1.out, HB1.out⟩, by simp [intOf]; omega⟩
      · have HE := Lib.hid (beginUpto_yes (HMB.out.trans hp))
        clear hp
        have HN := Lib.hid (Rd.new w1 3 1 1 [.int .i64 k] rfl)
        have HO2 := Lib.hid (World.ownsRow.alloc HO1.out (.cells #[.int .i64 k] 3))
        have HB2 := Lib.hid (HB1.out.alloc HB1.out.size (.cells #[.int .i64 k] 3))
        have H1C := Lib.hid (show ∀ u ∈ [Value.int .i64 k], u.oneCell' = true by intro x hx; simp at hx; subst hx; rfl)
        go_wp2_with (at_builtin; refine wpList_append_rd _ rfl (.tmp 21) (.tmp 23) 83 rfl w.heap.size 3 i0 _ 1 8 Try.underlying83 hi hz0 hz1 hz2 rfl (by decide) _ _ _ rfl HO2.out _ (some ⟨w1.heap.size, 0, none⟩) 1 1 [.int .i64 k] rfl HN.out H1C.out (by simp only [maxLen]; omega) (by omega) HB2.out.size ?_)
        intro v9 w9 happ
        have ho9 := happ.own
        have HB9 := Lib.hid (HB2.out.trans (happ.below HB2.out.size HO2.out))
        rw [← intCells_snoc, ← HE.out] at ho9
        have HO9 := Lib.hid ho9
        clear happ ho9
        go_wp2_with fail
        exact ⟨⟨k + 1, m + 1, by omega, by go_num, by omega, by rw [HE.out, List.length_append, HML.out]; rfl, HO9.out, HB9.out⟩, by simp [intOf]; omega⟩
    · obtain rfl : k = n := by omega
      have HE := Lib.hid (show beginP l r = beginUpto l r k by unfold beginP; rw [HLEN.out])
      obtain ⟨Av, cv, rfl, _⟩ := own_form hown
      have HO := Lib.hid hown
      have HB := Lib.hid hb
      clear hown hb
      go_wp2_with fail
      go_ret
      refine ⟨⟨_, rfl, Av, m, cv, rfl, ?_, by simp only [maxLen]; omega⟩, HB.out⟩
      rw [HE.out]
      exact RdX.of_own HO.out (own_intB HO.out (Nat.le_refl _))

end Go.Proofs.Ytfmebbnccjaadaa
