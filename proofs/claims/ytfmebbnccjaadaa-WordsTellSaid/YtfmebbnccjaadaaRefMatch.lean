/- The walks of scriptref7.Text and scriptref7.Matches: textP, and hereP where the rule has a source. -/
import Derived.Test.YtfmebbnccjaadaaRunP
import Derived.Test.YtfmebbnccjaadaaRulesBoth
import Derived.Test.YtfmebbnccjaadaaBegin
import Derived.BigRegion
namespace Go.Proofs.Ytfmebbnccjaadaa
open Go.RowKit

set_option maxHeartbeats 800000 in
theorem ref7_text (A : Option Addr) (n c : Nat) (t : List Int) (w : World) (hn : n ≤ maxLen) (ht : RdR w w.heap.size A n t) :
    Calls Try.prog 42 #[.slice A n c] w fun e w' => e = .returned (.int .i64 (textP t)) ∧ Below w.heap.size w w' := by
  have hl := ht.len
  simp only [maxLen] at hn
  have HC := Lib.hid (ref_all A n c t w (by omega) ht)
  have HP := Lib.hid (show textP t = if 4000 < n then 4 else if badRune t = true then 3 else 0 by unfold textP; rw [hl])
  clear ht hl
  by_cases h4 : 4000 < n
  · have HP2 := Lib.hid (HP.out.trans (if_pos h4))
    go_enter Try.func42, Try.ntmps42
    go_wp2_with fail
    go_ret
    rw [HP2.out]
    exact ⟨rfl, Below.refl _ _⟩
  · have HP2 := Lib.hid (HP.out.trans (if_neg h4))
    clear HP
    go_enter Try.func42, Try.ntmps42
    go_wp2_with fail
    refine HC.out.mono ?_
    rintro e w1 ⟨rfl, hb⟩
    have HB := Lib.hid hb
    clear hb
    cases hr : badRune t
    · have HP3 := Lib.hid (HP2.out.trans (if_neg (by rw [hr]; decide)))
      clear hr HP2
      go_wp2_with fail
      go_ret
      rw [HP3.out]
      exact ⟨rfl, HB.out⟩
    · have HP3 := Lib.hid (HP2.out.trans (if_pos hr))
      clear hr HP2
      go_wp2_with fail
      go_ret
      rw [HP3.out]
      exact ⟨rfl, HB.out⟩

/-! ### Matches -/

/-- Sets that stand in a row, from a place of the text on. -/
def wantGo : List Spans → List Int → Int → Bool
  | [], _, _ => true
  | s :: l, t, k => if k < 0 ∨ (t.length : Int) ≤ k then false else hasP s (t.getD k.toNat 0) && wantGo l t (k + 1)
theorem wantGo_append (a b : List Spans) (t : List Int) : ∀ k, wantGo (a ++ b) t k = (wantGo a t k && wantGo b t (k + a.length)) := by
  induction a with
  | nil => intro k; simp [wantGo]
  | cons s a ih =>
    intro k
    simp only [List.cons_append, wantGo]
    by_cases h : k < 0 ∨ (t.length : Int) ≤ k
    · rw [if_pos h, if_pos h]; rfl
    · rw [if_neg h, if_neg h, ih, Bool.and_assoc, show k + 1 + (a.length : Int) = k + ((s :: a).length : Nat) by simp only [List.length_cons]; omega]
theorem wantGo_in (l : List Spans) (t : List Int) : ∀ k : Nat, wantGo l t k = hasAll l (t.drop k) := by
  induction l with
  | nil => intro k; rfl
  | cons s l ih =>
    intro k
    rw [wantGo]
    by_cases h : t.length ≤ k
    · rw [if_pos (.inr (by omega)), List.drop_of_length_le h]
      rfl
    · obtain ⟨x, hx⟩ : ∃ x, t[k]? = some x := ⟨_, List.getElem?_eq_getElem (by omega)⟩
      rw [if_neg (by omega), drop_at hx, hasAll, show (k : Int) + 1 = ((k + 1 : Nat) : Int) by omega, ih, Int.toNat_natCast, show t.getD k 0 = x by simp [List.getD, hx]]
theorem hasAll_long (l : List Spans) : ∀ t : List Int, t.length < l.length → hasAll l t = false := by
  induction l with
  | nil => intro t h; simp at h
  | cons s l ih =>
    intro t h
    cases t with
    | nil => rfl
    | cons x t => rw [hasAll, ih t (by simpa using h), Bool.and_false]
theorem wantGo_allP (l : List Spans) (t : List Int) (k : Nat) (hk : k ≤ t.length) : wantGo l t k = allP t k l := by
  rw [wantGo_in]
  unfold allP
  by_cases h : (t.length : Int) - (l.length : Int) < k
  · rw [if_pos (.inr h), hasAll_long]
    rw [List.length_drop]
    omega
  · rw [if_neg (by omega)]
    rfl
theorem wantGo_neg (l : List Spans) (t : List Int) (k : Int) (hk : k < 0) (h : l ≠ []) : wantGo l t k = false := by
  cases l with
  | nil => exact absurd rfl h
  | cons s l => rw [wantGo, if_pos (.inl hk)]
def wantL (r : RuleD) : List Spans := r.before ++ r.source ++ r.after
theorem here_want (r : RuleD) (t : List Int) (q : Nat) (hq : q ≤ t.length) :
    hereP r t q = (wantGo (wantL r) t ((q : Int) - r.before.length) && !(r.start && decide (0 < (q : Int) - r.before.length)) && !(r.fin && decide ((q : Int) - r.before.length + (wantL r).length < t.length))) := by
  unfold hereP wantL
  rw [wantGo_append, wantGo_append]
  have hb : wantGo r.before t ((q : Int) - r.before.length) = allP t ((q : Int) - r.before.length) r.before := by
    by_cases h : r.before.length ≤ q
    · rw [show (q : Int) - r.before.length = ((q - r.before.length : Nat) : Int) by omega]
      exact wantGo_allP _ _ _ (by omega)
    · rw [wantGo_neg _ _ _ (by omega) (by intro e; rw [e] at h; exact h (Nat.zero_le _)), allP_neg (by omega)]
  rw [hb, show (q : Int) - r.before.length + r.before.length = (q : Int) by omega, wantGo_allP _ _ _ hq]
  cases h1 : allP t ((q : Int) - r.before.length) r.before
  · simp
  cases h2 : allP t q r.source
  · simp
  have hq1 : q + r.source.length ≤ t.length := by
    unfold allP at h2
    split at h2
    · cases h2
    · rename_i hn; omega
  have hq0 : r.before.length ≤ q := by
    unfold allP at h1
    split at h1
    · cases h1
    · rename_i hn; omega
  rw [show (q : Int) - (r.before.length : Int) + ((r.before ++ r.source).length : Nat) = ((q + r.source.length : Nat) : Int) by rw [List.length_append]; omega, wantGo_allP _ _ _ hq1, show ((q + r.source.length : Nat) : Int) = (q : Int) + r.source.length by omega]
  cases h3 : allP t ((q : Int) + r.source.length) r.after
  · simp
  have hq2 : q + r.source.length + r.after.length ≤ t.length := by
    unfold allP at h3
    split at h3
    · cases h3
    · rename_i hn; omega
  have e1 : decide (q ≠ r.before.length) = decide (0 < (q : Int) - r.before.length) := by
    apply Bool.eq_iff_iff.2
    simp only [decide_eq_true_iff]
    omega
  have e2 : decide (q + r.source.length + r.after.length ≠ t.length) = decide ((q : Int) - r.before.length + ((r.before ++ r.source ++ r.after).length : Nat) < t.length) := by
    apply Bool.eq_iff_iff.2
    simp only [decide_eq_true_iff, List.length_append]
    omega
  rw [e1, e2]
/-- A row of sets as such: each cell is a set's slice. -/
def SetCells (w : World) (X : Nat → Prop) (l : List Spans) (xs : List Value) : Prop := xs.length = l.length ∧ ∀ (i : Nat) (s : Spans) (u : Value), l[i]? = some s → xs[i]? = some u → SetV w X s u
theorem SetCells.append {w : World} {X : Nat → Prop} {l m : List Spans} {xs ys : List Value} (h : SetCells w X l xs) (h2 : SetCells w X m ys) : SetCells w X (l ++ m) (xs ++ ys) := by
  refine ⟨by simp [h.1, h2.1], fun i s u hs hu => ?_⟩
  rcases Nat.lt_or_ge i l.length with hi | hi
  · rw [List.getElem?_append_left hi] at hs
    rw [List.getElem?_append_left (by rw [h.1]; exact hi)] at hu
    exact h.2 i s u hs hu
  · rw [List.getElem?_append_right hi] at hs
    rw [List.getElem?_append_right (by rw [h.1]; exact hi), h.1] at hu
    exact h2.2 _ s u hs hu
theorem SetCells.keep {w w' : World} {X X' : Nat → Prop} {l : List Spans} {xs : List Value} (hk : Keeps w X w' X') (h : SetCells w X l xs) : SetCells w' X' l xs := ⟨h.1, fun i s u h1 h2 => (h.2 i s u h1 h2).keep hk⟩
theorem SetCells.one {w : World} {X : Nat → Prop} {l : List Spans} {xs : List Value} (h : SetCells w X l xs) : ∀ u ∈ xs, u.oneCell' = true := by
  intro u hu
  obtain ⟨i, hi⟩ := List.mem_iff_getElem?.1 hu
  obtain ⟨s, hs⟩ : ∃ s, l[i]? = some s := ⟨_, List.getElem?_eq_getElem (by rw [← h.1]; exact (List.getElem?_eq_some_iff.1 hi).1)⟩
  obtain ⟨A, n, c, rfl, _⟩ := h.2 i s u hs hi
  rfl
theorem set_cells {w : World} {X : Nat → Prop} {A : Option Addr} {n : Nat} {l : List Spans} (h : ListX (SetC w X) w X 1 A n l) : ∃ xs, SetCells w X l xs ∧ RdX w X 1 A n xs := by
  obtain ⟨css, h1, h2, h3, h4, h5⟩ := h
  refine ⟨css.flatten, ⟨by rw [h5.1, h1, Nat.mul_one], fun i s u hs hu => ?_⟩, h5⟩
  obtain ⟨cs, hcs⟩ : ∃ cs, css[i]? = some cs := ⟨_, List.getElem?_eq_getElem (by have := (List.getElem?_eq_some_iff.1 hs).1; omega)⟩
  obtain ⟨u2, rfl, hv⟩ := h3 i s cs hs hcs
  have := flatten_get h4 i _ hcs 0 u2 rfl
  rw [Nat.mul_one, Nat.add_zero, hu] at this
  injection this with this
  rwa [this]
theorem runSpansInfo : (Try.prog.info? 48).map (fun i => (i.zero, i.size, i.bytes)) = some (some (.slice none 0 0), 1, 24) := by kernel_rfl
def MwRel (w1 : World) (W : List Spans) (t : List Int) (fr : Int) (n : Nat) (i : Value) (wr : World) : Prop :=
  ∃ j : Nat, j ≤ n ∧ i = .int .i64 j ∧ wantGo W t fr = wantGo (W.drop j) t (fr + j) ∧ Below w1.heap.size w1 wr

set_option maxRecDepth 100000 in
set_option maxHeartbeats 3200000 in
theorem ref7_matches (X : Nat → Prop) (r : RuleD) (A1 A2 A3 A4 At : Option Addr) (n1 c1 n2 c2 n3 c3 n4 c4 nt ct : Nat) (t : List Int) (q : Nat) (w : World) (hr : RightRule r) (s1 : SetsV w X r.before (.slice A1 n1 c1)) (s2 : SetsV w X r.source (.slice A2 n2 c2)) (s3 : SetsV w X r.after (.slice A3 n3 c3))
    (hnt : nt ≤ 100000) (hq : q ≤ nt) (ht : RdR w w.heap.size At nt t) :
    Calls Try.prog 75 #[.agg #[.bool r.start, .bool r.fin, .slice A1 n1 c1, .slice A2 n2 c2, .slice A3 n3 c3, .slice A4 n4 c4, .int .i64 r.cursor], .slice At nt ct, .int .i64 q] w fun e w' => e = .returned (.bool (hereP r t q)) ∧ Below w.heap.size w w' := by
  obtain ⟨i0, hi, z0, z1, z2⟩ := info_parts runSpansInfo
  have hl1 := s1.list.len
  have hl2 := s2.list.len
  have hl3 := s3.list.len
  have hs1 := (hr.sets r.before (by simp [sidesOf])).1
  have hs2 := (hr.sets r.source (by simp [sidesOf])).1
  have hs3 := (hr.sets r.after (by simp [sidesOf])).1
  have hn1 : n1 ≤ 20 := by omega
  have hn2 : n2 ≤ 20 := by omega
  have hn3 : n3 ≤ 20 := by omega
  have htl := ht.len
  have HP := Lib.hid (show hereP r t q = (wantGo (wantL r) t ((q : Int) - n1) && !(r.start && decide (0 < (q : Int) - n1)) && !(r.fin && decide ((q : Int) - n1 + (n1 + n2 + n3 : Nat) < nt))) by
    rw [here_want r t q (by omega), show (wantL r).length = n1 + n2 + n3 by unfold wantL; simp only [List.length_append]; omega, hl1, htl])
  have HWL := Lib.hid (show (wantL r).length = n1 + n2 + n3 by unfold wantL; simp only [List.length_append]; omega)
  have HSR := Lib.hid (show ∀ s ∈ wantL r, RightSet s by
    intro s hs
    unfold wantL at hs
    rcases List.mem_append.1 hs with hs | hs
    · rcases List.mem_append.1 hs with hs | hs
      · exact (hr.sets r.before (by simp [sidesOf])).2 s hs
      · exact (hr.sets r.source (by simp [sidesOf])).2 s hs
    · exact (hr.sets r.after (by simp [sidesOf])).2 s hs)
  obtain ⟨xs1, k1, e1⟩ := set_cells s1.list
  obtain ⟨xs2, k2, e2⟩ := set_cells s2.list
  obtain ⟨xs3, k3, e3⟩ := set_cells s3.list
  have HT := Lib.hid ht
  have HTL := Lib.hid htl
  generalize hcs : (#[.bool r.start, .bool r.fin, .slice A1 n1 c1, .slice A2 n2 c2, .slice A3 n3 c3, .slice A4 n4 c4, .int .i64 r.cursor] : Array Value) = cs
  have HG := Lib.hid (show Blk (w.alloc (.cells cs 79)) w.heap.size 79 cs from Blk.new w _ _)
  have HB0 := Lib.hid ((Below.refl w.heap.size w).alloc (Nat.le_refl _) (.cells cs 79))
  have HK := Lib.hid (And.intro k1 (And.intro k2 k3))
  have HE := Lib.hid (And.intro e1.of (And.intro e2.of e3.of))
  have HCS := Lib.hid (show cs[0]? = some (.bool r.start) ∧ cs[1]? = some (.bool r.fin) ∧ cs[2]? = some (.slice A1 n1 c1) ∧ cs[3]? = some (.slice A2 n2 c2) ∧ cs[4]? = some (.slice A3 n3 c3) by subst hcs; exact ⟨rfl, rfl, rfl, rfl, rfl⟩)
  have c2' : (w.alloc (.cells cs 79)).cell? ⟨w.heap.size, 2, none⟩ = some (.slice A1 n1 c1) := (HG.out.cell 2).trans HCS.out.2.2.1
  have c3' : (w.alloc (.cells cs 79)).cell? ⟨w.heap.size, 3, none⟩ = some (.slice A2 n2 c2) := (HG.out.cell 3).trans HCS.out.2.2.2.1
  have c4' : (w.alloc (.cells cs 79)).cell? ⟨w.heap.size, 4, none⟩ = some (.slice A3 n3 c3) := (HG.out.cell 4).trans HCS.out.2.2.2.2
  clear ht htl k1 k2 k3 e1 e2 e3 s1 s2 s3 hr hs1 hs2 hs3 hl1 hl2 hl3 hcs
  go_enter Try.func75, Try.ntmps75
  go_upto_region 2 with fail
  refine wp_region_till (S := (fun w1 => w1.cell? ⟨w.heap.size, 2, none⟩ = some (.slice A1 n1 c1) ∧ w1.cell? ⟨w.heap.size, 3, none⟩ = some (.slice A2 n2 c2) ∧ w1.cell? ⟨w.heap.size, 4, none⟩ = some (.slice A3 n3 c3))) [2, 5, 8] (by kernel_rfl) ⟨c2', c3', c4'⟩ (fun hHeld => ?_)
  refine wpTill_pure (i := 0) (oi := ⟨some 12, _, _, _, _, _⟩) (v := ?_) rfl (by kernel_rfl) (by kernel_rfl) (by kernel_rfl) (fun _ _ _ h => h) (Or.inl ⟨by rfl, ?_⟩) ?_
  rotate_left 1
  · intro wq _
    go_simp
    try with_reducible rfl
  try simp only [Act.put, List.setIfInBounds_toArray, List.set_cons_zero, List.set_cons_succ]
  refine wpTill_pure (i := 1) (oi := ⟨some 13, _, _, _, _, _⟩) (v := ?_) rfl (by kernel_rfl) (by kernel_rfl) (by kernel_rfl) (fun _ _ _ h => h) (Or.inl ⟨by rfl, ?_⟩) ?_
  rotate_left 1
  · intro wq _
    go_simp
    try with_reducible rfl
  try simp only [Act.put, List.setIfInBounds_toArray, List.set_cons_zero, List.set_cons_succ]
  refine wpTill_take (i := 2) (oi := ⟨some 14, _, _, _, _, _⟩) (v := ?_) rfl (by kernel_rfl) (by kernel_rfl) (by kernel_rfl) (by kernel_rfl) (by kernel_rfl) (fun _ _ _ h => h) (Or.inl ⟨by rfl, ?_⟩) (by assumption) ?_
  rotate_left 1
  · intro wq hSw
    (try dsimp only at hSw)
    go_simp
    try with_reducible rfl
  try simp only [Act.put, List.setIfInBounds_toArray, List.set_cons_zero, List.set_cons_succ]
  refine wpTill_pure (i := 4) (oi := ⟨some 16, _, _, _, _, _⟩) (v := ?_) rfl (by kernel_rfl) (by kernel_rfl) (by kernel_rfl) (fun _ _ _ h => h) (Or.inl ⟨by rfl, ?_⟩) ?_
  rotate_left 1
  · intro wq _
    go_simp
    try with_reducible rfl
  try simp only [Act.put, List.setIfInBounds_toArray, List.set_cons_zero, List.set_cons_succ]
  refine wpTill_take (i := 5) (oi := ⟨some 17, _, _, _, _, _⟩) (v := ?_) rfl (by kernel_rfl) (by kernel_rfl) (by kernel_rfl) (by kernel_rfl) (by kernel_rfl) (fun _ _ _ h => h) (Or.inl ⟨by rfl, ?_⟩) (by assumption) ?_
  rotate_left 1
  · intro wq hSw
    (try dsimp only at hSw)
    go_simp
    try with_reducible rfl
  try simp only [Act.put, List.setIfInBounds_toArray, List.set_cons_zero, List.set_cons_succ]
  refine wpTill_pure (i := 7) (oi := ⟨some 19, _, _, _, _, _⟩) (v := ?_) rfl (by kernel_rfl) (by kernel_rfl) (by kernel_rfl) (fun _ _ _ h => h) (Or.inl ⟨by rfl, ?_⟩) ?_
  rotate_left 1
  · intro wq _
    go_simp
    try with_reducible rfl
  try simp only [Act.put, List.setIfInBounds_toArray, List.set_cons_zero, List.set_cons_succ]
  refine wpTill_take (i := 8) (oi := ⟨some 20, _, _, _, _, _⟩) (v := ?_) rfl (by kernel_rfl) (by kernel_rfl) (by kernel_rfl) (by kernel_rfl) (by kernel_rfl) (fun _ _ _ h => h) (Or.inl ⟨by rfl, ?_⟩) (by assumption) ?_
  rotate_left 1
  · intro wq hSw
    (try dsimp only at hSw)
    go_simp
    try with_reducible rfl
  try simp only [Act.put, List.setIfInBounds_toArray, List.set_cons_zero, List.set_cons_succ]
  refine wpTill_one (i := 3) (o := ⟨some 15, _, _, _, _, _⟩) (by kernel_rfl) rfl (fun K hK => ?_)
  refine step_append_rd _ rfl (.tmp 12) (.tmp 14) 77 rfl w.heap.size 48 i0 _ 1 24 Try.underlying77 hi z0 z1 z2 rfl (by decide) _ _ _ rfl (World.ownsRow_nil _ w.heap.size 48 1) _ A1 n1 c1 xs1 rfl (Rd.below HE.out.1 (below_drew1 HB0.out)) HK.out.1.one (by simp only [maxLen]; omega) (by omega) (HB0.out.size) ?_
  intro v1 wa1 happ
  have HG1 := Lib.hid (show Blk wa1 w.heap.size 79 cs from blk_app (show Blk (w.alloc (.cells cs 79)).drew w.heap.size 79 cs from HG.out) (World.ownsRow_nil _ w.heap.size 48 1) (by decide) happ)
  have HBA1 := Lib.hid ((below_drew1 HB0.out).trans (happ.below (below_drew1 HB0.out).size (World.ownsRow_nil _ w.heap.size 48 1)))
  have HOA1 := Lib.hid happ.own
  clear happ
  try dsimp only
  refine hK.out _ _ ?_ (fun hHeld => ?_)
  · exact ⟨(HG1.out.cell 2).trans HCS.out.2.2.1, (HG1.out.cell 3).trans HCS.out.2.2.2.1, (HG1.out.cell 4).trans HCS.out.2.2.2.2⟩
  clear hK K
  try simp only [Act.put, List.setIfInBounds_toArray, List.set_cons_zero, List.set_cons_succ]
  refine wpTill_one (i := 6) (o := ⟨some 18, _, _, _, _, _⟩) (by kernel_rfl) rfl (fun K hK => ?_)
  refine step_append_rd _ rfl (.tmp 15) (.tmp 17) 77 rfl w.heap.size 48 i0 _ 1 24 Try.underlying77 hi z0 z1 z2 rfl (by decide) _ _ _ rfl (HOA1.out) _ A2 n2 c2 xs2 rfl (Rd.below HE.out.2.1 HBA1.out) HK.out.2.1.one (by simp only [maxLen]; omega) (by omega) (HBA1.out.size) ?_
  intro v2 wa2 happ
  have HG2 := Lib.hid (show Blk wa2 w.heap.size 79 cs from blk_app HG1.out HOA1.out (by decide) happ)
  have HBA2 := Lib.hid (HBA1.out.trans (happ.below HBA1.out.size HOA1.out))
  have HOA2 := Lib.hid happ.own
  clear happ
  try dsimp only
  refine hK.out _ _ ?_ (fun hHeld => ?_)
  · exact ⟨(HG2.out.cell 2).trans HCS.out.2.2.1, (HG2.out.cell 3).trans HCS.out.2.2.2.1, (HG2.out.cell 4).trans HCS.out.2.2.2.2⟩
  clear hK K
  try simp only [Act.put, List.setIfInBounds_toArray, List.set_cons_zero, List.set_cons_succ]
  refine wpTill_late (i := 9) (o := ⟨some 21, _, _, _, _, _⟩) (by kernel_rfl) rfl (by kernel_rfl) (fun K hK => ?_)
  refine step_append_rd _ rfl (.tmp 18) (.tmp 20) 77 rfl w.heap.size 48 i0 _ 1 24 Try.underlying77 hi z0 z1 z2 rfl (by decide) _ _ _ rfl (HOA2.out) _ A3 n3 c3 xs3 rfl (Rd.below HE.out.2.2 HBA2.out) HK.out.2.2.one (by simp only [maxLen]; omega) (by omega) (HBA2.out.size) ?_
  intro v3 wa3 happ
  have HG3 := Lib.hid (show Blk wa3 w.heap.size 79 cs from blk_app HG2.out HOA2.out (by decide) happ)
  have HBA3 := Lib.hid (HBA2.out.trans (happ.below HBA2.out.size HOA2.out))
  have HOA3 := Lib.hid happ.own
  clear happ
  try dsimp only
  refine hK.out _ _ ?_
  clear hK K
  try simp only [Act.put, List.setIfInBounds_toArray, List.set_cons_zero, List.set_cons_succ]
  refine wpTill_pure (i := 10) (oi := ⟨some 7, _, _, _, _, _⟩) (v := ?_) rfl (by kernel_rfl) (by kernel_rfl) (by kernel_rfl) (fun _ _ _ h => h) (Or.inl ⟨by rfl, ?_⟩) ?_
  rotate_left 1
  · intro wq _
    go_simp
    try with_reducible rfl
  try simp only [Act.put, List.setIfInBounds_toArray, List.set_cons_zero, List.set_cons_succ]
  refine wpTill_done (by kernel_rfl) ?_ _
  go_simp
  obtain ⟨N, hN⟩ : ∃ N, N = n1 + n2 + n3 := ⟨_, rfl⟩
  have HO := Lib.hid (show wa3.ownsRow w.heap.size 48 1 v3 N (xs1 ++ xs2 ++ xs3) by have := HOA3.out; rw [hN]; simpa using this)
  have HSC := Lib.hid (SetCells.keep (X' := fun _ => True) (show Keeps w X wa3 (fun _ => True) from Keeps.below HBA3.out (fun _ _ _ => trivial)) ((HK.out.1.append HK.out.2.1).append HK.out.2.2))
  obtain ⟨Av, cv, rfl, _⟩ := own_form HO.out
  have HRX := Lib.hid (show RdX wa3 (fun _ => True) 1 Av N (xs1 ++ xs2 ++ xs3) from RdX.of_own HO.out (fun _ _ => trivial))
  have d2 : wa3.cell? ⟨w.heap.size, 2, none⟩ = some (.slice A1 n1 c1) := (HG3.out.cell 2).trans HCS.out.2.2.1
  obtain ⟨fr, hfr⟩ : ∃ fr : Int, fr = (q : Int) - (n1 : Int) := ⟨_, rfl⟩
  have hw1 : IntKind.i64.wrap ((q : Int) - (n1 : Int)) = fr := by rw [IntKind.wrap_i64]; omega
  have HP2 := Lib.hid (show hereP r t q = (wantGo (wantL r) t fr && !(r.start && decide (0 < fr)) && !(r.fin && decide (fr + (N : Int) < nt))) by rw [HP.out, hfr, hN])
  have HWN := Lib.hid (HWL.out.trans hN.symm)
  have hf1 : fr ≤ 100000 := by omega
  have hf2 : -20 ≤ fr := by omega
  have hf3 : N ≤ 60 := by omega
  clear hfr hN HP HWL HO HOA1 HOA2 HOA3 HBA1 HBA2 HG1 HG2 HK HE c2' c3' c4'
  go_wp2_with fail
  go_loopw [29] (MwRel wa3 (wantL r) t fr N) (fun i _ => N - (intOf i).toNat)
  case atStart => exact ⟨0, Nat.zero_le _, rfl, by simp, Below.refl _ _⟩
  case round =>
    obtain ⟨j, hj, rfl, hgo, hb⟩ := hrel
    have HBF := Lib.hid (HBA3.out.trans (hb.mono HBA3.out.size))
    have HBR := Lib.hid hb
    by_cases hlt : j < N
    · obtain ⟨sx, hs⟩ : ∃ z, (wantL r)[j]? = some z := ⟨_, List.getElem?_eq_getElem (by rw [HWN.out]; exact hlt)⟩
      obtain ⟨u, hu⟩ : ∃ z, (xs1 ++ xs2 ++ xs3)[j]? = some z := ⟨_, List.getElem?_eq_getElem (by rw [HSC.out.1, show (r.before ++ r.source ++ r.after).length = N from HWN.out]; exact hlt)⟩
      obtain ⟨A', n', c', rfl, hrd, hnn⟩ := HSC.out.2 j sx u hs hu
      obtain ⟨b, off, rfl, _, hbb, hc⟩ := HRX.out.2 (by omega)
      have d0 := (hb.cell (p := ⟨b, off + j, none⟩) hbb).trans (hc j _ hu)
      rw [drop_at hs, wantGo] at hgo
      have HS := Lib.hid (HSC.out.1)
      have HRD := Lib.hid (RdX.of (hrd.keep (Keeps.any hb)))
      have HRS := Lib.hid (HSR.out sx (List.mem_of_getElem? hs))
      simp only [maxLen] at hnn
      clear hs hu hrd hb
      by_cases hk0 : fr + (j : Int) < 0
      · have HF := Lib.hid (show hereP r t q = false by rw [HP2.out, hgo, if_pos (.inl hk0)]; simp)
        have hw2 : IntKind.i64.wrap (fr + (j : Int)) = fr + (j : Int) := by rw [IntKind.wrap_i64]; omega
        clear hgo
        go_wp2_with fail
        go_ret
        exact ⟨ret_bool HF.out.symm, HBF.out⟩
      · obtain ⟨kk, hkk⟩ : ∃ kk : Nat, fr + (j : Int) = (kk : Int) := ⟨(fr + (j : Int)).toNat, by omega⟩
        have hw2 : IntKind.i64.wrap (fr + (j : Int)) = (kk : Int) := by rw [IntKind.wrap_i64]; omega
        by_cases hk1 : nt ≤ kk
        · have HF := Lib.hid (show hereP r t q = false by rw [HP2.out, hgo, if_pos (.inr (by rw [HTL.out]; omega))]; simp)
          clear hgo
          go_wp2_with fail
          go_ret
          exact ⟨ret_bool HF.out.symm, HBF.out⟩
        · obtain ⟨b2, off2, rfl, hb2, c0⟩ := HT.out.at (k := kk) (by omega)
          have d1 := (HBF.out.cell (p := ⟨b2, off2 + kk, none⟩) hb2).trans c0
          have HGO := Lib.hid (show wantGo (wantL r) t fr = (hasP sx (t.getD kk 0) && wantGo ((wantL r).drop (j + 1)) t (fr + ((j + 1 : Nat) : Int))) by rw [hgo, if_neg (by rw [HTL.out]; omega), hkk, Int.toNat_natCast, show fr + ((j + 1 : Nat) : Int) = (kk : Int) + 1 by omega])
          generalize t.getD kk 0 = x at *
          clear hgo c0
          go_wp2_with fail
          refine (ref2_has A' n' c' sx x _ (by omega) HRD.out).mono ?_
          rintro e w9 ⟨rfl, hb9⟩
          have HB9 := Lib.hid (HBR.out.trans (hb9.mono HBR.out.size))
          have HBF9 := Lib.hid (HBA3.out.trans (HB9.out.mono HBA3.out.size))
          clear hb9
          cases hh : hasP sx x
          · have HF := Lib.hid (show hereP r t q = false by rw [HP2.out, HGO.out, hh]; simp)
            clear hh
            go_wp2_with fail
            go_ret
            exact ⟨ret_bool HF.out.symm, HBF9.out⟩
          · have HGN := Lib.hid (HGO.out.trans (by rw [hh, Bool.true_and]))
            clear hh
            go_wp2_with fail
            exact ⟨⟨j + 1, by omega, by go_num, HGN.out, HB9.out⟩, by simp [intOf]; omega⟩
    · obtain rfl : j = N := by omega
      have HQ := Lib.hid (show hereP r t q = (!(r.start && decide (0 < fr)) && !(r.fin && decide (fr + (j : Int) < nt))) by
        rw [HP2.out, hgo, List.drop_of_length_le (by rw [HWN.out]; exact Nat.le_refl _), wantGo, Bool.true_and])
      have d0 : wr.cell? ⟨w.heap.size, 0, none⟩ = some (.bool r.start) := ((Blk.below HG3.out hb HG3.out.lt).cell 0).trans HCS.out.1
      have d1 : wr.cell? ⟨w.heap.size, 1, none⟩ = some (.bool r.fin) := ((Blk.below HG3.out hb HG3.out.lt).cell 1).trans HCS.out.2.1
      clear hgo hb
      cases hst : r.start
      · rw [hst] at d0
        cases hf : r.fin
        · rw [hf] at d1
          have HF := Lib.hid (show hereP r t q = true by rw [HQ.out, hst, hf]; simp)
          clear HQ
          go_wp2_with fail
          go_ret
          exact ⟨ret_bool HF.out.symm, HBF.out⟩
        · by_cases he : fr + (j : Int) < nt
          · rw [hf] at d1
            have HF := Lib.hid (show hereP r t q = false by rw [HQ.out, hst, hf]; simp; exact he)
            clear HQ
            go_wp2_with fail
            go_ret
            exact ⟨ret_bool HF.out.symm, HBF.out⟩
          · rw [hf] at d1
            have HF := Lib.hid (show hereP r t q = true by rw [HQ.out, hst, hf]; simp; omega)
            clear HQ
            go_wp2_with fail
            go_ret
            exact ⟨ret_bool HF.out.symm, HBF.out⟩
      · by_cases hz : 0 < fr
        · rw [hst] at d0
          have HF := Lib.hid (show hereP r t q = false by rw [HQ.out, hst]; simp; intro h; omega)
          clear HQ
          go_wp2_with fail
          go_ret
          exact ⟨ret_bool HF.out.symm, HBF.out⟩
        · rw [hst] at d0
          cases hf : r.fin
          · rw [hf] at d1
            have HF := Lib.hid (show hereP r t q = true by rw [HQ.out, hst, decide_eq_false hz, hf]; simp)
            clear HQ
            go_wp2_with fail
            go_ret
            exact ⟨ret_bool HF.out.symm, HBF.out⟩
          · by_cases he : fr + (j : Int) < nt
            · rw [hf] at d1
              have HF := Lib.hid (show hereP r t q = false by rw [HQ.out, hst, decide_eq_false hz, hf]; simp; exact he)
              clear HQ
              go_wp2_with fail
              go_ret
              exact ⟨ret_bool HF.out.symm, HBF.out⟩
            · rw [hf] at d1
              have HF := Lib.hid (show hereP r t q = true by rw [HQ.out, hst, decide_eq_false hz, hf]; simp; omega)
              clear HQ
              go_wp2_with fail
              go_ret
              exact ⟨ret_bool HF.out.symm, HBF.out⟩

end Go.Proofs.Ytfmebbnccjaadaa
