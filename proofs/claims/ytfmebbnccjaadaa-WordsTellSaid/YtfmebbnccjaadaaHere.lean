/- Whether a right rule matches at a place of a text: hereP, plain. The walk of match.Here. -/
import Derived.Test.YtfmebbnccjaadaaTextI
import Derived.Test.YtfmebbnccjaadaaHeldTill
namespace Go.Proofs.Ytfmebbnccjaadaa
open Go.RowKit

/-- A right rule, whole. -/
structure RightRule (r : RuleD) : Prop where
  src : r.source ≠ []
  sets : ∀ l ∈ sidesOf r, l.length ≤ 20 ∧ ∀ s ∈ l, RightSet s
  tgt : r.target.length ≤ 20 ∧ badRune r.target = false
  cur : 0 ≤ r.cursor ∧ r.cursor ≤ r.target.length
theorem right_rule {r : RuleD} (h : ruleW r = 0) : RightRule r := by
  unfold ruleW at h
  by_cases h0 : firstBad ((sidesOf r).map sideW) = 0
  · rw [if_neg (by rw [h0]; decide)] at h
    unfold restW at h
    by_cases h1 : r.source.length = 0
    · rw [if_pos h1] at h; cases h
    · rw [if_neg h1] at h
      by_cases h2 : 20 < r.target.length
      · rw [if_pos h2] at h; cases h
      · rw [if_neg h2] at h
        by_cases h3 : badRune r.target = true
        · rw [if_pos h3] at h; cases h
        · rw [if_neg h3] at h
          by_cases h4 : r.cursor < 0 ∨ (r.target.length : Int) < r.cursor
          · rw [if_pos h4] at h; cases h
          · refine ⟨fun e => h1 (by rw [e]; rfl), fun l hl => ?_, ⟨by omega, by simpa using h3⟩, by omega⟩
            have hs := firstBad_all h0 (sideW l) (List.mem_map.2 ⟨l, hl, rfl⟩)
            unfold sideW at hs
            by_cases h20 : 20 < l.length
            · rw [if_pos h20] at hs; cases hs
            · rw [if_neg h20] at hs
              exact ⟨by omega, fun s hs2 => right_set (firstBad_all hs _ (List.mem_map.2 ⟨s, hs2, rfl⟩))⟩
  · rw [if_pos h0] at h; exact absurd h h0
def hereP (r : RuleD) (t : List Int) (q : Nat) : Bool :=
  allP t q r.source && allP t ((q : Int) - r.before.length) r.before && allP t ((q : Int) + r.source.length) r.after && !(r.start && decide (q ≠ r.before.length)) && !(r.fin && decide (q + r.source.length + r.after.length ≠ t.length))
/-- A rule's cells. -/
structure RuleAt (w : World) (X : Nat → Prop) (r : RuleD) (b o : Nat) (A1 A2 A3 A4 : Option Addr) (n1 c1 n2 c2 n3 c3 n4 c4 : Nat) : Prop where
  lt : b < w.heap.size
  d0 : w.cell? ⟨b, o, none⟩ = some (.bool r.start)
  d1 : w.cell? ⟨b, o + 1, none⟩ = some (.bool r.fin)
  d2 : w.cell? ⟨b, o + 2, none⟩ = some (.slice A1 n1 c1)
  d3 : w.cell? ⟨b, o + 3, none⟩ = some (.slice A2 n2 c2)
  d4 : w.cell? ⟨b, o + 4, none⟩ = some (.slice A3 n3 c3)
  d5 : w.cell? ⟨b, o + 5, none⟩ = some (.slice A4 n4 c4)
  d6 : w.cell? ⟨b, o + 6, none⟩ = some (.int .i64 r.cursor)
  s1 : SetsV w X r.before (.slice A1 n1 c1)
  s2 : SetsV w X r.source (.slice A2 n2 c2)
  s3 : SetsV w X r.after (.slice A3 n3 c3)
  s4 : RdX w X 1 A4 n4 (runeCells r.target)
theorem rule_is {w : World} {X : Nat → Prop} {A : Option Addr} {n : Nat} {l : List RuleD} (h : ListX (RuleC w X) w X 7 A n l) {k : Nat} {r : RuleD} (hk : l[k]? = some r) :
    ∃ (b off : Nat) (A1 A2 A3 A4 : Option Addr) (n1 c1 n2 c2 n3 c3 n4 c4 : Nat), A = some ⟨b, off, none⟩ ∧ X b ∧ RuleAt w X r b (off + k * 7) A1 A2 A3 A4 n1 c1 n2 c2 n3 c3 n4 c4 := by
  obtain ⟨b, off, A1, A2, A3, A4, n1, c1, n2, c2, n3, c3, n4, c4, e, hX, hb, ⟨d0, d1, d2, d3, d4, d5, d6⟩, s1, s2, s3, s4, _⟩ := rule_at h hk
  exact ⟨b, off, A1, A2, A3, A4, n1, c1, n2, c2, n3, c3, n4, c4, e, hX, ⟨hb, d0, d1, d2, d3, d4, d5, d6, s1, s2, s3, s4⟩⟩
theorem RuleAt.below {w w' : World} {X : Nat → Prop} {r : RuleD} {b o : Nat} {A1 A2 A3 A4 : Option Addr} {n1 c1 n2 c2 n3 c3 n4 c4 : Nat} (h : RuleAt w X r b o A1 A2 A3 A4 n1 c1 n2 c2 n3 c3 n4 c4) (hb : Below w.heap.size w w') : RuleAt w' X r b o A1 A2 A3 A4 n1 c1 n2 c2 n3 c3 n4 c4 :=
  have hk : Keeps w X w' X := Keeps.any hb
  have hc : ∀ i, w'.cell? ⟨b, i, none⟩ = w.cell? ⟨b, i, none⟩ := fun i => hb.cell (p := ⟨b, i, none⟩) h.lt
  ⟨Nat.lt_of_lt_of_le h.lt hb.size, (hc _).trans h.d0, (hc _).trans h.d1, (hc _).trans h.d2, (hc _).trans h.d3, (hc _).trans h.d4, (hc _).trans h.d5, (hc _).trans h.d6, h.s1.keep hk, h.s2.keep hk, h.s3.keep hk, h.s4.keep hk⟩
theorem SetsV.list {w : World} {X : Nat → Prop} {l : List Spans} {A : Option Addr} {n c : Nat} (h : SetsV w X l (.slice A n c)) : ListX (SetC w X) w X 1 A n l := by
  obtain ⟨A', n', c', e, h1, _⟩ := h
  cases e
  exact h1

set_option maxRecDepth 100000 in
set_option maxHeartbeats 3200000 in
theorem match_here {tI : TypeId} {xI recv : Value} {fL fR : FuncId} {T : List Int} {R : World → Prop} (I : TextI tI xI recv fL fR T R) (X : Nat → Prop) (r : RuleD) (b o : Nat) (A1 A2 A3 A4 : Option Addr) (n1 c1 n2 c2 n3 c3 n4 c4 : Nat) (q : Nat) (w : World)
    (hT : T.length ≤ 100000) (hq : q ≤ T.length) (hr : RightRule r) (ha : RuleAt w X r b o A1 A2 A3 A4 n1 c1 n2 c2 n3 c3 n4 c4) (hR : R w) :
    Calls Try.prog 103 #[.pointer (some ⟨b, o, none⟩), .iface tI xI, .int .i64 q] w fun e w' => e = .returned (.bool (hereP r T q)) ∧ Below w.heap.size w w' := by
  have hl1 := ha.s1.list.len
  have hl2 := ha.s2.list.len
  have hl3 := ha.s3.list.len
  have hs1 := hr.sets r.before (by simp [sidesOf])
  have hs2 := hr.sets r.source (by simp [sidesOf])
  have hs3 := hr.sets r.after (by simp [sidesOf])
  have hn1 : n1 ≤ 20 := by omega
  have hn2 : n2 ≤ 20 := by omega
  have hn3 : n3 ≤ 20 := by omega
  have HP := Lib.hid (show hereP r T q = (allP T q r.source && allP T ((q : Int) - n1) r.before && allP T ((q : Int) + n2) r.after && !(r.start && decide (q ≠ n1)) && !(r.fin && decide (q + n2 + n3 ≠ T.length))) by unfold hereP; rw [hl1, hl2, hl3])
  have HM2 := Lib.hid (fun (W : World) (hb : Below w.heap.size w W) => match_all I q X r.source A2 n2 c2 W (by omega) (by omega) hn2 hs2.2 (ha.below hb).s2.list (I.keep _ _ hR hb))
  have HM1 := Lib.hid (fun (W : World) (hb : Below w.heap.size w W) => match_all I ((q : Int) - n1) X r.before A1 n1 c1 W (by omega) (by omega) hn1 hs1.2 (ha.below hb).s1.list (I.keep _ _ hR hb))
  have HM3 := Lib.hid (fun (W : World) (hb : Below w.heap.size w W) => match_all I ((q : Int) + n2) X r.after A3 n3 c3 W (by omega) (by omega) hn3 hs3.2 (ha.below hb).s3.list (I.keep _ _ hR hb))
  have hwr : IntKind.i64.wrap ((q : Int) - (n1 : Int)) = (q : Int) - (n1 : Int) := by rw [IntKind.wrap_i64]; omega
  have HA := Lib.hid ha
  have HI := Lib.hid I
  have HR := Lib.hid hR
  have eL := I.enterL
  have e3 := ha.d3
  clear ha hr I hR hs1 hs2 hs3 hl1 hl2 hl3
  go_enter Try.func103, Try.ntmps103
  go_wp2_with fail
  refine (HM2.out _ (Below.refl _ _)).mono ?_
  rintro e w1 ⟨rfl, hb1⟩
  have HB1 := Lib.hid hb1
  have e2 := (HA.out.below hb1).d2
  clear hb1 e3
  cases h1 : allP T q r.source
  · have HF := Lib.hid (show hereP r T q = false by rw [HP.out, h1]; simp)
    clear h1
    go_wp2_with fail
    go_ret
    exact ⟨ret_bool HF.out.symm, HB1.out⟩
  · have HE1 := Lib.hid h1
    clear h1
    go_upto_region 3 with fail
    have HMB := Lib.hid (HM1.out _ (below_drew1 HB1.out))
    refine wp_region_till (S := fun w' => w'.cell? ⟨b, o + 2, none⟩ = some (.slice A1 n1 c1)) [5, 11] (by kernel_rfl) e2 (fun hHeld => ?_)
    refine wpTill_pure (i := 0) (oi := ⟨some 24, _, _, _, _, _⟩) (v := ?_) rfl (by kernel_rfl) (by kernel_rfl) (by kernel_rfl) (fun _ _ _ h => h) (Or.inl ⟨by rfl, ?_⟩) ?_
    rotate_left 1
    · intro wq _
      go_simp
      try with_reducible rfl
    try simp only [Act.put, List.setIfInBounds_toArray, List.set_cons_zero, List.set_cons_succ]
    refine wpTill_pure (i := 1) (oi := ⟨some 25, _, _, _, _, _⟩) (v := ?_) rfl (by kernel_rfl) (by kernel_rfl) (by kernel_rfl) (fun _ _ _ h => h) (Or.inl ⟨by rfl, ?_⟩) ?_
    rotate_left 1
    · intro wq _
      go_simp
      try with_reducible rfl
    try simp only [Act.put, List.setIfInBounds_toArray, List.set_cons_zero, List.set_cons_succ]
    refine wpTill_pure (i := 2) (oi := ⟨some 26, _, _, _, _, _⟩) (v := ?_) rfl (by kernel_rfl) (by kernel_rfl) (by kernel_rfl) (fun _ _ _ h => h) (Or.inl ⟨by rfl, ?_⟩) ?_
    rotate_left 1
    · intro wq _
      go_simp
      try with_reducible rfl
    try simp only [Act.put, List.setIfInBounds_toArray, List.set_cons_zero, List.set_cons_succ]
    refine wpTill_pure (i := 3) (oi := ⟨some 27, _, _, _, _, _⟩) (v := ?_) rfl (by kernel_rfl) (by kernel_rfl) (by kernel_rfl) (fun _ _ _ h => h) (Or.inl ⟨by rfl, ?_⟩) ?_
    rotate_left 1
    · intro wq _
      go_simp
      try with_reducible rfl
    try simp only [Act.put, List.setIfInBounds_toArray, List.set_cons_zero, List.set_cons_succ]
    refine wpTill_pure (i := 4) (oi := ⟨some 28, _, _, _, _, _⟩) (v := ?_) rfl (by kernel_rfl) (by kernel_rfl) (by kernel_rfl) (fun _ _ _ h => h) (Or.inl ⟨by rfl, ?_⟩) ?_
    rotate_left 1
    · intro wq _
      go_simp
      try with_reducible rfl
    try simp only [Act.put, List.setIfInBounds_toArray, List.set_cons_zero, List.set_cons_succ]
    refine wpTill_take (i := 5) (oi := ⟨some 29, _, _, _, _, _⟩) (v := ?_) rfl (by kernel_rfl) (by kernel_rfl) (by kernel_rfl) (by kernel_rfl) (by kernel_rfl) (fun _ _ _ h => h) (Or.inl ⟨by rfl, ?_⟩) (by assumption) ?_
    rotate_left 1
    · intro wq hSw
      (try dsimp only at hSw)
      go_simp
      try with_reducible rfl
    try simp only [Act.put, List.setIfInBounds_toArray, List.set_cons_zero, List.set_cons_succ]
    refine wpTill_pure (i := 6) (oi := ⟨some 30, _, _, _, _, _⟩) (v := ?_) rfl (by kernel_rfl) (by kernel_rfl) (by kernel_rfl) (fun _ _ _ h => h) (Or.inl ⟨by rfl, ?_⟩) ?_
    rotate_left 1
    · intro wq _
      go_simp
      try with_reducible rfl
    try simp only [Act.put, List.setIfInBounds_toArray, List.set_cons_zero, List.set_cons_succ]
    refine wpTill_pure (i := 7) (oi := ⟨some 31, _, _, _, _, _⟩) (v := ?_) rfl (by kernel_rfl) (by kernel_rfl) (by kernel_rfl) (fun _ _ _ h => h) (Or.inl ⟨by rfl, ?_⟩) ?_
    rotate_left 1
    · intro wq _
      go_simp
      try with_reducible rfl
    try simp only [Act.put, List.setIfInBounds_toArray, List.set_cons_zero, List.set_cons_succ]
    refine wpTill_pure (i := 8) (oi := ⟨some 32, _, _, _, _, _⟩) (v := ?_) rfl (by kernel_rfl) (by kernel_rfl) (by kernel_rfl) (fun _ _ _ h => h) (Or.inl ⟨by rfl, ?_⟩) ?_
    rotate_left 1
    · intro wq _
      go_simp
      try with_reducible rfl
    try simp only [Act.put, List.setIfInBounds_toArray, List.set_cons_zero, List.set_cons_succ]
    refine wpTill_pure (i := 9) (oi := ⟨some 33, _, _, _, _, _⟩) (v := ?_) rfl (by kernel_rfl) (by kernel_rfl) (by kernel_rfl) (fun _ _ _ h => h) (Or.inl ⟨by rfl, ?_⟩) ?_
    rotate_left 1
    · intro wq _
      go_simp
      try with_reducible rfl
    try simp only [Act.put, List.setIfInBounds_toArray, List.set_cons_zero, List.set_cons_succ]
    refine wpTill_pure (i := 10) (oi := ⟨some 34, _, _, _, _, _⟩) (v := ?_) rfl (by kernel_rfl) (by kernel_rfl) (by kernel_rfl) (fun _ _ _ h => h) (Or.inl ⟨by rfl, ?_⟩) ?_
    rotate_left 1
    · intro wq _
      go_simp
      try with_reducible rfl
    try simp only [Act.put, List.setIfInBounds_toArray, List.set_cons_zero, List.set_cons_succ]
    refine wpTill_take (i := 11) (oi := ⟨some 35, _, _, _, _, _⟩) (v := ?_) rfl (by kernel_rfl) (by kernel_rfl) (by kernel_rfl) (by kernel_rfl) (by kernel_rfl) (fun _ _ _ h => h) (Or.inl ⟨by rfl, ?_⟩) (by assumption) ?_
    rotate_left 1
    · intro wq hSw
      (try dsimp only at hSw)
      go_simp
      try with_reducible rfl
    try simp only [Act.put, List.setIfInBounds_toArray, List.set_cons_zero, List.set_cons_succ]
    refine wpTill_late (i := 12) (o := ⟨some 36, _, _, _, _, _⟩) (by kernel_rfl) rfl (by kernel_rfl) (fun K hK => ?_)
    go_simp
    go_at_call 112
    refine HMB.out.mono ?_
    rintro e w2 ⟨rfl, hb2⟩
    try dsimp only
    refine hK.out _ _ ?_
    clear hK K
    try simp only [Act.put, List.setIfInBounds_toArray, List.set_cons_zero, List.set_cons_succ]
    refine wpTill_pure (i := 13) (oi := ⟨some 37, _, _, _, _, _⟩) (v := ?_) rfl (by kernel_rfl) (by kernel_rfl) (by kernel_rfl) (fun _ _ _ h => h) (Or.inl ⟨by rfl, ?_⟩) ?_
    rotate_left 1
    · intro wq _
      go_simp
      try with_reducible rfl
    try simp only [Act.put, List.setIfInBounds_toArray, List.set_cons_zero, List.set_cons_succ]
    refine wpTill_pure (i := 14) (oi := ⟨some 15, _, _, _, _, _⟩) (v := ?_) rfl (by kernel_rfl) (by kernel_rfl) (by kernel_rfl) (fun _ _ _ h => h) (Or.inl ⟨by rfl, ?_⟩) ?_
    rotate_left 1
    · intro wq _
      go_simp
      try with_reducible rfl
    try simp only [Act.put, List.setIfInBounds_toArray, List.set_cons_zero, List.set_cons_succ]
    refine wpTill_done (by kernel_rfl) ?_ _
    go_simp
    have HB2 := Lib.hid ((below_drew1 HB1.out).trans (hb2.mono (below_drew1 HB1.out).size))
    have e4 := (HA.out.below HB2.out).d4
    clear hb2 HMB e2
    cases h2 : allP T ((q : Int) - n1) r.before
    · have HF := Lib.hid (show hereP r T q = false by rw [HP.out, h2]; simp)
      clear h2
      go_wp2_with fail
      go_ret
      exact ⟨ret_bool HF.out.symm, HB2.out⟩
    · have HE2 := Lib.hid h2
      clear h2
      go_wp2_with fail
      refine (HM3.out _ HB2.out).mono ?_
      rintro e w3 ⟨rfl, hb3⟩
      have HB3 := Lib.hid (HB2.out.trans (hb3.mono HB2.out.size))
      have k0 := (HA.out.below HB3.out).d0
      have k1 := (HA.out.below HB3.out).d1
      have k2 := (HA.out.below HB3.out).d2
      have k4 := (HA.out.below HB3.out).d4
      clear hb3 e4
      cases h3 : allP T ((q : Int) + n2) r.after
      · have HF := Lib.hid (show hereP r T q = false by rw [HP.out, h3]; simp)
        clear h3
        go_wp2_with fail
        go_ret
        exact ⟨ret_bool HF.out.symm, HB3.out⟩
      · have HP2 := Lib.hid (show hereP r T q = (!(r.start && decide (q ≠ n1)) && !(r.fin && decide (q + n2 + n3 ≠ T.length))) by rw [HP.out, HE1.out, HE2.out, h3]; simp)
        have HRW := Lib.hid (HI.out.keep _ _ HR.out HB3.out)
        clear h3 HM1 HM2 HM3 HP HE1 HE2
        have hst : (r.start = true ∧ q ≠ n1) ∨ (!(r.start && decide (q ≠ n1))) = true := by
          cases r.start
          · exact .inr (by simp)
          · by_cases h : q = n1
            · exact .inr (by simp [h])
            · exact .inl ⟨rfl, h⟩
        rcases hst with ⟨hs0, hs1⟩ | hs0
        · have HF := Lib.hid (show hereP r T q = false by rw [HP2.out, hs0]; simp [hs1])
          have hbn : ((q : Int) != (n1 : Int)) = true := by rw [bne_iff_ne]; omega
          rw [hs0] at k0
          clear hs0
          go_wp2_with fail
          go_ret
          exact ⟨ret_bool HF.out.symm, HB3.out⟩
        · have HP3 := Lib.hid (show hereP r T q = !(r.fin && decide (q + n2 + n3 ≠ T.length)) by rw [HP2.out, hs0, Bool.true_and])
          have hcs : r.start = false ∨ (r.start = true ∧ ((q : Int) != (n1 : Int)) = false) := by
            cases h : r.start
            · exact .inl rfl
            · right
              rw [h] at hs0
              refine ⟨rfl, ?_⟩
              have h2 : q = n1 := by simpa using hs0
              rw [h2]; simp
          clear hs0
          rcases hcs with hs0 | ⟨hs0, hbn⟩
          · rw [hs0] at k0
            clear hs0
            cases hf : r.fin
            · have HF := Lib.hid (show hereP r T q = true by rw [HP3.out, hf]; rfl)
              rw [hf] at k1
              clear hf
              go_wp2_with fail
              go_quiet (fail)
              go_wp2_with fail
              go_ret
              exact ⟨ret_bool HF.out.symm, below_drewN HB3.out nq⟩
            · rw [hf] at k1
              have HLQ := Lib.hid (fun (m : Nat) => HI.out.len (w3.drewN m) (HI.out.keep _ _ HRW.out (below_drewN (Below.refl _ _) m)))
              have mL := fun (m : Nat) => HI.out.ml (w3.drewN m) (HI.out.keep _ _ HRW.out (below_drewN (Below.refl _ _) m))
              have hbf : ((((q : Int) + (n2 : Int)) + (n3 : Int)) != (T.length : Int)) = decide (q + n2 + n3 ≠ T.length) := by
                by_cases h : q + n2 + n3 = T.length
                · have h2 : (((q : Int) + (n2 : Int)) + (n3 : Int)) = (T.length : Int) := by omega
                  rw [h2]; simp [h]
                · have h2 : ¬ (((q : Int) + (n2 : Int)) + (n3 : Int)) = (T.length : Int) := by omega
                  simp [h, h2]
              cases hfd : decide (q + n2 + n3 ≠ T.length)
              · have HF := Lib.hid (show hereP r T q = true by rw [HP3.out, hf, hfd]; rfl)
                rw [hfd] at hbf
                clear hf hfd
                go_wp2_with fail
                go_quiet (first | exact Calls.quiet_of (HLQ.out _))
                go_wp2_with fail
                go_ret
                exact ⟨ret_bool HF.out.symm, below_drewN HB3.out nq⟩
              · have HF := Lib.hid (show hereP r T q = false by rw [HP3.out, hf, hfd]; rfl)
                rw [hfd] at hbf
                clear hf hfd
                go_wp2_with fail
                go_quiet (first | exact Calls.quiet_of (HLQ.out _))
                go_wp2_with fail
                go_ret
                exact ⟨ret_bool HF.out.symm, below_drewN HB3.out nq⟩
          · rw [hs0] at k0
            clear hs0
            cases hf : r.fin
            · have HF := Lib.hid (show hereP r T q = true by rw [HP3.out, hf]; rfl)
              rw [hf] at k1
              clear hf
              go_wp2_with fail
              go_quiet (fail)
              go_wp2_with fail
              go_ret
              exact ⟨ret_bool HF.out.symm, below_drewN HB3.out nq⟩
            · rw [hf] at k1
              have HLQ := Lib.hid (fun (m : Nat) => HI.out.len (w3.drewN m) (HI.out.keep _ _ HRW.out (below_drewN (Below.refl _ _) m)))
              have mL := fun (m : Nat) => HI.out.ml (w3.drewN m) (HI.out.keep _ _ HRW.out (below_drewN (Below.refl _ _) m))
              have hbf : ((((q : Int) + (n2 : Int)) + (n3 : Int)) != (T.length : Int)) = decide (q + n2 + n3 ≠ T.length) := by
                by_cases h : q + n2 + n3 = T.length
                · have h2 : (((q : Int) + (n2 : Int)) + (n3 : Int)) = (T.length : Int) := by omega
                  rw [h2]; simp [h]
                · have h2 : ¬ (((q : Int) + (n2 : Int)) + (n3 : Int)) = (T.length : Int) := by omega
                  simp [h, h2]
              cases hfd : decide (q + n2 + n3 ≠ T.length)
              · have HF := Lib.hid (show hereP r T q = true by rw [HP3.out, hf, hfd]; rfl)
                rw [hfd] at hbf
                clear hf hfd
                go_wp2_with fail
                go_quiet (first | exact Calls.quiet_of (HLQ.out _))
                go_wp2_with fail
                go_ret
                exact ⟨ret_bool HF.out.symm, below_drewN HB3.out nq⟩
              · have HF := Lib.hid (show hereP r T q = false by rw [HP3.out, hf, hfd]; rfl)
                rw [hfd] at hbf
                clear hf hfd
                go_wp2_with fail
                go_quiet (first | exact Calls.quiet_of (HLQ.out _))
                go_wp2_with fail
                go_ret
                exact ⟨ret_bool HF.out.symm, below_drewN HB3.out nq⟩

end Go.Proofs.Ytfmebbnccjaadaa
