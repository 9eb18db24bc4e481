/- The walk of scriptlaw11.VmRuns: for any rules and any text it returns true; nothing that was there is changed. -/
import Derived.Test.YtfmebbnccjaadaaPlayTop
import Derived.Test.YtfmebbnccjaadaaRefRunAll
import Derived.Test.YtfmebbnccjaadaaRefCompile
import Derived.Test.YtfmebbnccjaadaaSame
namespace Go.Proofs.Ytfmebbnccjaadaa
open Go.RowKit

/-- The three ways: the check fails; the rules have too many heads; both runs are the same. -/
theorem play_law (l : List RuleD) (t : List Int) :
    (∃ c1 c2, c1 ≠ 0 ∧ checkP l t = (c1, c2) ∧ playP l t = (noOut, (c1, c2))) ∨ ∃ c2, checkP l t = (0, c2) ∧
      ((∃ hs k1 k2, k1 ≠ 0 ∧ compP l = (hs, (k1, k2)) ∧ playP l t = (noOut, (k1, k2))) ∨ ∃ hs k2, compP l = (hs, (0, k2)) ∧ playP l t = runRefP l t) := by
  obtain ⟨r1, r2, hR⟩ : ∃ r1 r2, rulesW l = (r1, r2) := ⟨_, _, rfl⟩
  obtain ⟨hs, k1, k2, hC⟩ : ∃ hs k1 k2, compP l = (hs, (k1, k2)) := ⟨_, _, _, rfl⟩
  unfold playP runRefP checkP
  rw [hR, hC]
  simp only
  by_cases h1 : r1 = 0
  · rw [if_neg (fun h => h h1), if_neg (fun h => h h1)]
    by_cases h2 : textP t = 0
    · rw [if_neg (fun h => h h2)]
      refine .inr ⟨0, by rw [h2], ?_⟩
      by_cases h3 : k1 = 0
      · subst h3
        exact .inr ⟨hs, k2, rfl, by rw [if_neg (fun h => h rfl), if_neg (fun h => h h2)]⟩
      · exact .inl ⟨hs, k1, k2, h3, rfl, by rw [if_pos h3]⟩
    · exact .inl ⟨_, _, h2, rfl, by rw [if_pos h2]⟩
  · exact .inl ⟨r1, r2, h1, by rw [if_pos h1], by rw [if_pos h1]⟩

theorem runGo_text (l : List RuleD) : ∀ (left : Nat) (done rest : List Int) (s p : Nat), done.length + rest.length ≤ 4000 → (runGo l left done rest s p).1.text.length ≤ 4000 := by
  intro left
  induction left with
  | zero =>
    intro done rest s p h
    cases rest with
    | nil => simpa [runGo_nil] using h
    | cons z rest => exact Nat.zero_le _
  | succ left ih =>
    intro done rest s p h
    cases rest with
    | nil => simpa [runGo_nil] using h
    | cons z rest =>
      rw [runGo]
      split
      · refine ih _ _ _ _ ?_
        simp only [List.length_append, List.length_cons, List.length_nil] at h ⊢
        omega
      · split
        · exact Nat.zero_le _
        · split
          · exact Nat.zero_le _
          · rename_i hm
            refine ih _ _ _ _ ?_
            rw [List.length_append, Nat.add_assoc, ← List.length_append, List.take_append_drop]
            omega
theorem runRef_text (l : List RuleD) (t : List Int) : (runRefP l t).1.text.length ≤ 4000 := by
  unfold runRefP
  by_cases h : (checkP l t).1 = 0
  · rw [if_neg (fun h2 => h2 h)]
    unfold okOut
    split
    · exact Nat.zero_le _
    · exact runGo_text l _ _ _ _ _ (by have := (text_ok (check_ok h).2).1; simpa using this)
  · rw [if_pos h]
    exact Nat.zero_le _

set_option maxRecDepth 100000 in
set_option maxHeartbeats 3200000 in
theorem vm_runs_law (A At : Option Addr) (n c nt ct : Nat) (l : List RuleD) (t : List Int) (w : World) (hn : n ≤ maxLen) (hl : ListX (RuleC w Any0) w Any0 7 A n l) (hnt : nt ≤ maxLen) (ht : RdR w w.heap.size At nt t) :
    Calls Try.prog 3 #[.slice A n c, .slice At nt ct] w fun e w' => e = .returned (.bool true) ∧ Below w.heap.size w w' := by
  have HT := Lib.hid (fun (W : World) (hb : Below w.heap.size w W) => show RdR W W.heap.size At nt t from (Rd.below ht hb).more hb.size)
  have HL := Lib.hid (fun (W : World) (hb : Below w.heap.size w W) => show ListX (RuleC W Any0) W Any0 7 A n l from hl.keep (Keeps.any hb) (fun _ _ => RuleC.keep (Keeps.any hb)))
  have H1 := vm_runs Any0 l A n c t At nt ct w hn hl hnt ht
  have H2 := fun (W : World) (hb : Below w.heap.size w W) => ref8_run Any0 l A n c t At nt ct W hn (HL.out W hb) hnt (HT.out W hb)
  have H3 := fun (W : World) (hb : Below w.heap.size w W) => ref8_check Any0 l A At n c nt ct t W hn (HL.out W hb) hnt (HT.out W hb)
  have H4 := fun (W : World) (hb : Below w.heap.size w W) => ref_compile Any0 l A n c W hn (HL.out W hb)
  clear hl ht HT HL
  rcases play_law l t with ⟨k1, k2, hk, e1, e2⟩ | ⟨k2, e1, ⟨hs, m1, m2, hk, e2, e3⟩ | ⟨hs, m2, e2, e3⟩⟩
  · rw [e2] at H1
    rw [e1] at H3
    obtain ⟨⟨x2, s2, p2⟩, g1, g2, e3⟩ : ∃ o2 g1 g2, runRefP l t = (o2, (g1, g2)) := ⟨_, _, _, rfl⟩
    rw [e3] at H2
    dsimp only [noOut] at H1 H2 H3
    clear e1 e2 e3
    have H1 := Lib.hid H1
    have H2 := Lib.hid H2
    have H3 := Lib.hid H3
    have H4 := Lib.hid H4
    go_enter Try.func3, Try.ntmps3
    go_wp2_with fail
    refine H1.out.mono ?_
    rintro e w1 ⟨⟨A1, n1, c1', rfl, hr1⟩, hb1⟩
    have HO1 := Lib.hid (Blk.alloc (Blk.new w1 25 #[.slice A1 n1 c1', .int .i64 0, .int .i64 0]) (.cells #[.int .i64 k1, .int .i64 k2] 28))
    have HF1 := Lib.hid (show Blk ((w1.alloc (.cells #[.slice A1 n1 c1', .int .i64 0, .int .i64 0] 25)).alloc (.cells #[.int .i64 k1, .int .i64 k2] 28)) (w1.heap.size + 1) 28 #[.int .i64 k1, .int .i64 k2] by
      have := Blk.new (w1.alloc (.cells #[.slice A1 n1 c1', .int .i64 0, .int .i64 0] 25)) 28 #[.int .i64 k1, .int .i64 k2]
      simpa using this)
    have hba := (((Below.refl w1.heap.size w1).alloc (Nat.le_refl _) (.cells #[.slice A1 n1 c1', .int .i64 0, .int .i64 0] 25)).alloc (by simp) (.cells #[.int .i64 k1, .int .i64 k2] 28))
    have HB1 := Lib.hid (hb1.trans (hba.mono hb1.size))
    have HR1 := Lib.hid (Rd.below hr1.of hba)
    have hw0 : w.heap.size ≤ w1.heap.size := hb1.size
    clear hr1 hb1 hba
    go_upto_region 2 with fail
    generalize (w1.alloc (.cells #[.slice A1 n1 c1', .int .i64 0, .int .i64 0] 25)).alloc (.cells #[.int .i64 k1, .int .i64 k2] 28) = W1 at *
    have hw1 := HF1.out.lt
    go_wp2_with fail
    refine (H2.out W1 HB1.out).mono ?_
    rintro e w2 ⟨⟨A2, n2, c2', rfl, hr2⟩, hb2⟩
    have HO2 := Lib.hid (Blk.alloc (Blk.new w2 25 #[.slice A2 n2 c2', .int .i64 s2, .int .i64 p2]) (.cells #[.int .i64 g1, .int .i64 g2] 28))
    have HF2 := Lib.hid (show Blk ((w2.alloc (.cells #[.slice A2 n2 c2', .int .i64 s2, .int .i64 p2] 25)).alloc (.cells #[.int .i64 g1, .int .i64 g2] 28)) (w2.heap.size + 1) 28 #[.int .i64 g1, .int .i64 g2] by
      have := Blk.new (w2.alloc (.cells #[.slice A2 n2 c2', .int .i64 s2, .int .i64 p2] 25)) 28 #[.int .i64 g1, .int .i64 g2]
      simpa using this)
    have hba := (((Below.refl w2.heap.size w2).alloc (Nat.le_refl _) (.cells #[.slice A2 n2 c2', .int .i64 s2, .int .i64 p2] 25)).alloc (by simp) (.cells #[.int .i64 g1, .int .i64 g2] 28))
    have hbb := hb2.trans (hba.mono hb2.size)
    have HB2 := Lib.hid (HB1.out.trans (hbb.mono HB1.out.size))
    have HO1 := Lib.hid (Blk.below HO1.out hbb HO1.out.lt)
    have HF1 := Lib.hid (Blk.below HF1.out hbb HF1.out.lt)
    have HR1 := Lib.hid (Rd.below HR1.out (hbb.mono (by omega)))
    have HR2 := Lib.hid (Rd.below hr2.of hba)
    have hw2 : W1.heap.size ≤ w2.heap.size := hb2.size
    clear hr2 hb2 hba hbb
    go_upto_region 3 with fail
    generalize (w2.alloc (.cells #[.slice A2 n2 c2', .int .i64 s2, .int .i64 p2] 25)).alloc (.cells #[.int .i64 g1, .int .i64 g2] 28) = W2 at *
    have hw3 := HF2.out.lt
    go_wp2_with fail
    refine (H3.out W2 HB2.out).mono ?_
    rintro e w3 ⟨rfl, hb3⟩
    have hba := (Below.refl w3.heap.size w3).alloc (Nat.le_refl _) (.cells #[.int .i64 k1, .int .i64 k2] 28)
    have hbb := hb3.trans (hba.mono hb3.size)
    have HB3 := Lib.hid (HB2.out.trans (hbb.mono HB2.out.size))
    have HO1 := Lib.hid (Blk.below HO1.out hbb HO1.out.lt)
    have HF1 := Lib.hid (Blk.below HF1.out hbb HF1.out.lt)
    have HO2 := Lib.hid (Blk.below HO2.out hbb HO2.out.lt)
    have HF2 := Lib.hid (Blk.below HF2.out hbb HF2.out.lt)
    have HF3 := Lib.hid (Blk.new w3 28 #[.int .i64 k1, .int .i64 k2])
    have HR1 := Lib.hid (Rd.below HR1.out (hbb.mono (by omega)))
    have HR2 := Lib.hid (Rd.below HR2.out (hbb.mono (by omega)))
    have hw4 : W2.heap.size ≤ w3.heap.size := hb3.size
    clear hb3 hba hbb
    go_upto_region 4 with fail
    generalize (w3.alloc (.cells #[.int .i64 k1, .int .i64 k2] 28)) = W3 at *
    have hw5 := HF3.out.lt
    have hk1 : ((k1 : Int) == 0) = false := by rw [beq_eq_false_iff_ne]; exact hk
    have hk2 : ((k1 : Int) != 0) = true := by rw [bne_iff_ne]; exact hk
    clear H1 H2 H3 H4
    have z0 := HF3.out.cell 0
    have z1 := HF3.out.cell 1
    have v0 := HF2.out.cell 0
    have v1 := HF2.out.cell 1
    have u0 := HO2.out.cell 0
    have u1 := HO2.out.cell 1
    have u2 := HO2.out.cell 2
    have fv0 := HF2.out.frozen 0
    have fv1 := HF2.out.frozen 1
    have fu0 := HO2.out.frozen 0
    have fu1 := HO2.out.frozen 1
    have fu2 := HO2.out.frozen 2
    have a0 := HF1.out.cell 0
    have a1 := HF1.out.cell 1
    have b0 := HO1.out.cell 0
    have b1 := HO1.out.cell 1
    have b2 := HO1.out.cell 2
    have hbf := (((((HB3.out.setCell (p := ⟨w2.heap.size + 1, 0, none⟩) (by simp only; omega) (.int .i64 k1)).setCell (p := ⟨w2.heap.size + 1, 1, none⟩) (by simp only; omega) (.int .i64 k2)).setCell (p := ⟨w2.heap.size, 0, none⟩) (by simp only; omega) (.slice none 0 0)).setCell (p := ⟨w2.heap.size, 1, none⟩) (by simp only; omega) (.int .i64 0)).setCell (p := ⟨w2.heap.size, 2, none⟩) (by simp only; omega) (.int .i64 0))
    have HBF := Lib.hid hbf
    have h0 : n1 = 0 := by have := HR1.out.1; simp [runeCells] at this; omega
    subst h0
    clear hbf HB1 HB2 HB3
    have ne1 : ¬ w2.heap.size + 1 = w2.heap.size := by omega
    have ne2 : ¬ w2.heap.size = w2.heap.size + 1 := by omega
    have ne3 : ¬ w1.heap.size = w2.heap.size := by omega
    have ne4 : ¬ w1.heap.size = w2.heap.size + 1 := by omega
    have ne5 : ¬ w1.heap.size + 1 = w2.heap.size := by omega
    have ne6 : ¬ w1.heap.size + 1 = w2.heap.size + 1 := by omega
    have ne7 : ¬ w3.heap.size = w2.heap.size := by omega
    have ne8 : ¬ w3.heap.size = w2.heap.size + 1 := by omega
    go_wp2_with fail
    refine (ref_same A1 none 0 0 c1' 0 [] [] _ (by omega) (rd_none _ _ 1 A1) (rd_none _ _ 1 none)).mono ?_
    rintro e w9 ⟨rfl, q, rfl⟩
    go_wp2_with fail
    go_ret
    exact ⟨rfl, below_drewN HBF.out q⟩
  · rw [e3] at H1
    rw [e1] at H3
    rw [e2] at H4
    obtain ⟨⟨x2, s2, p2⟩, g1, g2, e4⟩ : ∃ o2 g1 g2, runRefP l t = (o2, (g1, g2)) := ⟨_, _, _, rfl⟩
    rw [e4] at H2
    dsimp only [noOut] at H1 H2 H3 H4
    clear e1 e2 e3 e4
    have H1 := Lib.hid H1
    have H2 := Lib.hid H2
    have H3 := Lib.hid H3
    have H4 := Lib.hid H4
    go_enter Try.func3, Try.ntmps3
    go_wp2_with fail
    refine H1.out.mono ?_
    rintro e w1 ⟨⟨A1, n1, c1', rfl, hr1⟩, hb1⟩
    have HO1 := Lib.hid (Blk.alloc (Blk.new w1 25 #[.slice A1 n1 c1', .int .i64 0, .int .i64 0]) (.cells #[.int .i64 m1, .int .i64 m2] 28))
    have HF1 := Lib.hid (show Blk ((w1.alloc (.cells #[.slice A1 n1 c1', .int .i64 0, .int .i64 0] 25)).alloc (.cells #[.int .i64 m1, .int .i64 m2] 28)) (w1.heap.size + 1) 28 #[.int .i64 m1, .int .i64 m2] by
      have := Blk.new (w1.alloc (.cells #[.slice A1 n1 c1', .int .i64 0, .int .i64 0] 25)) 28 #[.int .i64 m1, .int .i64 m2]
      simpa using this)
    have hba := (((Below.refl w1.heap.size w1).alloc (Nat.le_refl _) (.cells #[.slice A1 n1 c1', .int .i64 0, .int .i64 0] 25)).alloc (by simp) (.cells #[.int .i64 m1, .int .i64 m2] 28))
    have HB1 := Lib.hid (hb1.trans (hba.mono hb1.size))
    have HR1 := Lib.hid (Rd.below hr1.of hba)
    have hw0 : w.heap.size ≤ w1.heap.size := hb1.size
    clear hr1 hb1 hba
    go_upto_region 2 with fail
    generalize (w1.alloc (.cells #[.slice A1 n1 c1', .int .i64 0, .int .i64 0] 25)).alloc (.cells #[.int .i64 m1, .int .i64 m2] 28) = W1 at *
    have hw1 := HF1.out.lt
    go_wp2_with fail
    refine (H2.out W1 HB1.out).mono ?_
    rintro e w2 ⟨⟨A2, n2, c2', rfl, hr2⟩, hb2⟩
    have HO2 := Lib.hid (Blk.alloc (Blk.new w2 25 #[.slice A2 n2 c2', .int .i64 s2, .int .i64 p2]) (.cells #[.int .i64 g1, .int .i64 g2] 28))
    have HF2 := Lib.hid (show Blk ((w2.alloc (.cells #[.slice A2 n2 c2', .int .i64 s2, .int .i64 p2] 25)).alloc (.cells #[.int .i64 g1, .int .i64 g2] 28)) (w2.heap.size + 1) 28 #[.int .i64 g1, .int .i64 g2] by
      have := Blk.new (w2.alloc (.cells #[.slice A2 n2 c2', .int .i64 s2, .int .i64 p2] 25)) 28 #[.int .i64 g1, .int .i64 g2]
      simpa using this)
    have hba := (((Below.refl w2.heap.size w2).alloc (Nat.le_refl _) (.cells #[.slice A2 n2 c2', .int .i64 s2, .int .i64 p2] 25)).alloc (by simp) (.cells #[.int .i64 g1, .int .i64 g2] 28))
    have hbb := hb2.trans (hba.mono hb2.size)
    have HB2 := Lib.hid (HB1.out.trans (hbb.mono HB1.out.size))
    have HO1 := Lib.hid (Blk.below HO1.out hbb HO1.out.lt)
    have HF1 := Lib.hid (Blk.below HF1.out hbb HF1.out.lt)
    have HR1 := Lib.hid (Rd.below HR1.out (hbb.mono (by omega)))
    have HR2 := Lib.hid (Rd.below hr2.of hba)
    have hw2 : W1.heap.size ≤ w2.heap.size := hb2.size
    clear hr2 hb2 hba hbb
    go_upto_region 3 with fail
    generalize (w2.alloc (.cells #[.slice A2 n2 c2', .int .i64 s2, .int .i64 p2] 25)).alloc (.cells #[.int .i64 g1, .int .i64 g2] 28) = W2 at *
    have hw3 := HF2.out.lt
    go_wp2_with fail
    refine (H3.out W2 HB2.out).mono ?_
    rintro e w3 ⟨rfl, hb3⟩
    have hba := (Below.refl w3.heap.size w3).alloc (Nat.le_refl _) (.cells #[.int .i64 0, .int .i64 k2] 28)
    have hbb := hb3.trans (hba.mono hb3.size)
    have HB3 := Lib.hid (HB2.out.trans (hbb.mono HB2.out.size))
    have HO1 := Lib.hid (Blk.below HO1.out hbb HO1.out.lt)
    have HF1 := Lib.hid (Blk.below HF1.out hbb HF1.out.lt)
    have HO2 := Lib.hid (Blk.below HO2.out hbb HO2.out.lt)
    have HF2 := Lib.hid (Blk.below HF2.out hbb HF2.out.lt)
    have HF3 := Lib.hid (Blk.new w3 28 #[.int .i64 0, .int .i64 k2])
    have HR1 := Lib.hid (Rd.below HR1.out (hbb.mono (by omega)))
    have HR2 := Lib.hid (Rd.below HR2.out (hbb.mono (by omega)))
    have hw4 : W2.heap.size ≤ w3.heap.size := hb3.size
    clear hb3 hba hbb
    go_upto_region 4 with fail
    generalize (w3.alloc (.cells #[.int .i64 0, .int .i64 k2] 28)) = W3 at *
    have hw5 := HF3.out.lt
    have z0 := HF3.out.cell 0
    go_wp2_with fail
    refine (H4.out W3 HB3.out).mono ?_
    rintro e w4 ⟨⟨v, rfl, _⟩, hb4⟩
    have HB4 := Lib.hid (HB3.out.trans (hb4.mono HB3.out.size))
    have HO1 := Lib.hid (Blk.below HO1.out hb4 HO1.out.lt)
    have HF1 := Lib.hid (Blk.below HF1.out hb4 HF1.out.lt)
    have HO2 := Lib.hid (Blk.below HO2.out hb4 HO2.out.lt)
    have HF2 := Lib.hid (Blk.below HF2.out hb4 HF2.out.lt)
    have HF3 := Lib.hid (Blk.below HF3.out hb4 HF3.out.lt)
    have HR1 := Lib.hid (Rd.below HR1.out (hb4.mono (by omega)))
    have HR2 := Lib.hid (Rd.below HR2.out (hb4.mono (by omega)))
    have t0 := HF3.out.frozen 0
    have t1 := HF3.out.frozen 1
    have y0 := HF3.out.cell 0
    have y1 := HF3.out.cell 1
    have hz4 := hb4.size
    have q1 := (HF3.out.put 0 (.int .i64 m1)).put 1 (.int .i64 m2)
    have q2 := (Below.heap_setCell (w4.setCell ⟨w3.heap.size, 0, none⟩ (.int .i64 m1)) ⟨w3.heap.size, 1, none⟩ (.int .i64 m2) (w2.heap.size + 1) (by simp only; omega)).trans ((Below.heap_setCell w4 ⟨w3.heap.size, 0, none⟩ (.int .i64 m1) (w2.heap.size + 1) (by simp only; omega)).trans HF2.out)
    have q3 := (Below.heap_setCell (w4.setCell ⟨w3.heap.size, 0, none⟩ (.int .i64 m1)) ⟨w3.heap.size, 1, none⟩ (.int .i64 m2) (w2.heap.size) (by simp only; omega)).trans ((Below.heap_setCell w4 ⟨w3.heap.size, 0, none⟩ (.int .i64 m1) (w2.heap.size) (by simp only; omega)).trans HO2.out)
    have q4 := (Below.heap_setCell (w4.setCell ⟨w3.heap.size, 0, none⟩ (.int .i64 m1)) ⟨w3.heap.size, 1, none⟩ (.int .i64 m2) (w1.heap.size + 1) (by simp only; omega)).trans ((Below.heap_setCell w4 ⟨w3.heap.size, 0, none⟩ (.int .i64 m1) (w1.heap.size + 1) (by simp only; omega)).trans HF1.out)
    have q5 := (Below.heap_setCell (w4.setCell ⟨w3.heap.size, 0, none⟩ (.int .i64 m1)) ⟨w3.heap.size, 1, none⟩ (.int .i64 m2) (w1.heap.size) (by simp only; omega)).trans ((Below.heap_setCell w4 ⟨w3.heap.size, 0, none⟩ (.int .i64 m1) (w1.heap.size) (by simp only; omega)).trans HO1.out)
    have q6 := (HR1.out.setCell (p := ⟨w3.heap.size, 0, none⟩) (by simp only; omega) (.int .i64 m1)).setCell (p := ⟨w3.heap.size, 1, none⟩) (by simp only; omega) (.int .i64 m2)
    have q7 := (HR2.out.setCell (p := ⟨w3.heap.size, 0, none⟩) (by simp only; omega) (.int .i64 m1)).setCell (p := ⟨w3.heap.size, 1, none⟩) (by simp only; omega) (.int .i64 m2)
    have q8 := (HB4.out.setCell (p := ⟨w3.heap.size, 0, none⟩) (by simp only; omega) (.int .i64 m1)).setCell (p := ⟨w3.heap.size, 1, none⟩) (by simp only; omega) (.int .i64 m2)
    have q9 : ((w4.setCell ⟨w3.heap.size, 0, none⟩ (.int .i64 m1)).setCell ⟨w3.heap.size, 1, none⟩ (.int .i64 m2)).heap.size = w4.heap.size := by simp
    go_upto_region 6 with fail
    clear z0 t0 t1 y0 y1 HB4 HO1 HF1 HO2 HF2 HF3 HR1 HR2 HB3 hb4
    generalize (w4.setCell ⟨w3.heap.size, 0, none⟩ (.int .i64 m1)).setCell ⟨w3.heap.size, 1, none⟩ (.int .i64 m2) = W4 at *
    have HF3 := Lib.hid (show Blk W4 w3.heap.size 28 #[.int .i64 m1, .int .i64 m2] from q1)
    have HF2 := Lib.hid (show Blk W4 (w2.heap.size + 1) 28 #[.int .i64 g1, .int .i64 g2] from q2)
    have HO2 := Lib.hid (show Blk W4 w2.heap.size 25 #[.slice A2 n2 c2', .int .i64 s2, .int .i64 p2] from q3)
    have HF1 := Lib.hid (show Blk W4 (w1.heap.size + 1) 28 #[.int .i64 m1, .int .i64 m2] from q4)
    have HO1 := Lib.hid (show Blk W4 w1.heap.size 25 #[.slice A1 n1 c1', .int .i64 0, .int .i64 0] from q5)
    have HR1 := Lib.hid q6
    have HR2 := Lib.hid q7
    have HB3 := Lib.hid q8
    clear q1 q2 q3 q4 q5 q6 q7 q8
    have hk2 : ((m1 : Int) != 0) = true := by rw [bne_iff_ne]; exact hk
    clear H1 H2 H3 H4
    have z0 := HF3.out.cell 0
    have z1 := HF3.out.cell 1
    have v0 := HF2.out.cell 0
    have v1 := HF2.out.cell 1
    have u0 := HO2.out.cell 0
    have u1 := HO2.out.cell 1
    have u2 := HO2.out.cell 2
    have fv0 := HF2.out.frozen 0
    have fv1 := HF2.out.frozen 1
    have fu0 := HO2.out.frozen 0
    have fu1 := HO2.out.frozen 1
    have fu2 := HO2.out.frozen 2
    have a0 := HF1.out.cell 0
    have a1 := HF1.out.cell 1
    have b0 := HO1.out.cell 0
    have b1 := HO1.out.cell 1
    have b2 := HO1.out.cell 2
    have hbf := (((((HB3.out.setCell (p := ⟨w2.heap.size + 1, 0, none⟩) (by simp only; omega) (.int .i64 m1)).setCell (p := ⟨w2.heap.size + 1, 1, none⟩) (by simp only; omega) (.int .i64 m2)).setCell (p := ⟨w2.heap.size, 0, none⟩) (by simp only; omega) (.slice none 0 0)).setCell (p := ⟨w2.heap.size, 1, none⟩) (by simp only; omega) (.int .i64 0)).setCell (p := ⟨w2.heap.size, 2, none⟩) (by simp only; omega) (.int .i64 0))
    have HBF := Lib.hid hbf
    have h0 : n1 = 0 := by have := HR1.out.1; simp [runeCells] at this; omega
    subst h0
    clear hbf HB1 HB2 HB3
    have ne1 : ¬ w2.heap.size + 1 = w2.heap.size := by omega
    have ne2 : ¬ w2.heap.size = w2.heap.size + 1 := by omega
    have ne3 : ¬ w1.heap.size = w2.heap.size := by omega
    have ne4 : ¬ w1.heap.size = w2.heap.size + 1 := by omega
    have ne5 : ¬ w1.heap.size + 1 = w2.heap.size := by omega
    have ne6 : ¬ w1.heap.size + 1 = w2.heap.size + 1 := by omega
    have ne7 : ¬ w3.heap.size = w2.heap.size := by omega
    have ne8 : ¬ w3.heap.size = w2.heap.size + 1 := by omega
    go_wp2_with fail
    refine (ref_same A1 none 0 0 c1' 0 [] [] _ (by omega) (rd_none _ _ 1 A1) (rd_none _ _ 1 none)).mono ?_
    rintro e w9 ⟨rfl, q, rfl⟩
    go_wp2_with fail
    go_ret
    exact ⟨rfl, below_drewN HBF.out q⟩
  · rw [e3] at H1
    rw [e1] at H3
    rw [e2] at H4
    have hx2 : ∃ o2 g1 g2, runRefP l t = (o2, (g1, g2)) ∧ o2.text.length ≤ 4000 := ⟨_, _, _, rfl, runRef_text l t⟩
    obtain ⟨⟨x2, s2, p2⟩, g1, g2, e4, hx2⟩ := hx2
    rw [e4] at H1 H2
    dsimp only at H1 H2 H3 H4 hx2
    clear e1 e2 e3 e4
    have H1 := Lib.hid H1
    have H2 := Lib.hid H2
    have H3 := Lib.hid H3
    have H4 := Lib.hid H4
    go_enter Try.func3, Try.ntmps3
    go_wp2_with fail
    refine H1.out.mono ?_
    rintro e w1 ⟨⟨A1, n1, c1', rfl, hr1⟩, hb1⟩
    have HO1 := Lib.hid (Blk.alloc (Blk.new w1 25 #[.slice A1 n1 c1', .int .i64 s2, .int .i64 p2]) (.cells #[.int .i64 g1, .int .i64 g2] 28))
    have HF1 := Lib.hid (show Blk ((w1.alloc (.cells #[.slice A1 n1 c1', .int .i64 s2, .int .i64 p2] 25)).alloc (.cells #[.int .i64 g1, .int .i64 g2] 28)) (w1.heap.size + 1) 28 #[.int .i64 g1, .int .i64 g2] by
      have := Blk.new (w1.alloc (.cells #[.slice A1 n1 c1', .int .i64 s2, .int .i64 p2] 25)) 28 #[.int .i64 g1, .int .i64 g2]
      simpa using this)
    have hba := (((Below.refl w1.heap.size w1).alloc (Nat.le_refl _) (.cells #[.slice A1 n1 c1', .int .i64 s2, .int .i64 p2] 25)).alloc (by simp) (.cells #[.int .i64 g1, .int .i64 g2] 28))
    have HB1 := Lib.hid (hb1.trans (hba.mono hb1.size))
    have HR1 := Lib.hid (Rd.below hr1.of hba)
    have hw0 : w.heap.size ≤ w1.heap.size := hb1.size
    clear hr1 hb1 hba
    go_upto_region 2 with fail
    generalize (w1.alloc (.cells #[.slice A1 n1 c1', .int .i64 s2, .int .i64 p2] 25)).alloc (.cells #[.int .i64 g1, .int .i64 g2] 28) = W1 at *
    have hw1 := HF1.out.lt
    go_wp2_with fail
    refine (H2.out W1 HB1.out).mono ?_
    rintro e w2 ⟨⟨A2, n2, c2', rfl, hr2⟩, hb2⟩
    have HO2 := Lib.hid (Blk.alloc (Blk.new w2 25 #[.slice A2 n2 c2', .int .i64 s2, .int .i64 p2]) (.cells #[.int .i64 g1, .int .i64 g2] 28))
    have HF2 := Lib.hid (show Blk ((w2.alloc (.cells #[.slice A2 n2 c2', .int .i64 s2, .int .i64 p2] 25)).alloc (.cells #[.int .i64 g1, .int .i64 g2] 28)) (w2.heap.size + 1) 28 #[.int .i64 g1, .int .i64 g2] by
      have := Blk.new (w2.alloc (.cells #[.slice A2 n2 c2', .int .i64 s2, .int .i64 p2] 25)) 28 #[.int .i64 g1, .int .i64 g2]
      simpa using this)
    have hba := (((Below.refl w2.heap.size w2).alloc (Nat.le_refl _) (.cells #[.slice A2 n2 c2', .int .i64 s2, .int .i64 p2] 25)).alloc (by simp) (.cells #[.int .i64 g1, .int .i64 g2] 28))
    have hbb := hb2.trans (hba.mono hb2.size)
    have HB2 := Lib.hid (HB1.out.trans (hbb.mono HB1.out.size))
    have HO1 := Lib.hid (Blk.below HO1.out hbb HO1.out.lt)
    have HF1 := Lib.hid (Blk.below HF1.out hbb HF1.out.lt)
    have HR1 := Lib.hid (Rd.below HR1.out (hbb.mono (by omega)))
    have HR2 := Lib.hid (Rd.below hr2.of hba)
    have hw2 : W1.heap.size ≤ w2.heap.size := hb2.size
    clear hr2 hb2 hba hbb
    go_upto_region 3 with fail
    generalize (w2.alloc (.cells #[.slice A2 n2 c2', .int .i64 s2, .int .i64 p2] 25)).alloc (.cells #[.int .i64 g1, .int .i64 g2] 28) = W2 at *
    have hw3 := HF2.out.lt
    go_wp2_with fail
    refine (H3.out W2 HB2.out).mono ?_
    rintro e w3 ⟨rfl, hb3⟩
    have hba := (Below.refl w3.heap.size w3).alloc (Nat.le_refl _) (.cells #[.int .i64 0, .int .i64 k2] 28)
    have hbb := hb3.trans (hba.mono hb3.size)
    have HB3 := Lib.hid (HB2.out.trans (hbb.mono HB2.out.size))
    have HO1 := Lib.hid (Blk.below HO1.out hbb HO1.out.lt)
    have HF1 := Lib.hid (Blk.below HF1.out hbb HF1.out.lt)
    have HO2 := Lib.hid (Blk.below HO2.out hbb HO2.out.lt)
    have HF2 := Lib.hid (Blk.below HF2.out hbb HF2.out.lt)
    have HF3 := Lib.hid (Blk.new w3 28 #[.int .i64 0, .int .i64 k2])
    have HR1 := Lib.hid (Rd.below HR1.out (hbb.mono (by omega)))
    have HR2 := Lib.hid (Rd.below HR2.out (hbb.mono (by omega)))
    have hw4 : W2.heap.size ≤ w3.heap.size := hb3.size
    clear hb3 hba hbb
    go_upto_region 4 with fail
    generalize (w3.alloc (.cells #[.int .i64 0, .int .i64 k2] 28)) = W3 at *
    have hw5 := HF3.out.lt
    have z0 := HF3.out.cell 0
    go_wp2_with fail
    refine (H4.out W3 HB3.out).mono ?_
    rintro e w4 ⟨⟨v, rfl, _⟩, hb4⟩
    have HB4 := Lib.hid (HB3.out.trans (hb4.mono HB3.out.size))
    have HO1 := Lib.hid (Blk.below HO1.out hb4 HO1.out.lt)
    have HF1 := Lib.hid (Blk.below HF1.out hb4 HF1.out.lt)
    have HO2 := Lib.hid (Blk.below HO2.out hb4 HO2.out.lt)
    have HF2 := Lib.hid (Blk.below HF2.out hb4 HF2.out.lt)
    have HF3 := Lib.hid (Blk.below HF3.out hb4 HF3.out.lt)
    have HR1 := Lib.hid (Rd.below HR1.out (hb4.mono (by omega)))
    have HR2 := Lib.hid (Rd.below HR2.out (hb4.mono (by omega)))
    have t0 := HF3.out.frozen 0
    have t1 := HF3.out.frozen 1
    have y0 := HF3.out.cell 0
    have y1 := HF3.out.cell 1
    have hz4 := hb4.size
    have q1 := (HF3.out.put 0 (.int .i64 0)).put 1 (.int .i64 m2)
    have q2 := (Below.heap_setCell (w4.setCell ⟨w3.heap.size, 0, none⟩ (.int .i64 0)) ⟨w3.heap.size, 1, none⟩ (.int .i64 m2) (w2.heap.size + 1) (by simp only; omega)).trans ((Below.heap_setCell w4 ⟨w3.heap.size, 0, none⟩ (.int .i64 0) (w2.heap.size + 1) (by simp only; omega)).trans HF2.out)
    have q3 := (Below.heap_setCell (w4.setCell ⟨w3.heap.size, 0, none⟩ (.int .i64 0)) ⟨w3.heap.size, 1, none⟩ (.int .i64 m2) (w2.heap.size) (by simp only; omega)).trans ((Below.heap_setCell w4 ⟨w3.heap.size, 0, none⟩ (.int .i64 0) (w2.heap.size) (by simp only; omega)).trans HO2.out)
    have q4 := (Below.heap_setCell (w4.setCell ⟨w3.heap.size, 0, none⟩ (.int .i64 0)) ⟨w3.heap.size, 1, none⟩ (.int .i64 m2) (w1.heap.size + 1) (by simp only; omega)).trans ((Below.heap_setCell w4 ⟨w3.heap.size, 0, none⟩ (.int .i64 0) (w1.heap.size + 1) (by simp only; omega)).trans HF1.out)
    have q5 := (Below.heap_setCell (w4.setCell ⟨w3.heap.size, 0, none⟩ (.int .i64 0)) ⟨w3.heap.size, 1, none⟩ (.int .i64 m2) (w1.heap.size) (by simp only; omega)).trans ((Below.heap_setCell w4 ⟨w3.heap.size, 0, none⟩ (.int .i64 0) (w1.heap.size) (by simp only; omega)).trans HO1.out)
    have q6 := (HR1.out.setCell (p := ⟨w3.heap.size, 0, none⟩) (by simp only; omega) (.int .i64 0)).setCell (p := ⟨w3.heap.size, 1, none⟩) (by simp only; omega) (.int .i64 m2)
    have q7 := (HR2.out.setCell (p := ⟨w3.heap.size, 0, none⟩) (by simp only; omega) (.int .i64 0)).setCell (p := ⟨w3.heap.size, 1, none⟩) (by simp only; omega) (.int .i64 m2)
    have q8 := (HB4.out.setCell (p := ⟨w3.heap.size, 0, none⟩) (by simp only; omega) (.int .i64 0)).setCell (p := ⟨w3.heap.size, 1, none⟩) (by simp only; omega) (.int .i64 m2)
    have q9 : ((w4.setCell ⟨w3.heap.size, 0, none⟩ (.int .i64 0)).setCell ⟨w3.heap.size, 1, none⟩ (.int .i64 m2)).heap.size = w4.heap.size := by simp
    go_upto_region 6 with fail
    clear z0 t0 t1 y0 y1 HB4 HO1 HF1 HO2 HF2 HF3 HR1 HR2 HB3 hb4
    generalize (w4.setCell ⟨w3.heap.size, 0, none⟩ (.int .i64 0)).setCell ⟨w3.heap.size, 1, none⟩ (.int .i64 m2) = W4 at *
    have HF3 := Lib.hid (show Blk W4 w3.heap.size 28 #[.int .i64 0, .int .i64 m2] from q1)
    have HF2 := Lib.hid (show Blk W4 (w2.heap.size + 1) 28 #[.int .i64 g1, .int .i64 g2] from q2)
    have HO2 := Lib.hid (show Blk W4 w2.heap.size 25 #[.slice A2 n2 c2', .int .i64 s2, .int .i64 p2] from q3)
    have HF1 := Lib.hid (show Blk W4 (w1.heap.size + 1) 28 #[.int .i64 g1, .int .i64 g2] from q4)
    have HO1 := Lib.hid (show Blk W4 w1.heap.size 25 #[.slice A1 n1 c1', .int .i64 s2, .int .i64 p2] from q5)
    have HR1 := Lib.hid q6
    have HR2 := Lib.hid q7
    have HB3 := Lib.hid q8
    clear q1 q2 q3 q4 q5 q6 q7 q8
    have z0 := HF3.out.cell 0
    have v0 := HF2.out.cell 0
    have v1 := HF2.out.cell 1
    have u0 := HO2.out.cell 0
    have u1 := HO2.out.cell 1
    have u2 := HO2.out.cell 2
    have a0 := HF1.out.cell 0
    have a1 := HF1.out.cell 1
    have b0 := HO1.out.cell 0
    have b1 := HO1.out.cell 1
    have b2 := HO1.out.cell 2
    have hx := HR1.out.1
    rw [runeCells_length] at hx
    have hn1 : n1 ≤ 9223372036854775807 := by omega
    clear H1 H2 H3 H4
    go_wp2_with fail
    refine (ref_same A1 A2 n1 n2 c1' c2' x2 x2 _ hn1 (Rd.more HR1.out (by omega)) (Rd.more HR2.out (by omega))).mono ?_
    rintro e w9 ⟨rfl, q, rfl⟩
    go_wp2_with fail
    go_ret
    exact ⟨ret_bool (by simp), below_drewN HB3.out q⟩

end Go.Proofs.Ytfmebbnccjaadaa
