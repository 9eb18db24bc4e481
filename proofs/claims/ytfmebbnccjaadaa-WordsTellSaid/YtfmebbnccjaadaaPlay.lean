/- The walk of vm.play where nothing is told, and of vm.Play: they tell playP. -/
import Derived.Test.YtfmebbnccjaadaaMachAll
import Derived.Test.YtfmebbnccjaadaaRunP
import Derived.Test.YtfmebbnccjaadaaCompile
import Derived.BigRegion
namespace Go.Proofs.Ytfmebbnccjaadaa
open Go.RowKit

def playP (l : List RuleD) (t : List Int) : OutD × (Int × Int) :=
  if (rulesW l).1 ≠ 0 then (noOut, rulesW l) else if textP t ≠ 0 then (noOut, (textP t, 0)) else if (compP l).2.1 ≠ 0 then (noOut, (compP l).2) else okOut (runGo l (8 * t.length + 40) [] t 0 0)
/-- What play hands back. -/
def PlayPost (lo : Nat) (w' : World) (o : OutD × (Int × Int)) (e : Ending) : Prop :=
  ∃ (A : Option Addr) (n c : Nat), e = .returned (.tuple #[.agg #[.slice A n c, .int .i64 o.1.steps, .int .i64 o.1.put], .agg #[.int .i64 o.2.1, .int .i64 o.2.2]]) ∧ RdX w' (fun b => lo ≤ b) 1 A n (runeCells o.1.text)
theorem take_past (A X : List Int) (n : Nat) : (A ++ X).take (A.length + n) = A ++ X.take n := by
  rw [List.take_append, List.take_of_length_le (by omega), Nat.add_sub_cancel_left]
theorem drop_past (A X : List Int) (n : Nat) : (A ++ X).drop (A.length + n) = X.drop n := by
  rw [List.drop_append, List.drop_of_length_le (by omega), Nat.add_sub_cancel_left, List.nil_append]
theorem told_noop (a b : Int) (w : World) : Calls Try.prog 39 #[.int .i64 a, .int .i64 b] w fun e w' => e = .returned (.tuple #[]) ∧ w' = w := by
  go_enter Try.func39, Try.ntmps39
  go_wp2_with fail
  go_end0
  exact ⟨rfl, rfl⟩
theorem right_all {l : List RuleD} (h : (rulesW l).1 = 0) : ∀ r ∈ l, RightRule r := by
  unfold rulesW at h
  by_cases h2 : 200 < l.length
  · rw [if_pos h2] at h; cases h
  · rw [if_neg h2] at h
    exact fun r hr => right_rule (rulesGo_zero l 0 h r hr)
/-- How many steps the machine has taken. -/
def stepsOf (M : Nat) (w : World) : Nat := match w.cell? ⟨M, 5, none⟩ with | some (.int _ x) => x.toNat | _ => 0
def VmRel (w : World) (lo M b : Nat) (l : List RuleD) (hs : List HeadD) (Ar : Option Addr) (nr cr : Nat) (Ah : Option Addr) (nh ch lim : Nat) (t : List Int) (wr : World) : Prop :=
  ∃ (A Z : List Int) (s p : Nat), MachAt lo wr M b A Z l hs Ar nr cr Ah nh ch lim s p ∧ s ≤ lim ∧ p ≤ s ∧ (A ++ Z).length ≤ 4000 ∧ Runes (A ++ Z) ∧ runGo l lim [] t 0 0 = runGo l (lim - s) A Z s p ∧
    Blk wr w.heap.size 25 #[.slice none 0 0, .int .i64 0, .int .i64 0] ∧ Blk wr (w.heap.size + 1) 28 #[.int .i64 0, .int .i64 0] ∧ Below w.heap.size w wr

set_option maxRecDepth 100000 in
set_option maxHeartbeats 6400000 in
theorem vm_play (X : Nat → Prop) (l : List RuleD) (Ar : Option Addr) (nr cr : Nat) (t : List Int) (At : Option Addr) (nt ct : Nat) (w : World) (hnr : nr ≤ maxLen) (hl : ListX (RuleC w X) w X 7 Ar nr l) (hnt : nt ≤ maxLen) (ht : RdR w w.heap.size At nt t) :
    Calls Try.prog 38 #[.slice Ar nr cr, .slice At nt ct, .func (.func 39) #[] #[]] w fun e w' => PlayPost w.heap.size w' (playP l t) e ∧ Below w.heap.size w w' := by
  have htl := ht.len
  have hb0 := ((Below.refl w.heap.size w).alloc (Nat.le_refl _) (.cells #[.slice none 0 0, .int .i64 0, .int .i64 0] 25)).alloc (by simp) (.cells #[.int .i64 0, .int .i64 0] 28)
  have HX0 := Lib.hid (Blk.alloc (Blk.new w 25 #[.slice none 0 0, .int .i64 0, .int .i64 0]) (.cells #[.int .i64 0, .int .i64 0] 28))
  have HY0 := Lib.hid (show Blk ((w.alloc (.cells #[.slice none 0 0, .int .i64 0, .int .i64 0] 25)).alloc (.cells #[.int .i64 0, .int .i64 0] 28)) (w.heap.size + 1) 28 #[.int .i64 0, .int .i64 0] by
    have := Blk.new (w.alloc (.cells #[.slice none 0 0, .int .i64 0, .int .i64 0] 25)) 28 #[.int .i64 0, .int .i64 0]
    simpa using this)
  have HB0 := Lib.hid hb0
  have HL := Lib.hid (fun (W : World) (hb : Below w.heap.size w W) => show ListX (RuleC W X) W X 7 Ar nr l from hl.keep (Keeps.any hb) (fun _ _ => RuleC.keep (Keeps.any hb)))
  have HTX := Lib.hid (fun (W : World) (hb : Below w.heap.size w W) => show RdR W W.heap.size At nt t from (Rd.below ht hb).more hb.size)
  clear hb0 hl ht
  generalize hW0 : (w.alloc (.cells #[.slice none 0 0, .int .i64 0, .int .i64 0] 25)).alloc (.cells #[.int .i64 0, .int .i64 0] 28) = W0 at *
  have HW := Lib.hid (run_wrong X l Ar nr cr W0 hnr (HL.out W0 HB0.out))
  go_enter Try.func38, Try.ntmps38
  go_wp2_with fail
  clear hW0
  refine HW.out.mono ?_
  rintro e w1 ⟨rfl, hb1⟩
  have HX1 := Lib.hid (Blk.below HX0.out hb1 HX0.out.lt)
  have HY1 := Lib.hid (Blk.below HY0.out hb1 HY0.out.lt)
  have HB1 := Lib.hid (HB0.out.trans (hb1.mono HB0.out.size))
  clear hb1 HW HX0 HY0 HB0
  obtain ⟨r1, r2, hR⟩ : ∃ r1 r2, rulesW l = (r1, r2) := ⟨_, _, rfl⟩
  rw [hR]
  by_cases hz : r1 = 0
  · subst hz
    have HRR := Lib.hid (right_rules (l := l) (by rw [hR]))
    have HRA := Lib.hid (right_all (l := l) (by rw [hR]))
    have HP := Lib.hid (show playP l t = if textP t ≠ 0 then (noOut, (textP t, 0)) else if (compP l).2.1 ≠ 0 then (noOut, (compP l).2) else okOut (runGo l (8 * t.length + 40) [] t 0 0) by unfold playP; rw [hR]; rfl)
    have HX2 := Lib.hid (HX1.out.alloc (.cells #[.int .i64 0, .int .i64 r2] 28))
    have HY2 := Lib.hid (HY1.out.alloc (.cells #[.int .i64 0, .int .i64 r2] 28))
    have HB2 := Lib.hid (HB1.out.alloc HB1.out.size (.cells #[.int .i64 0, .int .i64 r2] 28))
    have HMT := Lib.hid (match_text At nt ct t _ hnt (HTX.out _ HB2.out))
    clear hR HX1 HY1 HB1
    go_wp2_with fail
    refine HMT.out.mono ?_
    rintro e w3 ⟨rfl, hb3⟩
    have HX3 := Lib.hid (Blk.below HX2.out hb3 HX2.out.lt)
    have HY3 := Lib.hid (Blk.below HY2.out hb3 HY2.out.lt)
    have HB3 := Lib.hid (HB2.out.trans (hb3.mono HB2.out.size))
    clear hb3 HX2 HY2 HB2 HMT
    obtain ⟨tp, htp⟩ : ∃ tp, textP t = tp := ⟨_, rfl⟩
    rw [htp]
    have HP0 := Lib.hid (show playP l t = if tp ≠ 0 then (noOut, (tp, 0)) else if (compP l).2.1 ≠ 0 then (noOut, (compP l).2) else okOut (runGo l (8 * t.length + 40) [] t 0 0) by rw [← htp]; exact HP.out)
    clear HP
    by_cases hz : tp = 0
    · subst hz
      have HRT := Lib.hid (show t.length ≤ 4000 ∧ Runes t by
        unfold textP at htp
        by_cases h4 : 4000 < t.length
        · rw [if_pos h4] at htp; cases htp
        · rw [if_neg h4] at htp
          refine ⟨by omega, runes_of ?_⟩
          cases hb : badRune t
          · rfl
          · rw [hb] at htp; cases htp)
      have HCM := Lib.hid (compile_heads X l Ar nr cr w3 hnr (HL.out _ HB3.out))
      have HCK := Lib.hid (@comp_ok l)
      have HCV := Lib.hid (@comp_cover l)
      have HP2 := Lib.hid (HP0.out.trans (if_neg (by decide)))
      obtain ⟨hs, f1, f2, hC⟩ : ∃ hs f1 f2, compP l = (hs, (f1, f2)) := ⟨_, _, _, rfl⟩
      rw [hC] at HCM HCK HCV HP2
      clear htp HP0 hC
      dsimp only at HCM HCK HCV HP2
      go_wp2_with fail
      refine HCM.out.mono ?_
      rintro e w4 ⟨⟨v, rfl, hv⟩, hb4⟩
      obtain ⟨Ah, ch, rfl, hh, _⟩ := hv.form
      have HX4 := Lib.hid (Blk.alloc (Blk.below HX3.out hb4 HX3.out.lt) (.cells #[.int .i64 f1, .int .i64 f2] 28))
      have HY4 := Lib.hid (Blk.alloc (Blk.below HY3.out hb4 HY3.out.lt) (.cells #[.int .i64 f1, .int .i64 f2] 28))
      have HQ4 := Lib.hid (Blk.new w4 28 #[.int .i64 f1, .int .i64 f2])
      have HB4a := Lib.hid (HB3.out.trans (hb4.mono HB3.out.size))
      have HB4 := Lib.hid (HB4a.out.alloc HB4a.out.size (.cells #[.int .i64 f1, .int .i64 f2] 28))
      have hba := (Below.refl w4.heap.size w4).alloc (Nat.le_refl _) (.cells #[.int .i64 f1, .int .i64 f2] 28)
      have HH4 := Lib.hid (hh.keep (Keeps.below hba (fun _ _ _ => trivial)) (fun _ _ => HeadC.keep (X' := Any0) (Keeps.below hba (fun _ _ _ => trivial))))
      have hx4 : w.heap.size < w4.heap.size := Nat.lt_of_lt_of_le HX3.out.lt hb4.size
      have hy4 : w.heap.size + 1 < w4.heap.size := Nat.lt_of_lt_of_le HY3.out.lt hb4.size
      clear hv hh hb4 hba HX3 HY3 HB3 HCM HB4a
      by_cases hz : f1 = 0
      · subst hz
        have HP3 := Lib.hid (HP2.out.trans (if_neg (by decide)))
        have hn4 := (HCK.out rfl).2.2
        have HCO := Lib.hid (HCV.out rfl)
        have hlen2 : l.length ≤ 200 := HRR.out.size
        obtain ⟨lim, hlim⟩ : ∃ lim : Nat, lim = 8 * t.length + 40 := ⟨_, rfl⟩
        have HPR := Lib.hid (show playP l t = okOut (runGo l lim [] t 0 0) by rw [HP3.out, hlim])
        have hlim1 : lim ≤ 32040 := by have := HRT.out.1; omega
        have HX5 := Lib.hid HX4.out
        have HY5 := Lib.hid HY4.out
        have HB5 := Lib.hid HB4.out
        have HH5 := Lib.hid HH4.out
        clear HX4 HY4 HB4 HH4 HP2 HP3 HCK HCV
        generalize hW5 : (w4.alloc (.cells #[.int .i64 0, .int .i64 f2] 28)) = W5 at *
        have hw5 : w4.heap.size < W5.heap.size := by rw [← hW5]; simp
        have q0 := HQ4.out.cell 0
        have HNW := Lib.hid (gap_new t At nt ct W5 (HTX.out W5 HB5.out) (by have := HRT.out.1; omega))
        have HLM := Lib.hid (fun W => run_limit nt (by have := HRT.out.1; omega) W)
        have hlim2 : ((8 * nt + 40 : Nat) : Int) = (lim : Int) := by omega
        rw [hlim2] at HLM
        go_upto_region 10 with fail
        clear hW5 q0
        go_wp2_with fail
        refine HNW.out.mono ?_
        rintro e w6 ⟨rfl, hbuf, hb6⟩
        have HBU := Lib.hid hbuf
        have HB6 := Lib.hid hb6
        clear hbuf hb6 HNW
        go_wp2_with fail
        refine (HLM.out _).mono ?_
        rintro e w7 ⟨rfl, h7⟩
        obtain rfl := h7.symm
        have hb7 := HB6.out.alloc HB6.out.size (.cells (MCells (W5.heap.size + 1) Ar nr cr Ah hs.length ch lim 0 0) 124)
        have HM0 := Lib.hid (show MachAt W5.heap.size (w6.alloc (.cells (MCells (W5.heap.size + 1) Ar nr cr Ah hs.length ch lim 0 0) 124)) w6.heap.size (W5.heap.size + 1) [] t l hs Ar nr cr Ah hs.length ch lim 0 0 from
          ⟨HB6.out.size, Blk.new _ _ _, HBU.out.below ((Below.refl _ _).alloc (Nat.le_refl _) _),
           (HL.out W5 HB5.out).keep (Keeps.below hb7 (fun _ _ hl => hl)) (fun _ _ => RuleC.keep (Keeps.below hb7 (fun _ _ hl => hl))),
           HH5.out.keep (Keeps.below hb7 (fun _ _ hl => hl)) (fun _ _ => HeadC.keep (Keeps.below hb7 (fun _ _ hl => hl)))⟩)
        have HXY0 := Lib.hid (show Blk (w6.alloc (.cells (MCells (W5.heap.size + 1) Ar nr cr Ah hs.length ch lim 0 0) 124)) w.heap.size 25 #[.slice none 0 0, .int .i64 0, .int .i64 0] ∧ Blk (w6.alloc (.cells (MCells (W5.heap.size + 1) Ar nr cr Ah hs.length ch lim 0 0) 124)) (w.heap.size + 1) 28 #[.int .i64 0, .int .i64 0] ∧ Below w.heap.size w (w6.alloc (.cells (MCells (W5.heap.size + 1) Ar nr cr Ah hs.length ch lim 0 0) 124)) from
          ⟨Blk.below HX5.out hb7 (by omega), Blk.below HY5.out hb7 (by omega), HB5.out.trans (hb7.mono (by omega))⟩)
        simp only [MCells] at HM0 HXY0
        clear hb7 HLM HX5 HY5
        go_wp2_with fail
        generalize hM : w6.heap.size = M at *
        generalize hlo : W5.heap.size = lo at *
        go_loopw [] (VmRel w lo M (lo + 1) l hs Ar nr cr Ah hs.length ch lim t) (fun wr => lim - stepsOf M wr)
        case atStart => exact ⟨[], t, 0, 0, HM0.out, Nat.zero_le _, Nat.le_refl _, HRT.out.1, HRT.out.2, rfl, HXY0.out⟩
        case round =>
          obtain ⟨A, Z, s, p, hma, hsl, hps, hTl, hTr, hgo, hxy⟩ := hrel
          have HMA := Lib.hid hma
          have HXY := Lib.hid hxy
          have HGO := Lib.hid hgo
          have HTR := Lib.hid hTr
          have hsteps : stepsOf M wr = s := by
            unfold stepsOf
            rw [hma.blk.cell]
            simp [MCells]
          have HST := Lib.hid hsteps
          have m0 : wr.cell? ⟨M, 0, none⟩ = some (.pointer (some ⟨lo + 1, 0, none⟩)) := hma.blk.cell 0
          have HAT := Lib.hid (fun (q : Nat) => buf_at (HMA.out.buf.below (below_drewN (Below.refl wr.heap.size wr) q)))
          have HLN := Lib.hid (fun (q : Nat) => buf_len (HMA.out.buf.below (below_drewN (Below.refl wr.heap.size wr) q)))
          clear hma hxy hgo hsteps hTr
          cases Z with
          | nil =>
            have HLN2 := Lib.hid (fun (q : Nat) => show Calls Try.prog 72 #[.pointer (some ⟨lo + 1, 0, none⟩)] (wr.drewN q) fun e w' => e = .returned (.int .i64 A.length) ∧ ∃ k, w' = (wr.drewN q).drewN k by simpa using HLN.out q)
            have hA0 : decide ((A.length : Int) < (A.length : Int)) = false := decide_eq_false (by omega)
            have HRU := Lib.hid (fun (q : Nat) => buf_runes (HMA.out.buf.below (below_drewN (Below.refl wr.heap.size wr) q)))
            have HPF := Lib.hid (show playP l t = (⟨A, s, p⟩, (0, 0)) by rw [HPR.out, HGO.out, runGo_nil]; rfl)
            go_wp2_with fail
            go_quiet (first | (go_at_call 71; exact Calls.quiet_of_same (HAT.out _)) | (go_at_call 72; exact Calls.quiet_of (HLN2.out _)))
            have m0' : (wr.drewN nq).cell? ⟨M, 0, none⟩ = some (.pointer (some ⟨lo + 1, 0, none⟩)) := m0
            go_wp2_with fail
            refine (HRU.out nq).mono ?_
            rintro e w8 ⟨⟨v, rfl, ho⟩, hb8⟩
            obtain ⟨Av, cv, rfl, _⟩ := own_form ho
            rw [List.append_nil] at ho ⊢
            have hb8' : Below wr.heap.size wr w8 := (below_drewN (Below.refl wr.heap.size wr) nq).trans hb8
            have hM8 := Blk.below HMA.out.blk hb8' HMA.out.blk.lt
            have HX8 := Lib.hid (Blk.below HXY.out.1 hb8' HXY.out.1.lt)
            have HY8 := Lib.hid (Blk.below HXY.out.2.1 hb8' HXY.out.2.1.lt)
            have HB8 := Lib.hid (HXY.out.2.2.trans (hb8'.mono HXY.out.2.2.size))
            have hwM : w.heap.size + 1 < M := by
              have h1 := HXY0.out.2.1.lt
              have h2 := HM0.out.ge
              omega
            have u4 : w8.cell? ⟨M, 4, none⟩ = some (.slice none 0 0) := hM8.cell 4
            have g4 := hM8.frozen 4
            have hM9 := Lib.hid (hM8.put 4 (.slice Av A.length cv))
            have hMlt := HMA.out.blk.lt
            have hRD := Lib.hid (show RdX w8 (fun b => wr.heap.size ≤ b) 1 Av A.length (runeCells A) from RdX.of_own ho (fun b hb => (own_lt ho hb).1))
            have hX9 := HX8.out.other hM8 (by decide) 4 (.slice Av A.length cv)
            have hY9 := HY8.out.other hM8 (by decide) 4 (.slice Av A.length cv)
            have hB9 := HB8.out.setCell (p := ⟨M, 4, none⟩) (by simp only; omega) (.slice Av A.length cv)
            have HRD9 := Lib.hid (hRD.out.keep (Keeps.setCell (p := ⟨M, 4, none⟩) (.slice Av A.length cv) (fun b hb => by simp only; omega) (fun b h _ => (h : wr.heap.size ≤ b))))
            clear ho hb8 hb8' hM8 HX8 HY8 HB8
            go_upto_region 18 with fail
            generalize hW9 : w8.setCell ⟨M, 4, none⟩ (.slice Av A.length cv) = W9 at *
            have o4 : W9.cell? ⟨M, 4, none⟩ = some (.slice Av A.length cv) := hM9.out.cell 4
            have o5 : W9.cell? ⟨M, 5, none⟩ = some (.int .i64 s) := hM9.out.cell 5
            have o6 : W9.cell? ⟨M, 6, none⟩ = some (.int .i64 p) := hM9.out.cell 6
            have hX := hX9
            have hY := hY9
            have x0 := hX.cell 0
            have x1 := hX.cell 1
            have x2 := hX.cell 2
            have y0 := hY.cell 0
            have y1 := hY.cell 1
            have p0 := hX.frozen 0
            have p1 := hX.frozen 1
            have p2 := hX.frozen 2
            have p3 := hY.frozen 0
            have p4 := hY.frozen 1
            have hbf := ((((hB9.setCell (p := ⟨w.heap.size, 0, none⟩) (by simp) (.slice Av A.length cv)).setCell (p := ⟨w.heap.size, 1, none⟩) (by simp) (.int .i64 s)).setCell (p := ⟨w.heap.size, 2, none⟩) (by simp) (.int .i64 p)).setCell (p := ⟨w.heap.size + 1, 0, none⟩) (by simp) (.int .i64 0)).setCell (p := ⟨w.heap.size + 1, 1, none⟩) (by simp) (.int .i64 0)
            have HBF := Lib.hid hbf
            have HRF := Lib.hid (HRD9.out.keep (X' := fun b => w.heap.size ≤ b) (((((Keeps.setCell (X' := fun b => wr.heap.size ≤ b) (p := ⟨w.heap.size, 0, none⟩) (.slice Av A.length cv) (fun b h => by have h' : wr.heap.size ≤ b := h; simp only; omega) (fun _ h _ => h)).trans (Keeps.setCell (X' := fun b => wr.heap.size ≤ b) (p := ⟨w.heap.size, 1, none⟩) (.int .i64 s) (fun b h => by have h' : wr.heap.size ≤ b := h; simp only; omega) (fun _ h _ => h))).trans (Keeps.setCell (X' := fun b => wr.heap.size ≤ b) (p := ⟨w.heap.size, 2, none⟩) (.int .i64 p) (fun b h => by have h' : wr.heap.size ≤ b := h; simp only; omega) (fun _ h _ => h))).trans (Keeps.setCell (X' := fun b => wr.heap.size ≤ b) (p := ⟨w.heap.size + 1, 0, none⟩) (.int .i64 0) (fun b h => by have h' : wr.heap.size ≤ b := h; simp only; omega) (fun _ h _ => h))).trans (Keeps.setCell (p := ⟨w.heap.size + 1, 1, none⟩) (.int .i64 0) (fun b h => by have h' : wr.heap.size ≤ b := h; simp only; omega) (fun b h _ => by have h' : wr.heap.size ≤ b := h; have := HXY.out.2.2.size; omega))))
            clear hX hY hbf hX9 hY9 hB9 u4 g4 hW9
            go_wp2_with fail
            rw [HPF.out]
            exact bodyPost_ret (v := .tuple #[.agg #[.slice Av A.length cv, .int .i64 s, .int .i64 p], .agg #[.int .i64 0, .int .i64 0]]) (by simp [results, Try.results38, go_sem, x0, x1, x2, y0, y1]) rfl ⟨⟨Av, A.length, cv, rfl, HRF.out⟩, HBF.out⟩
          | cons z Z' =>
            have hA1 : decide ((A.length : Int) < ((A.length + (z :: Z').length : Nat) : Int)) = true := decide_eq_true (by simp only [List.length_cons]; omega)
            have hzx : (A ++ z :: Z')[A.length]? = some z := by simp
            have hz0 := HTR.out z (by simp)
            have hTl2 : (A ++ z :: Z').length = A.length + (Z'.length + 1) := by rw [List.length_append, List.length_cons]
            have hlo1 : w.heap.size + 1 < lo := by
              have := HB5.out.size
              omega
            go_wp2_with fail
            go_quiet (first | (go_at_call 71; exact Calls.quiet_of_same (HAT.out _)) | (go_at_call 72; exact Calls.quiet_of (HLN.out _)))
            have m0' : (wr.drewN nq).cell? ⟨M, 0, none⟩ = some (.pointer (some ⟨lo + 1, 0, none⟩)) := m0
            go_wp2_with fail
            refine (HAT.out nq).mono ?_
            rintro e w8 ⟨rfl, h8⟩
            have hb8 : Below wr.heap.size wr w8 := by rw [h8]; exact below_drewN (Below.refl _ _) nq
            have HM8 := Lib.hid (HMA.out.below hb8)
            have HXY8 := Lib.hid (show Blk w8 w.heap.size 25 #[.slice none 0 0, .int .i64 0, .int .i64 0] ∧ Blk w8 (w.heap.size + 1) 28 #[.int .i64 0, .int .i64 0] ∧ Below w.heap.size w w8 from ⟨Blk.below HXY.out.1 hb8 HXY.out.1.lt, Blk.below HXY.out.2.1 hb8 HXY.out.2.1.lt, HXY.out.2.2.trans (hb8.mono HXY.out.2.2.size)⟩)
            clear m0 m0' HAT HLN hb8 h8 hA1
            by_cases hsx : s = lim
            · have HGO := Lib.hid (show runGo l lim [] t 0 0 = (noOut, 9) by rw [HGO.out, show lim - s = 0 by omega]; exact runGo_zero l A s p (by simp))
              have HSL := Lib.hid (step_limit HM8.out hsx (by omega))
              go_wp2_with fail
              refine HSL.out.mono ?_
              rintro e w9 ⟨rfl, kq, h9⟩
              have hb9 : Below lo w8 w9 := by rw [h9]; exact below_drewN (Below.refl _ _) kq
              have HXY9 := Lib.hid (show Blk w9 w.heap.size 25 #[.slice none 0 0, .int .i64 0, .int .i64 0] ∧ Blk w9 (w.heap.size + 1) 28 #[.int .i64 0, .int .i64 0] ∧ Below w.heap.size w w9 from ⟨Blk.below HXY8.out.1 hb9 (by omega), Blk.below HXY8.out.2.1 hb9 (by omega), HXY8.out.2.2.trans (hb9.mono (by omega))⟩)
              clear hb9 h9
              have HP := Lib.hid (show playP l t = (noOut, (9, 0)) by rw [HPR.out, HGO.out]; rfl)
              have hX := HXY9.out.1
              have hY := HXY9.out.2.1
              have x0 := hX.cell 0
              have x1 := hX.cell 1
              have x2 := hX.cell 2
              have y0 := hY.cell 0
              have y1 := hY.cell 1
              have p0 := hX.frozen 0
              have p1 := hX.frozen 1
              have p2 := hX.frozen 2
              have p3 := hY.frozen 0
              have p4 := hY.frozen 1
              have hbf := ((((HXY9.out.2.2.setCell (p := ⟨w.heap.size, 0, none⟩) (by simp) (.slice none 0 0)).setCell (p := ⟨w.heap.size, 1, none⟩) (by simp) (.int .i64 0)).setCell (p := ⟨w.heap.size, 2, none⟩) (by simp) (.int .i64 0)).setCell (p := ⟨w.heap.size + 1, 0, none⟩) (by simp) (.int .i64 9)).setCell (p := ⟨w.heap.size + 1, 1, none⟩) (by simp) (.int .i64 0)
              have HBF := Lib.hid hbf
              clear hX hY hbf
              go_wp2_with fail
              rw [HP.out]
              exact bodyPost_ret (v := .tuple #[.agg #[.slice none 0 0, .int .i64 0, .int .i64 0], .agg #[.int .i64 9, .int .i64 0]]) (by simp [results, Try.results38, go_sem, x0, x1, x2, y0, y1]) rfl ⟨⟨none, 0, 0, rfl, ⟨rfl, fun h => absurd h (Nat.lt_irrefl 0)⟩⟩, HBF.out⟩
            · rcases whichP_range l (A ++ z :: Z') A.length with hwh | ⟨k, r, hwh, hk, hhere⟩
              · have HGO2 := Lib.hid (show runGo l lim [] t 0 0 = runGo l (lim - (s + 1)) (A ++ [z]) Z' (s + 1) p by rw [HGO.out, show lim - s = (lim - (s + 1)) + 1 by omega, runGo_none hwh])
                have HSN := Lib.hid (step_none HM8.out z Z' rfl z hzx hz0 hTl hn4 HCO.out HRA.out hlen2 (by omega) (by omega) hwh)
                clear hwh
                go_wp2_with fail
                refine HSN.out.mono ?_
                rintro e w9 ⟨rfl, hm9, hb9⟩
                have HM9 := Lib.hid hm9
                have HXY9 := Lib.hid (show Blk w9 w.heap.size 25 #[.slice none 0 0, .int .i64 0, .int .i64 0] ∧ Blk w9 (w.heap.size + 1) 28 #[.int .i64 0, .int .i64 0] ∧ Below w.heap.size w w9 from ⟨Blk.below HXY8.out.1 hb9 (by omega), Blk.below HXY8.out.2.1 hb9 (by omega), HXY8.out.2.2.trans (hb9.mono (by omega))⟩)
                clear hm9 hb9
                go_wp2_with fail
                refine (told_noop _ _ _).mono ?_
                rintro e w10 ⟨rfl, h10⟩
                obtain rfl := h10.symm
                go_wp2_with fail
                refine ⟨⟨A ++ [z], Z', s + 1, p, HM9.out, by omega, by omega, by rw [List.append_assoc]; exact hTl, by rw [List.append_assoc]; exact HTR.out, HGO2.out, HXY9.out⟩, ?_⟩
                have e9 : stepsOf M w9 = s + 1 := by
                  unfold stepsOf
                  rw [HM9.out.blk.cell]
                  simp [MCells]
                rw [HST.out, e9]
                omega
              · have hfit := here_fits hhere
                have hrr := HRA.out r (List.mem_of_getElem? hk)
                have hs1 := hfit
                have HZZ := Lib.hid (show (r.target ++ (z :: Z').drop r.source.length).length = r.target.length + ((z :: Z').length - r.source.length) by rw [List.length_append, List.length_drop])
                by_cases hmu : 4000 < A.length + (r.target ++ (z :: Z').drop r.source.length).length
                · have HGO := Lib.hid (show runGo l lim [] t 0 0 = (noOut, 4) by rw [HGO.out, show lim - s = (lim - (s + 1)) + 1 by omega]; exact runGo_much hwh hk hmu)
                  have HSM := Lib.hid (step_much HM8.out k r hk z hzx hz0 hTl hn4 HCO.out HRA.out hlen2 (by omega) (by omega) (by omega) hwh hfit (by rw [HZZ.out] at hmu; omega))
                  clear hwh hk hhere hrr hmu
                  go_wp2_with fail
                  refine HSM.out.mono ?_
                  rintro e w9 ⟨rfl, hb9⟩
                  have HXY9 := Lib.hid (show Blk w9 w.heap.size 25 #[.slice none 0 0, .int .i64 0, .int .i64 0] ∧ Blk w9 (w.heap.size + 1) 28 #[.int .i64 0, .int .i64 0] ∧ Below w.heap.size w w9 from ⟨Blk.below HXY8.out.1 hb9 (by omega), Blk.below HXY8.out.2.1 hb9 (by omega), HXY8.out.2.2.trans (hb9.mono (by omega))⟩)
                  clear hb9
                  have HP := Lib.hid (show playP l t = (noOut, (4, 0)) by rw [HPR.out, HGO.out]; rfl)
                  have hX := HXY9.out.1
                  have hY := HXY9.out.2.1
                  have x0 := hX.cell 0
                  have x1 := hX.cell 1
                  have x2 := hX.cell 2
                  have y0 := hY.cell 0
                  have y1 := hY.cell 1
                  have p0 := hX.frozen 0
                  have p1 := hX.frozen 1
                  have p2 := hX.frozen 2
                  have p3 := hY.frozen 0
                  have p4 := hY.frozen 1
                  have hbf := ((((HXY9.out.2.2.setCell (p := ⟨w.heap.size, 0, none⟩) (by simp) (.slice none 0 0)).setCell (p := ⟨w.heap.size, 1, none⟩) (by simp) (.int .i64 0)).setCell (p := ⟨w.heap.size, 2, none⟩) (by simp) (.int .i64 0)).setCell (p := ⟨w.heap.size + 1, 0, none⟩) (by simp) (.int .i64 4)).setCell (p := ⟨w.heap.size + 1, 1, none⟩) (by simp) (.int .i64 0)
                  have HBF := Lib.hid hbf
                  clear hX hY hbf
                  go_wp2_with fail
                  rw [HP.out]
                  exact bodyPost_ret (v := .tuple #[.agg #[.slice none 0 0, .int .i64 0, .int .i64 0], .agg #[.int .i64 4, .int .i64 0]]) (by simp [results, Try.results38, go_sem, x0, x1, x2, y0, y1]) rfl ⟨⟨none, 0, 0, rfl, ⟨rfl, fun h => absurd h (Nat.lt_irrefl 0)⟩⟩, HBF.out⟩
                · have HGO2 := Lib.hid (show runGo l lim [] t 0 0 = runGo l (lim - (s + 1)) ((A ++ r.target ++ (z :: Z').drop r.source.length).take (A.length + r.cursor.toNat)) ((A ++ r.target ++ (z :: Z').drop r.source.length).drop (A.length + r.cursor.toNat)) (s + 1) (p + 1) by
                    rw [HGO.out, show lim - s = (lim - (s + 1)) + 1 by omega, runGo_rule hwh hk hmu, List.append_assoc, take_past, drop_past])
                  have HSR := Lib.hid (step_rule HM8.out k r hk z hzx hz0 hTl hn4 HCO.out HRA.out hlen2 (by omega) (by omega) (by omega) hwh hfit (by rw [HZZ.out] at hmu; omega))
                  have HNR := Lib.hid (show ((A ++ r.target ++ (z :: Z').drop r.source.length).take (A.length + r.cursor.toNat) ++ (A ++ r.target ++ (z :: Z').drop r.source.length).drop (A.length + r.cursor.toNat)).length ≤ 4000 ∧ Runes ((A ++ r.target ++ (z :: Z').drop r.source.length).take (A.length + r.cursor.toNat) ++ (A ++ r.target ++ (z :: Z').drop r.source.length).drop (A.length + r.cursor.toNat)) by
                    rw [List.take_append_drop]
                    refine ⟨by rw [List.append_assoc, List.length_append]; omega, fun y hy => ?_⟩
                    rcases List.mem_append.1 hy with hy | hy
                    · rcases List.mem_append.1 hy with hy | hy
                      · exact HTR.out y (by simp [hy])
                      · exact runes_of hrr.tgt.2 y hy
                    · exact HTR.out y (List.mem_append_right _ (List.mem_of_mem_drop hy)))
                  clear hwh hk hhere hrr hmu
                  generalize (A ++ r.target ++ (z :: Z').drop r.source.length).take (A.length + r.cursor.toNat) = A' at *
                  generalize (A ++ r.target ++ (z :: Z').drop r.source.length).drop (A.length + r.cursor.toNat) = Z2 at *
                  go_wp2_with fail
                  refine HSR.out.mono ?_
                  rintro e w9 ⟨rfl, hm9, hb9⟩
                  have HM9 := Lib.hid hm9
                  have HXY9 := Lib.hid (show Blk w9 w.heap.size 25 #[.slice none 0 0, .int .i64 0, .int .i64 0] ∧ Blk w9 (w.heap.size + 1) 28 #[.int .i64 0, .int .i64 0] ∧ Below w.heap.size w w9 from ⟨Blk.below HXY8.out.1 hb9 (by omega), Blk.below HXY8.out.2.1 hb9 (by omega), HXY8.out.2.2.trans (hb9.mono (by omega))⟩)
                  clear hm9 hb9
                  go_wp2_with fail
                  refine (told_noop _ _ _).mono ?_
                  rintro e w10 ⟨rfl, h10⟩
                  obtain rfl := h10.symm
                  go_wp2_with fail
                  refine ⟨⟨A', Z2, s + 1, p + 1, HM9.out, by omega, by omega, HNR.out.1, HNR.out.2, HGO2.out, HXY9.out⟩, ?_⟩
                  have e9 : stepsOf M w9 = s + 1 := by
                    unfold stepsOf
                    rw [HM9.out.blk.cell]
                    simp [MCells]
                  rw [HST.out, e9]
                  omega
      · have HP := Lib.hid (HP2.out.trans (if_pos hz))
        go_upto_region 9 with fail
        have hX := HX4.out
        have hY := HY4.out
        have hQ := HQ4.out
        have HB5 := Lib.hid HB4.out
        clear HX4 HY4 HQ4 HH4 HB4
        generalize (w4.alloc (.cells #[.int .i64 f1, .int .i64 f2] 28)) = W3 at *
        have x0 := hX.cell 0
        have x1 := hX.cell 1
        have x2 := hX.cell 2
        have y0 := hY.cell 0
        have y1 := hY.cell 1
        have p0 := hX.frozen 0
        have p1 := hX.frozen 1
        have p2 := hX.frozen 2
        have p3 := hY.frozen 0
        have p4 := hY.frozen 1
        have q0 := hQ.cell 0
        have q1 := hQ.cell 1
        have hne1 : ¬ w.heap.size = w.heap.size + 1 := by omega
        have hne2 : ¬ w.heap.size = w4.heap.size := by omega
        have hne3 : ¬ w.heap.size + 1 = w4.heap.size := by omega
        clear hX hY hQ
        go_region
        all_goals
          go_wp2_with fail
          have hbf := (((((HB5.out.setCell (p := ⟨w.heap.size, 0, none⟩) (by simp) (.slice none 0 0)).setCell (p := ⟨w.heap.size, 1, none⟩) (by simp) (.int .i64 0)).setCell (p := ⟨w.heap.size, 2, none⟩) (by simp) (.int .i64 0)).setCell (p := ⟨w.heap.size + 1, 0, none⟩) (by simp) (.int .i64 f1)).setCell (p := ⟨w.heap.size + 1, 1, none⟩) (by simp) (.int .i64 f2)).drew
          rw [HP.out]
          exact bodyPost_ret (v := .tuple #[.agg #[.slice none 0 0, .int .i64 0, .int .i64 0], .agg #[.int .i64 f1, .int .i64 f2]]) (by simp [results, Try.results38, go_sem, x0, x1, x2, y0, y1]) rfl ⟨⟨none, 0, 0, rfl, ⟨rfl, fun h => absurd h (Nat.lt_irrefl 0)⟩⟩, hbf⟩
    · have HP := Lib.hid (HP0.out.trans (if_pos hz))
      clear HP0
      have hX := HX3.out
      have hY := HY3.out
      have x0 := hX.cell 0
      have x1 := hX.cell 1
      have x2 := hX.cell 2
      have y0 := hY.cell 0
      have y1 := hY.cell 1
      have p0 := hX.frozen 0
      have p1 := hX.frozen 1
      have p2 := hX.frozen 2
      have p3 := hY.frozen 0
      have p4 := hY.frozen 1
      have hbf := ((((HB3.out.setCell (p := ⟨w.heap.size, 0, none⟩) (by simp) (.slice none 0 0)).setCell (p := ⟨w.heap.size, 1, none⟩) (by simp) (.int .i64 0)).setCell (p := ⟨w.heap.size, 2, none⟩) (by simp) (.int .i64 0)).setCell (p := ⟨w.heap.size + 1, 0, none⟩) (by simp) (.int .i64 tp)).setCell (p := ⟨w.heap.size + 1, 1, none⟩) (by simp) (.int .i64 0)
      have HBF := Lib.hid hbf
      clear hX hY hbf
      go_wp2_with fail
      rw [HP.out]
      exact bodyPost_ret (v := .tuple #[.agg #[.slice none 0 0, .int .i64 0, .int .i64 0], .agg #[.int .i64 tp, .int .i64 0]]) (by simp [results, Try.results38, go_sem, x0, x1, x2, y0, y1]) rfl ⟨⟨none, 0, 0, rfl, ⟨rfl, fun h => absurd h (Nat.lt_irrefl 0)⟩⟩, HBF.out⟩
  · have HP := Lib.hid (show playP l t = (noOut, (r1, r2)) by unfold playP; rw [hR, if_pos hz])
    clear hR
    go_upto_region 3 with fail
    have HB2 := Lib.hid (HB1.out.alloc HB1.out.size (.cells #[.int .i64 r1, .int .i64 r2] 28))
    have hX := Blk.alloc HX1.out (.cells #[.int .i64 r1, .int .i64 r2] 28)
    have hY := Blk.alloc HY1.out (.cells #[.int .i64 r1, .int .i64 r2] 28)
    have hQ := Blk.new w1 28 #[.int .i64 r1, .int .i64 r2]
    have hxy := HX1.out.lt
    have hyy := HY1.out.lt
    generalize (w1.alloc (.cells #[.int .i64 r1, .int .i64 r2] 28)) = W3 at *
    have x0 := hX.cell 0
    have x1 := hX.cell 1
    have x2 := hX.cell 2
    have y0 := hY.cell 0
    have y1 := hY.cell 1
    have p0 := hX.frozen 0
    have p1 := hX.frozen 1
    have p2 := hX.frozen 2
    have p3 := hY.frozen 0
    have p4 := hY.frozen 1
    have q0 := hQ.cell 0
    have q1 := hQ.cell 1
    have hne1 : ¬ w.heap.size = w.heap.size + 1 := by omega
    have hne2 : ¬ w.heap.size = w1.heap.size := by omega
    have hne3 : ¬ w.heap.size + 1 = w1.heap.size := by omega
    clear hX hY hQ
    go_region
    all_goals
      go_wp2_with fail
      have hbf := (((((HB2.out.setCell (p := ⟨w.heap.size, 0, none⟩) (by simp) (.slice none 0 0)).setCell (p := ⟨w.heap.size, 1, none⟩) (by simp) (.int .i64 0)).setCell (p := ⟨w.heap.size, 2, none⟩) (by simp) (.int .i64 0)).setCell (p := ⟨w.heap.size + 1, 0, none⟩) (by simp) (.int .i64 r1)).setCell (p := ⟨w.heap.size + 1, 1, none⟩) (by simp) (.int .i64 r2)).drew
      rw [HP.out]
      exact bodyPost_ret (v := .tuple #[.agg #[.slice none 0 0, .int .i64 0, .int .i64 0], .agg #[.int .i64 r1, .int .i64 r2]]) (by simp [results, Try.results38, go_sem, x0, x1, x2, y0, y1]) rfl ⟨⟨none, 0, 0, rfl, ⟨rfl, fun h => absurd h (Nat.lt_irrefl 0)⟩⟩, hbf⟩
      

end Go.Proofs.Ytfmebbnccjaadaa

