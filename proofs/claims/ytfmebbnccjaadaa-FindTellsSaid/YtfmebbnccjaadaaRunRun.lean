/- The walk of run.Run: it tells runRefP. -/
import Derived.Test.YtfmebbnccjaadaaRefRunAll
import Derived.Test.YtfmebbnccjaadaaFirst
import Derived.Test.YtfmebbnccjaadaaConcatR
import Derived.Test.YtfmebbnccjaadaaHeldTill
import Derived.BigRegion
namespace Go.Proofs.Ytfmebbnccjaadaa
open Go.RowKit

/-- How many steps have been taken: the second cell of the result. -/
def stepsAt (M : Nat) (w : World) : Nat := match w.cell? ⟨M, 1, none⟩ with | some (.int _ x) => x.toNat | _ => 0
def OffM (lo M : Nat) (b : Nat) : Prop := b ≠ M ∧ lo ≤ b
def RnRel (w : World) (M : Nat) (l : List RuleD) (lim : Nat) (t : List Int) (at_ : Value) (wr : World) : Prop :=
  ∃ (done rest : List Int) (left s p N c : Nat) (A : Option Addr), runGo l lim [] t 0 0 = runGo l left done rest s p ∧ s + left = lim ∧ N = done.length + rest.length ∧ N ≤ 4000 ∧ at_ = .int .i64 done.length ∧ p ≤ s ∧ N ≤ c ∧
    Blk wr M 25 #[.slice A N c, .int .i64 s, .int .i64 p] ∧ RdX wr (OffM (w.heap.size + 2) M) 1 A N (runeCells (done ++ rest)) ∧
    Blk wr w.heap.size 25 #[.slice none 0 0, .int .i64 0, .int .i64 0] ∧ Blk wr (w.heap.size + 1) 28 #[.int .i64 0, .int .i64 0] ∧ Below w.heap.size w wr
theorem flat3 (a b c : List Int) : ([a, b, c] : List (List Int)).flatten = a ++ (b ++ c) := by simp
theorem pcs3 {w : World} {a b c : List Int} {A B C : Option Addr} {n1 c1 n2 c2 n3 c3 : Nat} (h1 : Rd w w.heap.size 1 A n1 (runeCells a)) (h2 : Rd w w.heap.size 1 B n2 (runeCells b)) (h3 : Rd w w.heap.size 1 C n3 (runeCells c)) :
    PcsAt w [a, b, c] [.slice A n1 c1, .slice B n2 c2, .slice C n3 c3] := by
  intro i l u hl hu
  match i, hl, hu with
  | 0, hl, hu => simp at hl hu; subst hl hu; exact ⟨_, _, _, rfl, h1⟩
  | 1, hl, hu => simp at hl hu; subst hl hu; exact ⟨_, _, _, rfl, h2⟩
  | 2, hl, hu => simp at hl hu; subst hl hu; exact ⟨_, _, _, rfl, h3⟩
  | i + 3, hl, hu => simp at hl
theorem rdx_skip' {w : World} {X : Nat → Prop} {b o n c k : Nat} {xs : List Value} (h : RdX w X 1 (some ⟨b, o, none⟩) n xs) (hk : k ≤ n) (hc : n ≤ c) : RdX w X 1 (some ⟨b, if c = k then o else o + k, none⟩) (n - k) (xs.drop k) := by
  by_cases e : c = k
  · rw [if_pos e]
    have h0 : n - k = 0 := by omega
    refine ⟨?_, fun h1 => by omega⟩
    rw [List.length_drop, h.1]
    omega
  · rw [if_neg e]
    exact rdx_drop h hk

set_option maxRecDepth 100000 in
set_option maxHeartbeats 12800000 in
theorem run_run2 (X : Nat → Prop) (l : List RuleD) (Ar : Option Addr) (nr cr : Nat) (t : List Int) (At : Option Addr) (nt ct : Nat) (w : World) (hnr : nr ≤ maxLen) (hl : ListX (RuleC w X) w X 7 Ar nr l) (hnt : nt ≤ maxLen) (ht : RdR w w.heap.size At nt t) :
    Calls Try.prog 51 #[.slice Ar nr cr, .slice At nt ct] w fun e w' => PlayPost2 w.heap.size w' (runRefP l t) e ∧ Below w.heap.size w w' := by
  have htl := ht.len
  have hb0 := ((Below.refl w.heap.size w).alloc (Nat.le_refl _) (.cells #[.slice none 0 0, .int .i64 0, .int .i64 0] 25)).alloc (by simp) (.cells #[.int .i64 0, .int .i64 0] 28)
  have HX0 := Lib.hid (Blk.alloc (Blk.new w 25 #[.slice none 0 0, .int .i64 0, .int .i64 0]) (.cells #[.int .i64 0, .int .i64 0] 28))
  have HY0 := Lib.hid (show Blk ((w.alloc (.cells #[.slice none 0 0, .int .i64 0, .int .i64 0] 25)).alloc (.cells #[.int .i64 0, .int .i64 0] 28)) (w.heap.size + 1) 28 #[.int .i64 0, .int .i64 0] by
    have := Blk.new (w.alloc (.cells #[.slice none 0 0, .int .i64 0, .int .i64 0] 25)) 28 #[.int .i64 0, .int .i64 0]
    simpa using this)
  have HB0 := Lib.hid hb0
  have HL := Lib.hid (fun (W : World) (hb : Below w.heap.size w W) => show ListX (RuleC W X) W X 7 Ar nr l from hl.keep (Keeps.any hb) (fun _ _ => RuleC.keep (Keeps.any hb)))
  have HTX := Lib.hid (fun (W : World) (hb : Below w.heap.size w W) => show RdR W W.heap.size At nt t from (Rd.below ht hb).more hb.size)
  have HNR := Lib.hid (show l.length = nr from hl.len)
  have HLW := Lib.hid hl
  clear hb0 hl ht
  generalize hW0 : (w.alloc (.cells #[.slice none 0 0, .int .i64 0, .int .i64 0] 25)).alloc (.cells #[.int .i64 0, .int .i64 0] 28) = W0 at *
  have HW := Lib.hid (run_wrong X l Ar nr cr W0 hnr (HL.out W0 HB0.out))
  go_enter Try.func51, Try.ntmps51
  go_wp2_with fail
  clear hW0
  refine HW.out.mono ?_
  rintro e w1 ⟨rfl, hb1⟩
  have HX1 := Lib.hid (Blk.below HX0.out hb1 HX0.out.lt)
  have HY1 := Lib.hid (Blk.below HY0.out hb1 HY0.out.lt)
  have HB1 := Lib.hid (HB0.out.trans (hb1.mono HB0.out.size))
  clear hb1 HW HX0 HY0 HB0
  obtain ⟨r1, r2, hR⟩ : ∃ r1 r2, rulesW l = (r1, r2) := ⟨_, _, rfl⟩
  rw [hR]
  by_cases hz : r1 = 0
  · subst hz
    have HRR := Lib.hid (right_rules (l := l) (by rw [hR]))
    have HRA := Lib.hid (right_all (l := l) (by rw [hR]))
    have HP := Lib.hid (show runRefP l t = if textP t ≠ 0 then (noOut, (textP t, 0)) else okOut (runGo l (8 * t.length + 40) [] t 0 0) by unfold runRefP checkP; rw [hR]; rfl)
    have HX2 := Lib.hid (HX1.out.alloc (.cells #[.int .i64 0, .int .i64 r2] 28))
    have HY2 := Lib.hid (HY1.out.alloc (.cells #[.int .i64 0, .int .i64 r2] 28))
    have HB2 := Lib.hid (HB1.out.alloc HB1.out.size (.cells #[.int .i64 0, .int .i64 r2] 28))
    have HMT := Lib.hid (match_text At nt ct t _ hnt (HTX.out _ HB2.out))
    clear hR HX1 HY1 HB1
    go_wp2_with fail
    refine HMT.out.mono ?_
    rintro e w3 ⟨rfl, hb3⟩
    have HX3 := Lib.hid (Blk.below HX2.out hb3 HX2.out.lt)
    have HY3 := Lib.hid (Blk.below HY2.out hb3 HY2.out.lt)
    have HB3 := Lib.hid (HB2.out.trans (hb3.mono HB2.out.size))
    clear hb3 HX2 HY2 HB2 HMT
    obtain ⟨tp, htp⟩ : ∃ tp, textP t = tp := ⟨_, rfl⟩
    rw [htp]
    have HP0 := Lib.hid (show runRefP l t = if tp ≠ 0 then (noOut, (tp, 0)) else okOut (runGo l (8 * t.length + 40) [] t 0 0) by rw [← htp]; exact HP.out)
    clear HP
    by_cases hz : tp = 0
    · subst hz
      have HRT := Lib.hid (show t.length ≤ 4000 ∧ Runes t by
        unfold textP at htp
        by_cases h4 : 4000 < t.length
        · rw [if_pos h4] at htp; cases htp
        · rw [if_neg h4] at htp
          refine ⟨by omega, runes_of ?_⟩
          cases hb : badRune t
          · rfl
          · rw [hb] at htp; cases htp)
      have HP2 := Lib.hid (HP0.out.trans (if_neg (fun h => h rfl)))
      obtain ⟨lim, hlim⟩ : ∃ lim : Nat, lim = 8 * t.length + 40 := ⟨_, rfl⟩
      have HPR := Lib.hid (show runRefP l t = okOut (runGo l lim [] t 0 0) by rw [HP2.out, hlim])
      have ht4 : t.length ≤ 4000 := HRT.out.1
      have hnt4 : nt ≤ 4000 := by omega
      have hlim1 : lim ≤ 32040 := by omega
      have hlim2 : ((8 * nt + 40 : Nat) : Int) = (lim : Int) := by omega
      have HLM := Lib.hid (fun W => run_limit nt hnt4 W)
      rw [hlim2] at HLM
      have HCL := Lib.hid (clone_runes At nt ct t w3 (by omega) (HTX.out w3 HB3.out))
      have hlen2 : l.length ≤ 200 := HRR.out.size
      have hw3 := HY3.out.lt
      clear htp HP0 HP2 hlim hlim2
      go_upto_region 7 with fail
      go_wp2_with fail
      refine HCL.out.mono ?_
      rintro e w4 ⟨⟨v, rfl, ho⟩, hb4⟩
      obtain ⟨Av, cv, rfl, hcv⟩ := own_form ho
      have hba := (Below.refl w4.heap.size w4).alloc (Nat.le_refl _) (.cells #[.slice Av nt cv, .int .i64 0, .int .i64 0] 25)
      have hbb := hb4.trans (hba.mono hb4.size)
      have HX4 := Lib.hid (Blk.below HX3.out hbb HX3.out.lt)
      have HY4 := Lib.hid (Blk.below HY3.out hbb HY3.out.lt)
      have HB4 := Lib.hid (HB3.out.trans (hbb.mono HB3.out.size))
      have HM4 := Lib.hid (Blk.new w4 25 #[.slice Av nt cv, .int .i64 0, .int .i64 0])
      have HR4 := Lib.hid (show RdX (w4.alloc (.cells #[.slice Av nt cv, .int .i64 0, .int .i64 0] 25)) (OffM (w.heap.size + 2) w4.heap.size) 1 Av nt (runeCells t) from
        ((RdX.of_own (X := fun b => w3.heap.size ≤ b ∧ b < w4.heap.size) ho (fun b hb => own_lt ho hb)).keep (Keeps.alloc (X' := OffM (w.heap.size + 2) w4.heap.size) _ (fun b hb _ => by obtain ⟨h1, h2⟩ := hb; unfold OffM; omega))))
      have hw4 : w.heap.size + 1 < w4.heap.size := Nat.lt_of_lt_of_le hw3 hb4.size
      clear ho hb4 hba hbb HX3 HY3 HB3 HCL
      go_upto_region 8 with fail
      generalize hM : w4.heap.size = M at *
      generalize w4.alloc (.cells #[.slice Av nt cv, .int .i64 0, .int .i64 0] 25) = W4 at *
      clear hM
      go_wp2_with fail
      refine (HLM.out _).mono ?_
      rintro e w7 ⟨rfl, h7⟩
      obtain rfl := h7.symm
      clear HLM
      go_wp2_with fail
      go_loopw [10] (RnRel w M l lim t) (fun _ wr => lim - stepsAt M wr)
      case atStart => exact ⟨[], t, lim, 0, 0, nt, cv, Av, rfl, by omega, by rw [List.length_nil]; omega, by omega, rfl, Nat.le_refl _, hcv, HM4.out, HR4.out, HX4.out, HY4.out, HB4.out⟩
      case round =>
        obtain ⟨done, rest, left, s, p, N, c, A, hgo, hsl, hN, hN4, rfl, hps, hNc, hm, hrd, hx, hy, hb⟩ := hrel
        have HGO := Lib.hid hgo
        have HM := Lib.hid hm
        have HRD := Lib.hid hrd
        have HXO := Lib.hid hx
        have HYO := Lib.hid hy
        have HB := Lib.hid hb
        have hsteps : stepsAt M wr = s := by
          unfold stepsAt
          rw [hm.cell]
          simp
        have HST := Lib.hid hsteps
        obtain ⟨nd, hnd⟩ : ∃ nd, done.length = nd := ⟨_, rfl⟩
        have HDL := Lib.hid hnd
        have HRL := Lib.hid (show rest.length = N - nd by omega)
        rw [hnd] at hN ⊢
        have hdN : nd ≤ N := by omega
        have m0 := HM.out.cell 0
        have m1 := HM.out.cell 1
        have m2 := HM.out.cell 2
        have f0 := HM.out.frozen 0
        have f1 := HM.out.frozen 1
        have f2 := HM.out.frozen 2
        have hMlt := HM.out.lt
        have hbs := hb.size
        clear hgo hm hrd hx hy hb hsteps hnd hN
        by_cases hlt : nd < N
        · obtain ⟨z, Z, hZ⟩ : ∃ z Z, rest = z :: Z := by
            cases rest with
            | nil => have := HRL.out; simp at this; omega
            | cons z Z => exact ⟨z, Z, rfl⟩
          have HZ := Lib.hid hZ
          clear hZ
          obtain ⟨b, o, rfl, hbM, hbl, hcc⟩ := HRD.out.2 (by omega)
          clear hcc
          by_cases hs0 : s = lim
          · have HGO2 := Lib.hid (show runGo l lim [] t 0 0 = (noOut, 9) by
              have h0 : left = 0 := by omega
              rw [HGO.out, h0, HZ.out]
              exact runGo_zero l done s p (by simp))
            have HBW := HB
            have HP := Lib.hid (show runRefP l t = (noOut, (9, 0)) by rw [HPR.out, HGO2.out]; rfl)
            have hX := HXO.out
            have hY := HYO.out
            have x0 := hX.cell 0
            have x1 := hX.cell 1
            have x2 := hX.cell 2
            have y0 := hY.cell 0
            have y1 := hY.cell 1
            have p0 := hX.frozen 0
            have p1 := hX.frozen 1
            have p2 := hX.frozen 2
            have p3 := hY.frozen 0
            have p4 := hY.frozen 1
            have hbf := (((((HBW.out).setCell (p := ⟨w.heap.size, 0, none⟩) (by simp) (.slice none 0 0)).setCell (p := ⟨w.heap.size, 1, none⟩) (by simp) (.int .i64 0)).setCell (p := ⟨w.heap.size, 2, none⟩) (by simp) (.int .i64 0)).setCell (p := ⟨w.heap.size + 1, 0, none⟩) (by simp) (.int .i64 9)).setCell (p := ⟨w.heap.size + 1, 1, none⟩) (by simp) (.int .i64 0)
            have HBF := Lib.hid hbf
            clear hX hY hbf
            go_wp2_with fail
            rw [HP.out]
            exact bodyPost_ret (v := .tuple #[.agg #[.slice none 0 0, .int .i64 0, .int .i64 0], .agg #[.int .i64 9, .int .i64 0]]) (by simp [results, Try.results51, go_sem, x0, x1, x2, y0, y1]) rfl ⟨⟨none, 0, 0, rfl, ⟨rfl, fun h => absurd h (Nat.lt_irrefl 0)⟩, Nat.le_refl _⟩, HBF.out⟩
          · have hleft : ∃ L, left = L + 1 := ⟨left - 1, by omega⟩
            obtain ⟨L, rfl⟩ := hleft
            have hs1 : ¬ (s : Int) = (lim : Int) := by omega
            have hs1b : ((s : Int) == (lim : Int)) = false := by rw [beq_eq_false_iff_ne]; exact hs1
            clear hs0 hs1
            go_upto_region 14 with fail
            have HM1 := Lib.hid (show Blk (wr.setCell ⟨M, 1, none⟩ (.int .i64 ((s : Int) + 1))) M 25 #[.slice (some ⟨b, o, none⟩) N c, .int .i64 ((s : Int) + 1), .int .i64 p] from HM.out.put 1 _)
            have HRD1 := Lib.hid (HRD.out.keep (Keeps.setCell (X' := OffM (w.heap.size + 2) M) (p := ⟨M, 1, none⟩) (.int .i64 ((s : Int) + 1)) (fun q hq => hq.1) (fun _ h _ => h)))
            have HX1' := Lib.hid (show Blk (wr.setCell ⟨M, 1, none⟩ (.int .i64 ((s : Int) + 1))) w.heap.size 25 #[.slice none 0 0, .int .i64 0, .int .i64 0] from (Below.heap_setCell _ _ _ _ (by simp only; omega)).trans HXO.out)
            have HY1' := Lib.hid (show Blk (wr.setCell ⟨M, 1, none⟩ (.int .i64 ((s : Int) + 1))) (w.heap.size + 1) 28 #[.int .i64 0, .int .i64 0] from (Below.heap_setCell _ _ _ _ (by simp only; omega)).trans HYO.out)
            have HB1' := Lib.hid (HB.out.setCell (p := ⟨M, 1, none⟩) (by simp only; omega) (.int .i64 ((s : Int) + 1)))
            have hzr : wr.heap.size = (wr.setCell ⟨M, 1, none⟩ (.int .i64 ((s : Int) + 1))).heap.size := by simp
            generalize wr.setCell ⟨M, 1, none⟩ (.int .i64 ((s : Int) + 1)) = W1 at *
            clear m0 m1 m2 f0 f1 f2 HM HRD HXO HYO HB
            have m0 := HM1.out.cell 0
            have HF := Lib.hid (run_first X l Ar (some ⟨b, o, none⟩) nr cr N c nd (done ++ rest) W1 hnr HRA.out (HL.out W1 HB1'.out) (by omega) hdN HRD1.out.of)
            go_wp2_with fail
            refine HF.out.mono ?_
            rintro e w5 ⟨rfl, hb5⟩
            have HM5 := Lib.hid (Blk.below HM1.out hb5 HM1.out.lt)
            have HX5 := Lib.hid (Blk.below HX1'.out hb5 HX1'.out.lt)
            have HY5 := Lib.hid (Blk.below HY1'.out hb5 HY1'.out.lt)
            have HB5 := Lib.hid (HB1'.out.trans (hb5.mono HB1'.out.size))
            have HRD5 := Lib.hid (HRD1.out.keep (Keeps.any hb5))
            have hz5 := hb5.size
            have hwr : whichP l (done ++ rest) nd = whichP l (done ++ z :: Z) done.length := by rw [HZ.out, HDL.out]
            rw [hwr]
            clear hb5 HF m0 hwr HM1 HX1' HY1' HB1' HRD1
            rcases whichP_range l (done ++ z :: Z) done.length with hwh | ⟨k, r, hwh, hk, hhere⟩
            · have HGO2 := Lib.hid (show runGo l lim [] t 0 0 = runGo l L (done ++ [z]) Z (s + 1) p by rw [HGO.out, HZ.out, runGo_none hwh])
              rw [hwh]
              clear hwh
              go_wp2_with fail
              refine ⟨⟨done ++ [z], Z, L, s + 1, p, N, c, some ⟨b, o, none⟩, HGO2.out, by omega, ?_, hN4, by rw [List.length_append, HDL.out]; go_num, by omega, hNc, by have := HM5.out; simpa using this, ?_, HX5.out, HY5.out, HB5.out⟩, ?_⟩
              · have := HRL.out
                rw [HZ.out] at this
                simp only [List.length_append, List.length_cons, List.length_nil, HDL.out] at *
                omega
              · have := HRD5.out
                rw [HZ.out] at this
                rw [List.append_assoc]
                exact this
              · have e9 : stepsAt M w5 = s + 1 := by
                  unfold stepsAt
                  rw [HM5.out.cell]
                  simp
                rw [HST.out, e9]
                omega
            · have hkl : k < nr := by have := (List.getElem?_eq_some_iff.1 hk).1; have := HRR.out.size; have := HNR.out; omega
              have hfit := here_fits hhere
              have hrr := HRA.out r (List.mem_of_getElem? hk)
              have HZZ := Lib.hid (show (r.target ++ (z :: Z).drop r.source.length).length = r.target.length + ((z :: Z).length - r.source.length) by rw [List.length_append, List.length_drop])
              obtain ⟨rb, ro, A1, A2, A3, A4, n1, c1, n2, c2, n3, c3, n4, c4, rfl, _, hbb, ⟨d0, d1, d2, d3, d4, d5, d6⟩, _, s2', _, s4', _⟩ := rule_at HLW.out hk
              have hn2 : r.source.length = n2 := s2'.list.len
              have hn4 : r.target.length = n4 := by have := s4'.1; rw [runeCells_length] at this; omega
              have hl2 : n2 ≤ 20 := by rw [← hn2]; exact (hrr.sets r.source (by simp [sidesOf])).1
              have hl4 : n4 ≤ 20 := by rw [← hn4]; exact hrr.tgt.1
              obtain ⟨cu, hcu⟩ : ∃ cu : Nat, r.cursor = (cu : Int) := ⟨r.cursor.toNat, by have := hrr.cur; omega⟩
              have hcu2 : cu ≤ n4 := by have := hrr.cur; omega
              have hn2N : nd + n2 ≤ N := by
                have := HRL.out
                rw [HZ.out] at this
                rw [hn2] at hfit
                omega
              have HLL := Lib.hid (show done.length + (r.target ++ (z :: Z).drop r.source.length).length = N - n2 + n4 by
                have h1 := HRL.out
                rw [HZ.out] at h1
                rw [HZZ.out, HDL.out, hn2, hn4, h1]
                omega)
              have HGR := Lib.hid (fun (hm : ¬ 4000 < done.length + (r.target ++ (z :: Z).drop r.source.length).length) => show runGo l lim [] t 0 0 = runGo l L (done ++ (r.target ++ rest.drop n2).take cu) ((r.target ++ rest.drop n2).drop cu) (s + 1) (p + 1) by
                rw [HGO.out, HZ.out, runGo_rule hwh hk hm, hcu, Int.toNat_natCast, hn2])
              have HGM := Lib.hid (fun (hm : 4000 < done.length + (r.target ++ (z :: Z).drop r.source.length).length) => show runGo l lim [] t 0 0 = (noOut, 4) by rw [HGO.out, HZ.out, runGo_much hwh hk hm])
              have HN4 := Lib.hid hn4
              have H4 := Lib.hid s4'
              rw [hwh]
              rw [hcu] at d6
              clear hwh hk hhere hrr hfit hcu hn2 hn4 s2' s4' HZZ
              have m0 := HM5.out.cell 0
              have m1 := HM5.out.cell 1
              have m2 := HM5.out.cell 2
              have f2 := HM5.out.frozen 2
              go_upto_region 18 with fail
              have HM6 := Lib.hid (show Blk (w5.setCell ⟨M, 2, none⟩ (.int .i64 ((p : Int) + 1))) M 25 #[.slice (some ⟨b, o, none⟩) N c, .int .i64 ((s : Int) + 1), .int .i64 ((p : Int) + 1)] from HM5.out.put 2 _)
              have hkm : Keeps w5 (OffM (w.heap.size + 2) M) (w5.setCell ⟨M, 2, none⟩ (.int .i64 ((p : Int) + 1))) (OffM (w.heap.size + 2) M) := Keeps.setCell (X' := OffM (w.heap.size + 2) M) (p := ⟨M, 2, none⟩) (.int .i64 ((p : Int) + 1)) (fun q hq => hq.1) (fun _ h _ => h)
              have HRD6 := Lib.hid (HRD5.out.keep hkm)
              have HX6 := Lib.hid (show Blk (w5.setCell ⟨M, 2, none⟩ (.int .i64 ((p : Int) + 1))) w.heap.size 25 #[.slice none 0 0, .int .i64 0, .int .i64 0] from (Below.heap_setCell _ _ _ _ (by simp only; omega)).trans HX5.out)
              have HY6 := Lib.hid (show Blk (w5.setCell ⟨M, 2, none⟩ (.int .i64 ((p : Int) + 1))) (w.heap.size + 1) 28 #[.int .i64 0, .int .i64 0] from (Below.heap_setCell _ _ _ _ (by simp only; omega)).trans HY5.out)
              have HB6 := Lib.hid (HB5.out.setCell (p := ⟨M, 2, none⟩) (by simp only; omega) (.int .i64 ((p : Int) + 1)))
              have hsz6 : (w5.setCell ⟨M, 2, none⟩ (.int .i64 ((p : Int) + 1))).heap.size = w5.heap.size := by simp
              clear hkm
              generalize w5.setCell ⟨M, 2, none⟩ (.int .i64 ((p : Int) + 1)) = W6 at *
              have e0 := (HB6.out.cell (p := ⟨rb, ro + k * 7, none⟩) hbb).trans d0
              have e1 := (HB6.out.cell (p := ⟨rb, ro + k * 7 + 1, none⟩) hbb).trans d1
              have e2 := (HB6.out.cell (p := ⟨rb, ro + k * 7 + 2, none⟩) hbb).trans d2
              have e3 := (HB6.out.cell (p := ⟨rb, ro + k * 7 + 3, none⟩) hbb).trans d3
              have e4 := (HB6.out.cell (p := ⟨rb, ro + k * 7 + 4, none⟩) hbb).trans d4
              have e5 := (HB6.out.cell (p := ⟨rb, ro + k * 7 + 5, none⟩) hbb).trans d5
              have e6 := (HB6.out.cell (p := ⟨rb, ro + k * 7 + 6, none⟩) hbb).trans d6
              clear m0 m1 m2 f2 d0 d1 d2 d3 d4 d5 d6 HM5 HRD5 HX5 HY5 HB5
              have HSZ6 := Lib.hid hsz6
              clear hsz6
              have hba := (Below.refl W6.heap.size W6).alloc (Nat.le_refl _) (.cells #[.bool r.start, .bool r.fin, .slice A1 n1 c1, .slice A2 n2 c2, .slice A3 n3 c3, .slice A4 n4 c4, .int .i64 cu] 79)
              have HG7 := Lib.hid (Blk.new W6 79 #[.bool r.start, .bool r.fin, .slice A1 n1 c1, .slice A2 n2 c2, .slice A3 n3 c3, .slice A4 n4 c4, .int .i64 cu])
              have HM7 := Lib.hid (Blk.below HM6.out hba HM6.out.lt)
              have HXO := Lib.hid (Blk.below HX6.out hba HX6.out.lt)
              have HYO := Lib.hid (Blk.below HY6.out hba HY6.out.lt)
              have HBW := Lib.hid (HB6.out.trans (hba.mono HB6.out.size))
              have HRD7 := Lib.hid (HRD6.out.keep (Keeps.any hba))
              have hM6 := HM6.out.lt
              clear hba
              go_upto_region 19 with fail
              generalize W6.alloc (.cells #[.bool r.start, .bool r.fin, .slice A1 n1 c1, .slice A2 n2 c2, .slice A3 n3 c3, .slice A4 n4 c4, .int .i64 cu] 79) = W7 at *
              have hG7 := HG7.out.lt
              clear e0 e1 e2 e3 e4 e5 e6 HM6 HX6 HY6 HB6 HRD6
              have m0 := HM7.out.cell 0
              have g3 : W7.cell? ⟨W6.heap.size, 3, none⟩ = some (.slice A2 n2 c2) := HG7.out.cell 3
              have g5 : W7.cell? ⟨W6.heap.size, 5, none⟩ = some (.slice A4 n4 c4) := HG7.out.cell 5
              have g6 : W7.cell? ⟨W6.heap.size, 6, none⟩ = some (.int .i64 cu) := HG7.out.cell 6
              by_cases hmu : 4000 < N - n2 + n4
              · have HGO2 := Lib.hid (HGM.out (by rw [HLL.out]; exact hmu))
                have HP := Lib.hid (show runRefP l t = (noOut, (4, 0)) by rw [HPR.out, HGO2.out]; rfl)
                have hX := HXO.out
                have hY := HYO.out
                have x0 := hX.cell 0
                have x1 := hX.cell 1
                have x2 := hX.cell 2
                have y0 := hY.cell 0
                have y1 := hY.cell 1
                have p0 := hX.frozen 0
                have p1 := hX.frozen 1
                have p2 := hX.frozen 2
                have p3 := hY.frozen 0
                have p4 := hY.frozen 1
                have hbf := (((((HBW.out).setCell (p := ⟨w.heap.size, 0, none⟩) (by simp) (.slice none 0 0)).setCell (p := ⟨w.heap.size, 1, none⟩) (by simp) (.int .i64 0)).setCell (p := ⟨w.heap.size, 2, none⟩) (by simp) (.int .i64 0)).setCell (p := ⟨w.heap.size + 1, 0, none⟩) (by simp) (.int .i64 4)).setCell (p := ⟨w.heap.size + 1, 1, none⟩) (by simp) (.int .i64 0)
                have HBF := Lib.hid hbf
                clear hX hY hbf
                go_wp2_with fail
                rw [HP.out]
                exact bodyPost_ret (v := .tuple #[.agg #[.slice none 0 0, .int .i64 0, .int .i64 0], .agg #[.int .i64 4, .int .i64 0]]) (by simp [results, Try.results51, go_sem, x0, x1, x2, y0, y1]) rfl ⟨⟨none, 0, 0, rfl, ⟨rfl, fun h => absurd h (Nat.lt_irrefl 0)⟩, Nat.le_refl _⟩, HBF.out⟩
              · have HGO2 := Lib.hid (HGR.out (by rw [HLL.out]; exact hmu))
                have hmu2 : N - n2 + n4 ≤ 4000 := by omega
                clear hmu
                go_upto_region 21 with fail
                have v1 : IntKind.i64.wrap ((nd : Int) + (n2 : Int)) = (nd : Int) + (n2 : Int) := IntWalk.i64_in _ (by omega)
                have hb0 : (0 : Int) ≤ (nd : Int) + (n2 : Int) := by omega
                have hb1 : (nd : Int) ≤ (nd : Int) + (n2 : Int) := by omega
                have hb2 : (nd : Int) + (n2 : Int) ≤ (N : Int) := by omega
                have hb3 : ((nd : Int) + (n2 : Int)).toNat = nd + n2 := by omega
                have hb4 : (nd : Int) ≤ (c : Int) := by omega
                by_cases hck : c = nd + n2
                · subst hck
                  have hba8 : Below W7.heap.size W7 ((W7.alloc (.cells #[.slice (some ⟨b, o, none⟩) nd (nd + n2), .slice A4 n4 c4, .slice (some ⟨b, o, none⟩) 0 0] 23)).drew) := below_drew1 ((Below.refl W7.heap.size W7).alloc (Nat.le_refl _) _)
                  have hR8 := HRD7.out.keep (Keeps.any hba8)
                  have HP1 := Lib.hid (show Rd ((W7.alloc (.cells #[.slice (some ⟨b, o, none⟩) nd (nd + n2), .slice A4 n4 c4, .slice (some ⟨b, o, none⟩) 0 0] 23)).drew) ((W7.alloc (.cells #[.slice (some ⟨b, o, none⟩) nd (nd + n2), .slice A4 n4 c4, .slice (some ⟨b, o, none⟩) 0 0] 23)).drew).heap.size 1 (some ⟨b, o, none⟩) nd (runeCells done) by
                    have h := (rdx_take (k := nd) hR8 hdN).of
                    rwa [runeCells_take, ← HDL.out, List.take_left, HDL.out] at h)
                  have HP2 := Lib.hid (show Rd ((W7.alloc (.cells #[.slice (some ⟨b, o, none⟩) nd (nd + n2), .slice A4 n4 c4, .slice (some ⟨b, o, none⟩) 0 0] 23)).drew) ((W7.alloc (.cells #[.slice (some ⟨b, o, none⟩) nd (nd + n2), .slice A4 n4 c4, .slice (some ⟨b, o, none⟩) 0 0] 23)).drew).heap.size 1 A4 n4 (runeCells r.target) from (H4.out.keep (Keeps.any (HBW.out.trans (hba8.mono HBW.out.size)))).of)
                  have HP3 := Lib.hid (show Rd ((W7.alloc (.cells #[.slice (some ⟨b, o, none⟩) nd (nd + n2), .slice A4 n4 c4, .slice (some ⟨b, o, none⟩) 0 0] 23)).drew) ((W7.alloc (.cells #[.slice (some ⟨b, o, none⟩) nd (nd + n2), .slice A4 n4 c4, .slice (some ⟨b, o, none⟩) 0 0] 23)).drew).heap.size 1 (some ⟨b, o, none⟩) 0 (runeCells (rest.drop n2)) by
                    have h0 : rest.drop n2 = [] := List.eq_nil_of_length_eq_zero (by rw [List.length_drop, HRL.out]; omega)
                    rw [h0]
                    exact ⟨rfl, fun h => absurd h (Nat.lt_irrefl 0)⟩)
                  have HCC := Lib.hid (show Calls Try.prog 86 #[.slice (some ⟨W7.heap.size, 0, none⟩) 3 3] ((W7.alloc (.cells #[.slice (some ⟨b, o, none⟩) nd (nd + n2), .slice A4 n4 c4, .slice (some ⟨b, o, none⟩) 0 0] 23)).drew) fun e w' => (∃ v, e = .returned v ∧ w'.ownsRow ((W7.alloc (.cells #[.slice (some ⟨b, o, none⟩) nd (nd + n2), .slice A4 n4 c4, .slice (some ⟨b, o, none⟩) 0 0] 23)).drew).heap.size 21 1 v (N - n2 + n4) (runeCells (done ++ (r.target ++ rest.drop n2)))) ∧ Below ((W7.alloc (.cells #[.slice (some ⟨b, o, none⟩) nd (nd + n2), .slice A4 n4 c4, .slice (some ⟨b, o, none⟩) 0 0] 23)).drew).heap.size ((W7.alloc (.cells #[.slice (some ⟨b, o, none⟩) nd (nd + n2), .slice A4 n4 c4, .slice (some ⟨b, o, none⟩) 0 0] 23)).drew) w' by
                    have hl3 : (done ++ (r.target ++ rest.drop n2)).length = N - n2 + n4 := by
                      rw [List.length_append, List.length_append, List.length_drop, HDL.out, HRL.out, HN4.out]
                      omega
                    have h := concat_runes [done, r.target, rest.drop n2] [.slice (some ⟨b, o, none⟩) nd (nd + n2), .slice A4 n4 c4, .slice (some ⟨b, o, none⟩) 0 0] (some ⟨W7.heap.size, 0, none⟩) 3 3 ((W7.alloc (.cells #[.slice (some ⟨b, o, none⟩) nd (nd + n2), .slice A4 n4 c4, .slice (some ⟨b, o, none⟩) 0 0] 23)).drew) rfl (by have h0 := Rd.new W7 23 1 3 [.slice (some ⟨b, o, none⟩) nd (nd + n2), .slice A4 n4 c4, .slice (some ⟨b, o, none⟩) 0 0] rfl; exact h0.drew.more (by simp)) (pcs3 HP1.out HP2.out HP3.out) (by rw [flat3, hl3]; omega) (by omega)
                    rw [flat3, hl3] at h
                    exact h)
                  have HBA8 := Lib.hid hba8
                  have h98 : ((W7.alloc (.cells #[.slice (some ⟨b, o, none⟩) nd (nd + n2), .slice A4 n4 c4, .slice (some ⟨b, o, none⟩) 0 0] 23)).drew).heap.size = W7.heap.size + 1 := by simp
                  have HSZ8 := Lib.hid h98
                  clear hba8 hR8 HP1 HP2 HP3 h98
                  refine wp_region_till (S := (fun w' => w'.cell? ⟨M, 0, none⟩ = some (.slice (some ⟨b, o, none⟩) N (nd + n2)) ∧ w'.cell? ⟨W6.heap.size, 5, none⟩ = some (.slice A4 n4 c4) ∧ w'.cell? ⟨W6.heap.size, 3, none⟩ = some (.slice A2 n2 c2))) [1, 5, 7, 10] (by kernel_rfl) ⟨m0, g5, g3⟩ (fun hHeld => ?_)
                  refine wpTill_pure (i := 0) (oi := ⟨some 80, _, _, _, _, _⟩) (v := ?_) rfl (by kernel_rfl) (by kernel_rfl) (by kernel_rfl) (fun _ _ _ h => h) (Or.inl ⟨by rfl, ?_⟩) ?_
                  rotate_left 1
                  · intro wq _
                    go_simp
                    try with_reducible rfl
                  try simp only [Act.put, List.setIfInBounds_toArray, List.set_cons_zero, List.set_cons_succ]
                  refine wpTill_take (i := 1) (oi := ⟨some 81, _, _, _, _, _⟩) (v := ?_) rfl (by kernel_rfl) (by kernel_rfl) (by kernel_rfl) (by kernel_rfl) (by kernel_rfl) (fun _ _ _ h => h) (Or.inl ⟨by rfl, ?_⟩) (by assumption) ?_
                  rotate_left 1
                  · intro wq hSw
                    (try dsimp only at hSw)
                    go_simp
                    try with_reducible rfl
                  try simp only [Act.put, List.setIfInBounds_toArray, List.set_cons_zero, List.set_cons_succ]
                  refine wpTill_pure (i := 2) (oi := ⟨some 82, _, _, _, _, _⟩) (v := ?_) rfl (by kernel_rfl) (by kernel_rfl) (by kernel_rfl) (fun _ _ _ h => h) (Or.inl ⟨by rfl, ?_⟩) ?_
                  rotate_left 1
                  · intro wq _
                    go_simp
                    try with_reducible rfl
                  try simp only [Act.put, List.setIfInBounds_toArray, List.set_cons_zero, List.set_cons_succ]
                  refine wpTill_pure (i := 3) (oi := ⟨some 83, _, _, _, _, _⟩) (v := ?_) rfl (by kernel_rfl) (by kernel_rfl) (by kernel_rfl) (fun _ _ _ h => h) (Or.inl ⟨by rfl, ?_⟩) ?_
                  rotate_left 1
                  · intro wq _
                    go_simp
                    try with_reducible rfl
                  try simp only [Act.put, List.setIfInBounds_toArray, List.set_cons_zero, List.set_cons_succ]
                  refine wpTill_pure (i := 4) (oi := ⟨some 84, _, _, _, _, _⟩) (v := ?_) rfl (by kernel_rfl) (by kernel_rfl) (by kernel_rfl) (fun _ _ _ h => h) (Or.inl ⟨by rfl, ?_⟩) ?_
                  rotate_left 1
                  · intro wq _
                    go_simp
                    try with_reducible rfl
                  try simp only [Act.put, List.setIfInBounds_toArray, List.set_cons_zero, List.set_cons_succ]
                  refine wpTill_take (i := 5) (oi := ⟨some 85, _, _, _, _, _⟩) (v := ?_) rfl (by kernel_rfl) (by kernel_rfl) (by kernel_rfl) (by kernel_rfl) (by kernel_rfl) (fun _ _ _ h => h) (Or.inl ⟨by rfl, ?_⟩) (by assumption) ?_
                  rotate_left 1
                  · intro wq hSw
                    (try dsimp only at hSw)
                    go_simp
                    try with_reducible rfl
                  try simp only [Act.put, List.setIfInBounds_toArray, List.set_cons_zero, List.set_cons_succ]
                  refine wpTill_pure (i := 6) (oi := ⟨some 86, _, _, _, _, _⟩) (v := ?_) rfl (by kernel_rfl) (by kernel_rfl) (by kernel_rfl) (fun _ _ _ h => h) (Or.inl ⟨by rfl, ?_⟩) ?_
                  rotate_left 1
                  · intro wq _
                    go_simp
                    try with_reducible rfl
                  try simp only [Act.put, List.setIfInBounds_toArray, List.set_cons_zero, List.set_cons_succ]
                  refine wpTill_take (i := 7) (oi := ⟨some 87, _, _, _, _, _⟩) (v := ?_) rfl (by kernel_rfl) (by kernel_rfl) (by kernel_rfl) (by kernel_rfl) (by kernel_rfl) (fun _ _ _ h => h) (Or.inl ⟨by rfl, ?_⟩) (by assumption) ?_
                  rotate_left 1
                  · intro wq hSw
                    (try dsimp only at hSw)
                    go_simp
                    try with_reducible rfl
                  try simp only [Act.put, List.setIfInBounds_toArray, List.set_cons_zero, List.set_cons_succ]
                  refine wpTill_pure (i := 8) (oi := ⟨some 88, _, _, _, _, _⟩) (v := ?_) rfl (by kernel_rfl) (by kernel_rfl) (by kernel_rfl) (fun _ _ _ h => h) (Or.inl ⟨by rfl, ?_⟩) ?_
                  rotate_left 1
                  · intro wq _
                    go_simp
                    try with_reducible rfl
                  try simp only [Act.put, List.setIfInBounds_toArray, List.set_cons_zero, List.set_cons_succ]
                  refine wpTill_pure (i := 9) (oi := ⟨some 89, _, _, _, _, _⟩) (v := ?_) rfl (by kernel_rfl) (by kernel_rfl) (by kernel_rfl) (fun _ _ _ h => h) (Or.inl ⟨by rfl, ?_⟩) ?_
                  rotate_left 1
                  · intro wq _
                    go_simp
                    try with_reducible rfl
                  try simp only [Act.put, List.setIfInBounds_toArray, List.set_cons_zero, List.set_cons_succ]
                  refine wpTill_take (i := 10) (oi := ⟨some 90, _, _, _, _, _⟩) (v := ?_) rfl (by kernel_rfl) (by kernel_rfl) (by kernel_rfl) (by kernel_rfl) (by kernel_rfl) (fun _ _ _ h => h) (Or.inl ⟨by rfl, ?_⟩) (by assumption) ?_
                  rotate_left 1
                  · intro wq hSw
                    (try dsimp only at hSw)
                    go_simp
                    try with_reducible rfl
                  try simp only [Act.put, List.setIfInBounds_toArray, List.set_cons_zero, List.set_cons_succ]
                  refine wpTill_pure (i := 11) (oi := ⟨some 91, _, _, _, _, _⟩) (v := ?_) rfl (by kernel_rfl) (by kernel_rfl) (by kernel_rfl) (fun _ _ _ h => h) (Or.inl ⟨by rfl, ?_⟩) ?_
                  rotate_left 1
                  · intro wq _
                    go_simp
                    try with_reducible rfl
                  try simp only [Act.put, List.setIfInBounds_toArray, List.set_cons_zero, List.set_cons_succ]
                  refine wpTill_pure (i := 12) (oi := ⟨some 92, _, _, _, _, _⟩) (v := ?_) rfl (by kernel_rfl) (by kernel_rfl) (by kernel_rfl) (fun _ _ _ h => h) (Or.inl ⟨by rfl, ?_⟩) ?_
                  rotate_left 1
                  · intro wq _
                    go_simp
                    try with_reducible rfl
                  try simp only [Act.put, List.setIfInBounds_toArray, List.set_cons_zero, List.set_cons_succ]
                  refine wpTill_pure (i := 13) (oi := ⟨some 93, _, _, _, _, _⟩) (v := ?_) rfl (by kernel_rfl) (by kernel_rfl) (by kernel_rfl) (fun _ _ _ h => h) (Or.inl ⟨by rfl, ?_⟩) ?_
                  rotate_left 1
                  · intro wq _
                    go_simp
                    try with_reducible rfl
                  try simp only [Act.put, List.setIfInBounds_toArray, List.set_cons_zero, List.set_cons_succ]
                  refine wpTill_late (i := 14) (o := ⟨some 94, _, _, _, _, _⟩) (by kernel_rfl) rfl (by kernel_rfl) (fun K hK => ?_)
                  go_simp
                  try dsimp only
                  refine hK.out _ _ ?_
                  clear hK K
                  try simp only [Act.put, List.setIfInBounds_toArray, List.set_cons_zero, List.set_cons_succ]
                  refine wpTill_late (i := 15) (o := ⟨some 95, _, _, _, _, _⟩) (by kernel_rfl) rfl (by kernel_rfl) (fun K hK => ?_)
                  go_simp
                  go_at_call 86
                  refine HCC.out.mono ?_
                  rintro e w9 ⟨⟨v9, rfl, ho9⟩, hb9⟩
                  obtain ⟨A9, c9, rfl, hc9⟩ := own_form ho9
                  have hb79 := HBA8.out.trans (hb9.mono (by have := HSZ8.out; omega))
                  have HM9 := Lib.hid (Blk.below HM7.out hb79 HM7.out.lt)
                  have HXF := Lib.hid (Blk.below HXO.out hb79 HXO.out.lt)
                  have HYF := Lib.hid (Blk.below HYO.out hb79 HYO.out.lt)
                  have HGF := Lib.hid (Blk.below HG7.out hb79 HG7.out.lt)
                  have HBF9 := Lib.hid (HBW.out.trans (hb79.mono HBW.out.size))
                  have HO9 := Lib.hid ho9
                  have m09 := HM9.out.cell 0
                  have f09 := HM9.out.frozen 0
                  have hM7l := HM7.out.lt
                  clear ho9 hb9 hb79 HCC
                  try dsimp only
                  refine hK.out _ _ ?_
                  clear hK K
                  try simp only [Act.put, List.setIfInBounds_toArray, List.set_cons_zero, List.set_cons_succ]
                  refine wpTill_pure (i := 16) (oi := ⟨some 96, _, _, _, _, _⟩) (v := ?_) rfl (by kernel_rfl) (by kernel_rfl) (by kernel_rfl) (fun _ _ _ h => h) (Or.inl ⟨by rfl, ?_⟩) ?_
                  rotate_left 1
                  · intro wq _
                    go_simp
                    try with_reducible rfl
                  try simp only [Act.put, List.setIfInBounds_toArray, List.set_cons_zero, List.set_cons_succ]
                  refine wpTill_late (i := 17) (o := ⟨none, _, _, _, _, _⟩) (by kernel_rfl) rfl (by kernel_rfl) (fun K hK => ?_)
                  go_simp
                  try dsimp only
                  refine hK.out _ _ ?_
                  clear hK K
                  try simp only [Act.put, List.setIfInBounds_toArray, List.set_cons_zero, List.set_cons_succ]
                  refine wpTill_done (by kernel_rfl) ?_ _
                  go_simp
                  have HMZ := Lib.hid (show Blk (w9.setCell ⟨M, 0, none⟩ (.slice A9 (N - n2 + n4) c9)) M 25 #[.slice A9 (N - n2 + n4) c9, .int .i64 ((s : Int) + 1), .int .i64 ((p : Int) + 1)] from HM9.out.put 0 _)
                  have HXZ := Lib.hid (show Blk (w9.setCell ⟨M, 0, none⟩ (.slice A9 (N - n2 + n4) c9)) w.heap.size 25 #[.slice none 0 0, .int .i64 0, .int .i64 0] from (Below.heap_setCell _ _ _ _ (by simp only; omega)).trans HXF.out)
                  have HYZ := Lib.hid (show Blk (w9.setCell ⟨M, 0, none⟩ (.slice A9 (N - n2 + n4) c9)) (w.heap.size + 1) 28 #[.int .i64 0, .int .i64 0] from (Below.heap_setCell _ _ _ _ (by simp only; omega)).trans HYF.out)
                  have HBZ := Lib.hid (HBF9.out.setCell (p := ⟨M, 0, none⟩) (by simp only; omega) (.slice A9 (N - n2 + n4) c9))
                  have HGZ := Lib.hid (show Blk (w9.setCell ⟨M, 0, none⟩ (.slice A9 (N - n2 + n4) c9)) W6.heap.size 79 #[.bool r.start, .bool r.fin, .slice A1 n1 c1, .slice A2 n2 c2, .slice A3 n3 c3, .slice A4 n4 c4, .int .i64 cu] from (Below.heap_setCell _ _ _ _ (by simp only; omega)).trans HGF.out)
                  have HRZ := Lib.hid (show RdX (w9.setCell ⟨M, 0, none⟩ (.slice A9 (N - n2 + n4) c9)) (OffM (w.heap.size + 2) M) 1 A9 (N - n2 + n4) (runeCells ((done ++ (r.target ++ rest.drop n2).take cu) ++ (r.target ++ rest.drop n2).drop cu)) by
                    rw [List.append_assoc, List.take_append_drop]
                    exact (RdX.of_own (X := fun q => M < q ∧ w.heap.size + 2 ≤ q) HO9.out (fun q hq => by have h1 := (own_lt HO9.out hq).1; have h2 := HSZ8.out; have h3 := HBW.out.size; have h4 := HYO.out.lt; omega)).keep (Keeps.setCell (X' := OffM (w.heap.size + 2) M) (p := ⟨M, 0, none⟩) _ (fun q hq => by have := hq.1; simp only; omega) (fun q hq _ => ⟨by have := hq.1; omega, hq.2⟩)))
                  clear m09 f09 m0 g3 g5 g6 HM9 HXF HYF HBF9 HO9 HGF HGO
                  generalize w9.setCell ⟨M, 0, none⟩ (.slice A9 (N - n2 + n4) c9) = WZ at *
                  have g6 : WZ.cell? ⟨W6.heap.size, 6, none⟩ = some (.int .i64 cu) := HGZ.out.cell 6
                  clear v1 hb0 hb1 hb2 hb3 hb4
                  go_wp2_with fail
                  have hl1 : (done ++ (r.target ++ rest.drop n2).take cu).length = nd + cu := by
                    rw [List.length_append, List.length_take, List.length_append, HDL.out, HN4.out]
                    omega
                  have hl2 : ((r.target ++ rest.drop n2).drop cu).length = N - n2 + n4 - (nd + cu) := by
                    rw [List.length_drop, List.length_append, List.length_drop, HRL.out, HN4.out]
                    omega
                  refine ⟨⟨_, _, L, s + 1, p + 1, N - n2 + n4, c9, A9, HGO2.out, by omega, by rw [hl1, hl2]; omega, hmu2, by rw [hl1]; go_num, by omega, hc9, HMZ.out, HRZ.out, HXZ.out, HYZ.out, HBZ.out⟩, ?_⟩
                  have e9 : stepsAt M WZ = s + 1 := by
                    unfold stepsAt
                    rw [HMZ.out.cell]
                    simp
                  rw [HST.out, e9]
                  omega
                · have hck2 : c ≠ nd + n2 := hck
                  have hba8 : Below W7.heap.size W7 ((W7.alloc (.cells #[.slice (some ⟨b, o, none⟩) nd c, .slice A4 n4 c4, .slice (some ⟨b, o + (nd + n2), none⟩) (N - (nd + n2)) (c - (nd + n2))] 23)).drew) := below_drew1 ((Below.refl W7.heap.size W7).alloc (Nat.le_refl _) _)
                  have hR8 := HRD7.out.keep (Keeps.any hba8)
                  have HP1 := Lib.hid (show Rd ((W7.alloc (.cells #[.slice (some ⟨b, o, none⟩) nd c, .slice A4 n4 c4, .slice (some ⟨b, o + (nd + n2), none⟩) (N - (nd + n2)) (c - (nd + n2))] 23)).drew) ((W7.alloc (.cells #[.slice (some ⟨b, o, none⟩) nd c, .slice A4 n4 c4, .slice (some ⟨b, o + (nd + n2), none⟩) (N - (nd + n2)) (c - (nd + n2))] 23)).drew).heap.size 1 (some ⟨b, o, none⟩) nd (runeCells done) by
                    have h := (rdx_take (k := nd) hR8 hdN).of
                    rwa [runeCells_take, ← HDL.out, List.take_left, HDL.out] at h)
                  have HP2 := Lib.hid (show Rd ((W7.alloc (.cells #[.slice (some ⟨b, o, none⟩) nd c, .slice A4 n4 c4, .slice (some ⟨b, o + (nd + n2), none⟩) (N - (nd + n2)) (c - (nd + n2))] 23)).drew) ((W7.alloc (.cells #[.slice (some ⟨b, o, none⟩) nd c, .slice A4 n4 c4, .slice (some ⟨b, o + (nd + n2), none⟩) (N - (nd + n2)) (c - (nd + n2))] 23)).drew).heap.size 1 A4 n4 (runeCells r.target) from (H4.out.keep (Keeps.any (HBW.out.trans (hba8.mono HBW.out.size)))).of)
                  have HP3 := Lib.hid (show Rd ((W7.alloc (.cells #[.slice (some ⟨b, o, none⟩) nd c, .slice A4 n4 c4, .slice (some ⟨b, o + (nd + n2), none⟩) (N - (nd + n2)) (c - (nd + n2))] 23)).drew) ((W7.alloc (.cells #[.slice (some ⟨b, o, none⟩) nd c, .slice A4 n4 c4, .slice (some ⟨b, o + (nd + n2), none⟩) (N - (nd + n2)) (c - (nd + n2))] 23)).drew).heap.size 1 (some ⟨b, o + (nd + n2), none⟩) (N - (nd + n2)) (runeCells (rest.drop n2)) by
                    have h := (rdx_skip' (c := c) (k := nd + n2) hR8 hn2N hNc).of
                    rwa [if_neg hck2, runeCells_drop, ← HDL.out, drop_past, HDL.out] at h)
                  have HCC := Lib.hid (show Calls Try.prog 86 #[.slice (some ⟨W7.heap.size, 0, none⟩) 3 3] ((W7.alloc (.cells #[.slice (some ⟨b, o, none⟩) nd c, .slice A4 n4 c4, .slice (some ⟨b, o + (nd + n2), none⟩) (N - (nd + n2)) (c - (nd + n2))] 23)).drew) fun e w' => (∃ v, e = .returned v ∧ w'.ownsRow ((W7.alloc (.cells #[.slice (some ⟨b, o, none⟩) nd c, .slice A4 n4 c4, .slice (some ⟨b, o + (nd + n2), none⟩) (N - (nd + n2)) (c - (nd + n2))] 23)).drew).heap.size 21 1 v (N - n2 + n4) (runeCells (done ++ (r.target ++ rest.drop n2)))) ∧ Below ((W7.alloc (.cells #[.slice (some ⟨b, o, none⟩) nd c, .slice A4 n4 c4, .slice (some ⟨b, o + (nd + n2), none⟩) (N - (nd + n2)) (c - (nd + n2))] 23)).drew).heap.size ((W7.alloc (.cells #[.slice (some ⟨b, o, none⟩) nd c, .slice A4 n4 c4, .slice (some ⟨b, o + (nd + n2), none⟩) (N - (nd + n2)) (c - (nd + n2))] 23)).drew) w' by
                    have hl3 : (done ++ (r.target ++ rest.drop n2)).length = N - n2 + n4 := by
                      rw [List.length_append, List.length_append, List.length_drop, HDL.out, HRL.out, HN4.out]
                      omega
                    have h := concat_runes [done, r.target, rest.drop n2] [.slice (some ⟨b, o, none⟩) nd c, .slice A4 n4 c4, .slice (some ⟨b, o + (nd + n2), none⟩) (N - (nd + n2)) (c - (nd + n2))] (some ⟨W7.heap.size, 0, none⟩) 3 3 ((W7.alloc (.cells #[.slice (some ⟨b, o, none⟩) nd c, .slice A4 n4 c4, .slice (some ⟨b, o + (nd + n2), none⟩) (N - (nd + n2)) (c - (nd + n2))] 23)).drew) rfl (by have h0 := Rd.new W7 23 1 3 [.slice (some ⟨b, o, none⟩) nd c, .slice A4 n4 c4, .slice (some ⟨b, o + (nd + n2), none⟩) (N - (nd + n2)) (c - (nd + n2))] rfl; exact h0.drew.more (by simp)) (pcs3 HP1.out HP2.out HP3.out) (by rw [flat3, hl3]; omega) (by omega)
                    rw [flat3, hl3] at h
                    exact h)
                  have HBA8 := Lib.hid hba8
                  have h98 : ((W7.alloc (.cells #[.slice (some ⟨b, o, none⟩) nd c, .slice A4 n4 c4, .slice (some ⟨b, o + (nd + n2), none⟩) (N - (nd + n2)) (c - (nd + n2))] 23)).drew).heap.size = W7.heap.size + 1 := by simp
                  have HSZ8 := Lib.hid h98
                  clear hba8 hR8 HP1 HP2 HP3 h98
                  refine wp_region_till (S := (fun w' => w'.cell? ⟨M, 0, none⟩ = some (.slice (some ⟨b, o, none⟩) N c) ∧ w'.cell? ⟨W6.heap.size, 5, none⟩ = some (.slice A4 n4 c4) ∧ w'.cell? ⟨W6.heap.size, 3, none⟩ = some (.slice A2 n2 c2))) [1, 5, 7, 10] (by kernel_rfl) ⟨m0, g5, g3⟩ (fun hHeld => ?_)
                  refine wpTill_pure (i := 0) (oi := ⟨some 80, _, _, _, _, _⟩) (v := ?_) rfl (by kernel_rfl) (by kernel_rfl) (by kernel_rfl) (fun _ _ _ h => h) (Or.inl ⟨by rfl, ?_⟩) ?_
                  rotate_left 1
                  · intro wq _
                    go_simp
                    try with_reducible rfl
                  try simp only [Act.put, List.setIfInBounds_toArray, List.set_cons_zero, List.set_cons_succ]
                  refine wpTill_take (i := 1) (oi := ⟨some 81, _, _, _, _, _⟩) (v := ?_) rfl (by kernel_rfl) (by kernel_rfl) (by kernel_rfl) (by kernel_rfl) (by kernel_rfl) (fun _ _ _ h => h) (Or.inl ⟨by rfl, ?_⟩) (by assumption) ?_
                  rotate_left 1
                  · intro wq hSw
                    (try dsimp only at hSw)
                    go_simp
                    try with_reducible rfl
                  try simp only [Act.put, List.setIfInBounds_toArray, List.set_cons_zero, List.set_cons_succ]
                  refine wpTill_pure (i := 2) (oi := ⟨some 82, _, _, _, _, _⟩) (v := ?_) rfl (by kernel_rfl) (by kernel_rfl) (by kernel_rfl) (fun _ _ _ h => h) (Or.inl ⟨by rfl, ?_⟩) ?_
                  rotate_left 1
                  · intro wq _
                    go_simp
                    try with_reducible rfl
                  try simp only [Act.put, List.setIfInBounds_toArray, List.set_cons_zero, List.set_cons_succ]
                  refine wpTill_pure (i := 3) (oi := ⟨some 83, _, _, _, _, _⟩) (v := ?_) rfl (by kernel_rfl) (by kernel_rfl) (by kernel_rfl) (fun _ _ _ h => h) (Or.inl ⟨by rfl, ?_⟩) ?_
                  rotate_left 1
                  · intro wq _
                    go_simp
                    try with_reducible rfl
                  try simp only [Act.put, List.setIfInBounds_toArray, List.set_cons_zero, List.set_cons_succ]
                  refine wpTill_pure (i := 4) (oi := ⟨some 84, _, _, _, _, _⟩) (v := ?_) rfl (by kernel_rfl) (by kernel_rfl) (by kernel_rfl) (fun _ _ _ h => h) (Or.inl ⟨by rfl, ?_⟩) ?_
                  rotate_left 1
                  · intro wq _
                    go_simp
                    try with_reducible rfl
                  try simp only [Act.put, List.setIfInBounds_toArray, List.set_cons_zero, List.set_cons_succ]
                  refine wpTill_take (i := 5) (oi := ⟨some 85, _, _, _, _, _⟩) (v := ?_) rfl (by kernel_rfl) (by kernel_rfl) (by kernel_rfl) (by kernel_rfl) (by kernel_rfl) (fun _ _ _ h => h) (Or.inl ⟨by rfl, ?_⟩) (by assumption) ?_
                  rotate_left 1
                  · intro wq hSw
                    (try dsimp only at hSw)
                    go_simp
                    try with_reducible rfl
                  try simp only [Act.put, List.setIfInBounds_toArray, List.set_cons_zero, List.set_cons_succ]
                  refine wpTill_pure (i := 6) (oi := ⟨some 86, _, _, _, _, _⟩) (v := ?_) rfl (by kernel_rfl) (by kernel_rfl) (by kernel_rfl) (fun _ _ _ h => h) (Or.inl ⟨by rfl, ?_⟩) ?_
                  rotate_left 1
                  · intro wq _
                    go_simp
                    try with_reducible rfl
                  try simp only [Act.put, List.setIfInBounds_toArray, List.set_cons_zero, List.set_cons_succ]
                  refine wpTill_take (i := 7) (oi := ⟨some 87, _, _, _, _, _⟩) (v := ?_) rfl (by kernel_rfl) (by kernel_rfl) (by kernel_rfl) (by kernel_rfl) (by kernel_rfl) (fun _ _ _ h => h) (Or.inl ⟨by rfl, ?_⟩) (by assumption) ?_
                  rotate_left 1
                  · intro wq hSw
                    (try dsimp only at hSw)
                    go_simp
                    try with_reducible rfl
                  try simp only [Act.put, List.setIfInBounds_toArray, List.set_cons_zero, List.set_cons_succ]
                  refine wpTill_pure (i := 8) (oi := ⟨some 88, _, _, _, _, _⟩) (v := ?_) rfl (by kernel_rfl) (by kernel_rfl) (by kernel_rfl) (fun _ _ _ h => h) (Or.inl ⟨by rfl, ?_⟩) ?_
                  rotate_left 1
                  · intro wq _
                    go_simp
                    try with_reducible rfl
                  try simp only [Act.put, List.setIfInBounds_toArray, List.set_cons_zero, List.set_cons_succ]
                  refine wpTill_pure (i := 9) (oi := ⟨some 89, _, _, _, _, _⟩) (v := ?_) rfl (by kernel_rfl) (by kernel_rfl) (by kernel_rfl) (fun _ _ _ h => h) (Or.inl ⟨by rfl, ?_⟩) ?_
                  rotate_left 1
                  · intro wq _
                    go_simp
                    try with_reducible rfl
                  try simp only [Act.put, List.setIfInBounds_toArray, List.set_cons_zero, List.set_cons_succ]
                  refine wpTill_take (i := 10) (oi := ⟨some 90, _, _, _, _, _⟩) (v := ?_) rfl (by kernel_rfl) (by kernel_rfl) (by kernel_rfl) (by kernel_rfl) (by kernel_rfl) (fun _ _ _ h => h) (Or.inl ⟨by rfl, ?_⟩) (by assumption) ?_
                  rotate_left 1
                  · intro wq hSw
                    (try dsimp only at hSw)
                    go_simp
                    try with_reducible rfl
                  try simp only [Act.put, List.setIfInBounds_toArray, List.set_cons_zero, List.set_cons_succ]
                  refine wpTill_pure (i := 11) (oi := ⟨some 91, _, _, _, _, _⟩) (v := ?_) rfl (by kernel_rfl) (by kernel_rfl) (by kernel_rfl) (fun _ _ _ h => h) (Or.inl ⟨by rfl, ?_⟩) ?_
                  rotate_left 1
                  · intro wq _
                    go_simp
                    try with_reducible rfl
                  try simp only [Act.put, List.setIfInBounds_toArray, List.set_cons_zero, List.set_cons_succ]
                  refine wpTill_pure (i := 12) (oi := ⟨some 92, _, _, _, _, _⟩) (v := ?_) rfl (by kernel_rfl) (by kernel_rfl) (by kernel_rfl) (fun _ _ _ h => h) (Or.inl ⟨by rfl, ?_⟩) ?_
                  rotate_left 1
                  · intro wq _
                    go_simp
                    try with_reducible rfl
                  try simp only [Act.put, List.setIfInBounds_toArray, List.set_cons_zero, List.set_cons_succ]
                  refine wpTill_pure (i := 13) (oi := ⟨some 93, _, _, _, _, _⟩) (v := ?_) rfl (by kernel_rfl) (by kernel_rfl) (by kernel_rfl) (fun _ _ _ h => h) (Or.inl ⟨by rfl, ?_⟩) ?_
                  rotate_left 1
                  · intro wq _
                    go_simp
                    try with_reducible rfl
                  try simp only [Act.put, List.setIfInBounds_toArray, List.set_cons_zero, List.set_cons_succ]
                  refine wpTill_late (i := 14) (o := ⟨some 94, _, _, _, _, _⟩) (by kernel_rfl) rfl (by kernel_rfl) (fun K hK => ?_)
                  go_simp
                  try dsimp only
                  refine hK.out _ _ ?_
                  clear hK K
                  try simp only [Act.put, List.setIfInBounds_toArray, List.set_cons_zero, List.set_cons_succ]
                  refine wpTill_late (i := 15) (o := ⟨some 95, _, _, _, _, _⟩) (by kernel_rfl) rfl (by kernel_rfl) (fun K hK => ?_)
                  go_simp
                  go_at_call 86
                  refine HCC.out.mono ?_
                  rintro e w9 ⟨⟨v9, rfl, ho9⟩, hb9⟩
                  obtain ⟨A9, c9, rfl, hc9⟩ := own_form ho9
                  have hb79 := HBA8.out.trans (hb9.mono (by have := HSZ8.out; omega))
                  have HM9 := Lib.hid (Blk.below HM7.out hb79 HM7.out.lt)
                  have HXF := Lib.hid (Blk.below HXO.out hb79 HXO.out.lt)
                  have HYF := Lib.hid (Blk.below HYO.out hb79 HYO.out.lt)
                  have HGF := Lib.hid (Blk.below HG7.out hb79 HG7.out.lt)
                  have HBF9 := Lib.hid (HBW.out.trans (hb79.mono HBW.out.size))
                  have HO9 := Lib.hid ho9
                  have m09 := HM9.out.cell 0
                  have f09 := HM9.out.frozen 0
                  have hM7l := HM7.out.lt
                  clear ho9 hb9 hb79 HCC
                  try dsimp only
                  refine hK.out _ _ ?_
                  clear hK K
                  try simp only [Act.put, List.setIfInBounds_toArray, List.set_cons_zero, List.set_cons_succ]
                  refine wpTill_pure (i := 16) (oi := ⟨some 96, _, _, _, _, _⟩) (v := ?_) rfl (by kernel_rfl) (by kernel_rfl) (by kernel_rfl) (fun _ _ _ h => h) (Or.inl ⟨by rfl, ?_⟩) ?_
                  rotate_left 1
                  · intro wq _
                    go_simp
                    try with_reducible rfl
                  try simp only [Act.put, List.setIfInBounds_toArray, List.set_cons_zero, List.set_cons_succ]
                  refine wpTill_late (i := 17) (o := ⟨none, _, _, _, _, _⟩) (by kernel_rfl) rfl (by kernel_rfl) (fun K hK => ?_)
                  go_simp
                  try dsimp only
                  refine hK.out _ _ ?_
                  clear hK K
                  try simp only [Act.put, List.setIfInBounds_toArray, List.set_cons_zero, List.set_cons_succ]
                  refine wpTill_done (by kernel_rfl) ?_ _
                  go_simp
                  have HMZ := Lib.hid (show Blk (w9.setCell ⟨M, 0, none⟩ (.slice A9 (N - n2 + n4) c9)) M 25 #[.slice A9 (N - n2 + n4) c9, .int .i64 ((s : Int) + 1), .int .i64 ((p : Int) + 1)] from HM9.out.put 0 _)
                  have HXZ := Lib.hid (show Blk (w9.setCell ⟨M, 0, none⟩ (.slice A9 (N - n2 + n4) c9)) w.heap.size 25 #[.slice none 0 0, .int .i64 0, .int .i64 0] from (Below.heap_setCell _ _ _ _ (by simp only; omega)).trans HXF.out)
                  have HYZ := Lib.hid (show Blk (w9.setCell ⟨M, 0, none⟩ (.slice A9 (N - n2 + n4) c9)) (w.heap.size + 1) 28 #[.int .i64 0, .int .i64 0] from (Below.heap_setCell _ _ _ _ (by simp only; omega)).trans HYF.out)
                  have HBZ := Lib.hid (HBF9.out.setCell (p := ⟨M, 0, none⟩) (by simp only; omega) (.slice A9 (N - n2 + n4) c9))
                  have HGZ := Lib.hid (show Blk (w9.setCell ⟨M, 0, none⟩ (.slice A9 (N - n2 + n4) c9)) W6.heap.size 79 #[.bool r.start, .bool r.fin, .slice A1 n1 c1, .slice A2 n2 c2, .slice A3 n3 c3, .slice A4 n4 c4, .int .i64 cu] from (Below.heap_setCell _ _ _ _ (by simp only; omega)).trans HGF.out)
                  have HRZ := Lib.hid (show RdX (w9.setCell ⟨M, 0, none⟩ (.slice A9 (N - n2 + n4) c9)) (OffM (w.heap.size + 2) M) 1 A9 (N - n2 + n4) (runeCells ((done ++ (r.target ++ rest.drop n2).take cu) ++ (r.target ++ rest.drop n2).drop cu)) by
                    rw [List.append_assoc, List.take_append_drop]
                    exact (RdX.of_own (X := fun q => M < q ∧ w.heap.size + 2 ≤ q) HO9.out (fun q hq => by have h1 := (own_lt HO9.out hq).1; have h2 := HSZ8.out; have h3 := HBW.out.size; have h4 := HYO.out.lt; omega)).keep (Keeps.setCell (X' := OffM (w.heap.size + 2) M) (p := ⟨M, 0, none⟩) _ (fun q hq => by have := hq.1; simp only; omega) (fun q hq _ => ⟨by have := hq.1; omega, hq.2⟩)))
                  clear m09 f09 m0 g3 g5 g6 HM9 HXF HYF HBF9 HO9 HGF HGO
                  generalize w9.setCell ⟨M, 0, none⟩ (.slice A9 (N - n2 + n4) c9) = WZ at *
                  have g6 : WZ.cell? ⟨W6.heap.size, 6, none⟩ = some (.int .i64 cu) := HGZ.out.cell 6
                  clear v1 hb0 hb1 hb2 hb3 hb4
                  go_wp2_with fail
                  have hl1 : (done ++ (r.target ++ rest.drop n2).take cu).length = nd + cu := by
                    rw [List.length_append, List.length_take, List.length_append, HDL.out, HN4.out]
                    omega
                  have hl2 : ((r.target ++ rest.drop n2).drop cu).length = N - n2 + n4 - (nd + cu) := by
                    rw [List.length_drop, List.length_append, List.length_drop, HRL.out, HN4.out]
                    omega
                  refine ⟨⟨_, _, L, s + 1, p + 1, N - n2 + n4, c9, A9, HGO2.out, by omega, by rw [hl1, hl2]; omega, hmu2, by rw [hl1]; go_num, by omega, hc9, HMZ.out, HRZ.out, HXZ.out, HYZ.out, HBZ.out⟩, ?_⟩
                  have e9 : stepsAt M WZ = s + 1 := by
                    unfold stepsAt
                    rw [HMZ.out.cell]
                    simp
                  rw [HST.out, e9]
                  omega
        · obtain rfl : nd = N := by omega
          have h0 : rest = [] := List.eq_nil_of_length_eq_zero (by rw [HRL.out]; omega)
          have HPF := Lib.hid (show runRefP l t = (⟨done, s, p⟩, (0, 0)) by rw [HPR.out, HGO.out, h0, runGo_nil]; rfl)
          have HRE := Lib.hid (show RdX wr (OffM (w.heap.size + 2) M) 1 A nd (runeCells done) by have := HRD.out; rwa [h0, List.append_nil] at this)
          clear h0
          have hX := HXO.out
          have hY := HYO.out
          have x0 := hX.cell 0
          have x1 := hX.cell 1
          have x2 := hX.cell 2
          have y0 := hY.cell 0
          have y1 := hY.cell 1
          have p0 := hX.frozen 0
          have p1 := hX.frozen 1
          have p2 := hX.frozen 2
          have p3 := hY.frozen 0
          have p4 := hY.frozen 1
          have hbf := (((((HB.out).setCell (p := ⟨w.heap.size, 0, none⟩) (by simp) (.slice A nd c)).setCell (p := ⟨w.heap.size, 1, none⟩) (by simp) (.int .i64 s)).setCell (p := ⟨w.heap.size, 2, none⟩) (by simp) (.int .i64 p)).setCell (p := ⟨w.heap.size + 1, 0, none⟩) (by simp) (.int .i64 0)).setCell (p := ⟨w.heap.size + 1, 1, none⟩) (by simp) (.int .i64 0)
          have HBF := Lib.hid hbf
          have HRF := Lib.hid (HRE.out.keep (X' := fun b => w.heap.size ≤ b) (((((Keeps.setCell (X' := OffM (w.heap.size + 2) M) (p := ⟨w.heap.size, 0, none⟩) (.slice A nd c) (fun b h => by have h' := h.2; simp only; omega) (fun b h _ => h)).trans (Keeps.setCell (X' := OffM (w.heap.size + 2) M) (p := ⟨w.heap.size, 1, none⟩) (.int .i64 s) (fun b h => by have h' := h.2; simp only; omega) (fun b h _ => h))).trans (Keeps.setCell (X' := OffM (w.heap.size + 2) M) (p := ⟨w.heap.size, 2, none⟩) (.int .i64 p) (fun b h => by have h' := h.2; simp only; omega) (fun b h _ => h))).trans (Keeps.setCell (X' := OffM (w.heap.size + 2) M) (p := ⟨w.heap.size + 1, 0, none⟩) (.int .i64 0) (fun b h => by have h' := h.2; simp only; omega) (fun b h _ => h))).trans (Keeps.setCell (X' := fun b => w.heap.size ≤ b) (p := ⟨w.heap.size + 1, 1, none⟩) (.int .i64 0) (fun b h => by have h' := h.2; simp only; omega) (fun b h _ => (by have h' := h.2; show w.heap.size ≤ b; omega)))))
          clear hX hY hbf
          go_wp2_with fail
          rw [HPF.out]
          exact bodyPost_ret (v := .tuple #[.agg #[.slice A nd c, .int .i64 s, .int .i64 p], .agg #[.int .i64 0, .int .i64 0]]) (by simp [results, Try.results51, go_sem, x0, x1, x2, y0, y1]) rfl ⟨⟨A, nd, c, rfl, HRF.out, hNc⟩, HBF.out⟩
    · have HP := Lib.hid (HP0.out.trans (if_pos hz))
      clear HP0
      have hX := HX3.out
      have hY := HY3.out
      have x0 := hX.cell 0
      have x1 := hX.cell 1
      have x2 := hX.cell 2
      have y0 := hY.cell 0
      have y1 := hY.cell 1
      have p0 := hX.frozen 0
      have p1 := hX.frozen 1
      have p2 := hX.frozen 2
      have p3 := hY.frozen 0
      have p4 := hY.frozen 1
      have hbf := ((((HB3.out.setCell (p := ⟨w.heap.size, 0, none⟩) (by simp) (.slice none 0 0)).setCell (p := ⟨w.heap.size, 1, none⟩) (by simp) (.int .i64 0)).setCell (p := ⟨w.heap.size, 2, none⟩) (by simp) (.int .i64 0)).setCell (p := ⟨w.heap.size + 1, 0, none⟩) (by simp) (.int .i64 tp)).setCell (p := ⟨w.heap.size + 1, 1, none⟩) (by simp) (.int .i64 0)
      have HBF := Lib.hid hbf
      clear hX hY hbf
      go_wp2_with fail
      rw [HP.out]
      exact bodyPost_ret (v := .tuple #[.agg #[.slice none 0 0, .int .i64 0, .int .i64 0], .agg #[.int .i64 tp, .int .i64 0]]) (by simp [results, Try.results51, go_sem, x0, x1, x2, y0, y1]) rfl ⟨⟨none, 0, 0, rfl, ⟨rfl, fun h => absurd h (Nat.lt_irrefl 0)⟩, Nat.le_refl _⟩, HBF.out⟩
  · have HP := Lib.hid (show runRefP l t = (noOut, (r1, r2)) by unfold runRefP checkP; rw [hR, if_pos hz, if_pos hz])
    clear hR
    go_upto_region 3 with fail
    have HB2 := Lib.hid (HB1.out.alloc HB1.out.size (.cells #[.int .i64 r1, .int .i64 r2] 28))
    have hX := Blk.alloc HX1.out (.cells #[.int .i64 r1, .int .i64 r2] 28)
    have hY := Blk.alloc HY1.out (.cells #[.int .i64 r1, .int .i64 r2] 28)
    have hQ := Blk.new w1 28 #[.int .i64 r1, .int .i64 r2]
    have hxy := HX1.out.lt
    have hyy := HY1.out.lt
    generalize (w1.alloc (.cells #[.int .i64 r1, .int .i64 r2] 28)) = W3 at *
    have x0 := hX.cell 0
    have x1 := hX.cell 1
    have x2 := hX.cell 2
    have y0 := hY.cell 0
    have y1 := hY.cell 1
    have p0 := hX.frozen 0
    have p1 := hX.frozen 1
    have p2 := hX.frozen 2
    have p3 := hY.frozen 0
    have p4 := hY.frozen 1
    have q0 := hQ.cell 0
    have q1 := hQ.cell 1
    have hne1 : ¬ w.heap.size = w.heap.size + 1 := by omega
    have hne2 : ¬ w.heap.size = w1.heap.size := by omega
    have hne3 : ¬ w.heap.size + 1 = w1.heap.size := by omega
    clear hX hY hQ
    go_region
    all_goals
      go_wp2_with fail
      have hbf := (((((HB2.out.setCell (p := ⟨w.heap.size, 0, none⟩) (by simp) (.slice none 0 0)).setCell (p := ⟨w.heap.size, 1, none⟩) (by simp) (.int .i64 0)).setCell (p := ⟨w.heap.size, 2, none⟩) (by simp) (.int .i64 0)).setCell (p := ⟨w.heap.size + 1, 0, none⟩) (by simp) (.int .i64 r1)).setCell (p := ⟨w.heap.size + 1, 1, none⟩) (by simp) (.int .i64 r2)).drew
      rw [HP.out]
      exact bodyPost_ret (v := .tuple #[.agg #[.slice none 0 0, .int .i64 0, .int .i64 0], .agg #[.int .i64 r1, .int .i64 r2]]) (by simp [results, Try.results51, go_sem, x0, x1, x2, y0, y1]) rfl ⟨⟨none, 0, 0, rfl, ⟨rfl, fun h => absurd h (Nat.lt_irrefl 0)⟩, Nat.le_refl _⟩, hbf⟩

theorem run_run (X : Nat → Prop) (l : List RuleD) (Ar : Option Addr) (nr cr : Nat) (t : List Int) (At : Option Addr) (nt ct : Nat) (w : World) (hnr : nr ≤ maxLen) (hl : ListX (RuleC w X) w X 7 Ar nr l) (hnt : nt ≤ maxLen) (ht : RdR w w.heap.size At nt t) :
    Calls Try.prog 51 #[.slice Ar nr cr, .slice At nt ct] w fun e w' => PlayPost w.heap.size w' (runRefP l t) e ∧ Below w.heap.size w w' :=
  (run_run2 X l Ar nr cr t At nt ct w hnr hl hnt ht).mono fun _ _ ⟨⟨A, n, c, e, h, _⟩, hb⟩ => ⟨⟨A, n, c, e, h⟩, hb⟩

end Go.Proofs.Ytfmebbnccjaadaa
