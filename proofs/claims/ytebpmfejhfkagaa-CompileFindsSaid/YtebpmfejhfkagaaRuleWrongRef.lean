/- What is wrong with a rule, by the document's answer: the walk of scriptref7.Wrong: ruleW. -/
import Derived.Test.YtebpmfejhfkagaaRuleWrong
import Derived.Test.YtebpmfejhfkagaaSpanRef
namespace Go.Proofs.Ytebpmfejhfkagaa
open Go.RowKit

set_option maxRecDepth 100000 in
set_option maxHeartbeats 800000 in
theorem ref_all (A : Option Addr) (n c : Nat) (l : List Int) (w : World) (hn : n ≤ 9223372036854775807) (hl : RdR w w.heap.size A n l) :
    Calls Try.prog 46 #[.slice A n c] w fun e w' => e = .returned (.bool (!badRune l)) ∧ Below w.heap.size w w' := by
  have HLEN := Lib.hid hl.len
  have HL := Lib.hid hl
  clear hl
  go_enter Try.func46, Try.ntmps46
  go_wp2_with fail
  go_loopw [7] (CfRel w l n) (fun i _ => n - (intOf i).toNat)
  case atStart => exact ⟨0, Nat.zero_le _, rfl, rfl, Below.refl _ _⟩
  case round =>
    obtain ⟨j, hj, rfl, hgo, hb⟩ := hrel
    by_cases hlt : j < n
    · obtain ⟨x, hx⟩ : ∃ z, l[j]? = some z := ⟨_, List.getElem?_eq_getElem (by rw [HLEN.out]; exact hlt)⟩
      obtain ⟨b, off, rfl, hbb, c0⟩ := HL.out.at hlt
      rw [show l.getD j 0 = x by simp [List.getD, hx]] at c0
      have d0 := (hb.cell (p := ⟨b, off + j, none⟩) hbb).trans c0
      rw [drop_at hx, show badRune (x :: l.drop (j + 1)) = (!rightB x || badRune (l.drop (j + 1))) from rfl] at hgo
      have HG := Lib.hid hgo
      have HX := Lib.hid hx
      clear hgo hx c0
      go_wp2_with fail
      refine (ref_right _ _).mono ?_
      rintro e w1 ⟨rfl, rfl⟩
      cases hr : rightB x
      · have HR := Lib.hid hr
        clear hr
        go_wp2_with fail
        go_ret
        refine ⟨?_, hb⟩
        rw [HG.out, HR.out]
        rfl
      · have HR := Lib.hid hr
        clear hr
        go_wp2_with fail
        exact ⟨⟨j + 1, by omega, by go_num, by rw [HG.out, HR.out]; rfl, hb⟩, by simp [intOf]; omega⟩
    · obtain rfl : j = n := by omega
      rw [List.drop_of_length_le (by rw [HLEN.out]; omega)] at hgo
      have HG := Lib.hid (hgo.trans (show badRune [] = false from rfl))
      clear hgo
      go_wp2_with fail
      go_ret
      rw [HG.out]
      exact ⟨rfl, hb⟩

set_option maxRecDepth 100000 in
set_option maxHeartbeats 3200000 in
theorem ref_rule_wrong (r : RuleD) (X : Nat → Prop) (u1 u2 u3 : Value) (A : Option Addr) (n c : Nat) (w : World) (h1 : SetsV w X r.before u1) (h2 : SetsV w X r.source u2) (h3 : SetsV w X r.after u3) (h4 : RdX w X 1 A n (runeCells r.target)) (hn : n ≤ maxLen) :
    Calls Try.prog 28 #[.agg #[.bool r.start, .bool r.fin, u1, u2, u3, .slice A n c, .int .i64 r.cursor]] w fun e w' => e = .returned (.int .i64 (ruleW r)) ∧ Below w.heap.size w w' := by
  obtain ⟨A1, n1, c1, rfl, p1, q1⟩ := h1
  obtain ⟨A2, n2, c2, rfl, p2, q2⟩ := h2
  obtain ⟨A3, n3, c3, rfl, p3, q3⟩ := h3
  have hsz : r.target.length = n := by have := h4.1; rw [runeCells_length] at this; omega
  have hb0 := ((Below.refl w.heap.size w).alloc (Nat.le_refl _) (.cells #[.bool r.start, .bool r.fin, .slice A1 n1 c1, .slice A2 n2 c2, .slice A3 n3 c3, .slice A n c, .int .i64 r.cursor] 43)).alloc (by simp) (.cells #[.slice A1 n1 c1, .slice A2 n2 c2, .slice A3 n3 c3] 41)
  have hside : ∀ k, k < 3 → ∃ (s : List Spans) (A' : Option Addr) (n' c' : Nat), (sidesOf r)[k]? = some s ∧ (#[Value.slice A1 n1 c1, .slice A2 n2 c2, .slice A3 n3 c3])[k]? = some (.slice A' n' c') ∧ ListX (SetC w X) w X 1 A' n' s ∧ n' ≤ maxLen := by
    intro k hk
    match k, hk with
    | 0, _ => exact ⟨_, _, _, _, rfl, rfl, p1, q1⟩
    | 1, _ => exact ⟨_, _, _, _, rfl, rfl, p2, q2⟩
    | 2, _ => exact ⟨_, _, _, _, rfl, rfl, p3, q3⟩
  have HSL := Lib.hid (show r.source.length = n2 from p2.len)
  have HTL := Lib.hid hsz
  have HT := Lib.hid h4
  have HS := Lib.hid hside
  have HB0 := Lib.hid hb0
  have hG := Blk.alloc (Blk.new w 43 #[.bool r.start, .bool r.fin, .slice A1 n1 c1, .slice A2 n2 c2, .slice A3 n3 c3, .slice A n c, .int .i64 r.cursor]) (.cells #[.slice A1 n1 c1, .slice A2 n2 c2, .slice A3 n3 c3] 41)
  have hL := Blk.new (w.alloc (.cells #[.bool r.start, .bool r.fin, .slice A1 n1 c1, .slice A2 n2 c2, .slice A3 n3 c3, .slice A n c, .int .i64 r.cursor] 43)) 41 #[.slice A1 n1 c1, .slice A2 n2 c2, .slice A3 n3 c3]
  rw [show (w.alloc (.cells #[.bool r.start, .bool r.fin, .slice A1 n1 c1, .slice A2 n2 c2, .slice A3 n3 c3, .slice A n c, .int .i64 r.cursor] 43)).heap.size = w.heap.size + 1 by simp] at hL
  have HG := Lib.hid hG
  have HL := Lib.hid hL
  clear h4 p1 p2 p3 hside hb0 hG hL hsz
  simp only [maxLen] at hn q1 q2 q3
  go_enter Try.func28, Try.ntmps28
  go_wp2_with fail
  go_loopw [15] (RoRel ((w.alloc (.cells #[.bool r.start, .bool r.fin, .slice A1 n1 c1, .slice A2 n2 c2, .slice A3 n3 c3, .slice A n c, .int .i64 r.cursor] 43)).alloc (.cells #[.slice A1 n1 c1, .slice A2 n2 c2, .slice A3 n3 c3] 41)) r) (fun i _ => 3 - (intOf i).toNat)
  case atStart => exact ⟨0, Nat.zero_le _, rfl, rfl, Below.refl _ _⟩
  case round =>
    obtain ⟨k, hk, rfl, hgo, hb⟩ := hrel
    have hbw := HB0.out.trans (hb.mono HB0.out.size)
    by_cases hlt : k < 3
    · have hk3 : decide ((k : Int) < 3) = true := decide_eq_true (by omega)
      obtain ⟨s, A', n', c', hs, hu, hls, hn'⟩ := HS.out k hlt
      have hcell : wr.cell? ⟨w.heap.size + 1, k, none⟩ = some (.slice A' n' c') := ((Blk.below HL.out hb HL.out.lt).cell k).trans hu
      have HSN := Lib.hid (show s.length = n' from hls.len)
      have hgo : firstBad ((sidesOf r).map sideW) = firstBad (sideW s :: ((sidesOf r).drop (k + 1)).map sideW) := by rw [hgo, drop_at hs, List.map_cons]
      simp only [maxLen] at hn'
      have HLS := Lib.hid hls
      have HBW := Lib.hid hbw
      have HB := Lib.hid hb
      clear hs hu hls hbw hb
      by_cases h20 : 20 < n'
      · rw [show sideW s = 5 by unfold sideW; rw [if_pos (by rw [HSN.out]; exact h20)], firstBad_hit _ (by decide)] at hgo
        have HGO := Lib.hid hgo
        clear hgo
        go_wp2_with fail
        go_ret
        refine ⟨?_, HBW.out⟩
        rw [ruleW, if_pos (by rw [HGO.out]; decide), HGO.out]
        rfl
      · have HGO := Lib.hid hgo
        have HSW := Lib.hid (show sideW s = firstBad (s.map wrongP) by unfold sideW; rw [if_neg (by rw [HSN.out]; exact h20)])
        clear hgo
        have h20d : decide ((20 : Int) < (n' : Int)) = false := decide_eq_false (by omega)
        go_wp2_with fail
        go_loopw [24] (RwRel wr s n') (fun i _ => n' - (intOf i).toNat)
        case atStart => exact ⟨0, Nat.zero_le _, rfl, rfl, Below.refl _ _⟩
        case round =>
          obtain ⟨j, hj, rfl, hg2, hb2⟩ := hrel
          have HB2 := Lib.hid (HB.out.trans (hb2.mono HB.out.size))
          have HBW2 := Lib.hid (HBW.out.trans (hb2.mono HBW.out.size))
          by_cases hlt2 : j < n'
          · obtain ⟨x, hx⟩ : ∃ z, s[j]? = some z := ⟨_, List.getElem?_eq_getElem (by rw [HSN.out]; exact hlt2)⟩
            obtain ⟨b, off, A'', n'', c'', rfl, _, hbb, hcx, hrd, _, hnn⟩ := sets_at (HLS.out.keep (Keeps.any HBW2.out) (fun _ _ => SetC.keep (Keeps.any HBW2.out))) hx
            simp only [maxLen] at hnn
            have hg2 : firstBad (s.map wrongP) = firstBad (wrongP x :: (s.drop (j + 1)).map wrongP) := by rw [hg2, drop_at hx, List.map_cons]
            have HG2 := Lib.hid hg2
            have HX := Lib.hid hx
            have HB3 := Lib.hid hb2
            clear hg2 hx hb2
            go_wp2_with fail
            refine (ref2_wrong A'' n'' c'' x _ (by omega) hrd).mono ?_
            rintro e w9 ⟨rfl, hb9⟩
            have HB9 := Lib.hid hb9
            clear hb9 hrd
            by_cases hz : wrongP x = 0
            · have HZ := Lib.hid hz
              have HR := Lib.hid (HG2.out.trans (firstBad_zero _ hz))
              rw [hz]
              clear hz
              go_wp2_with fail
              exact ⟨⟨j + 1, by omega, by go_num, HR.out, HB3.out.trans (HB9.out.mono HB3.out.size)⟩, by simp [intOf]; omega⟩
            · have HR := Lib.hid (HG2.out.trans (firstBad_hit _ hz))
              go_wp2_with fail
              go_ret
              refine ⟨?_, HBW2.out.trans (HB9.out.mono HBW2.out.size)⟩
              rw [ruleW, HGO.out, HSW.out, HR.out, firstBad_hit _ hz, if_pos hz]
              rfl
          · obtain rfl : j = n' := by omega
            rw [List.drop_of_length_le (by rw [HSN.out]; omega)] at hg2
            have HG2 := Lib.hid (HSW.out.trans hg2)
            have HB3 := Lib.hid hb2
            clear hg2 hb2
            go_wp2_with fail
            exact ⟨⟨k + 1, by omega, by go_num, HGO.out.trans (firstBad_zero _ HG2.out), HB2.out⟩, by simp [intOf]; omega⟩
    · have hk3 : k = 3 := by omega
      have HR := Lib.hid (show ruleW r = restW r by rw [ruleW, if_neg (by rw [hgo, hk3, show (sidesOf r).drop 3 = [] from rfl]; decide)])
      clear hk3
      have hG := Blk.below HG.out hb HG.out.lt
      have d3 : wr.cell? ⟨w.heap.size, 3, none⟩ = some (.slice A2 n2 c2) := hG.cell 3
      have d5 : wr.cell? ⟨w.heap.size, 5, none⟩ = some (.slice A n c) := hG.cell 5
      have HBW := Lib.hid hbw
      have HG3 := Lib.hid hG
      clear hgo hG hb hbw
      by_cases hs0 : n2 = 0
      · subst hs0
        have HP := Lib.hid (show restW r = 6 by rw [restW, if_pos HSL.out])
        go_wp2_with fail
        go_ret
        rw [HR.out, HP.out]
        exact ⟨rfl, HBW.out⟩
      · by_cases ht : 20 < n
        · have HP := Lib.hid (show restW r = 5 by rw [restW, if_neg (by rw [HSL.out]; exact hs0), if_pos (by rw [HTL.out]; exact ht)])
          have hs1 : 1 ≤ n2 := by omega
          go_wp2_with fail
          go_ret
          rw [HR.out, HP.out]
          exact ⟨rfl, HBW.out⟩
        · have HP := Lib.hid (show restW r = _ by rw [restW, if_neg (by rw [HSL.out]; exact hs0), if_neg (by rw [HTL.out]; exact ht)])
          have hs1 : 1 ≤ n2 := by omega
          go_wp2_with fail
          refine (ref_all A n c r.target _ (by omega) (HT.out.keep (Keeps.any HBW.out)).of).mono ?_
          rintro e w9 ⟨rfl, hb9⟩
          have d6 : w9.cell? ⟨w.heap.size, 6, none⟩ = some (.int .i64 r.cursor) := (Blk.below HG3.out hb9 HG3.out.lt).cell 6
          have d5 : w9.cell? ⟨w.heap.size, 5, none⟩ = some (.slice A n c) := (Blk.below HG3.out hb9 HG3.out.lt).cell 5
          have HB9 := Lib.hid (HBW.out.trans (hb9.mono HBW.out.size))
          clear hb9
          cases hbd : badRune r.target
          · rw [hbd] at HP
            have HP := Lib.hid (HP.out.trans (if_neg (by decide)))
            clear hbd
            by_cases hc0 : r.cursor < 0
            · have HP := Lib.hid (HP.out.trans (if_pos (Or.inl hc0)))
              go_wp2_with fail
              go_ret
              rw [HR.out, HP.out]
              exact ⟨rfl, HB9.out⟩
            · by_cases hc1 : (n : Int) < r.cursor
              · have HP := Lib.hid (HP.out.trans (if_pos (Or.inr (by rw [HTL.out]; exact hc1))))
                go_wp2_with fail
                go_ret
                rw [HR.out, HP.out]
                exact ⟨rfl, HB9.out⟩
              · have HP := Lib.hid (HP.out.trans (if_neg (by rw [HTL.out]; omega)))
                go_wp2_with fail
                go_ret
                rw [HR.out, HP.out]
                exact ⟨rfl, HB9.out⟩
          · rw [hbd] at HP
            have HP := Lib.hid (HP.out.trans (if_pos rfl))
            clear hbd
            go_wp2_with fail
            go_ret
            rw [HR.out, HP.out]
            exact ⟨rfl, HB9.out⟩

end Go.Proofs.Ytebpmfejhfkagaa
